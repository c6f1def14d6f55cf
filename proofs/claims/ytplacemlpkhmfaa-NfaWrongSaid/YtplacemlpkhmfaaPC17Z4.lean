/- Part of the proof: conditions and contracts of functions of this program. No condition of its own. -/
import Derived.Test.YtplacemlpkhmfaaPC13S
import Derived.Test.YtplacemlpkhmfaaPC17W
set_option linter.unusedVariables false
set_option linter.unusedSimpArgs false
namespace Go.Proofs.Ytplacemlpkhmfaa
open Go Go.Eng Go.Rx Go.Proofs Go.RowKit Go.ChangeShapes Go.WideShapes Go.ChangeAt
set_option maxRecDepth 100000
theorem ZiV(H:Type)(enc:TypeId×Value→H)(W:World)(base:Nat)(args:Array Value)(ds gs:List (DataW H))(before:List MemPlace)
  (iD:∀(j:Nat) t v,Try.f6.params[j]?=some t→args[j]?=some v→Value.okWide Try.prog W .any base t v)
  (hW:DataW.Whole enc Try.prog Try.f6.params.toList Rows.nfaWrongSpec.vars false W args.toList ds gs before):
  Calls Try.prog 6 args W fun e W'=>∃v,e=.returned v∧Rows.nfaWrongSpec.post enc Try.prog Try.f6 false true false false W args v W':=by
 have hW':=hW
 obtain⟨p,q,wd,hV,rfl,jE,eK⟩:=hW
 have hA:DataW.TrodAll enc Try.prog W 0 (fun _=>true) true Try.f6.params.toList args.toList ds p:=wd
 rw[Try.params6]at hA iD
 obtain⟨v0,vs0,d0,ds0,p0,q0,a0,rfl,rfl,h0,r0⟩:=trodAll_cons hA
 obtain⟨v1,vs1,d1,ds1,p1,q1,rfl,rfl,rfl,h1,r1⟩:=trodAll_cons r0
 obtain⟨v2,vs2,d2,ds2,p2,q2,rfl,rfl,rfl,h2,r2⟩:=trodAll_cons r1
 obtain⟨rfl,rfl,rfl⟩:=trodAll_nil r2
 obtain rfl:args=#[v0,v1,v2]:=by cases args;simp_all
 obtain⟨rfl,rfl⟩:=trodVars_none hV
 obtain⟨L,pa,pc,rfl,hL,sQ⟩:=Zn3 (iD 0 _ v0 rfl rfl) h0
 obtain⟨n1,rfl,rfl,rfl,w1⟩:=open_int Try.underlying5 (iD 1 _ v1 rfl rfl) h1
 have b1:=ZuF w1
 obtain⟨k1,rfl⟩:∃k:Nat,n1=k:=⟨n1.toNat,by omega⟩
 obtain⟨n2,rfl,rfl,rfl,w2⟩:=open_int Try.underlying3 (iD 2 _ v2 rfl rfl) h2
 exact Zrf (tb:=4) ZuE (by rw[Try.params6];intro t ht;simp at ht;rcases ht with rfl|rfl|rfl <;> exact⟨by kernel_rfl,of_decide_eq_true (by kernel_rfl)⟩) hW' rfl rfl rfl rfl rfl Try.underlying4 (Zoq L pa pc k1 n2 (Zug W) hL sQ (by omega))
theorem Zmh(os:Os)(started:os.Started)(H:Type)(enc:TypeId×Value→H):
  ReturnsInHanded {} Try.checked os 6 .any (Rows.nfaWrongSpec.pre6 enc Try.prog Try.f6 Rows.nfaWrongRow.domain false) (Rows.nfaWrongSpec.post enc Try.prog Try.f6 false true false false):=by
 refine returnsInHanded_of_change (C:=Try.checked) ZvO started (by kernel_rfl) Try.func6
  (ChangeSpec.witness6 (enc:=enc) (C:=Try.checked) false ⟨#[],#[.slice none 0 0,.int .u8 0,.int .i64 0],[]⟩ 8 (by kernel_rfl) (by kernel_rfl) (by kernel_rfl) (by kernel_rfl)) ?_
 intro W base args ds gs before iD hW _ _
 exact ZiV H enc W base args ds gs before iD hW
theorem wrong_holds:Rows.NfaWrongSaid:=
 OpenClaim.holds_of_wide 6 Try.f6 rfl rfl rfl rfl rfl rfl rfl ⟨rfl,rfl,rfl,rfl,rfl⟩ rfl rfl rfl rfl rfl (by kernel_rfl) Try.func6 (by kernel_rfl)
  (of_decide_eq_true (by kernel_rfl)) (by unfold Func.isWrapper;first|(rw[if_pos (by decide +kernel)];kernel_rfl)|(rw[if_neg (by decide +kernel)];exact⟨rfl,rfl⟩))
  (fun os started H enc _=>Zmh os started H enc)
#print axioms wrong_holds
end Go.Proofs.Ytplacemlpkhmfaa

