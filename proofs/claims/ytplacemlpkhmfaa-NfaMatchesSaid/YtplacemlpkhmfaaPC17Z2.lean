/- Part of the proof: conditions and contracts of functions of this program. No condition of its own. -/
import Derived.Test.YtplacemlpkhmfaaPC13S
import Derived.Test.YtplacemlpkhmfaaPC17S
set_option linter.unusedVariables false
set_option linter.unusedSimpArgs false
namespace Go.Proofs.Ytplacemlpkhmfaa
open Go Go.Eng Go.Rx Go.Proofs Go.RowKit Go.ChangeShapes Go.WideShapes Go.ChangeAt
set_option maxRecDepth 100000
theorem Zh4(H:Type)(enc:TypeId×Value→H)(W:World)(base:Nat)(args:Array Value)(ds gs:List (DataW H))(before:List MemPlace)
  (iC:∀(j:Nat) t v,Try.f8.params[j]?=some t→args[j]?=some v→Value.okWide Try.prog W .any base t v)
  (hW:DataW.Whole enc Try.prog Try.f8.params.toList Rows.nfaMatchesSpec.vars false W args.toList ds gs before):
  Calls Try.prog 8 args W fun e W'=>∃v,e=.returned v∧Rows.nfaMatchesSpec.post enc Try.prog Try.f8 false true false false W args v W':=by
 have hW':=hW
 obtain⟨p,q,wq,hV,rfl,jU,eX⟩:=hW
 have hA:DataW.TrodAll enc Try.prog W 0 (fun _=>true) true Try.f8.params.toList args.toList ds p:=wq
 rw[Try.params8]at hA iC
 obtain⟨v0,vs0,d0,ds0,p0,q0,a0,rfl,rfl,h0,r0⟩:=trodAll_cons hA
 obtain⟨v1,vs1,d1,ds1,p1,q1,rfl,rfl,rfl,h1,r1⟩:=trodAll_cons r0
 obtain⟨rfl,rfl,rfl⟩:=trodAll_nil r1
 obtain rfl:args=#[v0,v1]:=by cases args;simp_all
 obtain⟨rfl,rfl⟩:=trodVars_none hV
 obtain⟨L,pa,pc,rfl,hL,wt⟩:=ZpJ (iC 0 _ v0 rfl rfl) h0
 obtain⟨s,sa,sc,rfl,hs,t8,_⟩:=Zw5 (iC 1 _ v1 rfl rfl) h1
 exact Zs1 (tb:=4) Zw3 (by rw[Try.params8];intro t ht;simp at ht;rcases ht with rfl|rfl <;> exact⟨by kernel_rfl,of_decide_eq_true (by kernel_rfl)⟩) hW' rfl rfl rfl rfl rfl Try.underlying4 (Zmd L pa pc s sa sc (Zv0 W) hL wt hs t8)
theorem Zke(os:Os)(started:os.Started)(H:Type)(enc:TypeId×Value→H):
  ReturnsInHanded {} Try.checked os 8 .any (Rows.nfaMatchesSpec.pre6 enc Try.prog Try.f8 Rows.nfaMatchesRow.domain false) (Rows.nfaMatchesSpec.post enc Try.prog Try.f8 false true false false):=by
 refine returnsInHanded_of_change (C:=Try.checked) Zx3 started (by kernel_rfl) Try.func8
  (ChangeSpec.witness6 (enc:=enc) (C:=Try.checked) false ⟨#[],#[.slice none 0 0,.slice none 0 0],[]⟩ 8 (by kernel_rfl) (by kernel_rfl) (by kernel_rfl) (by kernel_rfl)) ?_
 intro W base args ds gs before iC hW _ _
 exact Zh4 H enc W base args ds gs before iC hW
theorem matches_holds:Rows.NfaMatchesSaid:=
 OpenClaim.holds_of_wide 8 Try.f8 rfl rfl rfl rfl rfl rfl rfl ⟨rfl,rfl,rfl,rfl,rfl⟩ rfl rfl rfl rfl rfl (by kernel_rfl) Try.func8 (by kernel_rfl)
  (of_decide_eq_true (by kernel_rfl)) (by unfold Func.isWrapper;first|(rw[if_pos (by decide +kernel)];kernel_rfl)|(rw[if_neg (by decide +kernel)];exact⟨rfl,rfl⟩))
  (fun os started H enc _=>Zke os started H enc)
#print axioms matches_holds
end Go.Proofs.Ytplacemlpkhmfaa

