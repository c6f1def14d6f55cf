/- Part of the proof: conditions and contracts of functions of this program. No condition of its own. -/
import Derived.Test.YtplacemlpkhmfaaPC13S
import Derived.Test.YtplacemlpkhmfaaPC17Y
set_option linter.unusedVariables false
set_option linter.unusedSimpArgs false
set_option linter.unusedSectionVars false
namespace Go.Proofs.Ytplacemlpkhmfaa
open Go Go.Eng Go.Rx Go.Proofs Go.RowKit Go.ChangeShapes Go.WideShapes Go.ChangeAt
set_option maxRecDepth 100000
theorem Zhy(H:Type)(enc:TypeId×Value->H)(W:World)(base:Nat)(args:Array Value)(ds gs:List (DataW H))(before:List MemPlace)
  (gt:∀(j:Nat) t v,Try.f9.params[j]?=some t->args[j]?=some v->Value.okWide Try.prog W .any base t v)
  (hW:DataW.Whole enc Try.prog Try.f9.params.toList Rows.nfaPartsSpec.vars false W args.toList ds gs before):
  Calls Try.prog 9 args W λe W'=>∃v,e=.returned v/\Rows.nfaPartsSpec.post enc Try.prog Try.f9 false true false false W args v W':=by
 have hW':=hW
 obtain⟨p,q,xe,hV,rfl,jo,dQ⟩:=hW
 have hA:DataW.TrodAll enc Try.prog W 0 (λ_=>true) true Try.f9.params.toList args.toList ds p:=xe
 rw[Try.params9]at hA gt
 obtain⟨v0,vs0,d0,ds0,p0,q0,a0,rfl,rfl,h0,r0⟩:=trodAll_cons hA
 obtain⟨v1,vs1,d1,ds1,p1,q1,rfl,rfl,rfl,h1,r1⟩:=trodAll_cons r0
 obtain⟨v2,vs2,d2,ds2,p2,q2,rfl,rfl,rfl,h2,r2⟩:=trodAll_cons r1
 obtain⟨rfl,rfl,rfl⟩:=trodAll_nil r2
 obtain rfl:args=#[v0,v1,v2]:=by cases args;simp_all
 obtain⟨rfl,rfl⟩:=trodVars_none hV
 obtain⟨L,pa,pc,rfl,hL,mf⟩:=Zmb (gt 0 _ v0 rfl rfl) h0
 obtain⟨s,sa,sc,rfl,hs,xf,_⟩:=ZqG (gt 1 _ v1 rfl rfl) h1
 obtain⟨u,ua,uc,rfl,hu,xg,_⟩:=ZqG (gt 2 _ v2 rfl rfl) h2
 exact Zpi (tb:=4) ZsL (by rw[Try.params9];intro t ht;simp at ht;rcases ht with rfl|rfl|rfl <;> exact⟨by kernel_rfl,zA6 (by kernel_rfl)⟩) hW' rfl rfl rfl rfl rfl Try.underlying4 (Zmy L pa pc s sa sc u ua uc (ZrR W) hL mf hs xf hu xg)
theorem Zkt(os:Os)(started:os.Started)(H:Type)(enc:TypeId×Value->H):
  ReturnsInHanded {} Try.checked os 9 .any (Rows.nfaPartsSpec.pre6 enc Try.prog Try.f9 Rows.nfaPartsRow.domain false) (Rows.nfaPartsSpec.post enc Try.prog Try.f9 false true false false):=by
 refine returnsInHanded_of_change (C:=Try.checked) ZtD started (by kernel_rfl) Try.func9
  (ChangeSpec.witness6 (enc:=enc) (C:=Try.checked) false ⟨#[],#[.slice none 0 0,.slice none 0 0,.slice none 0 0],[]⟩ 8 (by kernel_rfl) (by kernel_rfl) (by kernel_rfl) (by kernel_rfl)) ?_
 intro W base args ds gs before gt hW _ _
 exact Zhy H enc W base args ds gs before gt hW
theorem parts_holds:Rows.NfaPartsSaid:=
 OpenClaim.holds_of_wide 9 Try.f9 rfl rfl rfl rfl rfl rfl rfl ⟨rfl,rfl,rfl,rfl,rfl⟩ rfl rfl rfl rfl rfl (by kernel_rfl) Try.func9 (by kernel_rfl)
  (zA6 (by kernel_rfl)) (by unfold Func.isWrapper;first|(rw[if_pos (by decide +kernel)];kernel_rfl)|(rw[if_neg (by decide +kernel)];exact⟨rfl,rfl⟩))
  (λos started H enc _=>Zkt os started H enc)
#print axioms parts_holds
end Go.Proofs.Ytplacemlpkhmfaa