/- Part of the proof: conditions and contracts of functions of this program. No condition of its own. -/
import Derived.Test.YtplacemlpkhmfaaPC17RG
set_option linter.unusedVariables false
set_option linter.unusedSimpArgs false
namespace Go.Proofs.Ytplacemlpkhmfaa
open Go Go.Eng Go.Rx Go.Proofs Go.RowKit Go.ChangeShapes Go.WideShapes Go.ChangeAt
set_option maxRecDepth 100000
theorem ZiO(H:Type)(enc:TypeId×Value→H)(W:World)(base:Nat)(args:Array Value)(ds gs:List (DataW H))(before:List MemPlace)
  (gW:∀(j:Nat) t v,Try.f3.params[j]?=some t→args[j]?=some v→Value.okWide Try.prog W .any base t v)
  (hW:DataW.Whole enc Try.prog Try.f3.params.toList Rows.nfaStepsSpec.vars false W args.toList ds gs before) (hk:Rows.uptoSmall H (ds++gs)=true):
  Calls Try.prog 3 args W fun e W'=>∃v,e=.returned v∧Rows.nfaStepsSpec.post enc Try.prog Try.f3 false true false false W args v W':=by
 have hW':=hW
 obtain⟨p,q,we,hV,rfl,jL,eB⟩:=hW
 have hA:DataW.TrodAll enc Try.prog W 0 (fun _=>true) true Try.f3.params.toList args.toList ds p:=we
 rw[Try.params3]at hA gW
 obtain⟨v0,v1,v2,v3,d0,d1,d2,d3,p0,p1,p2,p3,rfl,rfl,rfl,h0,h1,h2,h3⟩:=trodAll_four hA
 obtain⟨rfl,rfl⟩:=trodVars_none hV
 have hb:Rows.uptoBulk d0+(Rows.uptoBulk d1+(Rows.uptoBulk d2+(Rows.uptoBulk d3+0)))≤1048576:=by
  simpa[Rows.uptoSmall,Rows.uptoBulkAll]using hk
 obtain⟨A,sa,sc,fa,fc,xa,xc,ya,yc,vs,rfl,wg⟩:=Zqa (gW 0 _ v0 rfl rfl) h0 (by omega)
 obtain⟨B,sb,sd,fb,fd,xb,xd,yb,yd,ws,rfl,wh⟩:=Zqa (gW 1 _ v1 rfl rfl) h1 (by omega)
 obtain⟨l,la,lc,rfl,hl,_⟩:=Zkx (gW 2 _ v2 rfl rfl) h2
 obtain⟨n3,rfl,rfl,rfl,w3⟩:=open_int Try.underlying5 (gW 3 _ v3 rfl rfl) h3
 have b3:=ZvU w3
 obtain⟨k3,rfl⟩:∃k:Nat,n3=k:=⟨n3.toNat,by omega⟩
 exact ZqL (tb:=4) Zt5 (by rw[Try.params3];intro t ht;simp at ht;rcases ht with rfl|rfl|rfl <;> exact⟨by kernel_rfl,of_decide_eq_true (by kernel_rfl)⟩) hW' rfl rfl rfl rfl rfl Try.underlying4 (Zn9 A B sa sc fa fc xa xc ya yc vs sb sd fb fd xb xd yb yd ws l la lc k3 (by omega) (Zoe W) wg wh hl)
theorem Zl2(os:Os)(started:os.Started)(H:Type)(enc:TypeId×Value→H)(F:Stop.Interp):
  ReturnsInHanded {} Try.checked os 3 .any ((Rows.OpenSpec.upto Rows.nfaStepsSpec).pre6 enc Try.prog Try.f3 Rows.nfaStepsUptoRow.domain false) (((Rows.OpenSpec.upto Rows.nfaStepsSpec).at F).post enc Try.prog Try.f3 false true false false):=by
 refine returnsInHanded_of_cond (C:=Try.checked) (s:=Rows.OpenSpec.upto Rows.nfaStepsSpec) (k:=Rows.uptoSmall) rfl Zu4 started (by kernel_rfl) Try.func3
  (OpenSpec.witness (enc:=enc) (C:=Try.checked) (s:=Rows.OpenSpec.upto Rows.nfaStepsSpec) (k:=Rows.uptoSmall) rfl false ⟨#[],#[.agg #[.slice none 0 0,.slice none 0 0,.slice none 0 0,.slice none 0 0,.bool false],.agg #[.slice none 0 0,.slice none 0 0,.slice none 0 0,.slice none 0 0,.bool false],.slice none 0 0,.int .u8 0],[]⟩ 8 (by kernel_rfl) (by kernel_rfl) (by kernel_rfl)
   (x:=([.agg [.nil,.nil,.nil,.nil,.lit (.bool false)],.agg [.nil,.nil,.nil,.nil,.lit (.bool false)],.nil,.lit (.int .u8 0)],[],[])) (by kernel_rfl) rfl (by kernel_rfl)) ?_
 intro W base args ds gs before gW hW _ hk _
 exact ZiO H enc W base args ds gs before gW hW hk
theorem steps_holds:Rows.NfaStepsUptoSaid:=
 OpenClaim.holds_of_cond 3 Try.f3 rfl rfl rfl rfl rfl rfl rfl ⟨rfl,rfl,rfl,rfl,rfl⟩ rfl rfl rfl rfl rfl (by kernel_rfl) Try.func3 (by kernel_rfl)
  (of_decide_eq_true (by kernel_rfl)) (by unfold Func.isWrapper;first|(rw[if_pos (by decide +kernel)];kernel_rfl)|(rw[if_neg (by decide +kernel)];exact⟨rfl,rfl⟩))
  (fun os started H enc _ F=>Zl2 os started H enc F)
#print axioms steps_holds
end Go.Proofs.Ytplacemlpkhmfaa

