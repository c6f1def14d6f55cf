/- Part of the proof: conditions and contracts of functions of this program. No condition of its own. -/
import Derived.Test.YtplacemlpkhmfaaPC17A
import Derived.Test.YtplacemlpkhmfaaMc
import Derived.Test.YtplacemlpkhmfaaMr
set_option linter.unusedVariables false
set_option linter.unusedSimpArgs false
namespace Go.Proofs.Ytplacemlpkhmfaa
open Go Go.Eng Go.Rx Go.Proofs Go.RowKit
set_option maxRecDepth 100000
theorem Zrl{m:Mem}{b o:Nat}{v:Value}{cs:List Value}(h:m.reads b 0 cs)(ho:o < cs.length):(m.upd b o [v]).reads b 0 (Zan cs o [v]):=by
 intro j u hu
 rw[Nat.zero_add]
 simp only[Zan,List.length_singleton]at hu
 simp only[Mem.upd,List.length_singleton,true_and]
 by_cases hj:j < o
 ·rw[if_neg (by omega)]
  rw[List.append_assoc,List.getElem?_append_left (by simp;omega),List.getElem?_take,if_pos hj]at hu
  have:=h j u hu
  rwa [Nat.zero_add]at this
 ·by_cases he:j=o
  ·subst he
   rw[if_pos ⟨Nat.le_refl _,by omega⟩]
   rw[List.append_assoc,List.getElem?_append_right (by simp;omega)]at hu
   simp only[List.length_take,Nat.min_eq_left (Nat.le_of_lt ho),Nat.sub_self]at hu ⊢
   simpa using hu
  ·rw[if_neg (by omega)]
   rw[List.append_assoc,List.getElem?_append_right (by simp;omega),List.length_take,Nat.min_eq_left (Nat.le_of_lt ho)]at hu
   rw[List.getElem?_append_right (by simp;omega),List.length_singleton,List.getElem?_drop]at hu
   have:=h _ u hu
   rwa [Nat.zero_add,show o+1+(j - o - 1)=j by omega]at this
theorem Zt7(f g:Nat)(b n c:Nat)(A B:List Value)(m:Mem)(hr:m.reads b 0 (A++bwL f++B)):
  CXY Try.prog 141 #[.pointer (some ⟨b,A.length,none⟩),bwV g] m (fun k=>k=b) [] [⟨.slice (some ⟨b,0,none⟩) n c,7⟩]
   (fun v m' css tvs=>v=.tuple #[]∧css=[]∧tvs=[.slice (some ⟨b,0,none⟩) n c]∧m'.reads b 0 (A++bwL (f|||g)++B)):=by
 apply ZfP
 unfold ZdJ
 intro b1 m1 bD _ lj _
 have eI:b1≠b:=fun e=>by
  have h1:=hr A.length _ (by rw[show A.length=A.length+0 from rfl,Zni (Zk4 (f:=f) (j:=0) (by omega))])
  rw[Nat.zero_add]at h1
  rw[e]at lj
  rw[lj]at h1;cases h1
 refine⟨fun xs css tvs m' q=>∃k:Nat,k≤7∧xs=[.int .i64 k]∧m'.reads b 0 (A++orB f g k++B)∧q=7 - k,⟨7,0,by omega,rfl,hr.mono bD,rfl⟩,?_⟩
 rintro x m2 q _ ⟨k,hk,hx,cO,hq⟩
 obtain rfl:x=k:=by simpa using hx
 refine Zab (fun bV=>?_) (fun cK=>?_)
 ·have bF:k < 7:=by have:=of_decide_eq_true bV;omega
  have h1:=ZrV (f:=f) (g:=g) (k:=k) bF
  rw[if_neg (by omega)]at h1
  have h2:=Zk4 (f:=g) bF
  have h3:=cO _ _ (Zni (A:=A) (B:=B) h1)
  rw[Nat.zero_add]at h3
  simp only[Int.toNat_natCast,Nat.zero_add,Nat.mul_one]
  refine⟨⟨by omega,by omega⟩,_,h3,⟨by omega,by omega⟩,Zas h2 (Zaa rfl ⟨⟨by omega,by omega⟩,⟨[.int .u64 (wdN f k:Nat)],rfl,fun j v hv=>?_⟩,fun o=>by simp[Mem.off],by trivial,eI,by trivial,by trivial,7 - (k+1),by omega,k+1,by omega,?_,?_,rfl⟩)⟩
  ·cases j with
   | zero=>simp at hv;subst hv;exact h3
   | succ j=>simp at hv
  ·rw[Zau (by omega) (by omega)];rfl
  ·simp only[intOf]
   rw[Zmd _ _ (Znf _ _) (Znf _ _)]
   have h4:=Zrl (v:=.int .u64 ((wdN f k|||wdN g k:Nat):Int)) cO (o:=A.length+k) (by simp[Zng];omega)
   rw[Zh2 (by rw[Zng];omega),ZpN bF]at h4
   exact h4
 ·have:k=7:=by have:=of_decide_eq_false cK;omega
  subst this
  exact⟨rfl,rfl,rfl,cO⟩
end Go.Proofs.Ytplacemlpkhmfaa

