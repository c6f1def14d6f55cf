/- Part of the proof: conditions and contracts of functions of this program. No condition of its own. -/
import Derived.Test.YtplacemlpkhmfaaPC13B
import Derived.Test.YtplacemlpkhmfaaMr
set_option linter.unusedVariables false
set_option linter.unusedSimpArgs false
set_option linter.unusedSectionVars false
namespace Go.Proofs.Ytplacemlpkhmfaa
open Go Go.Eng Go.Rx Go.Proofs Go.RowKit
theorem Zv4{b:Bool}{p q:Prop}(h:b=true)(k:p):br b p q:=by subst h;exact k
theorem ZsL{b:Bool}{p q:Prop}(h:b=false)(k:q):br b p q:=by subst h;exact k
theorem Zt2{m:Mem}{a:Option Addr}{ts:List T}(h:rowRd m a (Rx.Zef ts)){i:Nat}{t:T}(hi:ts[i]?=some t):∃b o,a=some ⟨b,o,none⟩∧m.reads b (o+i*8) t.cs:=by
 rcases h with h|⟨b,o,ha,h⟩
 ·have hl:(Rx.Zef ts).length=0:=by rw[h];rfl
  rw[Zh1]at hl
  have:=(List.getElem?_eq_some_iff.1 hi).1
  omega
 ·refine⟨b,o,ha,fun j v hj=>?_⟩
  rw[Nat.add_assoc]
  refine h (i*8+j) v ?_
  have e:ts=ts.take i++(t::ts.drop (i+1)):=by
   have bV:=(List.getElem?_eq_some_iff.1 hi).1
   have h2:=List.drop_eq_getElem_cons bV
   rw[(List.getElem?_eq_some_iff.1 hi).2]at h2
   rw[←h2,List.take_append_drop]
  have bV:=(List.getElem?_eq_some_iff.1 hi).1
  have vn:=(List.getElem?_eq_some_iff.1 hj).1
  rw[e,ZjY,List.getElem?_append_right (by rw[Zh1,List.length_take,Nat.min_eq_left (by omega)];omega),Zh1,List.length_take,Nat.min_eq_left (by omega),show i*8+j - i*8=j by omega]
  have e2:Rx.Zef (t::ts.drop (i+1))=t.cs++Rx.Zef (ts.drop (i+1)):=by simp[Rx.Zef]
  rw[e2,List.getElem?_append_left vn];exact hj
def Apart(mb:Mem)(a:Option Addr):Prop:=a=none∨∃b,a=some ⟨b,0,none⟩∧mb.free b
theorem Apart.tok{mb M:Mem}{a a':Option Addr}{n c:Nat}(h:Apart mb a)(hm:mb.le M)(ht:TokFact M a a' n c):Apart mb a':=by
 rcases ht.2 with h1|⟨b,o,h1,h2⟩
 ·exact .inl h1
 rcases h2 with h2|⟨h3,h2⟩
 ·rw[←h2];exact h
 ·subst h3
  refine .inr ⟨b,h1,fun o=>?_⟩
  cases hb:mb b o with
  | none=>rfl
  | some v=>have:=hm _ _ _ hb;rw[h2 o]at this;cases this
theorem Apart.base{mb m:Mem}{a:Option Addr}{ts:List T}(h:Apart mb a)(cV:rowRd m a (Rx.Zef ts))(hn:ts≠[]):∃b,a=some ⟨b,0,none⟩∧mb.free b∧∃o u,m b o=some u:=by
 obtain⟨t,r,rfl⟩:∃t r,ts=t::r:=by cases ts with
  | nil=>exact absurd rfl hn
  | cons t r=>exact⟨t,r,rfl⟩
 obtain⟨b',o,ha,cO⟩:=Zt2 cV (i:=0) (t:=t) rfl
 rcases h with h|⟨b,hb,hf⟩
 ·rw[h]at ha;cases ha
 ·rw[hb]at ha;cases ha
  exact⟨b',hb,hf,_,_,cO 0 (.int .u8 t.k) rfl⟩
end Go.Proofs.Ytplacemlpkhmfaa

