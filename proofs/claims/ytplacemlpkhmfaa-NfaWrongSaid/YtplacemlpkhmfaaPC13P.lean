/- Part of the proof: conditions and contracts of functions of this program. No condition of its own. -/
import Derived.Test.YtplacemlpkhmfaaPC13B
import Derived.Test.YtplacemlpkhmfaaMr
set_option linter.unusedVariables false
set_option linter.unusedSimpArgs false
set_option linter.unusedSectionVars false
namespace Go.Proofs.Ytplacemlpkhmfaa
open Go Go.Eng Go.Rx Go.Proofs Go.RowKit
theorem Zqp{b:Bool}{p q:Prop}(h:b=true)(k:p):br b p q:=by subst h;exact k
theorem Zlr{b:Bool}{p q:Prop}(h:b=false)(k:q):br b p q:=by subst h;exact k
theorem Zjx{α:Type}{l:List α}{k:Nat}(h:k < l.length):∃x,l[k]?=some x:=⟨l[k],List.getElem?_eq_getElem h⟩
theorem Zbu(t:T):Rx.Zcc [t]=t.cs:=by simp[Rx.Zcc]
theorem Zdn{m:Mem}{a:Option Addr}{ts:List T}(h:rowRd m a (Rx.Zcc ts)){i:Nat}{t:T}(hi:ts[i]?=some t):∃b o,a=some ⟨b,o,none⟩∧m.reads b (o+i*8) t.cs:=by
 rcases h with h|⟨b,o,ha,h⟩
 ·have hl:(Rx.Zcc ts).length=0:=by rw[h];rfl
  rw[Zau]at hl
  have:=(List.getElem?_eq_some_iff.1 hi).1
  omega
 ·refine⟨b,o,ha,fun j v hj=>?_⟩
  rw[Nat.add_assoc]
  refine h (i*8+j) v ?_
  have e:ts=ts.take i++(t::ts.drop (i+1)):=by
   have bK:=(List.getElem?_eq_some_iff.1 hi).1
   have h2:=List.drop_eq_getElem_cons bK
   rw[(List.getElem?_eq_some_iff.1 hi).2]at h2
   rw[←h2,List.take_append_drop]
  have bK:=(List.getElem?_eq_some_iff.1 hi).1
  have uX:=(List.getElem?_eq_some_iff.1 hj).1
  rw[e,ZaM,List.getElem?_append_right (by rw[Zau,List.length_take,Nat.min_eq_left (by omega)];omega),Zau,List.length_take,Nat.min_eq_left (by omega),show i*8+j - i*8=j by omega]
  have e2:Rx.Zcc (t::ts.drop (i+1))=t.cs++Rx.Zcc (ts.drop (i+1)):=by simp[Rx.Zcc]
  rw[e2,List.getElem?_append_left uX];exact hj
def Zow(mb M0:Mem)(φ:T→Prop):Value→Mem→List (List Value)→Prop:=fun v M' css=>∃m0,mb.le m0∧m0.le M'∧(∀b o u,M0 b o=some u→∀o',m0 b o'=mb b o')∧Zjj φ v m0 css
theorem Zjy{mb M0:Mem}{φ:T→Prop}{m:Mem}{K:TRK}(k:∀(t:T)(m0 m':Mem),m.le m'→mb.le m0→m0.le m'→(∀b o u,M0 b o=some u→∀o',m0 b o'=mb b o')→Rep m0 t→φ t→K t.k t.s0 t.s1 t.s2 t.s3 t.mn t.mx t.a t.subs.length t.c m'):
  ∀(n0 n1 n2 n3 n4 n5 n6:Int)(a:Option Addr)(n c:Nat)(m':Mem),m.le m'→Zow mb M0 φ (.agg #[.int .u8 n0,.int .u64 n1,.int .u64 n2,.int .u64 n3,.int .u64 n4,.int .i64 n5,.int .i64 n6,.slice a n c]) m' []→K n0 n1 n2 n3 n4 n5 n6 a n c m':=by
 rintro n0 n1 n2 n3 n4 n5 n6 a n c m' hm ⟨m0,h1,h2,h3,t,hv,hr,hp⟩
 simp only[T.v,Value.agg.injEq,Array.mk.injEq,List.cons.injEq,Value.int.injEq,Value.slice.injEq,true_and,and_true]at hv
 obtain⟨rfl,rfl,rfl,rfl,rfl,rfl,rfl,rfl,rfl,rfl⟩:=hv
 exact k t m0 m' hm h1 h2 h3 hr hp
theorem ZdC{mb M0:Mem}{φ:T→Prop}:∀(v:Value)(m':Mem) (css:List (List Value)),Zow mb M0 φ v m' css→Shape.fits (.agg [.int .u8,.int .u64,.int .u64,.int .u64,.int .u64,.int .i64,.int .i64,.slice]) v=true:=fun v _ _ ⟨_,_,_,_,t,e,_⟩=>by rw[e];rfl
def Apart(mb:Mem)(a:Option Addr):Prop:=a=none∨∃b,a=some ⟨b,0,none⟩∧mb.free b
theorem Apart.tok{mb M:Mem}{a a':Option Addr}{n c:Nat}(h:Apart mb a)(hm:mb.le M)(ht:TokFact M a a' n c):Apart mb a':=by
 rcases ht.2 with h1|⟨b,o,h1,h2⟩
 ·exact .inl h1
 rcases h2 with h2|⟨h3,h2⟩
 ·rw[←h2];exact h
 ·subst h3
  refine .inr ⟨b,h1,fun o=>?_⟩
  cases hb:mb b o with
  | none=>rfl
  | some v=>have:=hm _ _ _ hb;rw[h2 o]at this;cases this
theorem Zqq{m:Mem}{a:Option Addr}{ts r:List T}(h:rowRd m a (Rx.Zcc (ts++r))):rowRd m a (Rx.Zcc ts):=by
 rw[ZaM]at h
 rcases h with h|⟨b,o,ha,h⟩
 ·exact .inl (List.append_eq_nil_iff.1 h).1
 ·refine .inr ⟨b,o,ha,fun j v hj=>h j v ?_⟩
  rw[List.getElem?_append_left (List.getElem?_eq_some_iff.1 hj).1];exact hj
theorem Zqr{m:Mem}{b:Nat}{ts:List T}{x t:T}(h:rowRd m (some ⟨b,0,none⟩) (Rx.Zcc (ts++[x]))):rowRd (m.upd b (0+ts.length*8) t.cs) (some ⟨b,0,none⟩) (Rx.Zcc (ts++[t])):=by
 refine .inr ⟨b,0,rfl,fun j v hj=>?_⟩
 rw[ZaM]at hj
 rcases Nat.lt_or_ge j (ts.length*8)with bK|cS
 ·rw[List.getElem?_append_left (by rw[Zau];exact bK)]at hj
  unfold Mem.upd
  rw[if_neg (by omega)]
  rcases h with h|⟨b',o',ha,h⟩
  ·have hl:(Rx.Zcc (ts++[x])).length=0:=by rw[h];rfl
   rw[Zau,List.length_append]at hl
   simp at hl
  ·cases ha
   refine h j v ?_
   rw[ZaM,List.getElem?_append_left (by rw[Zau];exact bK)];exact hj
 ·rw[List.getElem?_append_right (by rw[Zau];exact cS),Zau,Zbu]at hj
  have h8:=(List.getElem?_eq_some_iff.1 hj).1
  have h8':t.cs.length=8:=rfl
  unfold Mem.upd
  rw[if_pos ⟨rfl,by omega,by omega⟩,show 0+j - (0+ts.length*8)=j - ts.length*8 by omega]
  exact hj
theorem Apart.base{mb m:Mem}{a:Option Addr}{ts:List T}(h:Apart mb a)(bM:rowRd m a (Rx.Zcc ts))(hn:ts≠[]):∃b,a=some ⟨b,0,none⟩∧mb.free b∧∃o u,m b o=some u:=by
 obtain⟨t,r,rfl⟩:∃t r,ts=t::r:=by cases ts with
  | nil=>exact absurd rfl hn
  | cons t r=>exact⟨t,r,rfl⟩
 obtain⟨b',o,ha,cM⟩:=Zdn bM (i:=0) (t:=t) rfl
 rcases h with h|⟨b,hb,hf⟩
 ·rw[h]at ha;cases ha
 ·rw[hb]at ha;cases ha
  exact⟨b',hb,hf,_,_,cM 0 (.int .u8 t.k) rfl⟩
theorem Zwh{ts:List T}(h:1 < ts.length):∃r x y,ts=r++[x,y]:=by
 have h1:ts.length - 2 < ts.length:=by omega
 refine⟨ts.take (ts.length - 2),ts[ts.length - 2],ts[ts.length - 1],?_⟩
 have e:=(List.take_append_drop (ts.length - 2) ts).symm
 rw[List.drop_eq_getElem_cons h1,List.drop_eq_getElem_cons (by omega),List.drop_eq_nil_of_le (by omega)]at e
 simpa[show ts.length - 2+1=ts.length - 1 by omega]using e
theorem Zwi{ts:List T}(h:0 < ts.length):∃r x,ts=r++[x]:=by
 refine⟨ts.dropLast,ts.getLast (by intro e;subst e;simp at h),?_⟩
 exact(List.dropLast_concat_getLast _).symm
end Go.Proofs.Ytplacemlpkhmfaa

