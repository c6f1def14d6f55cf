/- Part of the proof: conditions and contracts of functions of this program. No condition of its own. -/
import Derived.Test.YtplacemlpkhmfaaPVM
import Derived.Test.YtplacemlpkhmfaaPC13P
import Derived.Test.YtplacemlpkhmfaaMr
set_option linter.unusedVariables false
set_option linter.unusedSimpArgs false
set_option linter.unusedSectionVars false
namespace Go.Proofs.Ytplacemlpkhmfaa
open Go Go.Eng Go.Rx Go.Proofs Go.RowKit
set_option maxRecDepth 100000
theorem ZxG(l:List T):∀u∈Rx.Zco l,u.oneCell'=true:=by
 intro u hu
 simp only[Rx.Zco,List.mem_flatten,List.mem_map]at hu
 obtain⟨_,⟨t,_,rfl⟩,h⟩:=hu
 simp only[T.cs,T.sl,List.mem_cons,List.not_mem_nil,or_false]at h
 rcases h with rfl|rfl|rfl|rfl|rfl|rfl|rfl|rfl <;> rfl
theorem ZmO(a:Option Addr)(c:Nat)(l:List T)(m:Mem)(h:rowRd m a (Rx.Zco l))(hl:l.length≤1000000000000):CXT Try.prog 118 #[.slice a l.length c] m 8 (fun v m' _=>∃a' c',v=.slice a' l.length c'∧rowRd m' a' (Rx.Zco l)∧l.length≤c'∧(l.length=0∨∃b,a'=some ⟨b,0,none⟩∧m.free b)):=by
 apply ZbY
 unfold Zbd
 have bO:=Zau l
 refine Zaa (fun ha=>?_) (fun ha=>⟨⟨rfl,Int.le_refl _,by decide,by decide⟩,fun b hf=>⟨.inl rfl,[],Rx.Zco l,rfl,bO,.inl rfl,h,ZxG l,by omega,by omega,fun a' c' m' hm bQ nC=>⟨rfl,?_⟩⟩⟩)
 ·obtain rfl:a=none:=by simpa using ha
  have h0:l=[]:=by
   rcases h with h|⟨_,_,h,_⟩
   ·rw[h]at bO;exact List.eq_nil_of_length_eq_zero (by simp at bO;omega)
   ·cases h
  subst h0
  exact⟨rfl,none,0,rfl,.inl rfl,Nat.le_refl _,.inl rfl⟩
 ·simp only[Nat.zero_add]at nC ⊢
  refine⟨a',c',rfl,bQ,nC.1,?_⟩
  rcases(nC.old (fun _ _ e=>by cases e;rfl)).2 with h1|⟨b',h1,h2|h2⟩
  ·subst h1
   left
   rcases bQ with h3|⟨_,_,h3,_⟩
   ·have h4:(Rx.Zco l).length=0:=congrArg List.length h3
    omega
   ·cases h3
  ·right;rw[←h2];exact⟨b,rfl,hf⟩
  ·exact .inr ⟨b',h1,h2⟩
theorem Zum{m:Mem}{b:Nat}{ts r:List T}{x t:T}(h:rowRd m (some ⟨b,0,none⟩) (Rx.Zco (ts++x::r))):rowRd (m.upd b (0+ts.length*8) t.cs) (some ⟨b,0,none⟩) (Rx.Zco (ts++t::r)):=by
 rcases h with h|⟨b',o',ha,h⟩
 ·have hl:(Rx.Zco (ts++x::r)).length=0:=by rw[h];rfl
  rw[Zau,List.length_append,List.length_cons]at hl
  omega
 cases ha
 have e:∀y:T,Rx.Zco (ts++y::r)=Rx.Zco ts++(y.cs++Rx.Zco r):=fun y=>by simp[Rx.Zco]
 have h8:∀y:T,y.cs.length=8:=fun _=>rfl
 refine .inr ⟨b,0,rfl,fun j v hj=>?_⟩
 rw[e]at hj
 unfold Mem.upd
 rw[Nat.zero_add,Nat.zero_add,h8]
 rcases Nat.lt_or_ge j (ts.length*8)with bM|cR
 ·rw[if_neg (by omega)]
  rw[List.getElem?_append_left (by rw[Zau];exact bM)]at hj
  have:=h j v (by rw[e,List.getElem?_append_left (by rw[Zau];exact bM)];exact hj)
  rwa [Nat.zero_add]at this
 ·rw[List.getElem?_append_right (by rw[Zau];exact cR),Zau]at hj
  rcases Nat.lt_or_ge j (ts.length*8+8)with bM|ja
  ·rw[if_pos ⟨rfl,cR,bM⟩]
   rw[List.getElem?_append_left (by rw[h8];omega)]at hj
   exact hj
  ·rw[if_neg (by omega)]
   rw[List.getElem?_append_right (by rw[h8];omega),h8]at hj
   have:=h j v (by
    rw[e,List.getElem?_append_right (by rw[Zau];exact cR),Zau,List.getElem?_append_right (by rw[h8];omega),h8];exact hj)
   rwa [Nat.zero_add]at this
set_option maxHeartbeats 800000 in
theorem Zld(t:T)(m:Mem)(hr:Rep m t)(hz:t.nodes.length≤10000):CX Try.prog 85 #[t.v] m [] (Zgo fun t'=>t'.er=t.er∧t'.caps):=by
 have cM:szL t.subs≤10000:=by rw[ZqR]at hz;omega
 have fD:t.subs.length≤10000:=Nat.le_trans (Zn5 _) cM
 apply ZmN
 unfold Zit
 intro b b1
 refine⟨_,ZmO t.a t.c t.subs m (Zcb hr.subs) (by omega),(fun v _ _ ⟨a,c,e,_⟩=>by rw[e];rfl),?_⟩
 rintro a n c m1 bJ ⟨a',c',hv,bQ,iL,bW⟩
 simp only[Value.slice.injEq]at hv
 obtain⟨rfl,rfl,rfl⟩:=hv
 have cK:∀x∈t.subs,Rep m x:=Zeb hr.subs
 refine⟨fun xs css tvs m' q=>∃(k:Nat)(L:List T)(mb:Mem),k≤t.subs.length∧xs=[.int .i64 k]∧q=t.subs.length - k∧L.length=k∧L.map T.er=(t.subs.take k).map T.er∧m.le mb∧mb.le m'∧(t.subs.length=0∨∃b,a=some ⟨b,0,none⟩∧mb.free b)∧(∀x∈L,Rep mb x∧x.caps)∧rowRd m' a (Rx.Zco (L++t.subs.drop k)),⟨_,0,[],m,by omega,rfl,rfl,rfl,rfl,Mem.le_refl _,bJ,bW,by simp,bQ⟩,?_⟩
 rintro z m2 q _ ⟨k,L,mb,hk,eG,hq,qg,tf,iR,mT,gy,qh,fC⟩
 obtain rfl:z=k:=by simpa using eG
 refine Zaa (fun bM=>?_) (fun cR=>?_)
 ·have bL:k < t.subs.length:=by have:=of_decide_eq_true bM;omega
  obtain⟨x,hx⟩:=Zie bL
  have fY:=cK x (List.mem_of_getElem? hx)
  have mh:x.nodes.length≤10000:=by
   obtain⟨h1,h2⟩:=List.getElem?_eq_some_iff.1 hx
   have:=congrArg List.length (Zcs hx)
   unfold szL at cM
   simp only[List.length_append]at this
   omega
  have lI:t.subs.drop k=x::t.subs.drop (k+1):=by
   rw[List.drop_eq_getElem_cons bL,(List.getElem?_eq_some_iff.1 hx).2]
  rcases gy with gy|⟨bk,rfl,dW⟩
  ·omega
  obtain⟨b0,o0,j6,cQ⟩:=Zc2 fC (i:=k) (t:=x) (by rw[List.getElem?_append_right (by omega),qg,Nat.sub_self,lI];rfl)
  cases j6
  have hw:IntKind.i64.wrap ((k:Int)+1)=((k+1:Nat):Int):=by rw[ZaA (by omega) (by omega)];rfl
  simp only[hw,Int.toNat_natCast]
  have ic:CX Try.prog 85 #[x.v] m2 [] (Zpe mb m2 fun t'=>t'.er=x.er∧t'.caps):=(Zld x mb (Rep.mono iR x fY) mh).frame2 mT
  refine⟨bk,0,rfl,⟨by omega,by omega⟩,_,_,_,_,_,_,_,_,cQ,fun b3=>Zab rfl ⟨fun _ _ _=>Zpe mb m2 fun t'=>t'.er=x.er∧t'.caps,Zpe mb m2 fun t'=>t'.er=x.er∧t'.caps,rfl,ic,ZdT,ZjX fun t' m0 m3 cJ h0 kE fK hr' ht'=>⟨bk,0,rfl,⟨by omega,by omega⟩,fun M fJ ju=>⟨rfl,by omega,by trivial,by trivial,t.subs.length - (k+1),by omega,k+1,L++[t'],m0,by omega,rfl,rfl,by simp[qg],?_,Mem.le_trans iR h0,?_,.inr ⟨bk,rfl,?_⟩,?_,?_⟩⟩⟩⟩
  ·rw[List.map_append,tf,ZqO hx,List.map_append]
   simp[ht'.1]
  ·refine Mem.le_upd (Mem.le_trans kE ju) ?_ _ _
   intro o'
   have hc:m2 bk (0+k*8+0)=some (.int .u8 x.k):=cQ 0 _ rfl
   rw[fK _ _ _ hc o'];exact dW o'
  ·intro o'
   have hc:m2 bk (0+k*8+0)=some (.int .u8 x.k):=cQ 0 _ rfl
   rw[fK _ _ _ hc o'];exact dW o'
  ·intro y hy
   rcases List.mem_append.1 hy with hy|hy
   ·exact⟨Rep.mono h0 y (qh y hy).1,(qh y hy).2⟩
   ·simp at hy;subst hy;exact⟨hr',ht'.2⟩
  ·rw[lI]at fC
   have h5:=Zum (t:=t') (fC.mono fJ)
   rw[qg]at h5
   rw[List.append_assoc]
   exact h5
 ·have eC:k=t.subs.length:=by have:=of_decide_eq_false cR;omega
  subst eC
  rw[List.drop_length,List.append_nil]at fC
  rw[List.take_length]at tf
  have cH:=ZtP hr
  refine⟨m2,Mem.le_trans iR mT,Mem.le_refl _,.node t.k t.s0 t.s1 t.s2 t.s3 t.mn t.mx a c L,?_,?_,?_⟩
  ·simp only[T.v,T.k,T.s0,T.s1,T.s2,T.s3,T.mn,T.mx,T.a,T.c,T.subs,qg]
  ·have:=ZlI fC (fun x hx=>Rep.mono mT x (qh x hx).1) (by omega)
   exact Zwk this.1 this.2 cH
  ·have:=Zva (k:=t.k) (s0:=t.s0) (s1:=t.s1) (s2:=t.s2) (s3:=t.s3) (mn:=t.mn) (mx:=t.mx) (a:=a) (a':=t.a) (c:=c) (c':=t.c) tf
   refine⟨this.trans ?_,Zok (by omega) fun x hx=>(qh x hx).2⟩
   cases t;rfl
termination_by SizeOf.sizeOf t
decreasing_by exact ZkD (List.mem_of_getElem? hx)
end Go.Proofs.Ytplacemlpkhmfaa

