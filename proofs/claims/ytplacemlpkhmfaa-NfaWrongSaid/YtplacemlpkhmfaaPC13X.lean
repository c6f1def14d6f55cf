/- Part of the proof: conditions and contracts of functions of this program. No condition of its own. -/
import Derived.Test.YtplacemlpkhmfaaPVM
import Derived.Test.YtplacemlpkhmfaaPC13P
import Derived.Test.YtplacemlpkhmfaaMr
set_option linter.unusedVariables false
set_option linter.unusedSimpArgs false
set_option linter.unusedSectionVars false
namespace Go.Proofs.Ytplacemlpkhmfaa
open Go Go.Eng Go.Rx Go.Proofs Go.RowKit
set_option maxRecDepth 100000
theorem Zw6(l:List T):∀u∈Rx.Zcc l,u.oneCell'=true:=by
 intro u hu
 simp only[Rx.Zcc,List.mem_flatten,List.mem_map]at hu
 obtain⟨_,⟨t,_,rfl⟩,h⟩:=hu
 simp only[T.cs,T.sl,List.mem_cons,List.not_mem_nil,or_false]at h
 rcases h with rfl|rfl|rfl|rfl|rfl|rfl|rfl|rfl <;> rfl
theorem Zmb(a:Option Addr)(c:Nat)(l:List T)(m:Mem)(h:rowRd m a (Rx.Zcc l))(hl:l.length≤1000000000000):CXT Try.prog 118 #[.slice a l.length c] m 8 (fun v m' _=>∃a' c',v=.slice a' l.length c'∧rowRd m' a' (Rx.Zcc l)∧l.length≤c'∧(l.length=0∨∃b,a'=some ⟨b,0,none⟩∧m.free b)):=by
 apply ZbM
 unfold Za8
 have bO:=Zau l
 refine Zab (fun ha=>?_) (fun ha=>⟨⟨rfl,Int.le_refl _,by decide,by decide⟩,fun b hf=>⟨.inl rfl,[],Rx.Zcc l,rfl,bO,.inl rfl,h,Zw6 l,by omega,by omega,fun a' c' m' hm bM mU=>⟨rfl,?_⟩⟩⟩)
 ·obtain rfl:a=none:=by simpa using ha
  have h0:l=[]:=by
   rcases h with h|⟨_,_,h,_⟩
   ·rw[h]at bO;exact List.eq_nil_of_length_eq_zero (by simp at bO;omega)
   ·cases h
  subst h0
  exact⟨rfl,none,0,rfl,.inl rfl,Nat.le_refl _,.inl rfl⟩
 ·simp only[Nat.zero_add]at mU ⊢
  refine⟨a',c',rfl,bM,mU.1,?_⟩
  rcases(mU.old (fun _ _ e=>by cases e;rfl)).2 with h1|⟨b',h1,h2|h2⟩
  ·subst h1
   left
   rcases bM with h3|⟨_,_,h3,_⟩
   ·have h4:(Rx.Zcc l).length=0:=congrArg List.length h3
    omega
   ·cases h3
  ·right;rw[←h2];exact⟨b,rfl,hf⟩
  ·exact .inr ⟨b',h1,h2⟩
theorem Ztp{m:Mem}{b:Nat}{ts r:List T}{x t:T}(h:rowRd m (some ⟨b,0,none⟩) (Rx.Zcc (ts++x::r))):rowRd (m.upd b (0+ts.length*8) t.cs) (some ⟨b,0,none⟩) (Rx.Zcc (ts++t::r)):=by
 rcases h with h|⟨b',o',ha,h⟩
 ·have hl:(Rx.Zcc (ts++x::r)).length=0:=by rw[h];rfl
  rw[Zau,List.length_append,List.length_cons]at hl
  omega
 cases ha
 have e:∀y:T,Rx.Zcc (ts++y::r)=Rx.Zcc ts++(y.cs++Rx.Zcc r):=fun y=>by simp[Rx.Zcc]
 have h8:∀y:T,y.cs.length=8:=fun _=>rfl
 refine .inr ⟨b,0,rfl,fun j v hj=>?_⟩
 rw[e]at hj
 unfold Mem.upd
 rw[Nat.zero_add,Nat.zero_add,h8]
 rcases Nat.lt_or_ge j (ts.length*8)with bK|cS
 ·rw[if_neg (by omega)]
  rw[List.getElem?_append_left (by rw[Zau];exact bK)]at hj
  have:=h j v (by rw[e,List.getElem?_append_left (by rw[Zau];exact bK)];exact hj)
  rwa [Nat.zero_add]at this
 ·rw[List.getElem?_append_right (by rw[Zau];exact cS),Zau]at hj
  rcases Nat.lt_or_ge j (ts.length*8+8)with bK|iX
  ·rw[if_pos ⟨rfl,cS,bK⟩]
   rw[List.getElem?_append_left (by rw[h8];omega)]at hj
   exact hj
  ·rw[if_neg (by omega)]
   rw[List.getElem?_append_right (by rw[h8];omega),h8]at hj
   have:=h j v (by
    rw[e,List.getElem?_append_right (by rw[Zau];exact cS),Zau,List.getElem?_append_right (by rw[h8];omega),h8];exact hj)
   rwa [Nat.zero_add]at this
set_option maxHeartbeats 800000 in
theorem Zn7(t:T)(m:Mem)(hr:Rep m t)(hz:t.nodes.length≤10000):CX Try.prog 85 #[t.v] m [] (Zjj fun t'=>t'.er=t.er∧t'.caps):=by
 have cI:szL t.subs≤10000:=by rw[Zqe]at hz;omega
 have eP:t.subs.length≤10000:=Nat.le_trans (Znt _) cI
 apply Zma
 unfold ZhR
 intro b b1
 refine⟨_,Zmb t.a t.c t.subs m (Zcg hr.subs) (by omega),(fun v _ _ ⟨a,c,e,_⟩=>by rw[e];rfl),?_⟩
 rintro a n c m1 bH ⟨a',c',hv,bM,fZ,bT⟩
 simp only[Value.slice.injEq]at hv
 obtain⟨rfl,rfl,rfl⟩:=hv
 have cK:∀x∈t.subs,Rep m x:=Ze0 hr.subs
 refine⟨fun xs css tvs m' q=>∃(k:Nat)(L:List T)(mb:Mem),k≤t.subs.length∧xs=[.int .i64 k]∧q=t.subs.length - k∧L.length=k∧L.map T.er=(t.subs.take k).map T.er∧m.le mb∧mb.le m'∧(t.subs.length=0∨∃b,a=some ⟨b,0,none⟩∧mb.free b)∧(∀x∈L,Rep mb x∧x.caps)∧rowRd m' a (Rx.Zcc (L++t.subs.drop k)),⟨_,0,[],m,by omega,rfl,rfl,rfl,rfl,Mem.le_refl _,bH,bT,by simp,bM⟩,?_⟩
 rintro z m2 q _ ⟨k,L,mb,hk,eM,hq,pJ,rC,iC,md,fU,pK,eS⟩
 obtain rfl:z=k:=by simpa using eM
 refine Zab (fun bK=>?_) (fun cS=>?_)
 ·have bJ:k < t.subs.length:=by have:=of_decide_eq_true bK;omega
  obtain⟨x,hx⟩:=Zjx bJ
  have fV:=cK x (List.mem_of_getElem? hx)
  have lV:x.nodes.length≤10000:=by
   obtain⟨h1,h2⟩:=List.getElem?_eq_some_iff.1 hx
   have:=congrArg List.length (ZdZ hx)
   unfold szL at cI
   simp only[List.length_append]at this
   omega
  have lg:t.subs.drop k=x::t.subs.drop (k+1):=by
   rw[List.drop_eq_getElem_cons bJ,(List.getElem?_eq_some_iff.1 hx).2]
  rcases fU with fU|⟨bk,rfl,dS⟩
  ·omega
  obtain⟨b0,o0,kH,cM⟩:=Zdn eS (i:=k) (t:=x) (by rw[List.getElem?_append_right (by omega),pJ,Nat.sub_self,lg];rfl)
  cases kH
  have hw:IntKind.i64.wrap ((k:Int)+1)=((k+1:Nat):Int):=by rw[Zax (by omega) (by omega)];rfl
  simp only[hw,Int.toNat_natCast]
  have hO:CX Try.prog 85 #[x.v] m2 [] (Zow mb m2 fun t'=>t'.er=x.er∧t'.caps):=(Zn7 x mb (Rep.mono iC x fV) lV).frame2 md
  refine⟨bk,0,rfl,⟨by omega,by omega⟩,_,_,_,_,_,_,_,_,cM,fun b3=>Zaa rfl ⟨fun _ _ _=>Zow mb m2 fun t'=>t'.er=x.er∧t'.caps,Zow mb m2 fun t'=>t'.er=x.er∧t'.caps,rfl,hO,ZdC,Zjy fun t' m0 m3 cG h0 me fC hr' ht'=>⟨bk,0,rfl,⟨by omega,by omega⟩,fun M fN jA=>⟨rfl,by omega,by trivial,by trivial,t.subs.length - (k+1),by omega,k+1,L++[t'],m0,by omega,rfl,rfl,by simp[pJ],?_,Mem.le_trans iC h0,?_,.inr ⟨bk,rfl,?_⟩,?_,?_⟩⟩⟩⟩
  ·rw[List.map_append,rC,Zqa hx,List.map_append]
   simp[ht'.1]
  ·refine Mem.le_upd (Mem.le_trans me jA) ?_ _ _
   intro o'
   have hc:m2 bk (0+k*8+0)=some (.int .u8 x.k):=cM 0 _ rfl
   rw[fC _ _ _ hc o'];exact dS o'
  ·intro o'
   have hc:m2 bk (0+k*8+0)=some (.int .u8 x.k):=cM 0 _ rfl
   rw[fC _ _ _ hc o'];exact dS o'
  ·intro y hy
   rcases List.mem_append.1 hy with hy|hy
   ·exact⟨Rep.mono h0 y (pK y hy).1,(pK y hy).2⟩
   ·simp at hy;subst hy;exact⟨hr',ht'.2⟩
  ·rw[lg]at eS
   have h5:=Ztp (t:=t') (eS.mono fN)
   rw[pJ]at h5
   rw[List.append_assoc]
   exact h5
 ·have dZ:k=t.subs.length:=by have:=of_decide_eq_false cS;omega
  subst dZ
  rw[List.drop_length,List.append_nil]at eS
  rw[List.take_length]at rC
  have cD:=Zs5 hr
  refine⟨m2,Mem.le_trans iC md,Mem.le_refl _,.node t.k t.s0 t.s1 t.s2 t.s3 t.mn t.mx a c L,?_,?_,?_⟩
  ·simp only[T.v,T.k,T.s0,T.s1,T.s2,T.s3,T.mn,T.mx,T.a,T.c,T.subs,pJ]
  ·have:=Zle eS (fun x hx=>Rep.mono md x (pK x hx).1) (by omega)
   exact ZvG this.1 this.2 cD
  ·have:=Zup (k:=t.k) (s0:=t.s0) (s1:=t.s1) (s2:=t.s2) (s3:=t.s3) (mn:=t.mn) (mx:=t.mx) (a:=a) (a':=t.a) (c:=c) (c':=t.c) rC
   refine⟨this.trans ?_,Znw (by omega) fun x hx=>(pK x hx).2⟩
   cases t;rfl
termination_by SizeOf.sizeOf t
decreasing_by exact ZoX (List.mem_of_getElem? hx)
end Go.Proofs.Ytplacemlpkhmfaa

