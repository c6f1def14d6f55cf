/- Part of the proof: conditions and contracts of functions of this program. No condition of its own. -/
import Derived.Test.YtfgfahnakepegaaPC13X
import Derived.Test.YtfgfahnakepegaaMr
import Derived.Test.YtfgfahnakepegaaPVA
import Derived.Test.YtfgfahnakepegaaPEnv
import Derived.Shelf.Spec.SlicesGrow
set_option linter.unusedVariables false
set_option linter.unusedSimpArgs false
set_option linter.unusedSectionVars false
namespace Go.Proofs.Ytfgfahnakepegaa
open Go Go.Eng Go.Rx Go.Proofs Go.RowKit
set_option maxRecDepth 100000
theorem ZlB(m:Mem):Rep m T0:=ZdS (k:=0) (mn:=0) (mx:=0) (a:=none) (c:=0) (l:=[]) ⟨by simp,.inl rfl⟩ (by omega) (by omega) (by omega)
theorem Zut(m:Mem):Rep m T1:=ZdS (k:=1) (mn:=0) (mx:=0) (a:=none) (c:=0) (l:=[]) ⟨by simp,.inl rfl⟩ (by omega) (by omega) (by omega)
theorem ZvO(t:T)(m:Mem)(hr:Rep m t)(hc:t.clean=true):CX Try.prog 49 #[t.v] m [] (Ret (.bool true)):=by
 apply Zr2
 unfold ZnC
 intro b m1 aO _
 refine⟨true,Zak (Ztq t T0 m1 (hr.mono aO) (ZlB _)) λm2 aP=>Zab (λ_=>⟨by trivial,rfl⟩) (λ_=>?_),Zaj aO rfl⟩
 have h:=ZjC t m2 (hr.mono (mLt aO aP))
 rw[hc]at h
 exact Zak h λm3 aX=>⟨by trivial,rfl⟩
theorem Zfb(t:T)(m:Mem)(hr:Rep m t):CX Try.prog 58 #[t.v] m [] (Zdx λt'=>Zy6 t t'/\NewT m t'):=by
 apply Zl0
 unfold Zha
 intro b m1 aO _ b1
 refine Zak (ZjC t m1 (hr.mono aO)) λm2 aP=>Zab (λh=>?_) (λh=>?_)
 ·exact⟨m2,mLt aO aP,Mem.le_refl _,T0,rfl,ZlB _,⟨.inr ⟨by simpa using h,rfl⟩,Zik⟩,Zhc rfl⟩
 ·have hc:t.clean=true:=by simpa using h
  refine Zag (Zgv t m2 (hr.mono (mLt aO aP)) (Zg4 hc)) ZaB (ZbH λt' m3 aX hr' ht'=>?_)
  exact⟨m3,mLt aO (mLt aP aX),Mem.le_refl _,t',rfl,hr',⟨.inl ⟨hc,ht'.1⟩,ht'.2.1⟩,ht'.2.2.less (mLt aO aP)⟩
theorem ZvP(k w:Int)(L:List T)(a:Option Addr)(c:Nat)(m:Mem)(hL:RepL m a L)(hl:L.length<=1000)(hs:∀x∈L,x.subs.length<=10000):CX Try.prog 48 #[.int .u8 k,.int .u8 w,.slice a L.length c] m [] (λv m' _=>∃a' c',v=.slice a' (ZaW k w L).length c'/\RepL m' a' (ZaW k w L)):=by
 apply Zr3
 unfold ZnD
 have aR:=ZaL hL
 have cA:=ZbC hL
 have fJ:∀i,(ZaW k w (L.take i)).length<=10001000:=λi=>by
  have:=Zil k w (L.take i) λx hx=>hs x (List.mem_of_mem_take hx)
  have h2:(L.take i).length<=1000:=by rw[List.length_take];omega
  omega
 refine⟨λxs css tvs m' q=>∃(i:Nat)(a:Option Addr)(c:Nat),i<=L.length/\xs=[.slice a (ZaW k w (L.take i)).length c,.int .i64 i]/\tvs=[.slice a (ZaW k w (L.take i)).length c]/\rowRd m' a (Rx.ZcA (ZaW k w (L.take i)))/\q=L.length - i,⟨_,0,none,0,by omega,rfl,rfl,.inl rfl,rfl⟩,?_⟩
 rintro a1 n1 c1 z a2 n2 c2 m1 q aO ⟨i,a',c',hi,bB,cF,cG,hq⟩
 simp only[List.cons.injEq,Value.slice.injEq,Value.int.injEq,true_and,and_true]at bB cF
 obtain⟨⟨rfl,rfl,rfl⟩,rfl⟩:=bB
 obtain⟨rfl,rfl,rfl⟩:=cF
 refine Zab (λaS=>?_) (λbR=>?_)
 ·have aQ:i < L.length:=by have:=of_decide_eq_true aS;omega
  obtain⟨x,hx⟩:=Zb2 aQ
  obtain⟨b0,o0,eL,bC⟩:=ZcH (aR.mono aO) hx
  have cW:=(cA x (List.mem_of_getElem? hx)).mono aO
  have bB:=hs x (List.mem_of_getElem? hx)
  have hw:IntKind.i64.wrap ((i:Int)+1)=((i+1:Nat):Int):=by rw[ZaA (by omega) (by omega)];rfl
  have cH:=ZrB k w (L.take i) x
  rw[<-Zcd hx]at cH
  have oU:=fJ i
  simp only[hw,Int.toNat_natCast]
  refine⟨b0,o0,eL,⟨by omega,by omega⟩,_,_,_,_,_,_,_,_,bC,λb3=>Zaa rfl (Zaa rfl (Zab (λhk=>?_) (λhk=>Zaa rfl (Zab (λhw'=>?_) (λhw' b4 rP=>?_)))))⟩
  ·have hk':x.k=k:=by simpa[RowKit.intOf]using hk
   have gT:ZbK k w x=x.subs:=by unfold ZbK;rw[if_pos hk']
   rw[gT]at cH
   refine Zaa rfl ⟨.inl trivial,Rx.ZcA (ZaW k w (L.take i)),Rx.ZcA x.subs,ZaJ _,ZaJ _,cG,ZaL cW.subs,Zyu _,?_,?_,λa5 c5 m5 cU lB=>⟨L.length - (i+1),by omega,i+1,a5,c5,by omega,?_,?_,?_,rfl⟩⟩
   ·simp only[T.sl,slN];omega
   ·simp only[T.sl,slN];omega
   ·rw[cH,List.length_append];rfl
   ·rw[cH,List.length_append];rfl
   ·rw[cH,Zcl];exact lB
  ·have hk':¬x.k=k:=by simpa[RowKit.intOf]using hk
   have fB:x.k=w:=by simpa[RowKit.intOf]using hw'
   have gT:ZbK k w x=[]:=by unfold ZbK;rw[if_neg hk',if_pos fB]
   rw[gT,List.append_nil]at cH
   exact⟨L.length - (i+1),by omega,i+1,a2,c2,by omega,by rw[cH],by rw[cH],by rw[cH];exact cG,rfl⟩
  ·have hk':¬x.k=k:=by simpa[RowKit.intOf]using hk
   have fB:¬x.k=w:=by simpa[RowKit.intOf]using hw'
   have gT:ZbK k w x=[x]:=by unfold ZbK;rw[if_neg hk',if_neg fB]
   rw[gT]at cH
   refine⟨.inl trivial,Rx.ZcA (ZaW k w (L.take i)),x.cs,ZaJ _,rfl,cG.mono (Mem.le_add rP _),.inr ⟨b4,0,rfl,λj v hj=>by rw[Nat.zero_add,Mem.add_same];exact hj⟩,by have:=Zyu [x];simpa[Rx.ZcA]using this,by omega,by omega,λa5 c5 m5 cU lB=>⟨L.length - (i+1),by omega,i+1,a5,c5,by omega,?_,?_,?_,rfl⟩⟩
   ·rw[cH,List.length_append];rfl
   ·rw[cH,List.length_append];rfl
   ·rw[cH,ZdT];exact lB
 ·have mO:i=L.length:=by have:=of_decide_eq_false bR;omega
  subst mO
  rw[List.take_length]at cG ⊢
  have oU:=fJ L.length
  rw[List.take_length]at oU
  refine⟨m1,aO,Mem.le_refl _,a2,c2,rfl,ZdU cG (λt ht=>?_) (by omega)⟩
  simp only[ZaW,List.mem_flatten,List.mem_map]at ht
  obtain⟨_,⟨x,hx,rfl⟩,ht⟩:=ht
  have cW:=(cA x hx).mono aO
  unfold ZbK at ht
  split at ht
  ·exact ZbC cW.subs t ht
  ·split at ht
   ·simp at ht
   ·simp at ht;subst ht;exact cW
theorem ZjD(k:Int)(hk:k=3\/k=4)(a:Option Addr)(c:Nat)(l:List T)(u:T)(m:Mem)(hl:RepL m a l)(hu:Rep m u)(gE:l.length<=1000000000)(mB:u.subs=[]):CX Try.prog 47 #[.int .u8 k,.slice a l.length c,u.v] m [] (Zdx λt'=>Zx6 k a c u l t'/\NewT m t'):=by
 apply Zok
 unfold ZiC
 intro b m1 aO _ b1
 have aR:=ZaL (hl.mono aO)
 match l,hl,gE,aR with
 | [],hl,gE,aR=>exact ZvM rfl ⟨m1,aO,Mem.le_refl _,u,rfl,hu.mono aO,rfl,Zhc mB⟩
 | [x],hl,gE,aR=>
  refine ZnB rfl (ZvM rfl ?_)
  obtain⟨b0,o0,eL,bC⟩:=ZcH aR (i:=0) (t:=x) rfl
  refine⟨b0,o0,eL,⟨by omega,by simp⟩,_,_,_,_,_,_,_,_,bC,Zag (Zfb x m1 ((ZbC hl x (by simp)).mono aO)) ZaB (ZbH λt' m2 aP hr' ht'=>?_)⟩
  exact⟨m2,mLt aO aP,Mem.le_refl _,t',rfl,hr',ht'.1,ht'.2.less aO⟩
 | x::y::l,hl,gE,aR=>
  refine ZnB (by simp;omega) (ZnB (by simp;omega) ?_)
  have kQ:Rep m1 (ZbV k 0 0 a c (x::y::l)):=ZdS (hl.mono aO) (by omega) (by omega) (by omega)
  refine Zag (Zfb (ZbV k 0 0 a c (x::y::l)) m1 kQ) ZaB (ZbH λt' m2 aP hr' ht'=>?_)
  exact⟨m2,mLt aO aP,Mem.le_refl _,t',rfl,hr',ht'.1,ht'.2.less aO⟩
theorem ZuU(k:Int)(hk:k=3\/k=4)(a:Option Addr)(c:Nat)(l:List T)(u:T)(m:Mem)(hl:RepL m a l)(hu:Rep m u)(gE:l.length<=1000000000)(mB:u.subs=[]):CX Try.prog 47 #[.int .u8 k,.slice a l.length c,u.v] m [] (Zdx (Zx6 k a c u l)):=
 (ZjD k hk a c l u m hl hu gE mB).mono λ_ _ _ _ ⟨t',e,hr',h⟩=>⟨t',e,hr',h.1⟩
theorem Zgw{t:T}(h:t.clean=true):t.subs.length<=10000:=by
 have h1:=Zg4 h
 rw[Zcr]at h1
 have:=ZbN t.subs
 omega
theorem Zyv(L:List T)(a:Option Addr)(c:Nat)(m:Mem)(hL:RepL m a L)(hl:L.length<=1000)(hc:∀x∈L,x.clean=true):CX Try.prog 16 #[.slice a L.length c] m [] (Zdx λt'=>(∃a c,Zx6 4 a c T0 (ZaW 4 0 L) t')/\NewT m t'):=by
 apply ZwN
 unfold Ztr
 intro b
 have aR:=ZaL hL
 have cA:=ZbC hL
 refine⟨λxs css tvs m' q=>∃i:Nat,i<=L.length/\xs=[.int .i64 i]/\q=L.length - i,⟨_,0,by omega,rfl,rfl⟩,?_⟩
 rintro z cs m1 q aO ⟨i,hi,bB,hq⟩
 obtain rfl:z=i:=by simpa using bB
 refine Zab (λaS=>?_) (λbR=>?_)
 ·have aQ:i < L.length:=by have:=of_decide_eq_true aS;omega
  obtain⟨x,hx⟩:=Zb2 aQ
  obtain⟨b0,o0,eL,bC⟩:=ZcH (aR.mono aO) hx
  have cW:=(cA x (List.mem_of_getElem? hx)).mono aO
  have hw:IntKind.i64.wrap ((i:Int)+1)=((i+1:Nat):Int):=by rw[ZaA (by omega) (by omega)];rfl
  simp only[hw,Int.toNat_natCast]
  exact⟨b0,o0,eL,⟨by omega,by omega⟩,_,_,_,_,_,_,_,_,bC,λb3=>Zaa rfl (Zak (ZvO x m1 cW (hc x (List.mem_of_getElem? hx))) λm2 aP=>ZnB rfl ⟨by trivial,L.length - (i+1),by omega,i+1,by omega,rfl,rfl⟩)⟩
 ·refine Zag (ZvP 4 0 L a c m1 (hL.mono aO) hl λx hx=>Zgw (hc x hx)) (λv _ _ ⟨a,c,e,_⟩=>by rw[e];rfl) ?_
  rintro a2 n2 c2 m2 aP ⟨a',c',hv,hF⟩
  simp only[Value.slice.injEq]at hv
  obtain⟨rfl,rfl,rfl⟩:=hv
  have fJ:=Zil 4 0 L λx hx=>Zgw (hc x hx)
  refine Zag (ZjD 4 (.inr rfl) a2 c2 (ZaW 4 0 L) T0 m2 hF (ZlB _) (by omega) rfl) ZaB (ZbH λt' m3 aX hr' ht'=>?_)
  exact⟨m3,mLt aO (mLt aP aX),Mem.le_refl _,t',rfl,hr',⟨a2,c2,ht'.1⟩,ht'.2.less (mLt aO aP)⟩
theorem Zzt(L:List T)(a:Option Addr)(c:Nat)(m:Mem)(hL:RepL m a L)(hl:L.length<=1000)(hc:∀x∈L,x.clean=true):CX Try.prog 16 #[.slice a L.length c] m [] (Zdx λt'=>∃a c,Zx6 4 a c T0 (ZaW 4 0 L) t'):=
 (Zyv L a c m hL hl hc).mono λ_ _ _ _ ⟨t',e,hr',h⟩=>⟨t',e,hr',h.1⟩
theorem ZvQ(L:List T)(a:Option Addr)(c:Nat)(m:Mem)(hL:RepL m a L)(hl:L.length<=1000)(hc:∀x∈L,x.clean=true):CX Try.prog 15 #[.slice a L.length c] m [] (Zdx λt'=>(∃a c,Zx6 3 a c T1 (ZaW 3 1 L) t')/\NewT m t'):=by
 apply ZuS
 unfold Zqz
 intro b
 have aR:=ZaL hL
 have cA:=ZbC hL
 refine⟨λxs css tvs m' q=>∃i:Nat,i<=L.length/\xs=[.int .i64 i]/\q=L.length - i,⟨_,0,by omega,rfl,rfl⟩,?_⟩
 rintro z cs m1 q aO ⟨i,hi,bB,hq⟩
 obtain rfl:z=i:=by simpa using bB
 refine Zab (λaS=>?_) (λbR=>?_)
 ·have aQ:i < L.length:=by have:=of_decide_eq_true aS;omega
  obtain⟨x,hx⟩:=Zb2 aQ
  obtain⟨b0,o0,eL,bC⟩:=ZcH (aR.mono aO) hx
  have cW:=(cA x (List.mem_of_getElem? hx)).mono aO
  have te:=hc x (List.mem_of_getElem? hx)
  have hk:=ZvF te
  have dG:=ZjC x m1 cW
  rw[te]at dG
  have hw:IntKind.i64.wrap ((i:Int)+1)=((i+1:Nat):Int):=by rw[ZaA (by omega) (by omega)];rfl
  simp only[hw,Int.toNat_natCast]
  refine⟨b0,o0,eL,⟨by omega,by omega⟩,_,_,_,_,_,_,_,_,bC,λb3=>Zaa rfl ⟨false,?_,ZnB rfl ⟨by trivial,L.length - (i+1),by omega,i+1,by omega,rfl,rfl⟩⟩⟩
  refine Zaa rfl (ZnB (by simpa[RowKit.intOf]using hk) ?_)
  exact Zak dG λm2 aP=>⟨by trivial,rfl⟩
 ·refine Zag (ZvP 3 1 L a c m1 (hL.mono aO) hl λx hx=>Zgw (hc x hx)) (λv _ _ ⟨a,c,e,_⟩=>by rw[e];rfl) ?_
  rintro a2 n2 c2 m2 aP ⟨a',c',hv,hF⟩
  simp only[Value.slice.injEq]at hv
  obtain⟨rfl,rfl,rfl⟩:=hv
  have fJ:=Zil 3 1 L λx hx=>Zgw (hc x hx)
  refine Zag (ZjD 3 (.inl rfl) a2 c2 (ZaW 3 1 L) T1 m2 hF (Zut _) (by omega) rfl) ZaB (ZbH λt' m3 aX hr' ht'=>?_)
  exact⟨m3,mLt aO (mLt aP aX),Mem.le_refl _,t',rfl,hr',⟨a2,c2,ht'.1⟩,ht'.2.less (mLt aO aP)⟩
theorem ZuV(L:List T)(a:Option Addr)(c:Nat)(m:Mem)(hL:RepL m a L)(hl:L.length<=1000)(hc:∀x∈L,x.clean=true):CX Try.prog 15 #[.slice a L.length c] m [] (Zdx λt'=>∃a c,Zx6 3 a c T1 (ZaW 3 1 L) t'):=
 (ZvQ L a c m hL hl hc).mono λ_ _ _ _ ⟨t',e,hr',h⟩=>⟨t',e,hr',h.1⟩
theorem Zk1(t:T)(m:Mem)(hr:Rep m t):CX Try.prog 22 #[t.v] m [] (Zdx λt'=>(∃a c,Zy6 (ZbV 6 0 0 a c [t]) t')/\NewT m t'):=by
 apply Zl1
 unfold Zhb
 intro b m1 aO _ b1 b2 nS
 have bE:=mLt aO (Mem.le_add nS t.cs)
 have hL:RepL (m1.add b2 t.cs) (some ⟨b2,0,none⟩) [t]:=ZoX (λj v hj=>by rw[Nat.zero_add,Mem.add_same];exact hj) (hr.mono bE)
 have kQ:Rep (m1.add b2 t.cs) (ZbV 6 0 0 (some ⟨b2,0,none⟩) 1 [t]):=ZdS hL (by omega) (by omega) (by omega)
 refine Zag (Zfb (ZbV 6 0 0 (some ⟨b2,0,none⟩) 1 [t]) (m1.add b2 t.cs) kQ) ZaB (ZbH λt' m2 aP hr' ht'=>?_)
 exact⟨m2,mLt bE aP,Mem.le_refl _,t',rfl,hr',⟨_,_,ht'.1⟩,ht'.2.less bE⟩
theorem Zr5(t:T)(m:Mem)(hr:Rep m t):CX Try.prog 22 #[t.v] m [] (Zdx λt'=>∃a c,Zy6 (ZbV 6 0 0 a c [t]) t'):=
 (Zk1 t m hr).mono λ_ _ _ _ ⟨t',e,hr',h⟩=>⟨t',e,hr',h.1⟩
set_option maxHeartbeats 1600000 in
theorem ZuW(t:T)(lo hi:Int)(m:Mem)(hr:Rep m t)(hc:t.clean=true):CX Try.prog 69 #[t.v,.int .i64 lo,.int .i64 hi] m [] (Zdx λt'=>Zzs t lo hi t'/\NewT m t'):=by
 apply ZqA
 unfold Zk0
 intro b m1 aO _ b1
 have hk:=ZvF hc
 have hk':(t.k == 0)=false:=by simpa using hk
 have qH:=Zqw lo hi
 generalize hB:Zcc lo hi=B at qH
 have hz:∃z,(lo == 0&&hi == 0)=z:=⟨_,rfl⟩
 have ho:∃o,(lo == 1&&hi == 1)=o:=⟨_,rfl⟩
 obtain⟨z,hz⟩:=hz
 obtain⟨o,ho⟩:=ho
 have yG:z=true->lo=0/\hi=0:=λh=>by rw[h]at hz;simpa using hz
 have qD:o=true->lo=1/\hi=1:=λh=>by rw[h]at ho;simpa using ho
 refine⟨z,o,?_,!z&&(!o&&!B),?_,Zab (λh=>?_) (λh=>⟨false,?_,ZnB rfl ⟨z||t.k == 1,?_,Zab (λh2=>?_) (λh2=>Zab (λh3=>?_) (λh3 b4 rP=>?_))⟩⟩)⟩
 ·rw[<-hz,<-ho]
  refine Zab (λh=>Zab (λh2=>⟨by trivial,?_⟩) (λh2=>⟨by trivial,?_⟩)) (λh=>Zab (λh2=>⟨by trivial,?_⟩) (λh2=>⟨by trivial,?_⟩)) <;> rw[h,h2] <;> rfl
 ·refine Zak (ZvO t m1 (hr.mono aO) hc) λm2 aP=>ZnB rfl (Zab (λh=>Zab (λh2=>?_) (λh2=>?_)) (λh=>?_))
  ·refine Zak (qH m2) λm3 aX=>⟨by trivial,?_⟩
   rw[h,h2];rfl
  ·refine⟨by trivial,?_⟩
   rw[h,h2];rfl
  ·refine⟨by trivial,?_⟩
   rw[h];rfl
 ·exact⟨m1,aO,Mem.le_refl _,T0,rfl,ZlB _,.inl ⟨rfl,by
   cases z <;> cases o <;> cases B <;> simp_all⟩,Zhc rfl⟩
 ·exact ZnB hk' ⟨by trivial,rfl⟩
 ·refine Zab (λh3=>⟨by trivial,?_⟩) (λh3=>ZnB hk' ⟨by trivial,?_⟩)
  ·rw[h3];rfl
  ·rw[h3];rfl
 ·refine⟨m1,aO,Mem.le_refl _,T1,rfl,Zut _,.inr (.inl ⟨rfl,?_⟩),Zhc rfl⟩
  cases z with
  | true=>exact .inl (yG rfl)
  | false=>
   right
   refine⟨by simpa using h2,?_⟩
   cases o with
   | true=>exact .inl (qD rfl)
   | false=>right;simpa[hB]using h
 ·refine Zag (Zgv t m1 (hr.mono aO) (Zg4 hc)) ZaB (ZbH λt' m2 aP hr' ht'=>?_)
  have:=qD (by simpa using h3)
  exact⟨m2,mLt aO aP,Mem.le_refl _,t',rfl,hr',.inr (.inr (.inl ⟨this.1,this.2,ht'.1⟩)),ht'.2.2.less aO⟩
 ·have bE:=mLt aO (Mem.le_add rP t.cs)
  have hL:RepL (m1.add b4 t.cs) (some ⟨b4,0,none⟩) [t]:=ZoX (λj v hj=>by rw[Nat.zero_add,Mem.add_same];exact hj) (hr.mono bE)
  have yH:B=true:=by
   rw[h3]at h
   have:z=false:=by
    cases z with
    | true=>simp at h2
    | false=>rfl
   rw[this]at h
   simpa using h
  have hb:=hB.trans yH
  have dM:0<=lo/\lo<=16/\-1<=hi/\hi<=16:=by
   unfold Zcc at hb
   simp only[Bool.and_eq_true,Bool.not_eq_true',Bool.or_eq_false_iff,Bool.or_eq_true,decide_eq_false_iff_not,decide_eq_true_eq,beq_iff_eq]at hb
   omega
  have kQ:Rep (m1.add b4 t.cs) (ZbV 5 lo hi (some ⟨b4,0,none⟩) 1 [t]):=ZdS hL (by omega) (by omega) (by omega)
  refine Zag (Zfb (ZbV 5 lo hi (some ⟨b4,0,none⟩) 1 [t]) (m1.add b4 t.cs) kQ) ZaB (ZbH λt' m2 aP hr' ht'=>?_)
  exact⟨m2,mLt bE aP,Mem.le_refl _,t',rfl,hr',.inr (.inr (.inr ⟨_,_,ht'.1⟩)),ht'.2.less bE⟩
end Go.Proofs.Ytfgfahnakepegaa
set_option linter.unusedVariables false
set_option linter.unusedSimpArgs false
set_option linter.unusedSectionVars false
namespace Go.Proofs.Ytfgfahnakepegaa
open Go Go.Eng Go.Rx Go.Proofs Go.RowKit
set_option maxRecDepth 100000
def Zzu(L:List T):Value->Mem->List (List Value)->Prop:=λv m' _=>∃a c,v=.slice a L.length c/\RepL m' a L/\L.length<=c
theorem ZjE{L:List T}:∀(v:Value)(m':Mem) (css:List (List Value)),Zzu L v m' css->Shape.fits .slice v=true:=λv _ _ ⟨a,c,e,_⟩=>by rw[e];rfl
theorem Zgx{m:Mem}{a:Option Addr}{L:List T}(h:RepL m a L)(n:Nat):RepL m a (L.take n):=by
 have aR:=ZaL h
 refine ZdU (ZwL (r:=L.drop n) (by rw[List.take_append_drop];exact aR)) (λx hx=>ZbC h x (List.mem_of_mem_take hx)) ?_
 have:=h.1
 rw[List.length_take];omega
theorem Zl2{m:Mem}{a:Option Addr}{L:List T}(h:RepL m a L){i c:Nat}(hi:i<=L.length)(hc:L.length<=c):RepL m (ZaM a i c 8) (L.drop i):=by
 have aR:=ZaL h
 refine ZdU ?_ (λx hx=>ZbC h x (List.mem_of_mem_drop hx)) (by have:=h.1;rw[List.length_drop];omega)
 by_cases hz:L.drop i=[]
 ·left;rw[hz];rfl
 have aS:i < L.length:=by
  apply Classical.byContradiction
  intro hn
  exact hz (List.drop_eq_nil_of_le (by omega))
 rcases aR with aR|⟨b,o,ha,bC⟩
 ·have:=congrArg List.length aR
  rw[ZaJ]at this
  simp only[List.length_nil]at this
  omega
 right
 subst ha
 have hs:ZaM (some ⟨b,o,none⟩) i c 8=some ⟨b,o+i*8,none⟩:=by
  unfold ZaM
  cases i with
  | zero=>rfl
  | succ i=>
   have e1:Nat.beq (i+1) 0=false:=rfl
   have e2:Nat.beq c (i+1)=false:=by
    cases hb:Nat.beq c (i+1)with
    | false=>rfl
    | true=>have:=Nat.eq_of_beq_eq_true hb;omega
   rw[e1,e2]
   show some (Addr.add _ ((i+1)*8))=_
   rw[Zcx]
 refine⟨b,o+i*8,hs,λj v hj=>?_⟩
 have e:Rx.ZcA L=Rx.ZcA (L.take i)++Rx.ZcA (L.drop i):=by rw[<-Zcl,List.take_append_drop]
 have hl:(Rx.ZcA (L.take i)).length=i*8:=by rw[ZaJ,List.length_take,Nat.min_eq_left hi]
 have:=bC (i*8+j) v (by rw[e,List.getElem?_append_right (by omega),hl,Nat.add_sub_cancel_left];exact hj)
 rwa [Nat.add_assoc]
theorem Zts(t:T)(m:Mem)(hr:Rep m t)(hc:t.subs.length<=t.c):CX Try.prog 53 #[t.v] m [] (Zzu (Zao t)):=by
 apply ZjS
 unfold ZfG
 intro b m1 aO bC
 refine Zab (λhk=>?_) (λhk=>Zab (λeO=>?_) (λeO=>?_))
 ·have hk':t.k=2:=by simpa using hk
  intro b2 nS
  refine⟨_,mLt aO (Mem.le_add nS t.cs),Mem.le_refl _,some ⟨b2,0,none⟩,1,?_,?_,?_⟩
  ·unfold Zao;rw[if_pos hk'];rfl
  ·unfold Zao;rw[if_pos hk']
   exact ZoX (λj v hj=>by rw[Nat.zero_add,Mem.add_same];exact hj) (hr.mono (mLt aO (Mem.le_add nS t.cs)))
  ·unfold Zao;rw[if_pos hk'];simp
 ·have hk':t.k=3:=by simpa using eO
  have dC:¬t.k=2:=by omega
  have bJ:=(hr.mono aO).subs
  have iT:∀x∈t.subs,∀m',m1.le m'->Rep m' x->CX Try.prog 88 (x.v::[]).toArray m' [] (Ret (.bool (!x.isC))):=by
   intro x _ m' _ _
   apply ZhJ
   unfold Zeq
   intro b m2 aP _
   exact Zaj aP rfl
  have uR:=Ziz t.subs t.a t.c 88 [] (λx=>!x.isC) m1 bJ.1 bJ.2 iT
  have uS:Zao t=t.subs.take (t.subs.findIdx λx=>!x.isC):=by
   unfold Zao
   rw[if_neg dC,if_pos hk']
   exact List.takeWhile_eq_take_findIdx_not
  refine Zc4 uR λm2 aP=>?_
  have jA:=bJ.mono aP
  cases eM:t.subs.any (λx=>!x.isC)with
  | false=>
   rw[if_neg (by simp)]
   have aV:Zao t=t.subs:=by
    rw[uS]
    have:t.subs.findIdx (λx=>!x.isC)=t.subs.length:=by
     rw[List.findIdx_eq_length]
     intro x hx
     have:=List.any_eq_false.1 eM x hx
     simpa using this
    rw[this,List.take_length]
   refine ZvM rfl ⟨_,mLt aO aP,Mem.le_refl _,?_⟩
   rw[aV]
   exact⟨_,_,rfl,jA,hc⟩
  | true=>
   rw[if_pos rfl]
   have bE:t.subs.findIdx (λx=>!x.isC)<=t.subs.length:=List.findIdx_le_length
   refine ZnB (decide_eq_false (by omega)) ⟨⟨by omega,by omega⟩,_,mLt aO aP,Mem.le_refl _,?_⟩
   have aU:(Zao t).length=t.subs.findIdx (λx=>!x.isC):=by rw[uS,List.length_take,Nat.min_eq_left bE]
   refine⟨ZaM t.a 0 t.c 8,t.c - 0,?_,?_,by omega⟩
   ·rw[aU];simp
   ·rw[uS];exact Zgx jA _
 ·have dC:¬t.k=2:=by simpa using hk
  have pH:¬t.k=3:=by simpa using eO
  refine⟨_,aO,Mem.le_refl _,none,0,?_,?_,?_⟩
  ·unfold Zao;rw[if_neg dC,if_neg pH];rfl
  ·unfold Zao;rw[if_neg dC,if_neg pH];exact⟨by simp,.inl rfl⟩
  ·unfold Zao;rw[if_neg dC,if_neg pH];simp
theorem Zyw(t:T)(n:Nat)(m:Mem)(hr:Rep m t)(hg:t.good=true)(hz:t.nodes.length<=900)(hc:t.subs.length<=t.c)(hn:n<=(Zao t).length):CX Try.prog 115 #[t.v,.int .i64 n] m [] (Zdx λt'=>t'.er=Zbm n t/\t'.caps):=by
 apply ZjT
 unfold ZfH
 intro b m1 aO bC b2
 refine Zab (λhk=>?_) (λhk=>?_)
 ·have hk':t.k=2:=by simpa using hk
  have h:=ZuV [] none 0 m1 ⟨by simp,.inl rfl⟩ (by simp) (by simp)
  refine Zag h ZaB (ZbH λt' m2 aP hr' ⟨a,c,hj⟩=>?_)
  refine⟨m2,mLt aO aP,Mem.le_refl _,t',rfl,hr',?_,ZcZ ZkP hj⟩
  have hj:t'=T1:=hj
  unfold Zbm
  rw[if_pos hk',hj];rfl
 ·have dC:¬t.k=2:=by simpa using hk
  have bE:n<=t.subs.length:=by
   unfold Zao at hn
   rw[if_neg dC]at hn
   split at hn
   ·exact Nat.le_trans hn (List.takeWhile_sublist _).length_le
   ·simp at hn;omega
  have hd:=Zl2 (hr.mono aO).subs bE hc
  have fY:∀x∈t.subs.drop n,x.good=true:=λx hx=>(Zal hg).2 x (List.mem_of_mem_drop hx)
  have bA:szL (t.subs.drop n)<=900:=by
   have:=Zcy t.subs n
   rw[Zcr]at hz
   omega
  have dG:∀x∈t.subs.drop n,x.clean=true:=λx hx=>Za6 (fY x hx) (by have:=Zbz hx;omega)
  have gE:(t.subs.drop n).length=t.subs.length - n:=List.length_drop
  have h:=ZuV (t.subs.drop n) (ZaM t.a n t.c 8) (t.c - n) m1 hd (by have:=ZbN (t.subs.drop n);omega) dG
  rw[gE]at h
  refine⟨⟨by omega,by omega⟩,?_⟩
  simp only[Int.toNat_natCast]
  refine Zag h ZaB (ZbH λt' m2 aP hr' ⟨a,c,hj⟩=>?_)
  refine⟨m2,mLt aO aP,Mem.le_refl _,t',rfl,hr',?_,ZcZ ZkP hj⟩
  unfold Zbm
  rw[if_neg dC]
  exact ZlF fY (by omega) hj
theorem ZiF(t:T)(m:Mem)(hr:Rep m t):CX Try.prog 50 #[t.v] m [] (Ret (.bool (t.clean&&decide (t.size<=120)))):=by
 apply Zit
 unfold Ze9
 intro b m1 aO bC
 refine⟨t.clean&&decide (t.size<=120),Zak (ZjC t m1 (hr.mono aO)) λm2 aP=>Zab (λh=>?_) (λh=>?_),Zaj aO rfl⟩
 ·refine Zc4 (ZnA t m2 (hr.mono (mLt aO aP))) λm3 aX=>⟨rfl,?_⟩
  rw[h];rfl
 ·exact⟨rfl,by rw[h];rfl⟩
theorem Zeh{L R:List T}{n:Nat}{x y:T}(hx:L[n]?=some x)(hy:R[n]?=some y)(h:n<=ZaK L R):(n < ZaK L R↔ZcG x y=true):=by
 induction n generalizing L R with
 | zero=>
  match L,R with
  | [],_=>simp at hx
  | _::_,[]=>simp at hy
  | a::l,b::r=>
   simp at hx hy
   subst hx hy
   unfold ZaK
   cases hs:ZcG a b <;> simp
 | succ n ih=>
  match L,R with
  | [],_=>simp at hx
  | _::_,[]=>simp at hy
  | a::l,b::r=>
   simp at hx hy
   unfold ZaK at h ⊢
   split at h
   ·rename_i hs
    rw[if_pos hs]
    have:=ih hx hy (by omega)
    rw[<-this];omega
   ·omega
theorem ZqC{m:Mem}{b o:Nat}{t:T}(h:m.reads b o t.cs):m.reads b (o+1) [.int .u64 t.s0,.int .u64 t.s1,.int .u64 t.s2,.int .u64 t.s3]:=by
 intro j v hj
 have aS:j < 4:=(List.getElem?_eq_some_iff.1 hj).1
 rw[show o+1+j=o+(1+j) by omega]
 refine h (1+j) v ?_
 have e:j=0\/j=1\/j=2\/j=3:=by omega
 rcases e with rfl|rfl|rfl|rfl <;> exact hj
theorem ZuX(L R:List T)(a1 a2:Option Addr)(c1 c2:Nat)(m:Mem)(hL:RepL m a1 L)(hR:RepL m a2 R):CX Try.prog 98 #[.slice a1 L.length c1,.slice a2 R.length c2] m [] (Ret (.int .i64 (ZaK L R:Nat))):=by
 apply ZhK
 unfold Zer
 have yI:=ZaL hL
 have yJ:=ZaL hR
 have dG:=Zcg L R
 have h1:=hL.1
 refine⟨λxs css tvs m' q=>∃i:Nat,i<=ZaK L R/\xs=[.int .i64 i]/\q=ZaK L R - i,⟨_,0,by omega,rfl,rfl⟩,?_⟩
 rintro z m1 q aO ⟨i,hi,bB,hq⟩
 obtain rfl:z=i:=by simpa using bB
 have hw:i < L.length->IntKind.i64.wrap ((i:Int)+1)=((i+1:Nat):Int):=λh=>by rw[ZaA (by omega) (by omega)];rfl
 refine⟨decide (i < ZaK L R),Zab (λaS=>Zab (λeK=>?_) (λmS=>?_)) (λbR=>?_),Zab (λh=>?_) (λh=>?_)⟩
 ·have aQ:i < L.length:=by have:=of_decide_eq_true aS;omega
  have iE:i < R.length:=by have:=of_decide_eq_true eK;omega
  obtain⟨x,hx⟩:=Zb2 aQ
  obtain⟨y,hy⟩:=Zb2 iE
  obtain⟨b0,o0,eL,eA⟩:=ZcH (yI.mono aO) hx
  obtain⟨b2,o2,kF,mT⟩:=ZcH (yJ.mono aO) hy
  refine⟨b0,o0,eL,⟨by omega,by omega⟩,_,_,_,_,ZqC eA,b2,o2,kF,⟨by omega,by omega⟩,_,_,_,_,ZqC mT,_,Zr0 _ _ _ _ _ _ _ _,Zbu ?_⟩
  have:=Zeh hx hy hi
  rw[Bool.eq_iff_iff,decide_eq_true_iff,this]
  unfold ZcG
  simp[and_assoc]
 ·have:¬i < R.length:=λh=>by have:=of_decide_eq_false mS;omega
  rw[decide_eq_false (by omega)]
 ·have:¬i < L.length:=λh=>by have:=of_decide_eq_false bR;omega
  rw[decide_eq_false (by omega)]
 ·have aS:=of_decide_eq_true h
  rw[hw (by omega)]
  exact⟨ZaK L R - (i+1),by omega,i+1,by omega,rfl,rfl⟩
 ·have:i=ZaK L R:=by have:=of_decide_eq_false h;omega
  subst this
  exact⟨m1,aO,Mem.le_refl _,rfl⟩
def FnR(g:Nat)(t:T):Value->Mem->List (List Value)->Prop:=λv m' _=>∃b,v=.func (.func g) #[] #[Zed b]/\m'.reads b 0 t.cs
theorem Zl3{g:Nat}{t:T}:∀(v:Value)(m':Mem) (css:List (List Value)),FnR g t v m' css->Shape.fits .fn v=true:=λv _ _ ⟨b,e,_⟩=>by rw[e];rfl
theorem Zyx(t:T)(m:Mem):CX Try.prog 97 #[t.v] m [] (FnR 112 t):=by
 apply ZjW
 unfold ZfJ
 intro b m1 aO bC
 exact⟨m1,aO,Mem.le_refl _,b,rfl,bC⟩
theorem Ztt(t:T)(m:Mem):CX Try.prog 72 #[t.v] m [] (FnR 96 t):=by
 apply ZjV
 unfold ZfI
 intro b m1 aO bC
 exact⟨m1,aO,Mem.le_refl _,b,rfl,bC⟩
def Zvp(c:C4):List Value:=[c.v]
set_option maxHeartbeats 1600000 in
theorem Ztu(t:T)(m:Mem)(c0b:Nat)(bC:m.reads c0b 0 t.cs)(hr:Rep m t)(dJ:t.caps)(hz:t.nodes.length<=100000):IX Try.prog 96 [] [Zed c0b] m (t.cuts.map Zvp):=by
 apply ZhL 0 [] [] c0b 0
 unfold Zes
 intro l b m1 aO eZ b1
 refine⟨_,_,_,_,_,_,_,_,λj v hj=>aO _ _ _ (bC j v hj),Zag (Zyx t m1) Zl3 ?_⟩
 rintro g fi ca m2 aP ⟨nb,hv,iP⟩
 obtain⟨rfl,rfl,rfl⟩:=ZeE hv
 have dN:=hr.mono (mLt aO aP)
 generalize yK:t.cuts.map Zvp=XS
 refine⟨_,Zys t m2 nb iP dN,λx hx=>?_,λxs css tvs m' q=>∃y:Nat,xs=[.int .i64 y]/\css=[[.int .i64 q]]/\y<=XS.length/\XS.drop y=(Ze6 q (t.alts.drop q)).map Zvp,⟨0,rfl,rfl,by omega,?_⟩,?_,?_⟩
 ·obtain⟨a,_,rfl⟩:=List.mem_map.1 hx
  exact Zrz a
 ·rw[List.drop_zero,List.drop_zero,<-yK];rfl
 ·rintro y0 k s0 s1 s2 s3 mn mx aa nn cc cs m3 n8 aX dF ⟨y,bB,cK,wO,fI⟩ b2
  obtain rfl:y0=y:=by simpa using bB
  obtain rfl:cs=[.int .i64 n8]:=by simpa using cK
  have dF:(t.alts.map λa=>[a.v])[n8]?=some [.agg #[.int .u8 k,.int .u64 s0,.int .u64 s1,.int .u64 s2,.int .u64 s3,.int .i64 mn,.int .i64 mx,.slice aa nn cc]]:=dF
  rw[List.getElem?_map]at dF
  obtain⟨al,iC,he⟩:=Option.map_eq_some_iff.1 dF
  simp only[T.v,Value.agg.injEq,Array.mk.injEq,List.cons.injEq,Value.int.injEq,Value.slice.injEq,true_and,and_true]at he
  obtain⟨rfl,rfl,rfl,rfl,rfl,rfl,rfl,rfl,rfl,rfl⟩:=he
  have bQ:=Zo1 t al (List.mem_of_getElem? iC)
  have uT:=(Zlz dN bQ.1).mono aX
  have wQ:=ZrF dJ bQ.1
  have bJ:=uT.subs
  have aU:=bJ.1
  have aR:=ZaL bJ
  have cA:=ZbC bJ
  have uU:t.alts.drop n8=al::t.alts.drop (n8+1):=by
   obtain⟨h1,h2⟩:=List.getElem?_eq_some_iff.1 iC
   rw[List.drop_eq_getElem_cons h1,h2]
  generalize gD:Ze6 (n8+1) (t.alts.drop (n8+1))=rest
  refine⟨λxs css tvs m' q=>∃y f:Nat,xs=[.int .i64 y,.int .i64 f]/\f<=al.subs.length/\y<=XS.length/\XS.drop y=(ZeG n8 f (al.subs.drop f)++rest).map Zvp/\q=al.subs.length - f,⟨_,y,0,rfl,by omega,wO,?_,rfl⟩,?_⟩
  ·rw[fI,uU,Ze6,gD];rfl
  rintro y1 f0 m4 q4 bK ⟨y1',f,rQ,hf,rR,iW,tU⟩
  simp only[List.cons.injEq,Value.int.injEq,true_and,and_true]at rQ
  obtain⟨rfl,rfl⟩:=rQ
  refine Zab (λaS=>?_) (λbR=>?_)
  ·have aQ:f < al.subs.length:=by have:=of_decide_eq_true aS;omega
   obtain⟨x,hx⟩:=Zb2 aQ
   obtain⟨b0,o0,eL,eA⟩:=ZcH (aR.mono bK) hx
   have cN:=List.mem_of_getElem? hx
   have yL:al.subs.drop f=x::al.subs.drop (f+1):=by
    obtain⟨h1,h2⟩:=List.getElem?_eq_some_iff.1 hx
    rw[List.drop_eq_getElem_cons h1,h2]
   have mC:IntKind.i64.wrap ((f:Int)+1)=((f+1:Nat):Int):=by rw[ZaA (by omega) (by omega)];rfl
   have fB:IntKind.i64.wrap ((f:Int)+2)=((f+2:Nat):Int):=by rw[ZaA (by omega) (by omega)];rfl
   simp only[mC,fB]
   refine⟨b0,o0,eL,⟨by omega,by omega⟩,_,_,_,_,_,_,_,_,eA,Zag (Zts x m4 ((cA x cN).mono bK) (Zjr (Zg2 wQ cN))) ZjE ?_⟩
   rintro a6 n11 c1 m5 cU ⟨a6',c1',rS,hS,yM⟩
   simp only[Value.slice.injEq]at rS
   obtain⟨rfl,rfl,rfl⟩:=rS
   have uV:=mLt bK cU
   generalize nT:ZeG n8 (f+1) (al.subs.drop (f+1))++rest=next
   refine⟨λxs css tvs m' q=>∃(y to:Nat)(s:List T)(a:Option Addr)(c:Nat),xs=[.int .i64 y,.slice a s.length c,.int .i64 to]/\f+2<=to/\to<=al.subs.length+1/\RepL m' a s/\s.length<=c/\y<=XS.length/\XS.drop y=(runE n8 f s to (al.subs.drop (to - 1))++next).map Zvp/\q=al.subs.length+1 - to,⟨_,y1',f+2,Zao x,a6,c1,rfl,by omega,by omega,hS,yM,rR,?_,rfl⟩,?_⟩
   ·rw[iW,yL,ZeG,<-nT,List.append_assoc];rfl
   rintro y2 a9 n12 c2 to0 m6 q6 dU ⟨y2',to,s,a9',c2',rT,yN,uW,hs,AI,uX,eB,AJ⟩
   simp only[List.cons.injEq,Value.int.injEq,Value.slice.injEq,true_and,and_true]at rT
   obtain⟨rfl,⟨rfl,rfl,rfl⟩,rfl⟩:=rT
   have wR:=mLt uV dU
   have nU:∀m':Mem,XS.drop y2'=next.map Zvp->∃n':Nat,n' < q4/\∃y f':Nat,([.int .i64 y2',.int .i64 ((f+1:Nat):Int)]:List Value)=[.int .i64 y,.int .i64 f']/\f'<=al.subs.length/\y<=XS.length/\XS.drop y=(ZeG n8 f' (al.subs.drop f')++rest).map Zvp/\n'=al.subs.length - f':=λm' h=>⟨al.subs.length - (f+1),by omega,y2',f+1,rfl,by omega,uX,by rw[h,<-nT],rfl⟩
   refine Zab (λbE=>?_) (λiN=>?_)
   ·have rU:to<=al.subs.length:=by have:=of_decide_eq_true bE;omega
    obtain⟨z,hz⟩:=Zb2 (l:=al.subs) (k:=to - 1) (by omega)
    obtain⟨b4,o4,yO,pI⟩:=ZcH (aR.mono wR) hz
    have wS:=List.mem_of_getElem? hz
    have yP:al.subs.drop (to - 1)=z::al.subs.drop to:=by
     obtain⟨h1,h2⟩:=List.getElem?_eq_some_iff.1 hz
     rw[List.drop_eq_getElem_cons h1,h2,show to - 1+1=to by omega]
    have yQ:IntKind.i64.wrap ((to:Int) - 1)=((to - 1:Nat):Int):=by rw[ZaA (by omega) (by omega)];omega
    have yR:IntKind.i64.wrap ((to:Int)+1)=((to+1:Nat):Int):=by rw[ZaA (by omega) (by omega)];rfl
    simp only[yQ,yR]
    refine⟨b4,o4,yO,⟨by omega,by omega⟩,_,_,_,_,_,_,_,_,pI,Zag (Zts z m6 ((cA z wS).mono wR) (Zjr (Zg2 wQ wS))) ZjE ?_⟩
    rintro a12 n15 c3 m7 dA ⟨a12',c3',rV,hZ,AK⟩
    simp only[Value.slice.injEq]at rV
    obtain⟨rfl,rfl,rfl⟩:=rV
    refine Zc4 (ZuX s (Zao z) a9 a12 c2 c3 m7 (hs.mono dA) hZ) λm8 iO=>?_
    have qW:=Zcg s (Zao z)
    rw[yP,runE]at eB
    generalize ZaK s (Zao z)=kk at *
    refine⟨⟨by omega,by omega⟩,Zab (λjK=>?_) (λjK=>?_)⟩
    ·have jK:kk=0:=by have:=eq_of_beq jK;omega
     rw[if_pos jK,List.nil_append]at eB
     exact⟨trivial,nU m8 eB⟩
    ·have jK:¬kk=0:=λe=>by subst e;simp at jK
     rw[if_neg jK,List.cons_append,List.map_cons]at eB
     obtain⟨iT,rf⟩:=Zuv eB
     have eK:=(List.getElem?_eq_some_iff.1 iT).1
     refine Zas (v:=.int .i64 n8) rfl (Zaa rfl (Zaa rfl (Zaa rfl (Zaa rfl ⟨⟨trivial,by omega,?_⟩,⟨trivial,al.subs.length+1 - (to+1),by omega,y2'+1,to+1,s.take kk,ZaM a9 0 c2 8,c2 - 0,?_,by omega,by omega,Zgx ((hs.mono dA).mono iO) kk,?_,by omega,?_,rfl⟩,trivial,.inr trivial⟩))))
     ·rw[Int.toNat_natCast]
      exact iT.trans rfl
     ·simp[List.length_take,Nat.min_eq_left qW.1]
     ·rw[List.length_take];omega
     ·rw[rf];rfl
   ·have rU:to=al.subs.length+1:=by have:=of_decide_eq_false iN;omega
    subst rU
    rw[Nat.add_sub_cancel,List.drop_length,runE,List.nil_append]at eB
    exact⟨trivial,nU m6 eB⟩
  ·have yS:f=al.subs.length:=by have:=of_decide_eq_false bR;omega
   subst yS
   rw[List.drop_length,ZeG,List.nil_append]at iW
   refine Zas (v:=.int .i64 n8) rfl (Zaa rfl ⟨rfl,y1',rfl,?_,rR,by rw[iW,<-gD]⟩)
   have AL:n8 < t.alts.length:=(List.getElem?_eq_some_iff.1 iC).1
   have yU:=Zs7 t
   rw[show RowKit.intOf (.int .i64 (n8:Int))=(n8:Int) from rfl,ZaA (by omega) (by omega)];rfl
 ·rintro y0 cs m3 aX ⟨y,bB,_,wO,fI⟩
  obtain rfl:y0=y:=by simpa using bB
  rw[List.length_map,List.drop_length,Ze6,List.map_nil]at fI
  have:=congrArg List.length fI
  rw[List.length_drop]at this
  simp at this
  exact .inl (by omega)
end Go.Proofs.Ytfgfahnakepegaa
set_option linter.unusedVariables false
namespace Go.Proofs.Ytfgfahnakepegaa
open Go Go.Eng Go.Proofs Go.RowKit
open Go.Value (int slice agg bool string tuple func)
open Go.IntKind (u8 u64 i64)
set_option maxRecDepth 100000
noncomputable def Zch:Env:={ EB with
 loops:=(λi=>bif Nat.beq i 3 then⟨[(3,.int .i64),(11,.int .i64)],[],[],false⟩ else bif Nat.beq i 11 then⟨[(6,.slice),(27,.int .i64)],[],[(33,8)],false⟩ else⟨[],[],[],false⟩)
 tokOf:=(λi=>bif Nat.beq i 33 then 33 else 0)
 tokC:=(λi=>bif Nat.beq i 24 then some (33,8)else none) }
def Zbi(p0a:Option Addr)(p0n p0c:Nat)(m:Mem)(R:RT):Prop:=
 ∃(I:IT),(∃(n:Nat),I [int i64 0,int i64 0] [] [] m n)/\∀(n n_1:Int)(m':Mem)(n_2:Nat),Mem.le m m'->I [int i64 n,int i64 n_1] [] [] m' n_2->br (decide (n_1 < (↑p0n:Int))) (∃(b:Nat),∃(o:Nat),
 p0a=some (Addr.mk b o none)/\Zad n_1 p0n/\∃(v:Value),m' b (o+Int.toNat n_1*1)=some v/\chk (Zcn v) (br (decide (IntKind.wrap i64 (n+(↑(slN v):Int)) < (0:Int))) False (∃(n':Nat),n' < n_2/\I
 [int i64 (IntKind.wrap i64 (n+(↑(slN v):Int))),int i64 (IntKind.wrap i64 (n_1+(1:Int)))] [] [] m' n'))) (∃(R_1:RT),CXT Try.prog 123 (Array.mk [slice none 0 0,int i64 n]) m' 8 R_1/\Zau Shape.slice R_1/\∀
 (a:Option Addr) (n c:Nat) (m'_1:Mem),Mem.le m' m'_1->R_1 (slice a n c) m'_1 []->∃(I:IT),(∃(n_3:Nat),I [slice a n c,int i64 0] [] [slice a n c] m'_1 n_3)/\∀(a:Option Addr)(n c:Nat)(n_3:Int)
 (a_3:Option Addr) (n_4 c_1:Nat) (m':Mem) (n_5:Nat),Mem.le m'_1 m'->I [slice a n c,int i64 n_3] [] [slice a_3 n_4 c_1] m' n_5->br (decide (n_3 < (↑p0n:Int))) (∃(b:Nat),∃(o:Nat),p0a=some (Addr.mk b
 o none)/\Zad n_3 p0n/\∃(v:Value),m' b (o+Int.toNat n_3*1)=some v/\chk (Zcn v&&true) ((Tok.mk (slice a_3 n_4 c_1) 8=Tok.mk (slice a n c) 8\/slice a n c=slice none 0 0\/c < n+slN v)/\∃(xs:
 List Value),∃(ys:List Value),List.length xs=n*8/\List.length ys=slN v*8/\rowRd m' a xs/\rowRd m' (slA v) ys/\(∀(u:Value),u∈ys->Value.oneCell' u=true)/\(n+slN v)*80<=140737488355328/\n +
 slN v<=9223372036854775807/\∀(a':Option Addr)(c':Nat)(m'_2:Mem),Mem.le m' m'_2->rowRd m'_2 a' (List.append xs ys)->([none]:List (Option Tok))=[none]/\∃(n':Nat),n' < n_5/\I [slice a' (n+slN v)
 c',int i64 (IntKind.wrap i64 (n_3+(1:Int)))] [] [slice a' (n+slN v) c'] m'_2 n')) (∃(m'':Mem),Mem.le m m''/\Mem.le m'' m'/\R (slice a n c) m'' []))
theorem Zb5(p0a:Option Addr)(p0n p0c:Nat)(m:Mem)(R:RT)(h:Zbi p0a p0n p0c m R):CX Try.prog 116 #[.slice p0a p0n p0c] m [] R:=
 Zaf (E:=Zch) ZaH mix Try.func116 [.v (.slice p0a p0n p0c)] [] (by kernel_rfl) (Eq.mp (by kernel_rfl) h)
noncomputable def Zon:Env:={ EB with
 loops:=(λi=>bif Nat.beq i 4 then⟨[(5,.slice),(6,.bool),(19,.int .i64)],[],[(37,8)],false⟩ else⟨[],[],[],false⟩)
 joins:=(λi=>bif Nat.beq i 7 then some [(33,.bool)]else bif Nat.beq i 9 then some [(6,.bool)]else none)
 dr:=(λi=>bif Nat.beq i 11 then[⟨0,[],[],none,[],[]⟩,⟨1,[3],[],none,[],[]⟩,⟨2,[3],[],none,[1],[]⟩,⟨3,[],[],none,[0,1,2],[]⟩,⟨4,[],[],none,[0,1,2,3],[]⟩,⟨5,[],[],none,[0,1,2,3,4],[]⟩,⟨6,[3],[],none,[],[]⟩,⟨7,[3],[],none,[6],[]⟩,⟨8,[],[],none,[0,1,2,3,4,5,6,7],[]⟩]else bif Nat.beq i 13 then[⟨0,[],[],none,[],[]⟩,⟨1,[3],[],none,[],[]⟩,⟨2,[3],[],none,[1],[]⟩,⟨3,[],[],none,[0,1,2],[]⟩,⟨4,[11],[],none,[],[]⟩,⟨5,[66],[66],none,[4],[]⟩,⟨6,[],[],none,[],[]⟩,⟨7,[3],[],none,[],[]⟩,⟨8,[3],[],none,[7],[]⟩,⟨9,[],[],none,[6,7,8],[]⟩,⟨10,[66,71],[71],none,[0,1,2,3,4,5,6,7,8,9],[5]⟩,⟨11,[71],[71],none,[0,1,2,3,4,5,6,7,8,9,10],[10]⟩,⟨12,[],[],none,rg 0 12,[]⟩]else[])
 tokOf:=(λi=>bif Nat.beq i 37 then 37 else bif Nat.beq i 59 then 59 else 0)
 frzNew:=[3]
 last:=(λi=>bif Nat.beq i 11 then true else false)
 lastK:=(λi=>bif Nat.beq i 11 then 2 else 1)
 tokC:=(λi=>bif Nat.beq i 54 then some (59,8)else none) }
def Zhd(p0a:Option Addr)(p0n p0c:Nat)(aN aK aL aM:Int)(m:Mem)(R:RT):Prop:=
 ∀(b:Nat)(m':Mem),Mem.le m m'->Mem.reads m' b 0 [int i64 aN,int i64 aK,int i64 aL,int i64 aM]->((0:Int)<=aL/\aL<=(↑p0c:Int))/\((0:Int)<=aK/\aK<=(↑(Int.toNat aL):Int))/\∃(I:
 IT),(∃(n:Nat),I [slice none 0 0,bool false,int i64 0] [] [slice none 0 0] m' n)/\∀(a:Option Addr)(n c:Nat)(bd:Bool)(ba:Int)(aw:Option Addr)(ax ay:Nat)(az:Mem)(bf:Nat),Mem.le m' az->I
 [slice a n c,bool bd,int i64 ba] [] [slice aw ax ay] az bf->br (decide (ba < (↑(Int.toNat aL - Int.toNat aK):Int))) (∃(a0:Nat),∃(o:Nat),ZaM p0a (Int.toNat aK) p0c 8=some (Addr.mk a0 o none)/\
 Zad ba (Int.toNat aL - Int.toNat aK)/\∃(v:Value),∃(ak:Value),∃(al:Value),∃(am:Value),∃(an:Value),∃(ao:Value),∃(ap:Value),∃(aq:Value),Mem.reads az a0 (o+Int.toNat ba*8) [v,
 ak,al,am,an,ao,ap,aq]/\∀(au:Nat),chk (Value.oneCell' v&&(Value.oneCell' ak&&(Value.oneCell' al&&(Value.oneCell' am&&(Value.oneCell' an&&(Value.oneCell' ao&&(Value.oneCell' ap&&(Value.oneCell' aq
 && true)))))))) (∃(R:RT),True/\CX Try.prog 115 (Array.mk [agg (Array.mk [v,ak,al,am,an,ao,ap,aq]),int i64 aM]) az [] R/\Zau (shT) R/\∀(ab aa ac ad ae af ag:Int)(aj:Option Addr)(ah ai:Nat) (m'
 : Mem),Mem.le az m'->R (agg (Array.mk [int u8 ab,int u64 aa,int u64 ac,int u64 ad,int u64 ae,int i64 af,int i64 ag,slice aj ah ai])) m' []->∀(av:Nat),∃(bg:Bool),br (!ab == (1:Int)) ([some (Box.mk av
 [int u8 ab,int u64 aa,int u64 ac,int u64 ad,int u64 ae,int i64 af,int i64 ag,slice aj ah ai] 27 8 false true),some (Box.mk au [v,ak,al,am,an,ao,ap,aq] 27 8 false true),some (Box.mk b [int i64 aN,int
 i64 aK,int i64 aL,int i64 aM] 29 4 true true)]=[some (Box.mk av [int u8 ab,int u64 aa,int u64 ac,int u64 ad,int u64 ae,int i64 af,int i64 ag,slice aj ah ai] 27 8 false true),some (Box.mk au [v,ak,al,
 am,an,ao,ap,aq] 27 8 false true),some (Box.mk b [int i64 aN,int i64 aK,int i64 aL,int i64 aM] 29 4 true true)]/\[some (Tok.mk (slice aw ax ay) 8)]=[some (Tok.mk (slice aw ax ay) 8)]/\[bool true] =
 [bool bg]) ([some (Box.mk av [int u8 ab,int u64 aa,int u64 ac,int u64 ad,int u64 ae,int i64 af,int i64 ag,slice aj ah ai] 27 8 false true),some (Box.mk au [v,ak,al,am,an,ao,ap,aq] 27 8 false true),some
 (Box.mk b [int i64 aN,int i64 aK,int i64 aL,int i64 aM] 29 4 true true)]=[some (Box.mk av [int u8 ab,int u64 aa,int u64 ac,int u64 ad,int u64 ae,int i64 af,int i64 ag,slice aj ah ai] 27 8 false
 true),some (Box.mk au [v,ak,al,am,an,ao,ap,aq] 27 8 false true),some (Box.mk b [int i64 aN,int i64 aK,int i64 aL,int i64 aM] 29 4 true true)]/\[some (Tok.mk (slice aw ax ay) 8)]=[some (Tok.mk
 (slice aw ax ay) 8)]/\[bool !bd]=[bool bg])/\br bg (∀(ar:Nat),Mem.free m' ar->(Tok.mk (slice aw ax ay) 8=Tok.mk (slice a n c) 8\/slice a n c=slice none 0 0\/c < n+1)/\∃(xs:List Value),∃(ys:List
 Value),List.length xs=n*8/\List.length ys=1*8/\rowRd (Mem.add m' ar [int u8 ab,int u64 aa,int u64 ac,int u64 ad,int u64 ae,int i64 af,int i64 ag,slice aj ah ai]) a xs/\rowRd (Mem.add m' ar [int u8 ab,
 int u64 aa,int u64 ac,int u64 ad,int u64 ae,int i64 af,int i64 ag,slice aj ah ai]) (some (Addr.mk ar 0 none)) ys/\(∀(u:Value),u∈ys->Value.oneCell' u=true)/\(n+1)*80<=140737488355328/\n+1 <=
 9223372036854775807/\∀(a':Option Addr)(c':Nat)(a1:Mem),Mem.le (Mem.add m' ar [int u8 ab,int u64 aa,int u64 ac,int u64 ad,int u64 ae,int i64 af,int i64 ag,slice aj ah ai]) a1->rowRd a1 a' (List.append
 xs ys)->∃(bh:Bool),br bd ([some (Box.mk ar [int u8 ab,int u64 aa,int u64 ac,int u64 ad,int u64 ae,int i64 af,int i64 ag,slice aj ah ai] 27 8 true true),some (Box.mk av [int u8 ab,int u64 aa,int u64 ac,
 int u64 ad,int u64 ae,int i64 af,int i64 ag,slice aj ah ai] 27 8 false true),some (Box.mk au [v,ak,al,am,an,ao,ap,aq] 27 8 false true),some (Box.mk b [int i64 aN,int i64 aK,int i64 aL,int i64 aM]
 29 4 true true)]=[some (Box.mk ar [int u8 ab,int u64 aa,int u64 ac,int u64 ad,int u64 ae,int i64 af,int i64 ag,slice aj ah ai] 27 8 true true),some (Box.mk av [int u8 ab,int u64 aa,int u64 ac,int u64 ad,
 int u64 ae,int i64 af,int i64 ag,slice aj ah ai] 27 8 false true),some (Box.mk au [v,ak,al,am,an,ao,ap,aq] 27 8 false true),some (Box.mk b [int i64 aN,int i64 aK,int i64 aL,int i64 aM] 29 4 true
 true)]/\[some (Tok.mk (slice a' (n+1) c') 8),some (Tok.mk (slice a' (n+1) c') 8)]=[some (Tok.mk (slice a' (n+1) c') 8),some (Tok.mk (slice a' (n+1) c') 8)]/\[bool true]=[bool bh]) ([some (Box.mk ar [int
 u8 ab,int u64 aa,int u64 ac,int u64 ad,int u64 ae,int i64 af,int i64 ag,slice aj ah ai] 27 8 true true),some (Box.mk av [int u8 ab,int u64 aa,int u64 ac,int u64 ad,int u64 ae,int i64 af,int i64 ag,slice
 aj ah ai] 27 8 false true),some (Box.mk au [v,ak,al,am,an,ao,ap,aq] 27 8 false true),some (Box.mk b [int i64 aN,int i64 aK,int i64 aL,int i64 aM] 29 4 true true)]=[some (Box.mk ar [int u8 ab,int
 u64 aa,int u64 ac,int u64 ad,int u64 ae,int i64 af,int i64 ag,slice aj ah ai] 27 8 true true),some (Box.mk av [int u8 ab,int u64 aa,int u64 ac,int u64 ad,int u64 ae,int i64 af,int i64 ag,slice aj ah ai] 27
 8 false true),some (Box.mk au [v,ak,al,am,an,ao,ap,aq] 27 8 false true),some (Box.mk b [int i64 aN,int i64 aK,int i64 aL,int i64 aM] 29 4 true true)]/\[some (Tok.mk (slice a' (n+1) c') 8),some
 (Tok.mk (slice a' (n+1) c') 8)]=[some (Tok.mk (slice a' (n+1) c') 8),some (Tok.mk (slice a' (n+1) c') 8)]/\[bool (ab == (1:Int))]=[bool bh])/\[some (Box.mk b [int i64 aN,int i64 aK,int i64 aL,int
 i64 aM] 29 4 true true)]=[some (Box.mk b [int i64 aN,int i64 aK,int i64 aL,int i64 aM] 29 4 true true)]/\∃(n':Nat),n' < bf/\I [slice a' (n+1) c',bool bh,int i64 (IntKind.wrap i64 (ba+(1:
 Int)))] [] [slice a' (n+1) c'] a1 n') (∃(ar:Bool),br bd ([some (Box.mk av [int u8 ab,int u64 aa,int u64 ac,int u64 ad,int u64 ae,int i64 af,int i64 ag,slice aj ah ai] 27 8 false true),some (Box.mk au [v,
 ak,al,am,an,ao,ap,aq] 27 8 false true),some (Box.mk b [int i64 aN,int i64 aK,int i64 aL,int i64 aM] 29 4 true true)]=[some (Box.mk av [int u8 ab,int u64 aa,int u64 ac,int u64 ad,int u64 ae,int
 i64 af,int i64 ag,slice aj ah ai] 27 8 false true),some (Box.mk au [v,ak,al,am,an,ao,ap,aq] 27 8 false true),some (Box.mk b [int i64 aN,int i64 aK,int i64 aL,int i64 aM] 29 4 true true)]/\[some
 (Tok.mk (slice aw ax ay) 8)]=[some (Tok.mk (slice aw ax ay) 8)]/\[bool true]=[bool ar]) ([some (Box.mk av [int u8 ab,int u64 aa,int u64 ac,int u64 ad,int u64 ae,int i64 af,int i64 ag,slice aj ah ai] 27 8
 false true),some (Box.mk au [v,ak,al,am,an,ao,ap,aq] 27 8 false true),some (Box.mk b [int i64 aN,int i64 aK,int i64 aL,int i64 aM] 29 4 true true)]=[some (Box.mk av [int u8 ab,int u64 aa,int u64
 ac,int u64 ad,int u64 ae,int i64 af,int i64 ag,slice aj ah ai] 27 8 false true),some (Box.mk au [v,ak,al,am,an,ao,ap,aq] 27 8 false true),some (Box.mk b [int i64 aN,int i64 aK,int i64 aL,int i64
 aM] 29 4 true true)]/\[some (Tok.mk (slice aw ax ay) 8)]=[some (Tok.mk (slice aw ax ay) 8)]/\[bool (ab == (1:Int))]=[bool ar])/\[some (Box.mk b [int i64 aN,int i64 aK,int i64 aL,int i64 aM] 29 4
 true true)]=[some (Box.mk b [int i64 aN,int i64 aK,int i64 aL,int i64 aM] 29 4 true true)]/\∃(n':Nat),n' < bf/\I [slice a n c,bool ar,int i64 (IntKind.wrap i64 (ba+(1:Int)))] [] [slice aw ax ay]
 m' n'))) (∃(f:Fx),∃(b:Nat),∃(o:Nat),p0a=some (Addr.mk b o none)/\Zad aK p0n/\∃(v:Value),∃(ak:Value),∃(al:Value),∃(am:Value),∃(an:Value),∃(ao:Value),∃(ap:Value),∃(aq:
 Value),Mem.reads az b (o+Int.toNat aK*8) [v,ak,al,am,an,ao,ap,aq]/\∃(R_1:RT),R_1=f 5 [agg (Array.mk [v,ak,al,am,an,ao,ap,aq])] az/\CX Try.prog 53 (Array.mk [agg (Array.mk [v,ak,al,am,an,
 ao,ap,aq])]) az [] R_1/\Zau Shape.slice R_1/\∀(aj:Option Addr)(ab ai:Nat)(m':Mem),Mem.le az m'->R_1 (slice aj ab ai) m' []->((0:Int)<=aM/\aM<=(↑ai:Int))/\∀(M:Mem),Mem.le az M->Mem.le m'
 M->∃(R_2:RT),CXT Try.prog 109 (Array.mk [slice (ZaM aj 0 ai 8) (Int.toNat aM - 0) (ai - 0)]) M 8 R_2/\Zau Shape.slice R_2/\∀(bb:Option Addr)(aa bc:Nat)(m':Mem),Mem.le M m'->R_2 (slice bb aa bc)
 m' []->∃(R_3:RT),True/\CX Try.prog 16 (Array.mk [slice a n c]) m' [] R_3/\Zau (shT) R_3/\∀(n ac ad ae af ag ah:Int)(a:Option Addr)(be c:Nat)(a1:Mem),Mem.le m' a1->R_3 (agg (Array.mk [int u8 n,int
 u64 ac,int u64 ad,int u64 ae,int u64 af,int i64 ag,int i64 ah,slice a be c])) a1 []->∀(b:Nat),Mem.free a1 b->(Tok.mk (slice bb aa bc) 8=Tok.mk (slice bb aa bc) 8\/slice bb aa bc=slice none 0 0\/bc < aa
 + 1)/\∃(xs:List Value),∃(ys:List Value),List.length xs=aa*8/\List.length ys=1*8/\rowRd (Mem.add a1 b [int u8 n,int u64 ac,int u64 ad,int u64 ae,int u64 af,int i64 ag,int i64 ah,slice a be c])
 bb xs/\rowRd (Mem.add a1 b [int u8 n,int u64 ac,int u64 ad,int u64 ae,int u64 af,int i64 ag,int i64 ah,slice a be c]) (some (Addr.mk b 0 none)) ys/\(∀(u:Value),u∈ys->Value.oneCell' u=true)/\(aa+1) *
 80<=140737488355328/\aa+1<=9223372036854775807/\∀(a':Option Addr)(c':Nat)(m':Mem),Mem.le (Mem.add a1 b [int u8 n,int u64 ac,int u64 ad,int u64 ae,int u64 af,int i64 ag,int i64 ah,slice a be c]) m'
 -> rowRd m' a' (List.append xs ys)->∃(R_4:RT),True/\CX Try.prog 15 (Array.mk [slice a' (aa+1) c']) m' [] R_4/\Zau (shT) R_4/\∀(n a3 a4 a5 a6 a7 a8:Int)(a:Option Addr)(a9 c:Nat)(a2:Mem),Mem.le m'
 a2->R_4 (agg (Array.mk [int u8 n,int u64 a3,int u64 a4,int u64 a5,int u64 a6,int i64 a7,int i64 a8,slice a a9 c])) a2 []->∀(b:Nat),∃(f:Fx),((0:Int)<=aK/\aK<=(↑p0c:Int))/\∀(b:Nat),
 Mem.free a2 b->((0:Int)<=aL/\aL<=(↑p0n:Int))/\∀(a0:Nat),Mem.free (Mem.add a2 b [int u8 n,int u64 a3,int u64 a4,int u64 a5,int u64 a6,int i64 a7,int i64 a8,slice a a9 c]) a0->∃(R_5:RT),R_5 =
 f 11 [slice (some (Addr.mk a0 0 none)) 3 3] (Mem.add (Mem.add a2 b [int u8 n,int u64 a3,int u64 a4,int u64 a5,int u64 a6,int i64 a7,int i64 a8,slice a a9 c]) a0 [slice (ZaM p0a 0 p0c 8) (Int.toNat aK - 0)
 (p0c - 0),slice (some (Addr.mk b 0 none)) 1 1,slice (ZaM p0a (Int.toNat aL) p0c 8) (p0n - Int.toNat aL) (p0c - Int.toNat aL)])/\CX Try.prog 116 (Array.mk [slice (some (Addr.mk a0 0 none)) 3 3]) (Mem.add
 (Mem.add a2 b [int u8 n,int u64 a3,int u64 a4,int u64 a5,int u64 a6,int i64 a7,int i64 a8,slice a a9 c]) a0 [slice (ZaM p0a 0 p0c 8) (Int.toNat aK - 0) (p0c - 0),slice (some (Addr.mk b 0 none)) 1 1,slice
 (ZaM p0a (Int.toNat aL) p0c 8) (p0n - Int.toNat aL) (p0c - Int.toNat aL)]) [] R_5/\Zau Shape.slice R_5/\∀(bi:Option Addr)(bj bk:Nat)(m':Mem),Mem.le (Mem.add (Mem.add a2 b [int u8 n,int u64 a3,int
 u64 a4,int u64 a5,int u64 a6,int i64 a7,int i64 a8,slice a a9 c]) a0 [slice (ZaM p0a 0 p0c 8) (Int.toNat aK - 0) (p0c - 0),slice (some (Addr.mk b 0 none)) 1 1,slice (ZaM p0a (Int.toNat aL) p0c 8) (p0n -
 Int.toNat aL) (p0c - Int.toNat aL)]) m'->R_5 (slice bi bj bk) m' []->∀(M:Mem),Mem.le a2 M->Mem.le (Mem.add a2 b [int u8 n,int u64 a3,int u64 a4,int u64 a5,int u64 a6,int i64 a7,int i64 a8,slice a a9
 c]) M->Mem.le (Mem.add (Mem.add a2 b [int u8 n,int u64 a3,int u64 a4,int u64 a5,int u64 a6,int i64 a7,int i64 a8,slice a a9 c]) a0 [slice (ZaM p0a 0 p0c 8) (Int.toNat aK - 0) (p0c - 0),slice (some (Addr.mk
 b 0 none)) 1 1,slice (ZaM p0a (Int.toNat aL) p0c 8) (p0n - Int.toNat aL) (p0c - Int.toNat aL)]) M->Mem.le m' M->∃(m'':Mem),Mem.le m m''/\Mem.le m'' M/\R (slice bi bj bk) m'' [])
theorem Zl4(p0a:Option Addr)(p0n p0c:Nat)(aN aK aL aM:Int)(m:Mem)(R:RT)(h:Zhd p0a p0n p0c aN aK aL aM m R):CX Try.prog 100 #[.slice p0a p0n p0c,.agg #[.int .i64 aN,.int .i64 aK,.int .i64 aL,.int .i64 aM]] m [] R:=
 Zaf (E:=Zon) ZaH mix Try.func100 [.v (.slice p0a p0n p0c),.v (.agg #[.int .i64 aN,.int .i64 aK,.int .i64 aL,.int .i64 aM])] [] (by kernel_rfl) (Eq.mp (by kernel_rfl) h)
noncomputable def ZiG:Env:={ EB with
 loops:=(λi=>bif Nat.beq i 8 then⟨[(7,.slice),(29,.int .i64)],[100000],[(38,8)],false⟩ else⟨[],[],[],false⟩)
 dr:=(λi=>bif Nat.beq i 18 then[⟨0,[],[],none,[],[]⟩,⟨1,[],[],none,[0],[]⟩,⟨2,[],[],none,[0,1],[]⟩,⟨3,[4],[],none,[],[]⟩,⟨4,[4],[],none,[3],[]⟩,⟨5,[4],[],none,[],[]⟩,⟨6,[4],[],none,[5],[]⟩,⟨7,[],[],none,[0,1,2,3,4,5,6],[]⟩,⟨8,[5],[5],none,[0,1,2,3,4,5,6,7],[]⟩]else[])
 tokOf:=(λi=>bif Nat.beq i 38 then 38 else 0)
 borrow:=(λi=>bif Nat.beq i 36 then[100000]else[])
 frzNew:=[4]
 tokC:=(λi=>bif Nat.beq i 26 then some (38,8)else none)
 cuts:=(λi=>bif Nat.beq i 6 then some ⟨[(6,.slice)],[100000],[],false⟩ else none)
 ldF:=(λi=>bif Nat.beq i 34 then some (some false)else none) }
def Zeu(aD aE aF aG aJ aH aI:Int)(aB:Option Addr)(aA aC c0b:Nat)(c0_0:Int)(c1b c1o c2b c2o:Nat)(m:Mem)(R:RT):Prop:=
 ∀(b:Nat)(m':Mem),Mem.le m m'->Mem.reads m' b 0 [int u8 aD,int u64 aE,int u64 aF,int u64 aG,int u64 aJ,int i64 aH,int i64 aI,slice aB aA aC]->∀(aq:Nat),∃(J:JT),br (aD ==
 (4:Int)) (∃(v:Value),m' c1b (c1o+0)=some v/\chk (ZaG i64 v) (br (c0_0 == RowKit.intOf v) (∃(v:Value),∃(aj:Value),∃(ak:Value),∃(al:Value),Mem.reads m' c1b c1o [v,aj,ak,al]/\∃(R:RT),
 True/\CX Try.prog 100 (Array.mk [slice aB aA aC,agg (Array.mk [v,aj,ak,al])]) m' [] R/\Zau Shape.slice R/\∀(a:Option Addr)(n c:Nat)(ar:Mem),Mem.le m' ar->R (slice a n c) ar []->[some (Box.mk
 aq [int u8 0,int u64 0,int u64 0,int u64 0,int u64 0,int i64 0,int i64 0,slice none 0 0] 27 8 false true),some (Box.mk b [int u8 aD,int u64 aE,int u64 aF,int u64 aG,int u64 aJ,int i64 aH,int
 i64 aI,slice aB aA aC] 27 8 true true),some (Box.mk c0b [] 3 1 false true)]=[some (Box.mk aq [int u8 0,int u64 0,int u64 0,int u64 0,int u64 0,int i64 0,int i64 0,slice none 0 0] 27 8 false true),
 some (Box.mk b [int u8 aD,int u64 aE,int u64 aF,int u64 aG,int u64 aJ,int i64 aH,int i64 aI,slice aB aA aC] 27 8 true true),some (Box.mk c0b [] 3 1 false true)]/\J [slice a n c] [[int i64
 (IntKind.wrap i64 (c0_0+(1:Int)))]] [] ar) ([some (Box.mk aq [int u8 0,int u64 0,int u64 0,int u64 0,int u64 0,int i64 0,int i64 0,slice none 0 0] 27 8 false true),some (Box.mk b [int u8 aD,int u64 aE,
 int u64 aF,int u64 aG,int u64 aJ,int i64 aH,int i64 aI,slice aB aA aC] 27 8 true true),some (Box.mk c0b [] 3 1 false true)]=[some (Box.mk aq [int u8 0,int u64 0,int u64 0,int u64 0,int u64
 0,int i64 0,int i64 0,slice none 0 0] 27 8 false true),some (Box.mk b [int u8 aD,int u64 aE,int u64 aF,int u64 aG,int u64 aJ,int i64 aH,int i64 aI,slice aB aA aC] 27 8 true true),some
 (Box.mk c0b [] 3 1 false true)]/\J [slice aB aA aC] [[int i64 (IntKind.wrap i64 (c0_0+(1:Int)))]] [] m'))) ([some (Box.mk aq [int u8 0,int u64 0,int u64 0,int u64 0,int u64 0,int i64 0,int i64 0,
 slice none 0 0] 27 8 false true),some (Box.mk b [int u8 aD,int u64 aE,int u64 aF,int u64 aG,int u64 aJ,int i64 aH,int i64 aI,slice aB aA aC] 27 8 true true),some (Box.mk c0b [] 3 1 false
 true)]=[some (Box.mk aq [int u8 0,int u64 0,int u64 0,int u64 0,int u64 0,int i64 0,int i64 0,slice none 0 0] 27 8 false true),some (Box.mk b [int u8 aD,int u64 aE,int u64 aF,int u64 aG,int u64
 aJ,int i64 aH,int i64 aI,slice aB aA aC] 27 8 true true),some (Box.mk c0b [] 3 1 false true)]/\J [slice aB aA aC] [[int i64 c0_0]] [] m')/\∀(a:Option Addr)(n c:Nat)(cs:List Value)
 (ar:Mem),Mem.le m' ar->J [slice a n c] [cs] [] ar->((0:Int)=(0:Int)/\(0:Int)<=(↑n:Int)/\(↑n:Int)*(↑(80:Nat):Int)<=(281474976710656:Int)/\(↑n:Int)<=(9223372036854775807:Int))/\∀(ay:
 Nat),∃(I:IT),(∃(ai:Nat),I [slice (some (Addr.mk ay 0 none)) 0 (Int.toNat (↑n:Int)),int i64 0] [cs] [slice (some (Addr.mk ay 0 none)) 0 (Int.toNat (↑n:Int))] ar ai)/\∀(au:Option Addr)(ai c:Nat) (av:
 Int) (cs:List Value) (az:Option Addr) (a0 a1:Nat) (m':Mem) (a2:Nat),Mem.le ar m'->I [slice au ai c,int i64 av] [cs] [slice az a0 a1] m' a2->br (decide (av < (↑n:Int))) (∃(a3:Nat),∃(o:Nat),a =
 some (Addr.mk a3 o none)/\Zad av n/\∃(v:Value),∃(aj:Value),∃(ak:Value),∃(al:Value),∃(am:Value),∃(an:Value),∃(ao:Value),∃(ap:Value),Mem.reads m' a3 (o+Int.toNat av*8) [v,aj,ak,
 al,am,an,ao,ap]/\∀(a5:Nat),chk (Value.oneCell' v&&(Value.oneCell' aj&&(Value.oneCell' ak&&(Value.oneCell' al&&(Value.oneCell' am&&(Value.oneCell' an&&(Value.oneCell' ao&&(Value.oneCell' ap &&
 true)))))))) (∃(a4:Value),m' c2b c2o=some a4/\∃(g:Nat),∃(fi:List Value),∃(ca:List Value),a4=func (Fn.func g) (Array.mk fi) (Array.mk ca)/\∃(R:RT),True/\CX Try.prog g (Array.mk (List.append
 (List.append fi [agg (Array.mk [v,aj,ak,al,am,an,ao,ap])]) ca)) m' [Box.mk c0b cs 3 1 false true] R/\Zau (shT) R/\∀(n ab ac ad ae af ag:Int)(a:Option Addr)(ah ax:Nat)(aa:Mem),Mem.le m' aa->∀(cs
 : List Value),R (agg (Array.mk [int u8 n,int u64 ab,int u64 ac,int u64 ad,int u64 ae,int i64 af,int i64 ag,slice a ah ax])) aa [cs]->∀(aw:Nat),Mem.free aa aw->(Tok.mk (slice az a0 a1) 8=Tok.mk (slice au
 ai c) 8\/slice au ai c=slice none 0 0\/c < ai+1)/\∃(xs:List Value),∃(ys:List Value),List.length xs=ai*8/\List.length ys=1*8/\rowRd (Mem.add aa aw [int u8 n,int u64 ab,int u64 ac,int u64 ad,
 int u64 ae,int i64 af,int i64 ag,slice a ah ax]) au xs/\rowRd (Mem.add aa aw [int u8 n,int u64 ab,int u64 ac,int u64 ad,int u64 ae,int i64 af,int i64 ag,slice a ah ax]) (some (Addr.mk aw 0 none)) ys/\(∀(u:
 Value),u∈ys->Value.oneCell' u=true)/\(ai+1)*80<=140737488355328/\ai+1<=9223372036854775807/\∀(a':Option Addr)(c':Nat)(m':Mem),Mem.le (Mem.add aa aw [int u8 n,int u64 ab,int u64 ac,int u64
 ad,int u64 ae,int i64 af,int i64 ag,slice a ah ax]) m'->rowRd m' a' (List.append xs ys)->[some (Box.mk aq [int u8 0,int u64 0,int u64 0,int u64 0,int u64 0,int i64 0,int i64 0,slice none 0 0] 27 8 false
 true),some (Box.mk b [int u8 aD,int u64 aE,int u64 aF,int u64 aG,int u64 aJ,int i64 aH,int i64 aI,slice aB aA aC] 27 8 true true),some (Box.mk c0b [] 3 1 false true)]=[some (Box.mk aq
 [int u8 0,int u64 0,int u64 0,int u64 0,int u64 0,int i64 0,int i64 0,slice none 0 0] 27 8 false true),some (Box.mk b [int u8 aD,int u64 aE,int u64 aF,int u64 aG,int u64 aJ,int i64 aH,int i64
 aI,slice aB aA aC] 27 8 true true),some (Box.mk c0b [] 3 1 false true)]/\([none]:List (Option Tok))=[none]/\∃(n':Nat),n' < a2/\I [slice a' (ai+1) c',int i64 (IntKind.wrap i64 (av+(1:
 Int)))] [cs] [slice a' (ai+1) c'] m' n')) (br (aD == (3:Int)) (∃(R_1:RT),True/\CX Try.prog 15 (Array.mk [slice au ai c]) m' [] R_1/\Zau (shT) R_1/\∀(n ab ac ad ae af ag:Int)(a:Option Addr) (ah c:
 Nat) (aa:Mem),Mem.le m' aa->R_1 (agg (Array.mk [int u8 n,int u64 ab,int u64 ac,int u64 ad,int u64 ae,int i64 af,int i64 ag,slice a ah c])) aa []->Box.mk c0b [int i64 c0_0] 3 1 false true=Box.mk c0b [int
 i64 c0_0] 3 1 false true/\∃(m'':Mem),Mem.le m m''/\Mem.le m'' aa/\R (agg (Array.mk [int u8 n,int u64 ab,int u64 ac,int u64 ad,int u64 ae,int i64 af,int i64 ag,slice a ah c])) m'' [cs]) (br (aD == (4:
 Int)) (∃(R_1:RT),True/\CX Try.prog 16 (Array.mk [slice au ai c]) m' [] R_1/\Zau (shT) R_1/\∀(n ab ac ad ae af ag:Int)(a:Option Addr)(ah c:Nat)(aa:Mem),Mem.le m' aa->R_1 (agg (Array.mk [int u8 n,
 int u64 ab,int u64 ac,int u64 ad,int u64 ae,int i64 af,int i64 ag,slice a ah c])) aa []->Box.mk c0b [int i64 c0_0] 3 1 false true=Box.mk c0b [int i64 c0_0] 3 1 false true/\∃(m'':Mem),Mem.le m m''/\Mem.le
 m'' aa/\R (agg (Array.mk [int u8 n,int u64 ab,int u64 ac,int u64 ad,int u64 ae,int i64 af,int i64 ag,slice a ah c])) m'' [cs]) (br (aD == (5:Int)) (∃(f:Fx),∃(b:Nat),∃(o:Nat),au=some (Addr.mk b
 o none)/\Zad (0:Int) ai/\∃(v:Value),∃(aj:Value),∃(ak:Value),∃(al:Value),∃(am:Value),∃(an:Value),∃(ao:Value),∃(ap:Value),Mem.reads m' b (o+0) [v,aj,ak,al,am,an,ao,ap]/\∃
 (R_1:RT),R_1=f 7 [agg (Array.mk [v,aj,ak,al,am,an,ao,ap]),int i64 aH,int i64 aI] m'/\CX Try.prog 69 (Array.mk [agg (Array.mk [v,aj,ak,al,am,an,ao,ap]),int i64 aH,int i64 aI]) m' [] R_1/\
 Zau (shT) R_1/\∀(n ab ac ad ae af ag:Int)(a:Option Addr)(ah c:Nat)(aa:Mem),Mem.le m' aa->R_1 (agg (Array.mk [int u8 n,int u64 ab,int u64 ac,int u64 ad,int u64 ae,int i64 af,int i64 ag,slice a ah
 c])) aa []->∀(M:Mem),Mem.le m' M->Mem.le aa M->Box.mk c0b [int i64 c0_0] 3 1 false true=Box.mk c0b [int i64 c0_0] 3 1 false true/\∃(m'':Mem),Mem.le m m''/\Mem.le m'' M/\R (agg (Array.mk [int u8 n,int
 u64 ab,int u64 ac,int u64 ad,int u64 ae,int i64 af,int i64 ag,slice a ah c])) m'' [cs]) (br (aD == (6:Int)) (∃(b:Nat),∃(o:Nat),au=some (Addr.mk b o none)/\Zad (0:Int) ai/\∃(v:Value),∃(aj
 : Value),∃(ak:Value),∃(al:Value),∃(am:Value),∃(an:Value),∃(ao:Value),∃(ap:Value),Mem.reads m' b (o+0) [v,aj,ak,al,am,an,ao,ap]/\∃(R_1:RT),True/\CX Try.prog 22 (Array.mk [agg
 (Array.mk [v,aj,ak,al,am,an,ao,ap])]) m' [] R_1/\Zau (shT) R_1/\∀(n ab ac ad ae af ag:Int)(a:Option Addr)(ah c:Nat)(aa:Mem),Mem.le m' aa->R_1 (agg (Array.mk [int u8 n,int u64 ab,int u64 ac,int
 u64 ad,int u64 ae,int i64 af,int i64 ag,slice a ah c])) aa []->Box.mk c0b [int i64 c0_0] 3 1 false true=Box.mk c0b [int i64 c0_0] 3 1 false true/\∃(m'':Mem),Mem.le m m''/\Mem.le m'' aa/\R (agg (Array.mk
 [int u8 n,int u64 ab,int u64 ac,int u64 ad,int u64 ae,int i64 af,int i64 ag,slice a ah c])) m'' [cs]) (∃(R_1:RT),True/\CX Try.prog 52 (Array.mk [agg (Array.mk [int u8 aD,int u64 aE,int u64 aF,int
 u64 aG,int u64 aJ,int i64 aH,int i64 aI,slice aB aA aC])]) m' [] R_1/\Zau (shT) R_1/\∀(n ab ac ad ae af ag:Int)(a:Option Addr)(ah c:Nat)(aa:Mem),Mem.le m' aa->R_1 (agg (Array.mk
 [int u8 n,int u64 ab,int u64 ac,int u64 ad,int u64 ae,int i64 af,int i64 ag,slice a ah c])) aa []->Box.mk c0b [int i64 c0_0] 3 1 false true=Box.mk c0b [int i64 c0_0] 3 1 false true/\∃(m'':Mem),Mem.le m
 m''/\Mem.le m'' aa/\R (agg (Array.mk [int u8 n,int u64 ab,int u64 ac,int u64 ad,int u64 ae,int i64 af,int i64 ag,slice a ah c])) m'' [cs])))))
theorem ZhN(aD aE aF aG aJ aH aI:Int)(aB:Option Addr)(aA aC c0b:Nat)(c0_0:Int)(c1b c1o c2b c2o:Nat)(m:Mem)(R:RT)(h:Zeu aD aE aF aG aJ aH aI aB aA aC c0b c0_0 c1b c1o c2b c2o m R):CX Try.prog 99 #[.agg #[.int .u8 aD,.int .u64 aE,.int .u64 aF,.int .u64 aG,.int .u64 aJ,.int .i64 aH,.int .i64 aI,.slice aB aA aC],.pointer (some ⟨c0b,0,none⟩),.pointer (some ⟨c1b,c1o,none⟩),.pointer (some ⟨c2b,c2o,none⟩)] m [⟨c0b,[.int .i64 c0_0],3,1,false,true⟩] R:=
 Zaf (E:=ZiG) ZaH mix Try.func99 [.v (.agg #[.int .u8 aD,.int .u64 aE,.int .u64 aF,.int .u64 aG,.int .u64 aJ,.int .i64 aH,.int .i64 aI,.slice aB aA aC]),.loc 100000 0,.v (.pointer (some ⟨c1b,c1o,none⟩)),.v (.pointer (some ⟨c2b,c2o,none⟩))] [⟨c0b,[.int .i64 c0_0],3,1,false,true⟩] (by kernel_rfl) (Eq.mp (by kernel_rfl) h)
noncomputable def Zl5:Env:={ EB with
 borrow:=(λi=>bif Nat.beq i 10 then[5]else[])
 frzNew:=[2,3]
 frzAt:=(λi=>bif Nat.beq i 10 then[6,3]else[]) }
def ZfK(aD aE aF aG aJ aH aI:Int)(aB:Option Addr)(aA aC:Nat)(aN aK aL aM:Int)(m:Mem)(R:RT):Prop:=
 ∀(b:Nat)(m':Mem),Mem.le m m'->Mem.reads m' b 0 [int u8 aD,int u64 aE,int u64 aF,int u64 aG,int u64 aJ,int i64 aH,int i64 aI,slice aB aA aC]->∀(b:Nat)(m'_1:Mem),Mem.le m'
 m'_1->Mem.reads m'_1 b 0 [int i64 aN,int i64 aK,int i64 aL,int i64 aM]->∀(b_1 b_2 b_3:Nat)(m':Mem),Mem.le m'_1 m'->Mem.reads m' b_3 0 [func (Fn.func 99) (Array.mk []) (Array.mk [Value.pointer (some
 (Addr.mk b_2 0 none)),Value.pointer (some (Addr.mk b 0 none)),Value.pointer (some (Addr.mk b_3 0 none))])]->Mem.reads m' b 0 [int i64 aN,int i64 aK,int i64 aL,int i64 aM]->∃(R_1:RT),True/\CX Try.prog
 99 (Array.mk [agg (Array.mk [int u8 aD,int u64 aE,int u64 aF,int u64 aG,int u64 aJ,int i64 aH,int i64 aI,slice aB aA aC]),Value.pointer (some (Addr.mk b_2 0 none)),Value.pointer (some
 (Addr.mk b 0 none)),Value.pointer (some (Addr.mk b_3 0 none))]) m' [Box.mk b_2 [int i64 0] 3 1 false true] R_1/\Zau (shT) R_1/\∀(n n_1 n_2 n_3 n_4 n_5 n_6:Int)(a:Option Addr)(n_7 c:Nat)(m'_2:Mem),Mem.le
 m' m'_2->∀(cs:List Value),R_1 (agg (Array.mk [int u8 n,int u64 n_1,int u64 n_2,int u64 n_3,int u64 n_4,int i64 n_5,int i64 n_6,slice a n_7 c])) m'_2 [cs]->∃(m'':Mem),Mem.le m m''/\Mem.le m'' m'_2/\R
 (agg (Array.mk [int u8 n,int u64 n_1,int u64 n_2,int u64 n_3,int u64 n_4,int i64 n_5,int i64 n_6,slice a n_7 c])) m'' []
theorem ZjX(aD aE aF aG aJ aH aI:Int)(aB:Option Addr)(aA aC:Nat)(aN aK aL aM:Int)(m:Mem)(R:RT)(h:ZfK aD aE aF aG aJ aH aI aB aA aC aN aK aL aM m R):CX Try.prog 73 #[.agg #[.int .u8 aD,.int .u64 aE,.int .u64 aF,.int .u64 aG,.int .u64 aJ,.int .i64 aH,.int .i64 aI,.slice aB aA aC],.agg #[.int .i64 aN,.int .i64 aK,.int .i64 aL,.int .i64 aM]] m [] R:=
 Zaf (E:=Zl5) ZaH mix Try.func73 [.v (.agg #[.int .u8 aD,.int .u64 aE,.int .u64 aF,.int .u64 aG,.int .u64 aJ,.int .i64 aH,.int .i64 aI,.slice aB aA aC]),.v (.agg #[.int .i64 aN,.int .i64 aK,.int .i64 aL,.int .i64 aM])] [] (by kernel_rfl) (Eq.mp (by kernel_rfl) h)
noncomputable def ZuY:Env:={ EB with
 frzNew:=[1] }
def ZnE(aD aE aF aG aJ aH aI:Int)(aB:Option Addr)(aA aC:Nat)(m:Mem)(R:RT):Prop:=
 ∀(b:Nat)(m':Mem),Mem.le m m'->Mem.reads m' b 0 [int u8 aD,int u64 aE,int u64 aF,int u64 aG,int u64 aJ,int i64 aH,int i64 aI,slice aB aA aC]->∀(b:Nat),∃(R_1:RT),True/\CX
 Try.prog 54 (Array.mk [agg (Array.mk [int u8 aD,int u64 aE,int u64 aF,int u64 aG,int u64 aJ,int i64 aH,int i64 aI,slice aB aA aC])]) m' [] R_1/\Zau Shape.bool R_1/\∀(b:Bool) (m'_1:
 Mem),Mem.le m' m'_1->R_1 (bool b) m'_1 []->br (!b) (∃(m'':Mem),Mem.le m m''/\Mem.le m'' m'_1/\R (agg (Array.mk [int u8 0,int u64 0,int u64 0,int u64 0,int u64 0,int i64 0,int i64 0,slice none 0 0])) m''
 []) (∃(R_2:RT),True/\CX Try.prog 86 (Array.mk [agg (Array.mk [int u8 aD,int u64 aE,int u64 aF,int u64 aG,int u64 aJ,int i64 aH,int i64 aI,slice aB aA aC])]) m'_1 [] R_2/\Zau (shT)
 R_2/\∀(n n_1 n_2 n_3 n_4 n_5 n_6:Int)(a:Option Addr)(n_7 c:Nat)(m':Mem),Mem.le m'_1 m'->R_2 (agg (Array.mk [int u8 n,int u64 n_1,int u64 n_2,int u64 n_3,int u64 n_4,int i64 n_5,int i64 n_6,slice a
 n_7 c])) m' []->∃(m'':Mem),Mem.le m m''/\Mem.le m'' m'/\R (agg (Array.mk [int u8 n,int u64 n_1,int u64 n_2,int u64 n_3,int u64 n_4,int i64 n_5,int i64 n_6,slice a n_7 c])) m'' [])
theorem Zr6(aD aE aF aG aJ aH aI:Int)(aB:Option Addr)(aA aC:Nat)(m:Mem)(R:RT)(h:ZnE aD aE aF aG aJ aH aI aB aA aC m R):CX Try.prog 52 #[.agg #[.int .u8 aD,.int .u64 aE,.int .u64 aF,.int .u64 aG,.int .u64 aJ,.int .i64 aH,.int .i64 aI,.slice aB aA aC]] m [] R:=
 Zaf (E:=ZuY) ZaH mix Try.func52 [.v (.agg #[.int .u8 aD,.int .u64 aE,.int .u64 aF,.int .u64 aG,.int .u64 aJ,.int .i64 aH,.int .i64 aI,.slice aB aA aC])] [] (by kernel_rfl) (Eq.mp (by kernel_rfl) h)
end Go.Proofs.Ytfgfahnakepegaa
set_option linter.unusedVariables false
set_option linter.unusedSimpArgs false
namespace Go.Proofs.Ytfgfahnakepegaa
open Go Go.Eng Go.Rx Go.Proofs Go.RowKit Go.Shelf
set_option maxRecDepth 100000
def Zhe(g s e:Nat):Ren:=⟨fun|4=>g|n=>n,fun|0=>0|3=>3|4=>4|9=>9|20=>20|22=>s|25=>e|n=>n,λn=>n⟩
theorem ZzQ:Lays8.n4 Try.prog (Zhe 123 25 27):=
 {mixed:=mix,f4:=⟨Try.f123.name,by kernel_rfl,by kernel_rfl⟩
  t0:=by kernel_rfl,a0:=Try.isAgg0,z0:=Try.sizeOf0,v0:=Try.zeroValue0
  t3:=Try.underlying3,a3:=Try.isAgg3,z3:=Try.sizeOf3,v3:=Try.zeroValue3
  t4:=Try.underlying4,a4:=Try.isAgg4,z4:=Try.sizeOf4,v4:=Try.zeroValue4
  t9:=Try.underlying9,a9:=Try.isAgg9,z9:=Try.sizeOf9,v9:=Try.zeroValue9
  t20:=Try.underlying20,a20:=Try.isAgg20,z20:=Try.sizeOf20,v20:=Try.zeroValue20
  t22:=Try.underlying25,a22:=Try.isAgg25,z22:=Try.sizeOf25,v22:=Try.zeroValue25 }
theorem Zoo{P:Program}{g s e esz by':Nat}{fn:Func}(L:Lays8.n4 P (Zhe g s e))(kR:Zga P g)(hi:(P.info? e).map (λi=>(i.size,i.bytes))=some (esz,by'))(hz:((P.info? e).bind (·.zero)).map (·.cells.size)=some esz)(fV:0 < esz)(n:Nat)(m:Mem)(hn:n*by'<=140737488355328)(nE:n<=4611686018427387904):
  CXT P g #[.slice none 0 0,.int .i64 n] m esz (λv _ _=>∃a c,v=.slice a 0 c):=by
 refine⟨kR,λw hs=>?_⟩
 obtain⟨i0,h0,wT⟩:=Option.map_eq_some_iff.1 hi
 obtain⟨z,oV,re⟩:=Option.map_eq_some_iff.1 hz
 rw[h0]at oV
 simp only[Option.bind_some]at oV
 have e1:i0.size=esz:=congrArg Prod.fst wT
 have e2:i0.bytes=by':=congrArg Prod.snd wT
 by_cases lT:n=0
 ·subst lT
  refine(Any8.slices_Grow_room L none 0 0 0 w (by omega) (by omega) (by omega) (by omega)).mono ?_
  rintro e w' ⟨rfl,rfl⟩
  exact⟨_,m,rfl,Mem.le_refl _,hs,λb o v h=>.inl h,Keep.refl _ _ _,.inl rfl,λb hb=>by simp[Tok.blk]at hb,none,0,rfl⟩
 ·refine(Any8.slices_Grow_grow L i0 z h0 oV (by omega) none 0 0 n [] w (by omega) (by omega) (by rw[e2,Nat.zero_add];exact hn) (by omega) (by simp) (λ_=>rfl) (λa h=>by cases h)).mono ?_
  rintro e w' ⟨rfl,hw'⟩
  have bO:w'.heap=w.heap.push (.cells (#[]++Builtin.zeroCells z.cells (0+n - 0)++Builtin.zeroCells z.cells (grownCap w (0+n) 0 ((Zhe g s e).t 25) - (0+n))) ((Zhe g s e).t 25) (0,0)):=by rw[hw'];rfl
  have hb:w'.heap[w.heap.size]?=some (.cells (#[]++Builtin.zeroCells z.cells (0+n - 0)++Builtin.zeroCells z.cells (grownCap w (0+n) 0 ((Zhe g s e).t 25) - (0+n))) ((Zhe g s e).t 25) (0,0)):=by
   rw[bO,Array.getElem?_push_size]
  have hk:Keep w.heap.size [] w w':=by
   rw[hw']
   exact(Keep.drew w).trans (Keep.alloc (B:=w.heap.size) (w:=w.drew) (show w.heap.size<=w.drew.heap.size from Nat.le_refl _) (ZjM _ _))
  have bR:=grownCap_ge w (0+n) 0 ((Zhe g s e).t 25)
  refine⟨_,m,rfl,Mem.le_refl _,λb o v hv=>?_,λb o v h=>.inl h,hk,.inr ⟨w.heap.size,0,0,_,_,_,_,rfl,by omega,hb,?_,?_,?_⟩,?_,_,_,rfl⟩
  ·have aS:=hs.lt hv
   rw[ZbS (hk.block b aS (by simp))];exact hs b o v hv
  ·generalize grownCap w (0+n) 0 ((Zhe g s e).t 25)=G at *
   simp only[Array.size_append,size_zeroCells,re]
   have:G*esz=(0+n - 0)*esz+(G - (0+n))*esz:=by rw[<-Nat.add_mul];congr 1;omega
   simp only[List.size_toArray,List.length_nil]
   omega
  ·intro o _
   simp
  ·intro o _ _
   cases hm:m w.heap.size o with
   | none=>rfl
   | some v=>have:=hs.lt hm;omega
  ·intro b hb'
   simp[Tok.blk]at hb'
   omega
theorem ZqD(n:Nat)(m:Mem)(hn:n<=1000000):CXT Try.prog 123 #[.slice none 0 0,.int .i64 n] m 8 (λv _ _=>∃a c,v=.slice a 0 c):=
 Zoo (by':=80) (fn:=Try.f123) ZzQ (Go.Eng.Zgb Try.func123 (by kernel_rfl) (by kernel_rfl)) (by kernel_rfl) (by kernel_rfl) (by decide) n m (by omega) (by omega)
structure Part where
 a:Option Addr
 n:Nat
 c:Nat
 xs:List Value
def Zop(L:List Part):Nat:=(L.map Part.n).sum
def Zxx(L:List Part):List Value:=(L.map Part.xs).flatten
theorem Zgy(L:List Part)(q:Part):Zop (L++[q])=Zop L+q.n:=by simp[Zop]
theorem ZuZ(L:List Part)(q:Part):Zxx (L++[q])=Zxx L++q.xs:=by simp[Zxx]
theorem Zl6(L:List Part)(k:Nat):Zop (L.take k)<=Zop L:=by
 have e:L=L.take k++L.drop k:=(List.take_append_drop k L).symm
 have:Zop L=Zop (L.take k)+Zop (L.drop k):=by
  have e2:=congrArg Zop e
  simp only[Zop,List.map_append,List.sum_append]at e2 ⊢
  exact e2
 omega
structure Lies (m:Mem)(pa:Option Addr)(esz:Nat)(L:List Part):Prop where
 at':∀i q,L[i]?=some q->∃b o,pa=some ⟨b,o,none⟩/\m b (o+i)=some (.slice q.a q.n q.c)
 row:∀q∈L,rowRd m q.a q.xs/\q.xs.length=q.n*esz/\∀u∈q.xs,u.oneCell'=true
theorem Lies.len{m:Mem}{pa:Option Addr}{esz:Nat}:∀{L:List Part},(∀q∈L,q.xs.length=q.n*esz)->(Zxx L).length=Zop L*esz
 | [],_=>by simp[Zxx,Zop]
 | q::L,h=>by
  have:=Lies.len (m:=m) (pa:=pa) (L:=L) λx hx=>h x (by simp[hx])
  simp only[Zxx,Zop,List.map_cons,List.flatten_cons,List.length_append,List.sum_cons,h q (by simp),Nat.add_mul]at *
  omega
theorem Zoq(L:List Part)(pa:Option Addr)(pc:Nat)(m:Mem)(h:Lies m pa 8 L)(rW:Zop L<=100000)(hL:L.length<=1000):CX Try.prog 116 #[.slice pa L.length pc] m [] (λv m' _=>∃a c,v=.slice a (Zop L) c/\rowRd m' a (Zxx L)):=by
 apply Zb5
 unfold Zbi
 refine⟨λxs css tvs m' q=>∃k:Nat,k<=L.length/\xs=[.int .i64 (Zop (L.take k):Nat),.int .i64 k]/\q=L.length - k,⟨L.length,0,by omega,rfl,rfl⟩,?_⟩
 rintro z1 z2 m1 q aO ⟨k,hk,bB,hq⟩
 obtain⟨rfl,rfl⟩:z1=(Zop (L.take k):Nat)/\z2=k:=by simpa using bB
 have eI:=Zl6 L k
 refine Zab (λaS=>?_) (λbR=>?_)
 ·have aQ:k < L.length:=by have:=of_decide_eq_true aS;omega
  obtain⟨p,hp⟩:=Zb2 aQ
  obtain⟨b,o,ha,hv⟩:=h.at' k p hp
  have pJ:=Zl6 L (k+1)
  rw[Zcd hp,Zgy]at pJ
  have hw:IntKind.i64.wrap ((k:Int)+1)=((k+1:Nat):Int):=by rw[ZaA (by omega) (by omega)];rfl
  have fB:IntKind.i64.wrap (((Zop (L.take k):Nat):Int)+((slN (.slice p.a p.n p.c):Nat):Int))=((Zop (L.take (k+1)):Nat):Int):=by
   rw[Zcd hp,Zgy]
   simp only[slN]
   rw[ZaA (by omega) (by omega)];push_cast;rfl
  simp only[Int.toNat_natCast,Nat.mul_one]
  refine⟨b,o,ha,⟨by omega,by omega⟩,.slice p.a p.n p.c,aO _ _ _ hv,Zaa rfl ?_⟩
  simp only[fB,hw]
  exact Zab (λuY=>absurd (of_decide_eq_true uY) (by omega)) (λ_=>⟨L.length - (k+1),by omega,k+1,by omega,rfl,rfl⟩)
 ·have yV:k=L.length:=by have:=of_decide_eq_false bR;omega
  subst yV
  rw[List.take_length]
  refine⟨_,ZqD (Zop L) m1 (by omega),(λv _ _ ⟨a,c,e⟩=>by rw[e];rfl),?_⟩
  rintro a n c m2 aP ⟨a0,c0,sV⟩
  simp only[Value.slice.injEq]at sV
  obtain⟨rfl,rfl,rfl⟩:=sV
  refine⟨λxs css tvs m' q=>∃(k:Nat)(a:Option Addr)(c:Nat),k<=L.length/\xs=[.slice a (Zop (L.take k)) c,.int .i64 k]/\tvs=[.slice a (Zop (L.take k)) c]/\rowRd m' a (Zxx (L.take k))/\q=L.length - k,⟨L.length,0,_,_,by omega,rfl,rfl,.inl rfl,rfl⟩,?_⟩
  rintro a4 n4 c4 z5 a5 n5 c5 m3 q3 aX ⟨j,a',c',hj,rX,rY,fK,tT⟩
  simp only[List.cons.injEq,Value.slice.injEq,Value.int.injEq,true_and,and_true]at rX rY
  obtain⟨⟨rfl,rfl,rfl⟩,rfl⟩:=rX
  obtain⟨rfl,rfl,rfl⟩:=rY
  have fQ:=mLt aO (mLt aP aX)
  refine Zab (λaS=>?_) (λbR=>?_)
  ·have aQ:j < L.length:=by have:=of_decide_eq_true aS;omega
   obtain⟨p,hp⟩:=Zb2 aQ
   obtain⟨b,o,ha,hv⟩:=h.at' j p hp
   obtain⟨eU,rI,yW⟩:=h.row p (List.mem_of_getElem? hp)
   have pJ:=Zl6 L (j+1)
   rw[Zcd hp,Zgy]at pJ
   have hw:IntKind.i64.wrap ((j:Int)+1)=((j+1:Nat):Int):=by rw[ZaA (by omega) (by omega)];rfl
   simp only[Int.toNat_natCast,Nat.mul_one,hw]
   refine⟨b,o,ha,⟨by omega,by omega⟩,.slice p.a p.n p.c,fQ _ _ _ hv,Zaa rfl ⟨by first|exact .inl trivial|exact .inl rfl,Zxx (L.take j),p.xs,?_,by simpa[slN]using rI,fK,eU.mono fQ,yW,?_,?_,λa6 c6 m6 dU lC=>⟨by trivial,L.length - (j+1),by omega,j+1,a6,c6,by omega,?_,?_,?_,rfl⟩⟩⟩
   ·simpa using Lies.len (m:=m) (pa:=pa) (L:=L.take j) λx hx=>(h.row x (List.mem_of_mem_take hx)).2.1
   ·simp only[slN];omega
   ·simp only[slN];omega
   ·rw[Zcd hp,Zgy];rfl
   ·rw[Zcd hp,Zgy];rfl
   ·rw[Zcd hp,ZuZ];exact lC
  ·have yX:j=L.length:=by have:=of_decide_eq_false bR;omega
   subst yX
   rw[List.take_length]at fK ⊢
   exact⟨m3,fQ,Mem.le_refl _,_,_,rfl,fK⟩
end Go.Proofs.Ytfgfahnakepegaa
