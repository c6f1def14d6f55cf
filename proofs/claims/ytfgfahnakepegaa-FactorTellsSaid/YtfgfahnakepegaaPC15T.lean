/- Part of the proof: conditions and contracts of functions of this program. No condition of its own. -/
import Derived.Test.YtfgfahnakepegaaPC13X
import Derived.Test.YtfgfahnakepegaaMr
import Derived.Test.YtfgfahnakepegaaPVA
import Derived.Test.YtfgfahnakepegaaPEnv
import Derived.Shelf.Spec.SlicesGrow
set_option linter.unusedVariables false
set_option linter.unusedSimpArgs false
set_option linter.unusedSectionVars false
namespace Go.Proofs.Ytfgfahnakepegaa
open Go Go.Eng Go.Rx Go.Proofs Go.RowKit
set_option maxRecDepth 100000
theorem Zl9(m:Mem):Rep m T0:=Zd5 (k:=0) (mn:=0) (mx:=0) (a:=none) (c:=0) (l:=[]) ⟨by simp,.inl rfl⟩ (by omega) (by omega) (by omega)
theorem Zu8(m:Mem):Rep m T1:=Zd5 (k:=1) (mn:=0) (mx:=0) (a:=none) (c:=0) (l:=[]) ⟨by simp,.inl rfl⟩ (by omega) (by omega) (by omega)
theorem Zws(t:T)(m:Mem)(hr:Rep m t)(hc:t.clean=true):CX Try.prog 49 #[t.v] m [] (Ret (.bool true)):=by
 apply ZsI
 unfold Zof
 intro b m1 aM _
 refine⟨true,Zai (Zt3 t T0 m1 (hr.mono aM) (Zl9 _)) λm2 aP=>Zab (λ_=>⟨by trivial,rfl⟩) (λ_=>?_),Zah aM rfl⟩
 have h:=Zj3 t m2 (hr.mono (mLt aM aP))
 rw[hc]at h
 exact Zai h λm3 aX=>⟨by trivial,rfl⟩
theorem Zfp(t:T)(m:Mem)(hr:Rep m t):CX Try.prog 58 #[t.v] m [] (ZdM λt'=>ZzD t t'/\NewT m t'):=by
 apply Zmy
 unfold Zhx
 intro b m1 aM _ b1
 refine Zai (Zj3 t m1 (hr.mono aM)) λm2 aP=>Zab (λh=>?_) (λh=>?_)
 ·exact⟨m2,mLt aM aP,Mem.le_refl _,T0,rfl,Zl9 _,⟨.inr ⟨by simpa using h,rfl⟩,ZiM⟩,ZmA rfl⟩
 ·have hc:t.clean=true:=by simpa using h
  refine Zag (ZgP t m2 (hr.mono (mLt aM aP)) (Zhr hc)) ZaF (ZbR λt' m3 aX hr' ht'=>?_)
  exact⟨m3,mLt aM (mLt aP aX),Mem.le_refl _,t',rfl,hr',⟨.inl ⟨hc,ht'.1⟩,ht'.2.1⟩,ht'.2.2.less (mLt aM aP)⟩
theorem Zwt(k w:Int)(L:List T)(a:Option Addr)(c:Nat)(m:Mem)(hL:RepL m a L)(hl:L.length<=1000)(hs:∀x∈L,x.subs.length<=10000):CX Try.prog 48 #[.int .u8 k,.int .u8 w,.slice a L.length c] m [] (λv m' _=>∃a' c',v=.slice a' (Za5 k w L).length c'/\RepL m' a' (Za5 k w L)):=by
 apply ZsJ
 unfold Zog
 have aR:=ZaL hL
 have cD:=ZbN hL
 have fK:∀i,(Za5 k w (L.take i)).length<=10001000:=λi=>by
  have:=ZiN k w (L.take i) λx hx=>hs x (List.mem_of_mem_take hx)
  have h2:(L.take i).length<=1000:=by rw[List.length_take];omega
  omega
 refine⟨λxs css tvs m' q=>∃(i:Nat)(a:Option Addr)(c:Nat),i<=L.length/\xs=[.slice a (Za5 k w (L.take i)).length c,.int .i64 i]/\tvs=[.slice a (Za5 k w (L.take i)).length c]/\rowRd m' a (Rx.ZcM (Za5 k w (L.take i)))/\q=L.length - i,⟨_,0,none,0,by omega,rfl,rfl,.inl rfl,rfl⟩,?_⟩
 rintro a1 n1 c1 z a2 n2 c2 m1 q aM ⟨i,a',c',hi,aZ,cA,cI,hq⟩
 simp only[List.cons.injEq,Value.slice.injEq,Value.int.injEq,true_and,and_true]at aZ cA
 obtain⟨⟨rfl,rfl,rfl⟩,rfl⟩:=aZ
 obtain⟨rfl,rfl,rfl⟩:=cA
 refine Zab (λaS=>?_) (λbM=>?_)
 ·have aQ:i < L.length:=by have:=of_decide_eq_true aS;omega
  obtain⟨x,hx⟩:=Zca aQ
  obtain⟨b0,o0,eH,bA⟩:=ZcH (aR.mono aM) hx
  have cS:=(cD x (List.mem_of_getElem? hx)).mono aM
  have aZ:=hs x (List.mem_of_getElem? hx)
  have hw:IntKind.i64.wrap ((i:Int)+1)=((i+1:Nat):Int):=by rw[ZaB (by omega) (by omega)];rfl
  have bW:=Zsi k w (L.take i) x
  rw[<-Zb8 hx]at bW
  have oZ:=fK i
  simp only[hw,Int.toNat_natCast]
  refine⟨b0,o0,eH,⟨by omega,by omega⟩,_,_,_,_,_,_,_,_,bA,λb3=>Zaa rfl (Zaa rfl (Zab (λhk=>?_) (λhk=>Zaa rfl (Zab (λhw'=>?_) (λhw' b4 qK=>?_)))))⟩
  ·have hk':x.k=k:=by simpa[RowKit.intOf]using hk
   have gX:ZbV k w x=x.subs:=by unfold ZbV;rw[if_pos hk']
   rw[gX]at bW
   refine Zaa rfl ⟨.inl trivial,Rx.ZcM (Za5 k w (L.take i)),Rx.ZcM x.subs,ZaN _,ZaN _,cI,ZaL cS.subs,Zza _,?_,?_,λa5 c5 m5 dA lH=>⟨L.length - (i+1),by omega,i+1,a5,c5,by omega,?_,?_,?_,rfl⟩⟩
   ·simp only[T.sl,slN];omega
   ·simp only[T.sl,slN];omega
   ·rw[bW,List.length_append];rfl
   ·rw[bW,List.length_append];rfl
   ·rw[bW,Zcv];exact lH
  ·have hk':¬x.k=k:=by simpa[RowKit.intOf]using hk
   have fW:x.k=w:=by simpa[RowKit.intOf]using hw'
   have gX:ZbV k w x=[]:=by unfold ZbV;rw[if_neg hk',if_pos fW]
   rw[gX,List.append_nil]at bW
   exact⟨L.length - (i+1),by omega,i+1,a2,c2,by omega,by rw[bW],by rw[bW],by rw[bW];exact cI,rfl⟩
  ·have hk':¬x.k=k:=by simpa[RowKit.intOf]using hk
   have fW:¬x.k=w:=by simpa[RowKit.intOf]using hw'
   have gX:ZbV k w x=[x]:=by unfold ZbV;rw[if_neg hk',if_neg fW]
   rw[gX]at bW
   refine⟨.inl trivial,Rx.ZcM (Za5 k w (L.take i)),x.cs,ZaN _,rfl,cI.mono (Mem.le_add qK _),.inr ⟨b4,0,rfl,λj v hj=>by rw[Nat.zero_add,Mem.add_same];exact hj⟩,by have:=Zza [x];simpa[Rx.ZcM]using this,by omega,by omega,λa5 c5 m5 dA lH=>⟨L.length - (i+1),by omega,i+1,a5,c5,by omega,?_,?_,?_,rfl⟩⟩
   ·rw[bW,List.length_append];rfl
   ·rw[bW,List.length_append];rfl
   ·rw[bW,Zd6];exact lH
 ·have mV:i=L.length:=by have:=of_decide_eq_false bM;omega
  subst mV
  rw[List.take_length]at cI ⊢
  have oZ:=fK L.length
  rw[List.take_length]at oZ
  refine⟨m1,aM,Mem.le_refl _,a2,c2,rfl,Zd7 cI (λt ht=>?_) (by omega)⟩
  simp only[Za5,List.mem_flatten,List.mem_map]at ht
  obtain⟨_,⟨x,hx,rfl⟩,ht⟩:=ht
  have cS:=(cD x hx).mono aM
  unfold ZbV at ht
  split at ht
  ·exact ZbN cS.subs t ht
  ·split at ht
   ·simp at ht
   ·simp at ht;subst ht;exact cS
theorem Zj4(k:Int)(hk:k=3\/k=4)(a:Option Addr)(c:Nat)(l:List T)(u:T)(m:Mem)(hl:RepL m a l)(hu:Rep m u)(gF:l.length<=1000000000)(mJ:u.subs=[]):CX Try.prog 47 #[.int .u8 k,.slice a l.length c,u.v] m [] (ZdM λt'=>ZyL k a c u l t'/\NewT m t'):=by
 apply Zo0
 unfold Zi4
 intro b m1 aM _ b1
 have aR:=ZaL (hl.mono aM)
 match l,hl,gF,aR with
 | [],hl,gF,aR=>exact Zxp rfl ⟨m1,aM,Mem.le_refl _,u,rfl,hu.mono aM,rfl,ZmA mJ⟩
 | [x],hl,gF,aR=>
  refine ZrP rfl (Zxp rfl ?_)
  obtain⟨b0,o0,eH,bA⟩:=ZcH aR (i:=0) (t:=x) rfl
  refine⟨b0,o0,eH,⟨by omega,by simp⟩,_,_,_,_,_,_,_,_,bA,Zag (Zfp x m1 ((ZbN hl x (by simp)).mono aM)) ZaF (ZbR λt' m2 aP hr' ht'=>?_)⟩
  exact⟨m2,mLt aM aP,Mem.le_refl _,t',rfl,hr',ht'.1,ht'.2.less aM⟩
 | x::y::l,hl,gF,aR=>
  refine ZrP (by simp;omega) (ZrP (by simp;omega) ?_)
  have kV:Rep m1 (Zb5 k 0 0 a c (x::y::l)):=Zd5 (hl.mono aM) (by omega) (by omega) (by omega)
  refine Zag (Zfp (Zb5 k 0 0 a c (x::y::l)) m1 kV) ZaF (ZbR λt' m2 aP hr' ht'=>?_)
  exact⟨m2,mLt aM aP,Mem.le_refl _,t',rfl,hr',ht'.1,ht'.2.less aM⟩
theorem Zvy(k:Int)(hk:k=3\/k=4)(a:Option Addr)(c:Nat)(l:List T)(u:T)(m:Mem)(hl:RepL m a l)(hu:Rep m u)(gF:l.length<=1000000000)(mJ:u.subs=[]):CX Try.prog 47 #[.int .u8 k,.slice a l.length c,u.v] m [] (ZdM (ZyL k a c u l)):=
 (Zj4 k hk a c l u m hl hu gF mJ).mono λ_ _ _ _ ⟨t',e,hr',h⟩=>⟨t',e,hr',h.1⟩
theorem ZgQ{t:T}(h:t.clean=true):t.subs.length<=10000:=by
 have h1:=Zhr h
 rw[Zcr]at h1
 have:=ZbY t.subs
 omega
theorem Zzb(L:List T)(a:Option Addr)(c:Nat)(m:Mem)(hL:RepL m a L)(hl:L.length<=1000)(hc:∀x∈L,x.clean=true):CX Try.prog 16 #[.slice a L.length c] m [] (ZdM λt'=>(∃a c,ZyL 4 a c T0 (Za5 4 0 L) t')/\NewT m t'):=by
 apply Zxs
 unfold Zt4
 intro b
 have aR:=ZaL hL
 have cD:=ZbN hL
 refine⟨λxs css tvs m' q=>∃i:Nat,i<=L.length/\xs=[.int .i64 i]/\q=L.length - i,⟨_,0,by omega,rfl,rfl⟩,?_⟩
 rintro z cs m1 q aM ⟨i,hi,aZ,hq⟩
 obtain rfl:z=i:=by simpa using aZ
 refine Zab (λaS=>?_) (λbM=>?_)
 ·have aQ:i < L.length:=by have:=of_decide_eq_true aS;omega
  obtain⟨x,hx⟩:=Zca aQ
  obtain⟨b0,o0,eH,bA⟩:=ZcH (aR.mono aM) hx
  have cS:=(cD x (List.mem_of_getElem? hx)).mono aM
  have hw:IntKind.i64.wrap ((i:Int)+1)=((i+1:Nat):Int):=by rw[ZaB (by omega) (by omega)];rfl
  simp only[hw,Int.toNat_natCast]
  exact⟨b0,o0,eH,⟨by omega,by omega⟩,_,_,_,_,_,_,_,_,bA,λb3=>Zaa rfl (Zai (Zws x m1 cS (hc x (List.mem_of_getElem? hx))) λm2 aP=>ZrP rfl ⟨by trivial,L.length - (i+1),by omega,i+1,by omega,rfl,rfl⟩)⟩
 ·refine Zag (Zwt 4 0 L a c m1 (hL.mono aM) hl λx hx=>ZgQ (hc x hx)) (λv _ _ ⟨a,c,e,_⟩=>by rw[e];rfl) ?_
  rintro a2 n2 c2 m2 aP ⟨a',c',hv,hF⟩
  simp only[Value.slice.injEq]at hv
  obtain⟨rfl,rfl,rfl⟩:=hv
  have fK:=ZiN 4 0 L λx hx=>ZgQ (hc x hx)
  refine Zag (Zj4 4 (.inr rfl) a2 c2 (Za5 4 0 L) T0 m2 hF (Zl9 _) (by omega) rfl) ZaF (ZbR λt' m3 aX hr' ht'=>?_)
  exact⟨m3,mLt aM (mLt aP aX),Mem.le_refl _,t',rfl,hr',⟨a2,c2,ht'.1⟩,ht'.2.less (mLt aM aP)⟩
theorem Zz0(L:List T)(a:Option Addr)(c:Nat)(m:Mem)(hL:RepL m a L)(hl:L.length<=1000)(hc:∀x∈L,x.clean=true):CX Try.prog 16 #[.slice a L.length c] m [] (ZdM λt'=>∃a c,ZyL 4 a c T0 (Za5 4 0 L) t'):=
 (Zzb L a c m hL hl hc).mono λ_ _ _ _ ⟨t',e,hr',h⟩=>⟨t',e,hr',h.1⟩
theorem Zwu(L:List T)(a:Option Addr)(c:Nat)(m:Mem)(hL:RepL m a L)(hl:L.length<=1000)(hc:∀x∈L,x.clean=true):CX Try.prog 15 #[.slice a L.length c] m [] (ZdM λt'=>(∃a c,ZyL 3 a c T1 (Za5 3 1 L) t')/\NewT m t'):=by
 apply Zvw
 unfold Zrd
 intro b
 have aR:=ZaL hL
 have cD:=ZbN hL
 refine⟨λxs css tvs m' q=>∃i:Nat,i<=L.length/\xs=[.int .i64 i]/\q=L.length - i,⟨_,0,by omega,rfl,rfl⟩,?_⟩
 rintro z cs m1 q aM ⟨i,hi,aZ,hq⟩
 obtain rfl:z=i:=by simpa using aZ
 refine Zab (λaS=>?_) (λbM=>?_)
 ·have aQ:i < L.length:=by have:=of_decide_eq_true aS;omega
  obtain⟨x,hx⟩:=Zca aQ
  obtain⟨b0,o0,eH,bA⟩:=ZcH (aR.mono aM) hx
  have cS:=(cD x (List.mem_of_getElem? hx)).mono aM
  have qL:=hc x (List.mem_of_getElem? hx)
  have hk:=Zwk qL
  have dF:=Zj3 x m1 cS
  rw[qL]at dF
  have hw:IntKind.i64.wrap ((i:Int)+1)=((i+1:Nat):Int):=by rw[ZaB (by omega) (by omega)];rfl
  simp only[hw,Int.toNat_natCast]
  refine⟨b0,o0,eH,⟨by omega,by omega⟩,_,_,_,_,_,_,_,_,bA,λb3=>Zaa rfl ⟨false,?_,ZrP rfl ⟨by trivial,L.length - (i+1),by omega,i+1,by omega,rfl,rfl⟩⟩⟩
  refine Zaa rfl (ZrP (by simpa[RowKit.intOf]using hk) ?_)
  exact Zai dF λm2 aP=>⟨by trivial,rfl⟩
 ·refine Zag (Zwt 3 1 L a c m1 (hL.mono aM) hl λx hx=>ZgQ (hc x hx)) (λv _ _ ⟨a,c,e,_⟩=>by rw[e];rfl) ?_
  rintro a2 n2 c2 m2 aP ⟨a',c',hv,hF⟩
  simp only[Value.slice.injEq]at hv
  obtain⟨rfl,rfl,rfl⟩:=hv
  have fK:=ZiN 3 1 L λx hx=>ZgQ (hc x hx)
  refine Zag (Zj4 3 (.inl rfl) a2 c2 (Za5 3 1 L) T1 m2 hF (Zu8 _) (by omega) rfl) ZaF (ZbR λt' m3 aX hr' ht'=>?_)
  exact⟨m3,mLt aM (mLt aP aX),Mem.le_refl _,t',rfl,hr',⟨a2,c2,ht'.1⟩,ht'.2.less (mLt aM aP)⟩
theorem Zvz(L:List T)(a:Option Addr)(c:Nat)(m:Mem)(hL:RepL m a L)(hl:L.length<=1000)(hc:∀x∈L,x.clean=true):CX Try.prog 15 #[.slice a L.length c] m [] (ZdM λt'=>∃a c,ZyL 3 a c T1 (Za5 3 1 L) t'):=
 (Zwu L a c m hL hl hc).mono λ_ _ _ _ ⟨t',e,hr',h⟩=>⟨t',e,hr',h.1⟩
theorem Zlx(t:T)(m:Mem)(hr:Rep m t):CX Try.prog 22 #[t.v] m [] (ZdM λt'=>(∃a c,ZzD (Zb5 6 0 0 a c [t]) t')/\NewT m t'):=by
 apply Zmz
 unfold Zhy
 intro b m1 aM _ b1 b2 nZ
 have bE:=mLt aM (Mem.le_add nZ t.cs)
 have hL:RepL (m1.add b2 t.cs) (some ⟨b2,0,none⟩) [t]:=ZpA (λj v hj=>by rw[Nat.zero_add,Mem.add_same];exact hj) (hr.mono bE)
 have kV:Rep (m1.add b2 t.cs) (Zb5 6 0 0 (some ⟨b2,0,none⟩) 1 [t]):=Zd5 hL (by omega) (by omega) (by omega)
 refine Zag (Zfp (Zb5 6 0 0 (some ⟨b2,0,none⟩) 1 [t]) (m1.add b2 t.cs) kV) ZaF (ZbR λt' m2 aP hr' ht'=>?_)
 exact⟨m2,mLt bE aP,Mem.le_refl _,t',rfl,hr',⟨_,_,ht'.1⟩,ht'.2.less bE⟩
theorem ZsL(t:T)(m:Mem)(hr:Rep m t):CX Try.prog 22 #[t.v] m [] (ZdM λt'=>∃a c,ZzD (Zb5 6 0 0 a c [t]) t'):=
 (Zlx t m hr).mono λ_ _ _ _ ⟨t',e,hr',h⟩=>⟨t',e,hr',h.1⟩
set_option maxHeartbeats 1600000 in
theorem ZvA(t:T)(lo hi:Int)(m:Mem)(hr:Rep m t)(hc:t.clean=true):CX Try.prog 69 #[t.v,.int .i64 lo,.int .i64 hi] m [] (ZdM λt'=>ZzZ t lo hi t'/\NewT m t'):=by
 apply Zre
 unfold Zlw
 intro b m1 aM _ b1
 have hk:=Zwk hc
 have hk':(t.k == 0)=false:=by simpa using hk
 have qM:=Zra lo hi
 generalize hB:Zcm lo hi=B at qM
 have hz:∃z,(lo == 0&&hi == 0)=z:=⟨_,rfl⟩
 have ho:∃o,(lo == 1&&hi == 1)=o:=⟨_,rfl⟩
 obtain⟨z,hz⟩:=hz
 obtain⟨o,ho⟩:=ho
 have yG:z=true->lo=0/\hi=0:=λh=>by rw[h]at hz;simpa using hz
 have qG:o=true->lo=1/\hi=1:=λh=>by rw[h]at ho;simpa using ho
 refine⟨z,o,?_,!z&&(!o&&!B),?_,Zab (λh=>?_) (λh=>⟨false,?_,ZrP rfl ⟨z||t.k == 1,?_,Zab (λh2=>?_) (λh2=>Zab (λh3=>?_) (λh3 b4 qK=>?_))⟩⟩)⟩
 ·rw[<-hz,<-ho]
  refine Zab (λh=>Zab (λh2=>⟨by trivial,?_⟩) (λh2=>⟨by trivial,?_⟩)) (λh=>Zab (λh2=>⟨by trivial,?_⟩) (λh2=>⟨by trivial,?_⟩)) <;> rw[h,h2] <;> rfl
 ·refine Zai (Zws t m1 (hr.mono aM) hc) λm2 aP=>ZrP rfl (Zab (λh=>Zab (λh2=>?_) (λh2=>?_)) (λh=>?_))
  ·refine Zai (qM m2) λm3 aX=>⟨by trivial,?_⟩
   rw[h,h2];rfl
  ·refine⟨by trivial,?_⟩
   rw[h,h2];rfl
  ·refine⟨by trivial,?_⟩
   rw[h];rfl
 ·exact⟨m1,aM,Mem.le_refl _,T0,rfl,Zl9 _,.inl ⟨rfl,by
   cases z <;> cases o <;> cases B <;> simp_all⟩,ZmA rfl⟩
 ·exact ZrP hk' ⟨by trivial,rfl⟩
 ·refine Zab (λh3=>⟨by trivial,?_⟩) (λh3=>ZrP hk' ⟨by trivial,?_⟩)
  ·rw[h3];rfl
  ·rw[h3];rfl
 ·refine⟨m1,aM,Mem.le_refl _,T1,rfl,Zu8 _,.inr (.inl ⟨rfl,?_⟩),ZmA rfl⟩
  cases z with
  | true=>exact .inl (yG rfl)
  | false=>
   right
   refine⟨by simpa using h2,?_⟩
   cases o with
   | true=>exact .inl (qG rfl)
   | false=>right;simpa[hB]using h
 ·refine Zag (ZgP t m1 (hr.mono aM) (Zhr hc)) ZaF (ZbR λt' m2 aP hr' ht'=>?_)
  have:=qG (by simpa using h3)
  exact⟨m2,mLt aM aP,Mem.le_refl _,t',rfl,hr',.inr (.inr (.inl ⟨this.1,this.2,ht'.1⟩)),ht'.2.2.less aM⟩
 ·have bE:=mLt aM (Mem.le_add qK t.cs)
  have hL:RepL (m1.add b4 t.cs) (some ⟨b4,0,none⟩) [t]:=ZpA (λj v hj=>by rw[Nat.zero_add,Mem.add_same];exact hj) (hr.mono bE)
  have yH:B=true:=by
   rw[h3]at h
   have:z=false:=by
    cases z with
    | true=>simp at h2
    | false=>rfl
   rw[this]at h
   simpa using h
  have hb:=hB.trans yH
  have dI:0<=lo/\lo<=16/\-1<=hi/\hi<=16:=by
   unfold Zcm at hb
   simp only[Bool.and_eq_true,Bool.not_eq_true',Bool.or_eq_false_iff,Bool.or_eq_true,decide_eq_false_iff_not,decide_eq_true_eq,beq_iff_eq]at hb
   omega
  have kV:Rep (m1.add b4 t.cs) (Zb5 5 lo hi (some ⟨b4,0,none⟩) 1 [t]):=Zd5 hL (by omega) (by omega) (by omega)
  refine Zag (Zfp (Zb5 5 lo hi (some ⟨b4,0,none⟩) 1 [t]) (m1.add b4 t.cs) kV) ZaF (ZbR λt' m2 aP hr' ht'=>?_)
  exact⟨m2,mLt bE aP,Mem.le_refl _,t',rfl,hr',.inr (.inr (.inr ⟨_,_,ht'.1⟩)),ht'.2.less bE⟩
end Go.Proofs.Ytfgfahnakepegaa
set_option linter.unusedVariables false
set_option linter.unusedSimpArgs false
set_option linter.unusedSectionVars false
namespace Go.Proofs.Ytfgfahnakepegaa
open Go Go.Eng Go.Rx Go.Proofs Go.RowKit
set_option maxRecDepth 100000
def Zz1(L:List T):Value->Mem->List (List Value)->Prop:=λv m' _=>∃a c,v=.slice a L.length c/\RepL m' a L/\L.length<=c
theorem ZgR{L:List T}:∀(v:Value)(m':Mem) (css:List (List Value)),Zz1 L v m' css->Shape.fits .slice v=true:=λv _ _ ⟨a,c,e,_⟩=>by rw[e];rfl
theorem ZgS{m:Mem}{a:Option Addr}{L:List T}(h:RepL m a L)(n:Nat):RepL m a (L.take n):=by
 have aR:=ZaL h
 refine Zd7 (Zxq (r:=L.drop n) (by rw[List.take_append_drop];exact aR)) (λx hx=>ZbN h x (List.mem_of_mem_take hx)) ?_
 have:=h.1
 rw[List.length_take];omega
theorem ZmB{m:Mem}{a:Option Addr}{L:List T}(h:RepL m a L){i c:Nat}(hi:i<=L.length)(hc:L.length<=c):RepL m (ZaQ a i c 8) (L.drop i):=by
 have aR:=ZaL h
 refine Zd7 ?_ (λx hx=>ZbN h x (List.mem_of_mem_drop hx)) (by have:=h.1;rw[List.length_drop];omega)
 by_cases hz:L.drop i=[]
 ·left;rw[hz];rfl
 have aS:i < L.length:=by
  apply Classical.byContradiction
  intro hn
  exact hz (List.drop_eq_nil_of_le (by omega))
 rcases aR with aR|⟨b,o,ha,bA⟩
 ·have:=congrArg List.length aR
  rw[ZaN]at this
  simp only[List.length_nil]at this
  omega
 right
 subst ha
 have hs:ZaQ (some ⟨b,o,none⟩) i c 8=some ⟨b,o+i*8,none⟩:=by
  unfold ZaQ
  cases i with
  | zero=>rfl
  | succ i=>
   have e1:Nat.beq (i+1) 0=false:=rfl
   have e2:Nat.beq c (i+1)=false:=by
    cases hb:Nat.beq c (i+1)with
    | false=>rfl
    | true=>have:=Nat.eq_of_beq_eq_true hb;omega
   rw[e1,e2]
   show some (Addr.add _ ((i+1)*8))=_
   rw[ZcJ]
 refine⟨b,o+i*8,hs,λj v hj=>?_⟩
 have e:Rx.ZcM L=Rx.ZcM (L.take i)++Rx.ZcM (L.drop i):=by rw[<-Zcv,List.take_append_drop]
 have hl:(Rx.ZcM (L.take i)).length=i*8:=by rw[ZaN,List.length_take,Nat.min_eq_left hi]
 have:=bA (i*8+j) v (by rw[e,List.getElem?_append_right (by omega),hl,Nat.add_sub_cancel_left];exact hj)
 rwa [Nat.add_assoc]
theorem Zrg(t:T)(m:Mem)(hr:Rep m t)(hc:t.subs.length<=t.c):CX Try.prog 53 #[t.v] m [] (Zz1 (Zan t)):=by
 apply Zkk
 unfold ZfW
 intro b m1 aM bA
 refine Zab (λhk=>?_) (λhk=>Zab (λeO=>?_) (λeO=>?_))
 ·have hk':t.k=2:=by simpa using hk
  intro b2 nZ
  refine⟨_,mLt aM (Mem.le_add nZ t.cs),Mem.le_refl _,some ⟨b2,0,none⟩,1,?_,?_,?_⟩
  ·unfold Zan;rw[if_pos hk'];rfl
  ·unfold Zan;rw[if_pos hk']
   exact ZpA (λj v hj=>by rw[Nat.zero_add,Mem.add_same];exact hj) (hr.mono (mLt aM (Mem.le_add nZ t.cs)))
  ·unfold Zan;rw[if_pos hk'];simp
 ·have hk':t.k=3:=by simpa using eO
  have dC:¬t.k=2:=by omega
  have bK:=(hr.mono aM).subs
  have jC:∀x∈t.subs,∀m',m1.le m'->Rep m' x->CX Try.prog 88 (x.v::[]).toArray m' [] (Ret (.bool (!x.isC))):=by
   intro x _ m' _ _
   apply Zia
   unfold ZeC
   intro b m2 aP _
   exact Zah aP rfl
  have uQ:=Zi1 t.subs t.a t.c 88 [] (λx=>!x.isC) m1 bK.1 bK.2 jC
  have uR:Zan t=t.subs.take (t.subs.findIdx λx=>!x.isC):=by
   unfold Zan
   rw[if_neg dC,if_pos hk']
   exact List.takeWhile_eq_take_findIdx_not
  refine Zdh uQ λm2 aP=>?_
  have jJ:=bK.mono aP
  cases eL:t.subs.any (λx=>!x.isC)with
  | false=>
   rw[if_neg (by simp)]
   have aV:Zan t=t.subs:=by
    rw[uR]
    have:t.subs.findIdx (λx=>!x.isC)=t.subs.length:=by
     rw[List.findIdx_eq_length]
     intro x hx
     have:=List.any_eq_false.1 eL x hx
     simpa using this
    rw[this,List.take_length]
   refine Zxp rfl ⟨_,mLt aM aP,Mem.le_refl _,?_⟩
   rw[aV]
   exact⟨_,_,rfl,jJ,hc⟩
  | true=>
   rw[if_pos rfl]
   have bE:t.subs.findIdx (λx=>!x.isC)<=t.subs.length:=List.findIdx_le_length
   refine ZrP (decide_eq_false (by omega)) ⟨⟨by omega,by omega⟩,_,mLt aM aP,Mem.le_refl _,?_⟩
   have aU:(Zan t).length=t.subs.findIdx (λx=>!x.isC):=by rw[uR,List.length_take,Nat.min_eq_left bE]
   refine⟨ZaQ t.a 0 t.c 8,t.c - 0,?_,?_,by omega⟩
   ·rw[aU];simp
   ·rw[uR];exact ZgS jJ _
 ·have dC:¬t.k=2:=by simpa using hk
  have pL:¬t.k=3:=by simpa using eO
  refine⟨_,aM,Mem.le_refl _,none,0,?_,?_,?_⟩
  ·unfold Zan;rw[if_neg dC,if_neg pL];rfl
  ·unfold Zan;rw[if_neg dC,if_neg pL];exact⟨by simp,.inl rfl⟩
  ·unfold Zan;rw[if_neg dC,if_neg pL];simp
theorem Zzc(t:T)(n:Nat)(m:Mem)(hr:Rep m t)(hg:t.good=true)(hz:t.nodes.length<=900)(hc:t.subs.length<=t.c)(hn:n<=(Zan t).length):CX Try.prog 115 #[t.v,.int .i64 n] m [] (ZdM λt'=>t'.er=Zbw n t/\t'.caps):=by
 apply Zkl
 unfold ZfX
 intro b m1 aM bA b2
 refine Zab (λhk=>?_) (λhk=>?_)
 ·have hk':t.k=2:=by simpa using hk
  have h:=Zvz [] none 0 m1 ⟨by simp,.inl rfl⟩ (by simp) (by simp)
  refine Zag h ZaF (ZbR λt' m2 aP hr' ⟨a,c,hj⟩=>?_)
  refine⟨m2,mLt aM aP,Mem.le_refl _,t',rfl,hr',?_,Zdc Zlm hj⟩
  have hj:t'=T1:=hj
  unfold Zbw
  rw[if_pos hk',hj];rfl
 ·have dC:¬t.k=2:=by simpa using hk
  have bE:n<=t.subs.length:=by
   unfold Zan at hn
   rw[if_neg dC]at hn
   split at hn
   ·exact Nat.le_trans hn (List.takeWhile_sublist _).length_le
   ·simp at hn;omega
  have hd:=ZmB (hr.mono aM).subs bE hc
  have fZ:∀x∈t.subs.drop n,x.good=true:=λx hx=>(Zam hg).2 x (List.mem_of_mem_drop hx)
  have bB:szL (t.subs.drop n)<=900:=by
   have:=ZcK t.subs n
   rw[Zcr]at hz
   omega
  have dF:∀x∈t.subs.drop n,x.clean=true:=λx hx=>Zbg (fZ x hx) (by have:=ZbL hx;omega)
  have gF:(t.subs.drop n).length=t.subs.length - n:=List.length_drop
  have h:=Zvz (t.subs.drop n) (ZaQ t.a n t.c 8) (t.c - n) m1 hd (by have:=ZbY (t.subs.drop n);omega) dF
  rw[gF]at h
  refine⟨⟨by omega,by omega⟩,?_⟩
  simp only[Int.toNat_natCast]
  refine Zag h ZaF (ZbR λt' m2 aP hr' ⟨a,c,hj⟩=>?_)
  refine⟨m2,mLt aM aP,Mem.le_refl _,t',rfl,hr',?_,Zdc Zlm hj⟩
  unfold Zbw
  rw[if_neg dC]
  exact Zmd fZ (by omega) hj
theorem Zfq(t:T)(m:Mem)(hr:Rep m t):CX Try.prog 50 #[t.v] m [] (Ret (.bool (t.clean&&decide (t.size<=120)))):=by
 apply ZiV
 unfold Zfn
 intro b m1 aM bA
 refine⟨t.clean&&decide (t.size<=120),Zai (Zj3 t m1 (hr.mono aM)) λm2 aP=>Zab (λh=>?_) (λh=>?_),Zah aM rfl⟩
 ·refine Zdh (Zoe t m2 (hr.mono (mLt aM aP))) λm3 aX=>⟨rfl,?_⟩
  rw[h];rfl
 ·exact⟨rfl,by rw[h];rfl⟩
theorem Zes{L R:List T}{n:Nat}{x y:T}(hx:L[n]?=some x)(hy:R[n]?=some y)(h:n<=ZaO L R):(n < ZaO L R↔ZcS x y=true):=by
 induction n generalizing L R with
 | zero=>
  match L,R with
  | [],_=>simp at hx
  | _::_,[]=>simp at hy
  | a::l,b::r=>
   simp at hx hy
   subst hx hy
   unfold ZaO
   cases hs:ZcS a b <;> simp
 | succ n ih=>
  match L,R with
  | [],_=>simp at hx
  | _::_,[]=>simp at hy
  | a::l,b::r=>
   simp at hx hy
   unfold ZaO at h ⊢
   split at h
   ·rename_i hs
    rw[if_pos hs]
    have:=ih hx hy (by omega)
    rw[<-this];omega
   ·omega
theorem Zrh{m:Mem}{b o:Nat}{t:T}(h:m.reads b o t.cs):m.reads b (o+1) [.int .u64 t.s0,.int .u64 t.s1,.int .u64 t.s2,.int .u64 t.s3]:=by
 intro j v hj
 have aS:j < 4:=(List.getElem?_eq_some_iff.1 hj).1
 rw[show o+1+j=o+(1+j) by omega]
 refine h (1+j) v ?_
 have e:j=0\/j=1\/j=2\/j=3:=by omega
 rcases e with rfl|rfl|rfl|rfl <;> exact hj
theorem ZvB(L R:List T)(a1 a2:Option Addr)(c1 c2:Nat)(m:Mem)(hL:RepL m a1 L)(hR:RepL m a2 R):CX Try.prog 98 #[.slice a1 L.length c1,.slice a2 R.length c2] m [] (Ret (.int .i64 (ZaO L R:Nat))):=by
 apply Zib
 unfold ZeD
 have yI:=ZaL hL
 have yJ:=ZaL hR
 have dF:=Zcp L R
 have h1:=hL.1
 refine⟨λxs css tvs m' q=>∃i:Nat,i<=ZaO L R/\xs=[.int .i64 i]/\q=ZaO L R - i,⟨_,0,by omega,rfl,rfl⟩,?_⟩
 rintro z m1 q aM ⟨i,hi,aZ,hq⟩
 obtain rfl:z=i:=by simpa using aZ
 have hw:i < L.length->IntKind.i64.wrap ((i:Int)+1)=((i+1:Nat):Int):=λh=>by rw[ZaB (by omega) (by omega)];rfl
 refine⟨decide (i < ZaO L R),Zab (λaS=>Zab (λeK=>?_) (λmY=>?_)) (λbM=>?_),Zab (λh=>?_) (λh=>?_)⟩
 ·have aQ:i < L.length:=by have:=of_decide_eq_true aS;omega
  have iM:i < R.length:=by have:=of_decide_eq_true eK;omega
  obtain⟨x,hx⟩:=Zca aQ
  obtain⟨y,hy⟩:=Zca iM
  obtain⟨b0,o0,eH,dN⟩:=ZcH (yI.mono aM) hx
  obtain⟨b2,o2,kL,mZ⟩:=ZcH (yJ.mono aM) hy
  refine⟨b0,o0,eH,⟨by omega,by omega⟩,_,_,_,_,Zrh dN,b2,o2,kL,⟨by omega,by omega⟩,_,_,_,_,Zrh mZ,_,ZsG _ _ _ _ _ _ _ _,ZbG ?_⟩
  have:=Zes hx hy hi
  rw[Bool.eq_iff_iff,decide_eq_true_iff,this]
  unfold ZcS
  simp[and_assoc]
 ·have:¬i < R.length:=λh=>by have:=of_decide_eq_false mY;omega
  rw[decide_eq_false (by omega)]
 ·have:¬i < L.length:=λh=>by have:=of_decide_eq_false bM;omega
  rw[decide_eq_false (by omega)]
 ·have aS:=of_decide_eq_true h
  rw[hw (by omega)]
  exact⟨ZaO L R - (i+1),by omega,i+1,by omega,rfl,rfl⟩
 ·have:i=ZaO L R:=by have:=of_decide_eq_false h;omega
  subst this
  exact⟨m1,aM,Mem.le_refl _,rfl⟩
def FnR(g:Nat)(t:T):Value->Mem->List (List Value)->Prop:=λv m' _=>∃b,v=.func (.func g) #[] #[Zep b]/\m'.reads b 0 t.cs
theorem ZmC{g:Nat}{t:T}:∀(v:Value)(m':Mem) (css:List (List Value)),FnR g t v m' css->Shape.fits .fn v=true:=λv _ _ ⟨b,e,_⟩=>by rw[e];rfl
theorem Zzd(t:T)(m:Mem):CX Try.prog 97 #[t.v] m [] (FnR 112 t):=by
 apply Zko
 unfold ZfZ
 intro b m1 aM bA
 exact⟨m1,aM,Mem.le_refl _,b,rfl,bA⟩
theorem Zt5(t:T)(m:Mem):CX Try.prog 72 #[t.v] m [] (FnR 96 t):=by
 apply Zkn
 unfold ZfY
 intro b m1 aM bA
 exact⟨m1,aM,Mem.le_refl _,b,rfl,bA⟩
def Zv4(c:C4):List Value:=[c.v]
set_option maxHeartbeats 1600000 in
theorem Zt6(t:T)(m:Mem)(c0b:Nat)(bA:m.reads c0b 0 t.cs)(hr:Rep m t)(cY:t.caps)(hz:t.nodes.length<=100000):IX Try.prog 96 [] [Zep c0b] m (t.cuts.map Zv4):=by
 apply Zic 0 [] [] c0b 0
 unfold ZeE
 intro l b m1 aM fB b1
 refine⟨_,_,_,_,_,_,_,_,λj v hj=>aM _ _ _ (bA j v hj),Zag (Zzd t m1) ZmC ?_⟩
 rintro g fi ca m2 aP ⟨nb,hv,iW⟩
 obtain⟨rfl,rfl,rfl⟩:=ZeR hv
 have dL:=hr.mono (mLt aM aP)
 generalize yK:t.cuts.map Zv4=XS
 refine⟨_,Zy8 t m2 nb iW dL,λx hx=>?_,λxs css tvs m' q=>∃y:Nat,xs=[.int .i64 y]/\css=[[.int .i64 q]]/\y<=XS.length/\XS.drop y=(Zfj q (t.alts.drop q)).map Zv4,⟨0,rfl,rfl,by omega,?_⟩,?_,?_⟩
 ·obtain⟨a,_,rfl⟩:=List.mem_map.1 hx
  exact Zsg a
 ·rw[List.drop_zero,List.drop_zero,<-yK];rfl
 ·rintro y0 k s0 s1 s2 s3 mn mx aa nn cc cs m3 n8 aX dE ⟨y,aZ,cC,wY,fJ⟩ b2
  obtain rfl:y0=y:=by simpa using aZ
  obtain rfl:cs=[.int .i64 n8]:=by simpa using cC
  have dE:(t.alts.map λa=>[a.v])[n8]?=some [.agg #[.int .u8 k,.int .u64 s0,.int .u64 s1,.int .u64 s2,.int .u64 s3,.int .i64 mn,.int .i64 mx,.slice aa nn cc]]:=dE
  rw[List.getElem?_map]at dE
  obtain⟨al,iI,he⟩:=Option.map_eq_some_iff.1 dE
  simp only[T.v,Value.agg.injEq,Array.mk.injEq,List.cons.injEq,Value.int.injEq,Value.slice.injEq,true_and,and_true]at he
  obtain⟨rfl,rfl,rfl,rfl,rfl,rfl,rfl,rfl,rfl,rfl⟩:=he
  have bR:=ZpE t al (List.mem_of_getElem? iI)
  have uS:=(Zl7 dL bR.1).mono aX
  have wZ:=Zsm cY bR.1
  have bK:=uS.subs
  have aU:=bK.1
  have aR:=ZaL bK
  have cD:=ZbN bK
  have uT:t.alts.drop n8=al::t.alts.drop (n8+1):=by
   obtain⟨h1,h2⟩:=List.getElem?_eq_some_iff.1 iI
   rw[List.drop_eq_getElem_cons h1,h2]
  generalize gE:Zfj (n8+1) (t.alts.drop (n8+1))=rest
  refine⟨λxs css tvs m' q=>∃y f:Nat,xs=[.int .i64 y,.int .i64 f]/\f<=al.subs.length/\y<=XS.length/\XS.drop y=(ZeT n8 f (al.subs.drop f)++rest).map Zv4/\q=al.subs.length - f,⟨_,y,0,rfl,by omega,wY,?_,rfl⟩,?_⟩
  ·rw[fJ,uT,Zfj,gE];rfl
  rintro y1 f0 m4 q4 bG ⟨y1',f,rU,hf,rV,jE,tR⟩
  simp only[List.cons.injEq,Value.int.injEq,true_and,and_true]at rU
  obtain⟨rfl,rfl⟩:=rU
  refine Zab (λaS=>?_) (λbM=>?_)
  ·have aQ:f < al.subs.length:=by have:=of_decide_eq_true aS;omega
   obtain⟨x,hx⟩:=Zca aQ
   obtain⟨b0,o0,eH,dN⟩:=ZcH (aR.mono bG) hx
   have cN:=List.mem_of_getElem? hx
   have yL:al.subs.drop f=x::al.subs.drop (f+1):=by
    obtain⟨h1,h2⟩:=List.getElem?_eq_some_iff.1 hx
    rw[List.drop_eq_getElem_cons h1,h2]
   have mK:IntKind.i64.wrap ((f:Int)+1)=((f+1:Nat):Int):=by rw[ZaB (by omega) (by omega)];rfl
   have fW:IntKind.i64.wrap ((f:Int)+2)=((f+2:Nat):Int):=by rw[ZaB (by omega) (by omega)];rfl
   simp only[mK,fW]
   refine⟨b0,o0,eH,⟨by omega,by omega⟩,_,_,_,_,_,_,_,_,dN,Zag (Zrg x m4 ((cD x cN).mono bG) (Zhp (Zho wZ cN))) ZgR ?_⟩
   rintro a6 n11 c1 m5 dA ⟨a6',c1',rW,hS,yM⟩
   simp only[Value.slice.injEq]at rW
   obtain⟨rfl,rfl,rfl⟩:=rW
   have uU:=mLt bG dA
   generalize oA:ZeT n8 (f+1) (al.subs.drop (f+1))++rest=next
   refine⟨λxs css tvs m' q=>∃(y to:Nat)(s:List T)(a:Option Addr)(c:Nat),xs=[.int .i64 y,.slice a s.length c,.int .i64 to]/\f+2<=to/\to<=al.subs.length+1/\RepL m' a s/\s.length<=c/\y<=XS.length/\XS.drop y=(runE n8 f s to (al.subs.drop (to - 1))++next).map Zv4/\q=al.subs.length+1 - to,⟨_,y1',f+2,Zan x,a6,c1,rfl,by omega,by omega,hS,yM,rV,?_,rfl⟩,?_⟩
   ·rw[jE,yL,ZeT,<-oA,List.append_assoc];rfl
   rintro y2 a9 n12 c2 to0 m6 q6 eA ⟨y2',to,s,a9',c2',rX,yN,uV,hs,AC,uW,dZ,AD⟩
   simp only[List.cons.injEq,Value.int.injEq,Value.slice.injEq,true_and,and_true]at rX
   obtain⟨rfl,⟨rfl,rfl,rfl⟩,rfl⟩:=rX
   have w5:=mLt uU eA
   have oB:∀m':Mem,XS.drop y2'=next.map Zv4->∃n':Nat,n' < q4/\∃y f':Nat,([.int .i64 y2',.int .i64 ((f+1:Nat):Int)]:List Value)=[.int .i64 y,.int .i64 f']/\f'<=al.subs.length/\y<=XS.length/\XS.drop y=(ZeT n8 f' (al.subs.drop f')++rest).map Zv4/\n'=al.subs.length - f':=λm' h=>⟨al.subs.length - (f+1),by omega,y2',f+1,rfl,by omega,uW,by rw[h,<-oA],rfl⟩
   refine Zab (λbE=>?_) (λgH=>?_)
   ·have rY:to<=al.subs.length:=by have:=of_decide_eq_true bE;omega
    obtain⟨z,hz⟩:=Zca (l:=al.subs) (k:=to - 1) (by omega)
    obtain⟨b4,o4,yO,pM⟩:=ZcH (aR.mono w5) hz
    have w7:=List.mem_of_getElem? hz
    have yP:al.subs.drop (to - 1)=z::al.subs.drop to:=by
     obtain⟨h1,h2⟩:=List.getElem?_eq_some_iff.1 hz
     rw[List.drop_eq_getElem_cons h1,h2,show to - 1+1=to by omega]
    have yQ:IntKind.i64.wrap ((to:Int) - 1)=((to - 1:Nat):Int):=by rw[ZaB (by omega) (by omega)];omega
    have yR:IntKind.i64.wrap ((to:Int)+1)=((to+1:Nat):Int):=by rw[ZaB (by omega) (by omega)];rfl
    simp only[yQ,yR]
    refine⟨b4,o4,yO,⟨by omega,by omega⟩,_,_,_,_,_,_,_,_,pM,Zag (Zrg z m6 ((cD z w7).mono w5) (Zhp (Zho wZ w7))) ZgR ?_⟩
    rintro a12 n15 c3 m7 cT ⟨a12',c3',rZ,hZ,AE⟩
    simp only[Value.slice.injEq]at rZ
    obtain⟨rfl,rfl,rfl⟩:=rZ
    refine Zdh (ZvB s (Zan z) a9 a12 c2 c3 m7 (hs.mono cT) hZ) λm8 fA=>?_
    have q9:=Zcp s (Zan z)
    rw[yP,runE]at dZ
    generalize ZaO s (Zan z)=kk at *
    refine⟨⟨by omega,by omega⟩,Zab (λjR=>?_) (λjR=>?_)⟩
    ·have jR:kk=0:=by have:=eq_of_beq jR;omega
     rw[if_pos jR,List.nil_append]at dZ
     exact⟨trivial,oB m8 dZ⟩
    ·have jR:¬kk=0:=λe=>by subst e;simp at jR
     rw[if_neg jR,List.cons_append,List.map_cons]at dZ
     obtain⟨jC,rm⟩:=Zva dZ
     have eK:=(List.getElem?_eq_some_iff.1 jC).1
     refine Zar (v:=.int .i64 n8) rfl (Zaa rfl (Zaa rfl (Zaa rfl (Zaa rfl ⟨⟨trivial,by omega,?_⟩,⟨trivial,al.subs.length+1 - (to+1),by omega,y2'+1,to+1,s.take kk,ZaQ a9 0 c2 8,c2 - 0,?_,by omega,by omega,ZgS ((hs.mono cT).mono fA) kk,?_,by omega,?_,rfl⟩,trivial,.inr trivial⟩))))
     ·rw[Int.toNat_natCast]
      exact jC.trans rfl
     ·simp[List.length_take,Nat.min_eq_left q9.1]
     ·rw[List.length_take];omega
     ·rw[rm];rfl
   ·have rY:to=al.subs.length+1:=by have:=of_decide_eq_false gH;omega
    subst rY
    rw[Nat.add_sub_cancel,List.drop_length,runE,List.nil_append]at dZ
    exact⟨trivial,oB m6 dZ⟩
  ·have uX:f=al.subs.length:=by have:=of_decide_eq_false bM;omega
   subst uX
   rw[List.drop_length,ZeT,List.nil_append]at jE
   refine Zar (v:=.int .i64 n8) rfl (Zaa rfl ⟨rfl,y1',rfl,?_,rV,by rw[jE,<-gE]⟩)
   have AF:n8 < t.alts.length:=(List.getElem?_eq_some_iff.1 iI).1
   have yS:=ZtK t
   rw[show RowKit.intOf (.int .i64 (n8:Int))=(n8:Int) from rfl,ZaB (by omega) (by omega)];rfl
 ·rintro y0 cs m3 aX ⟨y,aZ,_,wY,fJ⟩
  obtain rfl:y0=y:=by simpa using aZ
  rw[List.length_map,List.drop_length,Zfj,List.map_nil]at fJ
  have:=congrArg List.length fJ
  rw[List.length_drop]at this
  simp at this
  exact .inl (by omega)
end Go.Proofs.Ytfgfahnakepegaa
set_option linter.unusedVariables false
namespace Go.Proofs.Ytfgfahnakepegaa
open Go Go.Eng Go.Proofs Go.RowKit
open Go.Value (int slice agg bool string tuple func)
open Go.IntKind (u8 u64 i64)
set_option maxRecDepth 100000
noncomputable def Zcq:Env:={ EB with
 loops:=(λi=>bif Nat.beq i 3 then⟨[(3,.int .i64),(11,.int .i64)],[],[],false⟩ else bif Nat.beq i 11 then⟨[(6,.slice),(27,.int .i64)],[],[(33,8)],false⟩ else⟨[],[],[],false⟩)
 tokOf:=(λi=>bif Nat.beq i 33 then 33 else 0)
 tokC:=(λi=>bif Nat.beq i 24 then some (33,8)else none) }
def Zbs(p0a:Option Addr)(p0n p0c:Nat)(m:Mem)(R:RT):Prop:=
 ∃(I:IT),(∃(n:Nat),I [int i64 0,int i64 0] [] [] m n)/\∀(n n_1:Int)(m':Mem)(n_2:Nat),Mem.le m m'->I [int i64 n,int i64 n_1] [] [] m' n_2->br (decide (n_1 < (↑p0n:Int))) (∃(b:Nat),∃(o:Nat),
 p0a=some (Addr.mk b o none)/\Zae n_1 p0n/\∃(v:Value),m' b (o+Int.toNat n_1*1)=some v/\chk (Zcy v) (br (decide (IntKind.wrap i64 (n+(↑(slN v):Int)) < (0:Int))) False (∃(n':Nat),n' < n_2/\I
 [int i64 (IntKind.wrap i64 (n+(↑(slN v):Int))),int i64 (IntKind.wrap i64 (n_1+(1:Int)))] [] [] m' n'))) (∃(R_1:RT),CXT Try.prog 123 (Array.mk [slice none 0 0,int i64 n]) m' 8 R_1/\Zat Shape.slice R_1/\∀
 (a:Option Addr) (n c:Nat) (m'_1:Mem),Mem.le m' m'_1->R_1 (slice a n c) m'_1 []->∃(I:IT),(∃(n_3:Nat),I [slice a n c,int i64 0] [] [slice a n c] m'_1 n_3)/\∀(a:Option Addr)(n c:Nat)(n_3:Int)
 (a_3:Option Addr) (n_4 c_1:Nat) (m':Mem) (n_5:Nat),Mem.le m'_1 m'->I [slice a n c,int i64 n_3] [] [slice a_3 n_4 c_1] m' n_5->br (decide (n_3 < (↑p0n:Int))) (∃(b:Nat),∃(o:Nat),p0a=some (Addr.mk b
 o none)/\Zae n_3 p0n/\∃(v:Value),m' b (o+Int.toNat n_3*1)=some v/\chk (Zcy v&&true) ((Tok.mk (slice a_3 n_4 c_1) 8=Tok.mk (slice a n c) 8\/slice a n c=slice none 0 0\/c < n+slN v)/\∃(xs:
 List Value),∃(ys:List Value),List.length xs=n*8/\List.length ys=slN v*8/\rowRd m' a xs/\rowRd m' (slA v) ys/\(∀(u:Value),u∈ys->Value.oneCell' u=true)/\(n+slN v)*80<=140737488355328/\n +
 slN v<=9223372036854775807/\∀(a':Option Addr)(c':Nat)(m'_2:Mem),Mem.le m' m'_2->rowRd m'_2 a' (List.append xs ys)->([none]:List (Option Tok))=[none]/\∃(n':Nat),n' < n_5/\I [slice a' (n+slN v)
 c',int i64 (IntKind.wrap i64 (n_3+(1:Int)))] [] [slice a' (n+slN v) c'] m'_2 n')) (∃(m'':Mem),Mem.le m m''/\Mem.le m'' m'/\R (slice a n c) m'' []))
theorem Zcg(p0a:Option Addr)(p0n p0c:Nat)(m:Mem)(R:RT)(h:Zbs p0a p0n p0c m R):CX Try.prog 116 #[.slice p0a p0n p0c] m [] R:=
 Zad (E:=Zcq) ZaE mix Try.func116 [.v (.slice p0a p0n p0c)] [] (by kernel_rfl) (Eq.mp (by kernel_rfl) h)
noncomputable def Zo3:Env:={ EB with
 loops:=(λi=>bif Nat.beq i 4 then⟨[(5,.slice),(6,.bool),(19,.int .i64)],[],[(37,8)],false⟩ else⟨[],[],[],false⟩)
 joins:=(λi=>bif Nat.beq i 7 then some [(33,.bool)]else bif Nat.beq i 9 then some [(6,.bool)]else none)
 dr:=(λi=>bif Nat.beq i 11 then[⟨0,[],[],none,[],[]⟩,⟨1,[3],[],none,[],[]⟩,⟨2,[3],[],none,[1],[]⟩,⟨3,[],[],none,[0,1,2],[]⟩,⟨4,[],[],none,[0,1,2,3],[]⟩,⟨5,[],[],none,[0,1,2,3,4],[]⟩,⟨6,[3],[],none,[],[]⟩,⟨7,[3],[],none,[6],[]⟩,⟨8,[],[],none,[0,1,2,3,4,5,6,7],[]⟩]else bif Nat.beq i 13 then[⟨0,[],[],none,[],[]⟩,⟨1,[3],[],none,[],[]⟩,⟨2,[3],[],none,[1],[]⟩,⟨3,[],[],none,[0,1,2],[]⟩,⟨4,[11],[],none,[],[]⟩,⟨5,[66],[66],none,[4],[]⟩,⟨6,[],[],none,[],[]⟩,⟨7,[3],[],none,[],[]⟩,⟨8,[3],[],none,[7],[]⟩,⟨9,[],[],none,[6,7,8],[]⟩,⟨10,[66,71],[71],none,[0,1,2,3,4,5,6,7,8,9],[5]⟩,⟨11,[71],[71],none,[0,1,2,3,4,5,6,7,8,9,10],[10]⟩,⟨12,[],[],none,rg 0 12,[]⟩]else[])
 tokOf:=(λi=>bif Nat.beq i 37 then 37 else bif Nat.beq i 59 then 59 else 0)
 frzNew:=[3]
 last:=(λi=>bif Nat.beq i 11 then true else false)
 lastK:=(λi=>bif Nat.beq i 11 then 2 else 1)
 tokC:=(λi=>bif Nat.beq i 54 then some (59,8)else none) }
def Zhz(p0a:Option Addr)(p0n p0c:Nat)(aO aK aL aN:Int)(m:Mem)(R:RT):Prop:=
 ∀(b:Nat)(m':Mem),Mem.le m m'->Mem.reads m' b 0 [int i64 aO,int i64 aK,int i64 aL,int i64 aN]->((0:Int)<=aL/\aL<=(↑p0c:Int))/\((0:Int)<=aK/\aK<=(↑(Int.toNat aL):Int))/\∃(I:
 IT),(∃(n:Nat),I [slice none 0 0,bool false,int i64 0] [] [slice none 0 0] m' n)/\∀(a:Option Addr)(n c:Nat)(bd:Bool)(ba:Int)(aw:Option Addr)(ax ay:Nat)(az:Mem)(bf:Nat),Mem.le m' az->I
 [slice a n c,bool bd,int i64 ba] [] [slice aw ax ay] az bf->br (decide (ba < (↑(Int.toNat aL - Int.toNat aK):Int))) (∃(a0:Nat),∃(o:Nat),ZaQ p0a (Int.toNat aK) p0c 8=some (Addr.mk a0 o none)/\
 Zae ba (Int.toNat aL - Int.toNat aK)/\∃(v:Value),∃(ak:Value),∃(al:Value),∃(am:Value),∃(an:Value),∃(ao:Value),∃(ap:Value),∃(aq:Value),Mem.reads az a0 (o+Int.toNat ba*8) [v,
 ak,al,am,an,ao,ap,aq]/\∀(au:Nat),chk (Value.oneCell' v&&(Value.oneCell' ak&&(Value.oneCell' al&&(Value.oneCell' am&&(Value.oneCell' an&&(Value.oneCell' ao&&(Value.oneCell' ap&&(Value.oneCell' aq
 && true)))))))) (∃(R:RT),True/\CX Try.prog 115 (Array.mk [agg (Array.mk [v,ak,al,am,an,ao,ap,aq]),int i64 aN]) az [] R/\Zat (shT) R/\∀(ab aa ac ad ae af ag:Int)(aj:Option Addr)(ah ai:Nat) (m'
 : Mem),Mem.le az m'->R (agg (Array.mk [int u8 ab,int u64 aa,int u64 ac,int u64 ad,int u64 ae,int i64 af,int i64 ag,slice aj ah ai])) m' []->∀(av:Nat),∃(bg:Bool),br (!ab == (1:Int)) ([some (Box.mk av
 [int u8 ab,int u64 aa,int u64 ac,int u64 ad,int u64 ae,int i64 af,int i64 ag,slice aj ah ai] 27 8 false true),some (Box.mk au [v,ak,al,am,an,ao,ap,aq] 27 8 false true),some (Box.mk b [int i64 aO,int
 i64 aK,int i64 aL,int i64 aN] 29 4 true true)]=[some (Box.mk av [int u8 ab,int u64 aa,int u64 ac,int u64 ad,int u64 ae,int i64 af,int i64 ag,slice aj ah ai] 27 8 false true),some (Box.mk au [v,ak,al,
 am,an,ao,ap,aq] 27 8 false true),some (Box.mk b [int i64 aO,int i64 aK,int i64 aL,int i64 aN] 29 4 true true)]/\[some (Tok.mk (slice aw ax ay) 8)]=[some (Tok.mk (slice aw ax ay) 8)]/\[bool true] =
 [bool bg]) ([some (Box.mk av [int u8 ab,int u64 aa,int u64 ac,int u64 ad,int u64 ae,int i64 af,int i64 ag,slice aj ah ai] 27 8 false true),some (Box.mk au [v,ak,al,am,an,ao,ap,aq] 27 8 false true),some
 (Box.mk b [int i64 aO,int i64 aK,int i64 aL,int i64 aN] 29 4 true true)]=[some (Box.mk av [int u8 ab,int u64 aa,int u64 ac,int u64 ad,int u64 ae,int i64 af,int i64 ag,slice aj ah ai] 27 8 false
 true),some (Box.mk au [v,ak,al,am,an,ao,ap,aq] 27 8 false true),some (Box.mk b [int i64 aO,int i64 aK,int i64 aL,int i64 aN] 29 4 true true)]/\[some (Tok.mk (slice aw ax ay) 8)]=[some (Tok.mk
 (slice aw ax ay) 8)]/\[bool !bd]=[bool bg])/\br bg (∀(ar:Nat),Mem.free m' ar->(Tok.mk (slice aw ax ay) 8=Tok.mk (slice a n c) 8\/slice a n c=slice none 0 0\/c < n+1)/\∃(xs:List Value),∃(ys:List
 Value),List.length xs=n*8/\List.length ys=1*8/\rowRd (Mem.add m' ar [int u8 ab,int u64 aa,int u64 ac,int u64 ad,int u64 ae,int i64 af,int i64 ag,slice aj ah ai]) a xs/\rowRd (Mem.add m' ar [int u8 ab,
 int u64 aa,int u64 ac,int u64 ad,int u64 ae,int i64 af,int i64 ag,slice aj ah ai]) (some (Addr.mk ar 0 none)) ys/\(∀(u:Value),u∈ys->Value.oneCell' u=true)/\(n+1)*80<=140737488355328/\n+1 <=
 9223372036854775807/\∀(a':Option Addr)(c':Nat)(a1:Mem),Mem.le (Mem.add m' ar [int u8 ab,int u64 aa,int u64 ac,int u64 ad,int u64 ae,int i64 af,int i64 ag,slice aj ah ai]) a1->rowRd a1 a' (List.append
 xs ys)->∃(bh:Bool),br bd ([some (Box.mk ar [int u8 ab,int u64 aa,int u64 ac,int u64 ad,int u64 ae,int i64 af,int i64 ag,slice aj ah ai] 27 8 true true),some (Box.mk av [int u8 ab,int u64 aa,int u64 ac,
 int u64 ad,int u64 ae,int i64 af,int i64 ag,slice aj ah ai] 27 8 false true),some (Box.mk au [v,ak,al,am,an,ao,ap,aq] 27 8 false true),some (Box.mk b [int i64 aO,int i64 aK,int i64 aL,int i64 aN]
 29 4 true true)]=[some (Box.mk ar [int u8 ab,int u64 aa,int u64 ac,int u64 ad,int u64 ae,int i64 af,int i64 ag,slice aj ah ai] 27 8 true true),some (Box.mk av [int u8 ab,int u64 aa,int u64 ac,int u64 ad,
 int u64 ae,int i64 af,int i64 ag,slice aj ah ai] 27 8 false true),some (Box.mk au [v,ak,al,am,an,ao,ap,aq] 27 8 false true),some (Box.mk b [int i64 aO,int i64 aK,int i64 aL,int i64 aN] 29 4 true
 true)]/\[some (Tok.mk (slice a' (n+1) c') 8),some (Tok.mk (slice a' (n+1) c') 8)]=[some (Tok.mk (slice a' (n+1) c') 8),some (Tok.mk (slice a' (n+1) c') 8)]/\[bool true]=[bool bh]) ([some (Box.mk ar [int
 u8 ab,int u64 aa,int u64 ac,int u64 ad,int u64 ae,int i64 af,int i64 ag,slice aj ah ai] 27 8 true true),some (Box.mk av [int u8 ab,int u64 aa,int u64 ac,int u64 ad,int u64 ae,int i64 af,int i64 ag,slice
 aj ah ai] 27 8 false true),some (Box.mk au [v,ak,al,am,an,ao,ap,aq] 27 8 false true),some (Box.mk b [int i64 aO,int i64 aK,int i64 aL,int i64 aN] 29 4 true true)]=[some (Box.mk ar [int u8 ab,int
 u64 aa,int u64 ac,int u64 ad,int u64 ae,int i64 af,int i64 ag,slice aj ah ai] 27 8 true true),some (Box.mk av [int u8 ab,int u64 aa,int u64 ac,int u64 ad,int u64 ae,int i64 af,int i64 ag,slice aj ah ai] 27
 8 false true),some (Box.mk au [v,ak,al,am,an,ao,ap,aq] 27 8 false true),some (Box.mk b [int i64 aO,int i64 aK,int i64 aL,int i64 aN] 29 4 true true)]/\[some (Tok.mk (slice a' (n+1) c') 8),some
 (Tok.mk (slice a' (n+1) c') 8)]=[some (Tok.mk (slice a' (n+1) c') 8),some (Tok.mk (slice a' (n+1) c') 8)]/\[bool (ab == (1:Int))]=[bool bh])/\[some (Box.mk b [int i64 aO,int i64 aK,int i64 aL,int
 i64 aN] 29 4 true true)]=[some (Box.mk b [int i64 aO,int i64 aK,int i64 aL,int i64 aN] 29 4 true true)]/\∃(n':Nat),n' < bf/\I [slice a' (n+1) c',bool bh,int i64 (IntKind.wrap i64 (ba+(1:
 Int)))] [] [slice a' (n+1) c'] a1 n') (∃(ar:Bool),br bd ([some (Box.mk av [int u8 ab,int u64 aa,int u64 ac,int u64 ad,int u64 ae,int i64 af,int i64 ag,slice aj ah ai] 27 8 false true),some (Box.mk au [v,
 ak,al,am,an,ao,ap,aq] 27 8 false true),some (Box.mk b [int i64 aO,int i64 aK,int i64 aL,int i64 aN] 29 4 true true)]=[some (Box.mk av [int u8 ab,int u64 aa,int u64 ac,int u64 ad,int u64 ae,int
 i64 af,int i64 ag,slice aj ah ai] 27 8 false true),some (Box.mk au [v,ak,al,am,an,ao,ap,aq] 27 8 false true),some (Box.mk b [int i64 aO,int i64 aK,int i64 aL,int i64 aN] 29 4 true true)]/\[some
 (Tok.mk (slice aw ax ay) 8)]=[some (Tok.mk (slice aw ax ay) 8)]/\[bool true]=[bool ar]) ([some (Box.mk av [int u8 ab,int u64 aa,int u64 ac,int u64 ad,int u64 ae,int i64 af,int i64 ag,slice aj ah ai] 27 8
 false true),some (Box.mk au [v,ak,al,am,an,ao,ap,aq] 27 8 false true),some (Box.mk b [int i64 aO,int i64 aK,int i64 aL,int i64 aN] 29 4 true true)]=[some (Box.mk av [int u8 ab,int u64 aa,int u64
 ac,int u64 ad,int u64 ae,int i64 af,int i64 ag,slice aj ah ai] 27 8 false true),some (Box.mk au [v,ak,al,am,an,ao,ap,aq] 27 8 false true),some (Box.mk b [int i64 aO,int i64 aK,int i64 aL,int i64
 aN] 29 4 true true)]/\[some (Tok.mk (slice aw ax ay) 8)]=[some (Tok.mk (slice aw ax ay) 8)]/\[bool (ab == (1:Int))]=[bool ar])/\[some (Box.mk b [int i64 aO,int i64 aK,int i64 aL,int i64 aN] 29 4
 true true)]=[some (Box.mk b [int i64 aO,int i64 aK,int i64 aL,int i64 aN] 29 4 true true)]/\∃(n':Nat),n' < bf/\I [slice a n c,bool ar,int i64 (IntKind.wrap i64 (ba+(1:Int)))] [] [slice aw ax ay]
 m' n'))) (∃(f:Fx),∃(b:Nat),∃(o:Nat),p0a=some (Addr.mk b o none)/\Zae aK p0n/\∃(v:Value),∃(ak:Value),∃(al:Value),∃(am:Value),∃(an:Value),∃(ao:Value),∃(ap:Value),∃(aq:
 Value),Mem.reads az b (o+Int.toNat aK*8) [v,ak,al,am,an,ao,ap,aq]/\∃(R_1:RT),R_1=f 5 [agg (Array.mk [v,ak,al,am,an,ao,ap,aq])] az/\CX Try.prog 53 (Array.mk [agg (Array.mk [v,ak,al,am,an,
 ao,ap,aq])]) az [] R_1/\Zat Shape.slice R_1/\∀(aj:Option Addr)(ab ai:Nat)(m':Mem),Mem.le az m'->R_1 (slice aj ab ai) m' []->((0:Int)<=aN/\aN<=(↑ai:Int))/\∀(M:Mem),Mem.le az M->Mem.le m'
 M->∃(R_2:RT),CXT Try.prog 109 (Array.mk [slice (ZaQ aj 0 ai 8) (Int.toNat aN - 0) (ai - 0)]) M 8 R_2/\Zat Shape.slice R_2/\∀(bb:Option Addr)(aa bc:Nat)(m':Mem),Mem.le M m'->R_2 (slice bb aa bc)
 m' []->∃(R_3:RT),True/\CX Try.prog 16 (Array.mk [slice a n c]) m' [] R_3/\Zat (shT) R_3/\∀(n ac ad ae af ag ah:Int)(a:Option Addr)(be c:Nat)(a1:Mem),Mem.le m' a1->R_3 (agg (Array.mk [int u8 n,int
 u64 ac,int u64 ad,int u64 ae,int u64 af,int i64 ag,int i64 ah,slice a be c])) a1 []->∀(b:Nat),Mem.free a1 b->(Tok.mk (slice bb aa bc) 8=Tok.mk (slice bb aa bc) 8\/slice bb aa bc=slice none 0 0\/bc < aa
 + 1)/\∃(xs:List Value),∃(ys:List Value),List.length xs=aa*8/\List.length ys=1*8/\rowRd (Mem.add a1 b [int u8 n,int u64 ac,int u64 ad,int u64 ae,int u64 af,int i64 ag,int i64 ah,slice a be c])
 bb xs/\rowRd (Mem.add a1 b [int u8 n,int u64 ac,int u64 ad,int u64 ae,int u64 af,int i64 ag,int i64 ah,slice a be c]) (some (Addr.mk b 0 none)) ys/\(∀(u:Value),u∈ys->Value.oneCell' u=true)/\(aa+1) *
 80<=140737488355328/\aa+1<=9223372036854775807/\∀(a':Option Addr)(c':Nat)(m':Mem),Mem.le (Mem.add a1 b [int u8 n,int u64 ac,int u64 ad,int u64 ae,int u64 af,int i64 ag,int i64 ah,slice a be c]) m'
 -> rowRd m' a' (List.append xs ys)->∃(R_4:RT),True/\CX Try.prog 15 (Array.mk [slice a' (aa+1) c']) m' [] R_4/\Zat (shT) R_4/\∀(n a3 a4 a5 a6 a7 a8:Int)(a:Option Addr)(a9 c:Nat)(a2:Mem),Mem.le m'
 a2->R_4 (agg (Array.mk [int u8 n,int u64 a3,int u64 a4,int u64 a5,int u64 a6,int i64 a7,int i64 a8,slice a a9 c])) a2 []->∀(b:Nat),∃(f:Fx),((0:Int)<=aK/\aK<=(↑p0c:Int))/\∀(b:Nat),
 Mem.free a2 b->((0:Int)<=aL/\aL<=(↑p0n:Int))/\∀(a0:Nat),Mem.free (Mem.add a2 b [int u8 n,int u64 a3,int u64 a4,int u64 a5,int u64 a6,int i64 a7,int i64 a8,slice a a9 c]) a0->∃(R_5:RT),R_5 =
 f 11 [slice (some (Addr.mk a0 0 none)) 3 3] (Mem.add (Mem.add a2 b [int u8 n,int u64 a3,int u64 a4,int u64 a5,int u64 a6,int i64 a7,int i64 a8,slice a a9 c]) a0 [slice (ZaQ p0a 0 p0c 8) (Int.toNat aK - 0)
 (p0c - 0),slice (some (Addr.mk b 0 none)) 1 1,slice (ZaQ p0a (Int.toNat aL) p0c 8) (p0n - Int.toNat aL) (p0c - Int.toNat aL)])/\CX Try.prog 116 (Array.mk [slice (some (Addr.mk a0 0 none)) 3 3]) (Mem.add
 (Mem.add a2 b [int u8 n,int u64 a3,int u64 a4,int u64 a5,int u64 a6,int i64 a7,int i64 a8,slice a a9 c]) a0 [slice (ZaQ p0a 0 p0c 8) (Int.toNat aK - 0) (p0c - 0),slice (some (Addr.mk b 0 none)) 1 1,slice
 (ZaQ p0a (Int.toNat aL) p0c 8) (p0n - Int.toNat aL) (p0c - Int.toNat aL)]) [] R_5/\Zat Shape.slice R_5/\∀(bi:Option Addr)(bj bk:Nat)(m':Mem),Mem.le (Mem.add (Mem.add a2 b [int u8 n,int u64 a3,int
 u64 a4,int u64 a5,int u64 a6,int i64 a7,int i64 a8,slice a a9 c]) a0 [slice (ZaQ p0a 0 p0c 8) (Int.toNat aK - 0) (p0c - 0),slice (some (Addr.mk b 0 none)) 1 1,slice (ZaQ p0a (Int.toNat aL) p0c 8) (p0n -
 Int.toNat aL) (p0c - Int.toNat aL)]) m'->R_5 (slice bi bj bk) m' []->∀(M:Mem),Mem.le a2 M->Mem.le (Mem.add a2 b [int u8 n,int u64 a3,int u64 a4,int u64 a5,int u64 a6,int i64 a7,int i64 a8,slice a a9
 c]) M->Mem.le (Mem.add (Mem.add a2 b [int u8 n,int u64 a3,int u64 a4,int u64 a5,int u64 a6,int i64 a7,int i64 a8,slice a a9 c]) a0 [slice (ZaQ p0a 0 p0c 8) (Int.toNat aK - 0) (p0c - 0),slice (some (Addr.mk
 b 0 none)) 1 1,slice (ZaQ p0a (Int.toNat aL) p0c 8) (p0n - Int.toNat aL) (p0c - Int.toNat aL)]) M->Mem.le m' M->∃(m'':Mem),Mem.le m m''/\Mem.le m'' M/\R (slice bi bj bk) m'' [])
theorem ZmD(p0a:Option Addr)(p0n p0c:Nat)(aO aK aL aN:Int)(m:Mem)(R:RT)(h:Zhz p0a p0n p0c aO aK aL aN m R):CX Try.prog 100 #[.slice p0a p0n p0c,.agg #[.int .i64 aO,.int .i64 aK,.int .i64 aL,.int .i64 aN]] m [] R:=
 Zad (E:=Zo3) ZaE mix Try.func100 [.v (.slice p0a p0n p0c),.v (.agg #[.int .i64 aO,.int .i64 aK,.int .i64 aL,.int .i64 aN])] [] (by kernel_rfl) (Eq.mp (by kernel_rfl) h)
noncomputable def Zi7:Env:={ EB with
 loops:=(λi=>bif Nat.beq i 8 then⟨[(7,.slice),(29,.int .i64)],[100000],[(38,8)],false⟩ else⟨[],[],[],false⟩)
 dr:=(λi=>bif Nat.beq i 18 then[⟨0,[],[],none,[],[]⟩,⟨1,[],[],none,[0],[]⟩,⟨2,[],[],none,[0,1],[]⟩,⟨3,[4],[],none,[],[]⟩,⟨4,[4],[],none,[3],[]⟩,⟨5,[4],[],none,[],[]⟩,⟨6,[4],[],none,[5],[]⟩,⟨7,[],[],none,[0,1,2,3,4,5,6],[]⟩,⟨8,[5],[5],none,[0,1,2,3,4,5,6,7],[]⟩]else[])
 tokOf:=(λi=>bif Nat.beq i 38 then 38 else 0)
 borrow:=(λi=>bif Nat.beq i 36 then[100000]else[])
 frzNew:=[4]
 tokC:=(λi=>bif Nat.beq i 26 then some (38,8)else none)
 cuts:=(λi=>bif Nat.beq i 6 then some ⟨[(6,.slice)],[100000],[],false⟩ else none)
 ldF:=(λi=>bif Nat.beq i 34 then some (some false)else none) }
def ZeG(aD aE aF aG aJ aH aI:Int)(aB:Option Addr)(aA aC c0b:Nat)(c0_0:Int)(c1b c1o c2b c2o:Nat)(m:Mem)(R:RT):Prop:=
 ∀(b:Nat)(m':Mem),Mem.le m m'->Mem.reads m' b 0 [int u8 aD,int u64 aE,int u64 aF,int u64 aG,int u64 aJ,int i64 aH,int i64 aI,slice aB aA aC]->∀(aq:Nat),∃(J:JT),br (aD ==
 (4:Int)) (∃(v:Value),m' c1b (c1o+0)=some v/\chk (ZaD i64 v) (br (c0_0 == RowKit.intOf v) (∃(v:Value),∃(aj:Value),∃(ak:Value),∃(al:Value),Mem.reads m' c1b c1o [v,aj,ak,al]/\∃(R:RT),
 True/\CX Try.prog 100 (Array.mk [slice aB aA aC,agg (Array.mk [v,aj,ak,al])]) m' [] R/\Zat Shape.slice R/\∀(a:Option Addr)(n c:Nat)(ar:Mem),Mem.le m' ar->R (slice a n c) ar []->[some (Box.mk
 aq [int u8 0,int u64 0,int u64 0,int u64 0,int u64 0,int i64 0,int i64 0,slice none 0 0] 27 8 false true),some (Box.mk b [int u8 aD,int u64 aE,int u64 aF,int u64 aG,int u64 aJ,int i64 aH,int
 i64 aI,slice aB aA aC] 27 8 true true),some (Box.mk c0b [] 3 1 false true)]=[some (Box.mk aq [int u8 0,int u64 0,int u64 0,int u64 0,int u64 0,int i64 0,int i64 0,slice none 0 0] 27 8 false true),
 some (Box.mk b [int u8 aD,int u64 aE,int u64 aF,int u64 aG,int u64 aJ,int i64 aH,int i64 aI,slice aB aA aC] 27 8 true true),some (Box.mk c0b [] 3 1 false true)]/\J [slice a n c] [[int i64
 (IntKind.wrap i64 (c0_0+(1:Int)))]] [] ar) ([some (Box.mk aq [int u8 0,int u64 0,int u64 0,int u64 0,int u64 0,int i64 0,int i64 0,slice none 0 0] 27 8 false true),some (Box.mk b [int u8 aD,int u64 aE,
 int u64 aF,int u64 aG,int u64 aJ,int i64 aH,int i64 aI,slice aB aA aC] 27 8 true true),some (Box.mk c0b [] 3 1 false true)]=[some (Box.mk aq [int u8 0,int u64 0,int u64 0,int u64 0,int u64
 0,int i64 0,int i64 0,slice none 0 0] 27 8 false true),some (Box.mk b [int u8 aD,int u64 aE,int u64 aF,int u64 aG,int u64 aJ,int i64 aH,int i64 aI,slice aB aA aC] 27 8 true true),some
 (Box.mk c0b [] 3 1 false true)]/\J [slice aB aA aC] [[int i64 (IntKind.wrap i64 (c0_0+(1:Int)))]] [] m'))) ([some (Box.mk aq [int u8 0,int u64 0,int u64 0,int u64 0,int u64 0,int i64 0,int i64 0,
 slice none 0 0] 27 8 false true),some (Box.mk b [int u8 aD,int u64 aE,int u64 aF,int u64 aG,int u64 aJ,int i64 aH,int i64 aI,slice aB aA aC] 27 8 true true),some (Box.mk c0b [] 3 1 false
 true)]=[some (Box.mk aq [int u8 0,int u64 0,int u64 0,int u64 0,int u64 0,int i64 0,int i64 0,slice none 0 0] 27 8 false true),some (Box.mk b [int u8 aD,int u64 aE,int u64 aF,int u64 aG,int u64
 aJ,int i64 aH,int i64 aI,slice aB aA aC] 27 8 true true),some (Box.mk c0b [] 3 1 false true)]/\J [slice aB aA aC] [[int i64 c0_0]] [] m')/\∀(a:Option Addr)(n c:Nat)(cs:List Value)
 (ar:Mem),Mem.le m' ar->J [slice a n c] [cs] [] ar->((0:Int)=(0:Int)/\(0:Int)<=(↑n:Int)/\(↑n:Int)*(↑(80:Nat):Int)<=(281474976710656:Int)/\(↑n:Int)<=(9223372036854775807:Int))/\∀(ay:
 Nat),∃(I:IT),(∃(ai:Nat),I [slice (some (Addr.mk ay 0 none)) 0 (Int.toNat (↑n:Int)),int i64 0] [cs] [slice (some (Addr.mk ay 0 none)) 0 (Int.toNat (↑n:Int))] ar ai)/\∀(au:Option Addr)(ai c:Nat) (av:
 Int) (cs:List Value) (az:Option Addr) (a0 a1:Nat) (m':Mem) (a2:Nat),Mem.le ar m'->I [slice au ai c,int i64 av] [cs] [slice az a0 a1] m' a2->br (decide (av < (↑n:Int))) (∃(a3:Nat),∃(o:Nat),a =
 some (Addr.mk a3 o none)/\Zae av n/\∃(v:Value),∃(aj:Value),∃(ak:Value),∃(al:Value),∃(am:Value),∃(an:Value),∃(ao:Value),∃(ap:Value),Mem.reads m' a3 (o+Int.toNat av*8) [v,aj,ak,
 al,am,an,ao,ap]/\∀(a5:Nat),chk (Value.oneCell' v&&(Value.oneCell' aj&&(Value.oneCell' ak&&(Value.oneCell' al&&(Value.oneCell' am&&(Value.oneCell' an&&(Value.oneCell' ao&&(Value.oneCell' ap &&
 true)))))))) (∃(a4:Value),m' c2b c2o=some a4/\∃(g:Nat),∃(fi:List Value),∃(ca:List Value),a4=func (Fn.func g) (Array.mk fi) (Array.mk ca)/\∃(R:RT),True/\CX Try.prog g (Array.mk (List.append
 (List.append fi [agg (Array.mk [v,aj,ak,al,am,an,ao,ap])]) ca)) m' [Box.mk c0b cs 3 1 false true] R/\Zat (shT) R/\∀(n ab ac ad ae af ag:Int)(a:Option Addr)(ah ax:Nat)(aa:Mem),Mem.le m' aa->∀(cs
 : List Value),R (agg (Array.mk [int u8 n,int u64 ab,int u64 ac,int u64 ad,int u64 ae,int i64 af,int i64 ag,slice a ah ax])) aa [cs]->∀(aw:Nat),Mem.free aa aw->(Tok.mk (slice az a0 a1) 8=Tok.mk (slice au
 ai c) 8\/slice au ai c=slice none 0 0\/c < ai+1)/\∃(xs:List Value),∃(ys:List Value),List.length xs=ai*8/\List.length ys=1*8/\rowRd (Mem.add aa aw [int u8 n,int u64 ab,int u64 ac,int u64 ad,
 int u64 ae,int i64 af,int i64 ag,slice a ah ax]) au xs/\rowRd (Mem.add aa aw [int u8 n,int u64 ab,int u64 ac,int u64 ad,int u64 ae,int i64 af,int i64 ag,slice a ah ax]) (some (Addr.mk aw 0 none)) ys/\(∀(u:
 Value),u∈ys->Value.oneCell' u=true)/\(ai+1)*80<=140737488355328/\ai+1<=9223372036854775807/\∀(a':Option Addr)(c':Nat)(m':Mem),Mem.le (Mem.add aa aw [int u8 n,int u64 ab,int u64 ac,int u64
 ad,int u64 ae,int i64 af,int i64 ag,slice a ah ax]) m'->rowRd m' a' (List.append xs ys)->[some (Box.mk aq [int u8 0,int u64 0,int u64 0,int u64 0,int u64 0,int i64 0,int i64 0,slice none 0 0] 27 8 false
 true),some (Box.mk b [int u8 aD,int u64 aE,int u64 aF,int u64 aG,int u64 aJ,int i64 aH,int i64 aI,slice aB aA aC] 27 8 true true),some (Box.mk c0b [] 3 1 false true)]=[some (Box.mk aq
 [int u8 0,int u64 0,int u64 0,int u64 0,int u64 0,int i64 0,int i64 0,slice none 0 0] 27 8 false true),some (Box.mk b [int u8 aD,int u64 aE,int u64 aF,int u64 aG,int u64 aJ,int i64 aH,int i64
 aI,slice aB aA aC] 27 8 true true),some (Box.mk c0b [] 3 1 false true)]/\([none]:List (Option Tok))=[none]/\∃(n':Nat),n' < a2/\I [slice a' (ai+1) c',int i64 (IntKind.wrap i64 (av+(1:
 Int)))] [cs] [slice a' (ai+1) c'] m' n')) (br (aD == (3:Int)) (∃(R_1:RT),True/\CX Try.prog 15 (Array.mk [slice au ai c]) m' [] R_1/\Zat (shT) R_1/\∀(n ab ac ad ae af ag:Int)(a:Option Addr) (ah c:
 Nat) (aa:Mem),Mem.le m' aa->R_1 (agg (Array.mk [int u8 n,int u64 ab,int u64 ac,int u64 ad,int u64 ae,int i64 af,int i64 ag,slice a ah c])) aa []->Box.mk c0b [int i64 c0_0] 3 1 false true=Box.mk c0b [int
 i64 c0_0] 3 1 false true/\∃(m'':Mem),Mem.le m m''/\Mem.le m'' aa/\R (agg (Array.mk [int u8 n,int u64 ab,int u64 ac,int u64 ad,int u64 ae,int i64 af,int i64 ag,slice a ah c])) m'' [cs]) (br (aD == (4:
 Int)) (∃(R_1:RT),True/\CX Try.prog 16 (Array.mk [slice au ai c]) m' [] R_1/\Zat (shT) R_1/\∀(n ab ac ad ae af ag:Int)(a:Option Addr)(ah c:Nat)(aa:Mem),Mem.le m' aa->R_1 (agg (Array.mk [int u8 n,
 int u64 ab,int u64 ac,int u64 ad,int u64 ae,int i64 af,int i64 ag,slice a ah c])) aa []->Box.mk c0b [int i64 c0_0] 3 1 false true=Box.mk c0b [int i64 c0_0] 3 1 false true/\∃(m'':Mem),Mem.le m m''/\Mem.le
 m'' aa/\R (agg (Array.mk [int u8 n,int u64 ab,int u64 ac,int u64 ad,int u64 ae,int i64 af,int i64 ag,slice a ah c])) m'' [cs]) (br (aD == (5:Int)) (∃(f:Fx),∃(b:Nat),∃(o:Nat),au=some (Addr.mk b
 o none)/\Zae (0:Int) ai/\∃(v:Value),∃(aj:Value),∃(ak:Value),∃(al:Value),∃(am:Value),∃(an:Value),∃(ao:Value),∃(ap:Value),Mem.reads m' b (o+0) [v,aj,ak,al,am,an,ao,ap]/\∃
 (R_1:RT),R_1=f 7 [agg (Array.mk [v,aj,ak,al,am,an,ao,ap]),int i64 aH,int i64 aI] m'/\CX Try.prog 69 (Array.mk [agg (Array.mk [v,aj,ak,al,am,an,ao,ap]),int i64 aH,int i64 aI]) m' [] R_1/\
 Zat (shT) R_1/\∀(n ab ac ad ae af ag:Int)(a:Option Addr)(ah c:Nat)(aa:Mem),Mem.le m' aa->R_1 (agg (Array.mk [int u8 n,int u64 ab,int u64 ac,int u64 ad,int u64 ae,int i64 af,int i64 ag,slice a ah
 c])) aa []->∀(M:Mem),Mem.le m' M->Mem.le aa M->Box.mk c0b [int i64 c0_0] 3 1 false true=Box.mk c0b [int i64 c0_0] 3 1 false true/\∃(m'':Mem),Mem.le m m''/\Mem.le m'' M/\R (agg (Array.mk [int u8 n,int
 u64 ab,int u64 ac,int u64 ad,int u64 ae,int i64 af,int i64 ag,slice a ah c])) m'' [cs]) (br (aD == (6:Int)) (∃(b:Nat),∃(o:Nat),au=some (Addr.mk b o none)/\Zae (0:Int) ai/\∃(v:Value),∃(aj
 : Value),∃(ak:Value),∃(al:Value),∃(am:Value),∃(an:Value),∃(ao:Value),∃(ap:Value),Mem.reads m' b (o+0) [v,aj,ak,al,am,an,ao,ap]/\∃(R_1:RT),True/\CX Try.prog 22 (Array.mk [agg
 (Array.mk [v,aj,ak,al,am,an,ao,ap])]) m' [] R_1/\Zat (shT) R_1/\∀(n ab ac ad ae af ag:Int)(a:Option Addr)(ah c:Nat)(aa:Mem),Mem.le m' aa->R_1 (agg (Array.mk [int u8 n,int u64 ab,int u64 ac,int
 u64 ad,int u64 ae,int i64 af,int i64 ag,slice a ah c])) aa []->Box.mk c0b [int i64 c0_0] 3 1 false true=Box.mk c0b [int i64 c0_0] 3 1 false true/\∃(m'':Mem),Mem.le m m''/\Mem.le m'' aa/\R (agg (Array.mk
 [int u8 n,int u64 ab,int u64 ac,int u64 ad,int u64 ae,int i64 af,int i64 ag,slice a ah c])) m'' [cs]) (∃(R_1:RT),True/\CX Try.prog 52 (Array.mk [agg (Array.mk [int u8 aD,int u64 aE,int u64 aF,int
 u64 aG,int u64 aJ,int i64 aH,int i64 aI,slice aB aA aC])]) m' [] R_1/\Zat (shT) R_1/\∀(n ab ac ad ae af ag:Int)(a:Option Addr)(ah c:Nat)(aa:Mem),Mem.le m' aa->R_1 (agg (Array.mk
 [int u8 n,int u64 ab,int u64 ac,int u64 ad,int u64 ae,int i64 af,int i64 ag,slice a ah c])) aa []->Box.mk c0b [int i64 c0_0] 3 1 false true=Box.mk c0b [int i64 c0_0] 3 1 false true/\∃(m'':Mem),Mem.le m
 m''/\Mem.le m'' aa/\R (agg (Array.mk [int u8 n,int u64 ab,int u64 ac,int u64 ad,int u64 ae,int i64 af,int i64 ag,slice a ah c])) m'' [cs])))))
theorem Zie(aD aE aF aG aJ aH aI:Int)(aB:Option Addr)(aA aC c0b:Nat)(c0_0:Int)(c1b c1o c2b c2o:Nat)(m:Mem)(R:RT)(h:ZeG aD aE aF aG aJ aH aI aB aA aC c0b c0_0 c1b c1o c2b c2o m R):CX Try.prog 99 #[.agg #[.int .u8 aD,.int .u64 aE,.int .u64 aF,.int .u64 aG,.int .u64 aJ,.int .i64 aH,.int .i64 aI,.slice aB aA aC],.pointer (some ⟨c0b,0,none⟩),.pointer (some ⟨c1b,c1o,none⟩),.pointer (some ⟨c2b,c2o,none⟩)] m [⟨c0b,[.int .i64 c0_0],3,1,false,true⟩] R:=
 Zad (E:=Zi7) ZaE mix Try.func99 [.v (.agg #[.int .u8 aD,.int .u64 aE,.int .u64 aF,.int .u64 aG,.int .u64 aJ,.int .i64 aH,.int .i64 aI,.slice aB aA aC]),.loc 100000 0,.v (.pointer (some ⟨c1b,c1o,none⟩)),.v (.pointer (some ⟨c2b,c2o,none⟩))] [⟨c0b,[.int .i64 c0_0],3,1,false,true⟩] (by kernel_rfl) (Eq.mp (by kernel_rfl) h)
noncomputable def ZmE:Env:={ EB with
 borrow:=(λi=>bif Nat.beq i 10 then[5]else[])
 frzNew:=[2,3]
 frzAt:=(λi=>bif Nat.beq i 10 then[6,3]else[]) }
def Zf0(aD aE aF aG aJ aH aI:Int)(aB:Option Addr)(aA aC:Nat)(aO aK aL aN:Int)(m:Mem)(R:RT):Prop:=
 ∀(b:Nat)(m':Mem),Mem.le m m'->Mem.reads m' b 0 [int u8 aD,int u64 aE,int u64 aF,int u64 aG,int u64 aJ,int i64 aH,int i64 aI,slice aB aA aC]->∀(b:Nat)(m'_1:Mem),Mem.le m'
 m'_1->Mem.reads m'_1 b 0 [int i64 aO,int i64 aK,int i64 aL,int i64 aN]->∀(b_1 b_2 b_3:Nat)(m':Mem),Mem.le m'_1 m'->Mem.reads m' b_3 0 [func (Fn.func 99) (Array.mk []) (Array.mk [Value.pointer (some
 (Addr.mk b_2 0 none)),Value.pointer (some (Addr.mk b 0 none)),Value.pointer (some (Addr.mk b_3 0 none))])]->Mem.reads m' b 0 [int i64 aO,int i64 aK,int i64 aL,int i64 aN]->∃(R_1:RT),True/\CX Try.prog
 99 (Array.mk [agg (Array.mk [int u8 aD,int u64 aE,int u64 aF,int u64 aG,int u64 aJ,int i64 aH,int i64 aI,slice aB aA aC]),Value.pointer (some (Addr.mk b_2 0 none)),Value.pointer (some
 (Addr.mk b 0 none)),Value.pointer (some (Addr.mk b_3 0 none))]) m' [Box.mk b_2 [int i64 0] 3 1 false true] R_1/\Zat (shT) R_1/\∀(n n_1 n_2 n_3 n_4 n_5 n_6:Int)(a:Option Addr)(n_7 c:Nat)(m'_2:Mem),Mem.le
 m' m'_2->∀(cs:List Value),R_1 (agg (Array.mk [int u8 n,int u64 n_1,int u64 n_2,int u64 n_3,int u64 n_4,int i64 n_5,int i64 n_6,slice a n_7 c])) m'_2 [cs]->∃(m'':Mem),Mem.le m m''/\Mem.le m'' m'_2/\R
 (agg (Array.mk [int u8 n,int u64 n_1,int u64 n_2,int u64 n_3,int u64 n_4,int i64 n_5,int i64 n_6,slice a n_7 c])) m'' []
theorem Zkp(aD aE aF aG aJ aH aI:Int)(aB:Option Addr)(aA aC:Nat)(aO aK aL aN:Int)(m:Mem)(R:RT)(h:Zf0 aD aE aF aG aJ aH aI aB aA aC aO aK aL aN m R):CX Try.prog 73 #[.agg #[.int .u8 aD,.int .u64 aE,.int .u64 aF,.int .u64 aG,.int .u64 aJ,.int .i64 aH,.int .i64 aI,.slice aB aA aC],.agg #[.int .i64 aO,.int .i64 aK,.int .i64 aL,.int .i64 aN]] m [] R:=
 Zad (E:=ZmE) ZaE mix Try.func73 [.v (.agg #[.int .u8 aD,.int .u64 aE,.int .u64 aF,.int .u64 aG,.int .u64 aJ,.int .i64 aH,.int .i64 aI,.slice aB aA aC]),.v (.agg #[.int .i64 aO,.int .i64 aK,.int .i64 aL,.int .i64 aN])] [] (by kernel_rfl) (Eq.mp (by kernel_rfl) h)
noncomputable def ZvC:Env:={ EB with
 frzNew:=[1] }
def Zoh(aD aE aF aG aJ aH aI:Int)(aB:Option Addr)(aA aC:Nat)(m:Mem)(R:RT):Prop:=
 ∀(b:Nat)(m':Mem),Mem.le m m'->Mem.reads m' b 0 [int u8 aD,int u64 aE,int u64 aF,int u64 aG,int u64 aJ,int i64 aH,int i64 aI,slice aB aA aC]->∀(b:Nat),∃(R_1:RT),True/\CX
 Try.prog 54 (Array.mk [agg (Array.mk [int u8 aD,int u64 aE,int u64 aF,int u64 aG,int u64 aJ,int i64 aH,int i64 aI,slice aB aA aC])]) m' [] R_1/\Zat Shape.bool R_1/\∀(b:Bool) (m'_1:
 Mem),Mem.le m' m'_1->R_1 (bool b) m'_1 []->br (!b) (∃(m'':Mem),Mem.le m m''/\Mem.le m'' m'_1/\R (agg (Array.mk [int u8 0,int u64 0,int u64 0,int u64 0,int u64 0,int i64 0,int i64 0,slice none 0 0])) m''
 []) (∃(R_2:RT),True/\CX Try.prog 86 (Array.mk [agg (Array.mk [int u8 aD,int u64 aE,int u64 aF,int u64 aG,int u64 aJ,int i64 aH,int i64 aI,slice aB aA aC])]) m'_1 [] R_2/\Zat (shT)
 R_2/\∀(n n_1 n_2 n_3 n_4 n_5 n_6:Int)(a:Option Addr)(n_7 c:Nat)(m':Mem),Mem.le m'_1 m'->R_2 (agg (Array.mk [int u8 n,int u64 n_1,int u64 n_2,int u64 n_3,int u64 n_4,int i64 n_5,int i64 n_6,slice a
 n_7 c])) m' []->∃(m'':Mem),Mem.le m m''/\Mem.le m'' m'/\R (agg (Array.mk [int u8 n,int u64 n_1,int u64 n_2,int u64 n_3,int u64 n_4,int i64 n_5,int i64 n_6,slice a n_7 c])) m'' [])
theorem ZsM(aD aE aF aG aJ aH aI:Int)(aB:Option Addr)(aA aC:Nat)(m:Mem)(R:RT)(h:Zoh aD aE aF aG aJ aH aI aB aA aC m R):CX Try.prog 52 #[.agg #[.int .u8 aD,.int .u64 aE,.int .u64 aF,.int .u64 aG,.int .u64 aJ,.int .i64 aH,.int .i64 aI,.slice aB aA aC]] m [] R:=
 Zad (E:=ZvC) ZaE mix Try.func52 [.v (.agg #[.int .u8 aD,.int .u64 aE,.int .u64 aF,.int .u64 aG,.int .u64 aJ,.int .i64 aH,.int .i64 aI,.slice aB aA aC])] [] (by kernel_rfl) (Eq.mp (by kernel_rfl) h)
end Go.Proofs.Ytfgfahnakepegaa
set_option linter.unusedVariables false
set_option linter.unusedSimpArgs false
namespace Go.Proofs.Ytfgfahnakepegaa
open Go Go.Eng Go.Rx Go.Proofs Go.RowKit Go.Shelf
set_option maxRecDepth 100000
def ZhA(g s e:Nat):Ren:=⟨fun|4=>g|n=>n,fun|0=>0|3=>3|4=>4|9=>9|20=>20|22=>s|25=>e|n=>n,λn=>n⟩
theorem ZAm:Lays8.n4 Try.prog (ZhA 123 25 27):=
 {mixed:=mix,f4:=⟨Try.f123.name,by kernel_rfl,by kernel_rfl⟩
  t0:=by kernel_rfl,a0:=Try.isAgg0,z0:=Try.sizeOf0,v0:=Try.zeroValue0
  t3:=Try.underlying3,a3:=Try.isAgg3,z3:=Try.sizeOf3,v3:=Try.zeroValue3
  t4:=Try.underlying4,a4:=Try.isAgg4,z4:=Try.sizeOf4,v4:=Try.zeroValue4
  t9:=Try.underlying9,a9:=Try.isAgg9,z9:=Try.sizeOf9,v9:=Try.zeroValue9
  t20:=Try.underlying20,a20:=Try.isAgg20,z20:=Try.sizeOf20,v20:=Try.zeroValue20
  t22:=Try.underlying25,a22:=Try.isAgg25,z22:=Try.sizeOf25,v22:=Try.zeroValue25 }
theorem Zo4{P:Program}{g s e esz by':Nat}{fn:Func}(L:Lays8.n4 P (ZhA g s e))(kW:Zgs P g)(hi:(P.info? e).map (λi=>(i.size,i.bytes))=some (esz,by'))(hz:((P.info? e).bind (·.zero)).map (·.cells.size)=some esz)(iD:0 < esz)(n:Nat)(m:Mem)(hn:n*by'<=140737488355328)(nK:n<=4611686018427387904):
  CXT P g #[.slice none 0 0,.int .i64 n] m esz (λv _ _=>∃a c,v=.slice a 0 c):=by
 refine⟨kW,λw hs=>?_⟩
 obtain⟨i0,h0,w8⟩:=Option.map_eq_some_iff.1 hi
 obtain⟨z,o6,nU⟩:=Option.map_eq_some_iff.1 hz
 rw[h0]at o6
 simp only[Option.bind_some]at o6
 have e1:i0.size=esz:=congrArg Prod.fst w8
 have e2:i0.bytes=by':=congrArg Prod.snd w8
 by_cases lY:n=0
 ·subst lY
  refine(Any8.slices_Grow_room L none 0 0 0 w (by omega) (by omega) (by omega) (by omega)).mono ?_
  rintro e w' ⟨rfl,rfl⟩
  exact⟨_,m,rfl,Mem.le_refl _,hs,λb o v h=>.inl h,Keep.refl _ _ _,.inl rfl,λb hb=>by simp[Tok.blk]at hb,none,0,rfl⟩
 ·refine(Any8.slices_Grow_grow L i0 z h0 o6 (by omega) none 0 0 n [] w (by omega) (by omega) (by rw[e2,Nat.zero_add];exact hn) (by omega) (by simp) (λ_=>rfl) (λa h=>by cases h)).mono ?_
  rintro e w' ⟨rfl,hw'⟩
  have bP:w'.heap=w.heap.push (.cells (#[]++Builtin.zeroCells z.cells (0+n - 0)++Builtin.zeroCells z.cells (grownCap w (0+n) 0 ((ZhA g s e).t 25) - (0+n))) ((ZhA g s e).t 25) (0,0)):=by rw[hw'];rfl
  have hb:w'.heap[w.heap.size]?=some (.cells (#[]++Builtin.zeroCells z.cells (0+n - 0)++Builtin.zeroCells z.cells (grownCap w (0+n) 0 ((ZhA g s e).t 25) - (0+n))) ((ZhA g s e).t 25) (0,0)):=by
   rw[bP,Array.getElem?_push_size]
  have hk:Keep w.heap.size [] w w':=by
   rw[hw']
   exact(Keep.drew w).trans (Keep.alloc (B:=w.heap.size) (w:=w.drew) (show w.heap.size<=w.drew.heap.size from Nat.le_refl _) (Zke _ _))
  have bM:=grownCap_ge w (0+n) 0 ((ZhA g s e).t 25)
  refine⟨_,m,rfl,Mem.le_refl _,λb o v hv=>?_,λb o v h=>.inl h,hk,.inr ⟨w.heap.size,0,0,_,_,_,_,rfl,by omega,hb,?_,?_,?_⟩,?_,_,_,rfl⟩
  ·have aS:=hs.lt hv
   rw[Zb2 (hk.block b aS (by simp))];exact hs b o v hv
  ·generalize grownCap w (0+n) 0 ((ZhA g s e).t 25)=G at *
   simp only[Array.size_append,size_zeroCells,nU]
   have:G*esz=(0+n - 0)*esz+(G - (0+n))*esz:=by rw[<-Nat.add_mul];congr 1;omega
   simp only[List.size_toArray,List.length_nil]
   omega
  ·intro o _
   simp
  ·intro o _ _
   cases hm:m w.heap.size o with
   | none=>rfl
   | some v=>have:=hs.lt hm;omega
  ·intro b hb'
   simp[Tok.blk]at hb'
   omega
theorem Zri(n:Nat)(m:Mem)(hn:n<=1000000):CXT Try.prog 123 #[.slice none 0 0,.int .i64 n] m 8 (λv _ _=>∃a c,v=.slice a 0 c):=
 Zo4 (by':=80) (fn:=Try.f123) ZAm (Go.Eng.Zgt Try.func123 (by kernel_rfl) (by kernel_rfl)) (by kernel_rfl) (by kernel_rfl) (by decide) n m (by omega) (by omega)
structure Part where
 a:Option Addr
 n:Nat
 c:Nat
 xs:List Value
def Zo5(L:List Part):Nat:=(L.map Part.n).sum
def Zyc(L:List Part):List Value:=(L.map Part.xs).flatten
theorem ZgT(L:List Part)(q:Part):Zo5 (L++[q])=Zo5 L+q.n:=by simp[Zo5]
theorem ZvD(L:List Part)(q:Part):Zyc (L++[q])=Zyc L++q.xs:=by simp[Zyc]
theorem ZmF(L:List Part)(k:Nat):Zo5 (L.take k)<=Zo5 L:=by
 have e:L=L.take k++L.drop k:=(List.take_append_drop k L).symm
 have:Zo5 L=Zo5 (L.take k)+Zo5 (L.drop k):=by
  have e2:=congrArg Zo5 e
  simp only[Zo5,List.map_append,List.sum_append]at e2 ⊢
  exact e2
 omega
structure Lies (m:Mem)(pa:Option Addr)(esz:Nat)(L:List Part):Prop where
 at':∀i q,L[i]?=some q->∃b o,pa=some ⟨b,o,none⟩/\m b (o+i)=some (.slice q.a q.n q.c)
 row:∀q∈L,rowRd m q.a q.xs/\q.xs.length=q.n*esz/\∀u∈q.xs,u.oneCell'=true
theorem Lies.len{m:Mem}{pa:Option Addr}{esz:Nat}:∀{L:List Part},(∀q∈L,q.xs.length=q.n*esz)->(Zyc L).length=Zo5 L*esz
 | [],_=>by simp[Zyc,Zo5]
 | q::L,h=>by
  have:=Lies.len (m:=m) (pa:=pa) (L:=L) λx hx=>h x (by simp[hx])
  simp only[Zyc,Zo5,List.map_cons,List.flatten_cons,List.length_append,List.sum_cons,h q (by simp),Nat.add_mul]at *
  omega
theorem Zo6(L:List Part)(pa:Option Addr)(pc:Nat)(m:Mem)(h:Lies m pa 8 L)(r5:Zo5 L<=100000)(hL:L.length<=1000):CX Try.prog 116 #[.slice pa L.length pc] m [] (λv m' _=>∃a c,v=.slice a (Zo5 L) c/\rowRd m' a (Zyc L)):=by
 apply Zcg
 unfold Zbs
 refine⟨λxs css tvs m' q=>∃k:Nat,k<=L.length/\xs=[.int .i64 (Zo5 (L.take k):Nat),.int .i64 k]/\q=L.length - k,⟨L.length,0,by omega,rfl,rfl⟩,?_⟩
 rintro z1 z2 m1 q aM ⟨k,hk,aZ,hq⟩
 obtain⟨rfl,rfl⟩:z1=(Zo5 (L.take k):Nat)/\z2=k:=by simpa using aZ
 have eI:=ZmF L k
 refine Zab (λaS=>?_) (λbM=>?_)
 ·have aQ:k < L.length:=by have:=of_decide_eq_true aS;omega
  obtain⟨p,hp⟩:=Zca aQ
  obtain⟨b,o,ha,hv⟩:=h.at' k p hp
  have pN:=ZmF L (k+1)
  rw[Zb8 hp,ZgT]at pN
  have hw:IntKind.i64.wrap ((k:Int)+1)=((k+1:Nat):Int):=by rw[ZaB (by omega) (by omega)];rfl
  have fW:IntKind.i64.wrap (((Zo5 (L.take k):Nat):Int)+((slN (.slice p.a p.n p.c):Nat):Int))=((Zo5 (L.take (k+1)):Nat):Int):=by
   rw[Zb8 hp,ZgT]
   simp only[slN]
   rw[ZaB (by omega) (by omega)];push_cast;rfl
  simp only[Int.toNat_natCast,Nat.mul_one]
  refine⟨b,o,ha,⟨by omega,by omega⟩,.slice p.a p.n p.c,aM _ _ _ hv,Zaa rfl ?_⟩
  simp only[fW,hw]
  exact Zab (λuY=>absurd (of_decide_eq_true uY) (by omega)) (λ_=>⟨L.length - (k+1),by omega,k+1,by omega,rfl,rfl⟩)
 ·have yU:k=L.length:=by have:=of_decide_eq_false bM;omega
  subst yU
  rw[List.take_length]
  refine⟨_,Zri (Zo5 L) m1 (by omega),(λv _ _ ⟨a,c,e⟩=>by rw[e];rfl),?_⟩
  rintro a n c m2 aP ⟨a0,c0,sW⟩
  simp only[Value.slice.injEq]at sW
  obtain⟨rfl,rfl,rfl⟩:=sW
  refine⟨λxs css tvs m' q=>∃(k:Nat)(a:Option Addr)(c:Nat),k<=L.length/\xs=[.slice a (Zo5 (L.take k)) c,.int .i64 k]/\tvs=[.slice a (Zo5 (L.take k)) c]/\rowRd m' a (Zyc (L.take k))/\q=L.length - k,⟨L.length,0,_,_,by omega,rfl,rfl,.inl rfl,rfl⟩,?_⟩
  rintro a4 n4 c4 z5 a5 n5 c5 m3 q3 aX ⟨j,a',c',hj,r7,r9,fL,tQ⟩
  simp only[List.cons.injEq,Value.slice.injEq,Value.int.injEq,true_and,and_true]at r7 r9
  obtain⟨⟨rfl,rfl,rfl⟩,rfl⟩:=r7
  obtain⟨rfl,rfl,rfl⟩:=r9
  have eZ:=mLt aM (mLt aP aX)
  refine Zab (λaS=>?_) (λbM=>?_)
  ·have aQ:j < L.length:=by have:=of_decide_eq_true aS;omega
   obtain⟨p,hp⟩:=Zca aQ
   obtain⟨b,o,ha,hv⟩:=h.at' j p hp
   obtain⟨eU,rN,yV⟩:=h.row p (List.mem_of_getElem? hp)
   have pN:=ZmF L (j+1)
   rw[Zb8 hp,ZgT]at pN
   have hw:IntKind.i64.wrap ((j:Int)+1)=((j+1:Nat):Int):=by rw[ZaB (by omega) (by omega)];rfl
   simp only[Int.toNat_natCast,Nat.mul_one,hw]
   refine⟨b,o,ha,⟨by omega,by omega⟩,.slice p.a p.n p.c,eZ _ _ _ hv,Zaa rfl ⟨by first|exact .inl trivial|exact .inl rfl,Zyc (L.take j),p.xs,?_,by simpa[slN]using rN,fL,eU.mono eZ,yV,?_,?_,λa6 c6 m6 eA lI=>⟨by trivial,L.length - (j+1),by omega,j+1,a6,c6,by omega,?_,?_,?_,rfl⟩⟩⟩
   ·simpa using Lies.len (m:=m) (pa:=pa) (L:=L.take j) λx hx=>(h.row x (List.mem_of_mem_take hx)).2.1
   ·simp only[slN];omega
   ·simp only[slN];omega
   ·rw[Zb8 hp,ZgT];rfl
   ·rw[Zb8 hp,ZgT];rfl
   ·rw[Zb8 hp,ZvD];exact lI
  ·have yW:j=L.length:=by have:=of_decide_eq_false bM;omega
   subst yW
   rw[List.take_length]at fL ⊢
   exact⟨m3,eZ,Mem.le_refl _,_,_,rfl,fL⟩
end Go.Proofs.Ytfgfahnakepegaa
