/- Part of the proof: functions of the program. No condition. -/
import Derived.Test.YtojlhhphofhaoaaGreatDoorPVEM
import Derived.Test.YtojlhhphofhaoaaGreatDoorPC25P
import Derived.Test.YtojlhhphofhaoaaGreatDoorMr
import Derived.Test.YtojlhhphofhaoaaGreatDoorPC25MB
set_option linter.unusedVariables false
set_option linter.unusedSimpArgs false
set_option linter.unusedSectionVars false
namespace Go.Proofs.YtojlhhphofhaoaaGreatDoor
open Go Go.Eng Go.Rx Go.Proofs Go.RowKit
set_option maxRecDepth 100000
theorem Zy6(i:Nat):Int.tdiv (i:Int) 64=((i / 64:Nat):Int):=rfl
theorem Zyz(i:Nat):Int.tmod (i:Int) 64=((i % 64:Nat):Int):=rfl
theorem Zy7{n:Int}(h1:0<=n)(h2:n < 256):IntKind.u8.wrap n=n:=by
 unfold IntKind.wrap
 simp only[IntKind.bits,IntKind.signed,Bool.false_and,Bool.false_eq_true,if_false]
 have e:(2:Int) ^ 8=256:=by decide
 rw[e];omega
theorem Zvd(t:T)(m:Mem)(hr:Rep m t):CX Tryz.prog 102 #[t.v] m [] (Zpy (λu=>∃a c,u=ZbY 6 0 0 a c [t])):=by
 apply ZiV
 intro b m1 aV _ b1 b2 hf
 have cJ:=Mem.le_add hf t.cs
 refine ZaS (mLt aV cJ) ⟨ZbY 6 0 0 (some ⟨b2,0,none⟩) 1 [t],rfl,ZfY (Zrb ?_ (hr.mono (mLt aV cJ))) (by omega) (by omega) (by omega),_,_,rfl⟩
 intro j v hj
 rw[Nat.zero_add,Mem.add_same];exact hj
theorem ZwJ(t:T)(mn mx:Int)(h1 : -9223372036854775808<=mn/\mn<=9223372036854775807)(h2 : -9223372036854775808<=mx/\mx<=9223372036854775807)(m:Mem)(hr:Rep m t):CX Tryz.prog 103 #[t.v,.int .i64 mn,.int .i64 mx] m [] (Zpy (λu=>∃a c,u=ZbY 5 mn mx a c [t])):=by
 apply Zna
 intro b m1 aV _ b1 b2 hf
 have cJ:=Mem.le_add hf t.cs
 refine ZaS (mLt aV cJ) ⟨ZbY 5 mn mx (some ⟨b2,0,none⟩) 1 [t],rfl,ZfY (Zrb ?_ (hr.mono (mLt aV cJ))) (by omega) h1 h2,_,_,rfl⟩
 intro j v hj
 rw[Nat.zero_add,Mem.add_same];exact hj
def Zer(s:ByteArray):List Nat:=s.data.toList.map λb=>b.toNat
theorem ZqC(s:ByteArray):(Zer s).length=s.size:=by unfold Zer;rw[List.length_map,Array.length_toList];rfl
theorem Zth(s:ByteArray):∀c∈Zer s,c < 256:=by
 intro c hc
 unfold Zer at hc
 obtain⟨b,_,rfl⟩:=List.mem_map.1 hc
 exact b.toBitVec.isLt
theorem Zve{s:ByteArray}{k c:Nat}(h:(Zer s)[k]?=some c):ZcX s k=(c:Int):=by
 unfold Zer at h
 rw[List.getElem?_map]at h
 obtain⟨b,hb,rfl⟩:=Option.map_eq_some_iff.1 h
 unfold ZcX
 rw[List.getD_eq_getElem?_getD,hb];rfl
theorem Zpj(s:ByteArray)(hs:(Zer s).length<=100000)(m:Mem):CX Tryz.prog 99 #[.string s] m [] (Zpy (λt=>t=Zj7 (Zer s))):=by
 apply ZiW
 intro b b1
 have bT:=ZqC s
 refine⟨λxs css tvs m' q=>∃k:Nat,k<=s.size/\xs=[.int .i64 k]/\css=[ZtQ ((Zer s).take k)]/\q=s.size - k,⟨_,0,by omega,rfl,rfl,rfl⟩,?_⟩
 rintro n cs m1 q aV ⟨k,hk,hn,dM,hq⟩
 obtain rfl:n=k:=by simpa using hn
 obtain rfl:cs=ZtQ ((Zer s).take k):=by simpa using dM
 refine Zab (λbB=>?_) (λdB=>?_)
 ·have bQ:k < s.size:=by have:=of_decide_eq_true bB;omega
  obtain⟨c,hc⟩:=Zbc (l:=Zer s) (k:=k) (by omega)
  have pw:=Zth s c (List.mem_of_getElem? hc)
  have hw:IntKind.i64.wrap ((k:Int)+1)=((k+1:Nat):Int):=by rw[Zal (by omega) (by omega)];rfl
  have sk:IntKind.u8.wrap (Int.tdiv (c:Int) 64)=((c / 64:Nat):Int):=by rw[Zy6];exact Zy7 (by omega) (by omega)
  have hr:IntKind.u64.wrap (1*2 ^ min (Int.toNat (Int.tmod (c:Int) 64)) 64)=((2 ^ (c % 64):Nat):Int):=by
   rw[Zyz,Int.toNat_natCast,Nat.min_eq_left (by omega),Int.one_mul]
   have:=Zyj (2 ^ (c % 64)) (by
    have:2 ^ (c % 64) < 2 ^ 64:=Nat.pow_lt_pow_right (by omega) (by omega)
    exact this)
   rw[<-this];push_cast;rfl
  have h2:(2:Nat) ^ (c % 64) < 18446744073709551616:=by
   have:(2:Nat) ^ (c % 64) < 2 ^ 64:=Nat.pow_lt_pow_right (by omega) (by omega)
   exact this
  have hj:c / 64 < 4:=by omega
  simp only[hw,Int.toNat_natCast,Zve hc,sk,hr,Nat.zero_add,Nat.mul_one]
  refine⟨⟨by omega,by omega⟩,by omega,⟨by omega,by omega⟩,Zao (Zsz _ hj) ⟨⟨by omega,by omega⟩,by omega,by rw[Zyz];omega,Zaa rfl ⟨⟨by omega,by omega⟩,Zaa (by rw[Nat.ble_eq];show c / 64+1<=4;omega) ⟨by trivial,s.size - (k+1),by omega,k+1,by omega,rfl,?_,rfl⟩⟩⟩⟩
  simp only[intOf]
  rw[ZuC _ _ (ZtP _ _) h2,Zqd _ rfl hj,Zwd hc]
 ·have:k=s.size:=by have:=of_decide_eq_false dB;omega
  subst this
  rw[<-bT,List.take_length]
  exact Zaa rfl (Zaa rfl (Zac aV ⟨Zj7 (Zer s),rfl,Zop _ m,rfl⟩))
theorem ZqD(n:Nat)(hn:n < 256)(m:Mem):CX Tryz.prog 100 #[.int .u8 n] m [] (λv _ _=>∃s,v=.string s/\Zer s=Zdq n):=by
 apply Zgu
 intro b hf
 have ht:Int.tmod (n:Int) 12=((n % 12:Nat):Int):=rfl
 simp only[ht,Int.toNat_natCast,Nat.mul_one]
 refine⟨by omega,⟨by omega,by omega⟩,?_⟩
 have h:n % 12=0\/n % 12=1\/n % 12=2\/n % 12=3\/n % 12=4\/n % 12=5\/n % 12=6\/n % 12=7\/n % 12=8\/n % 12=9\/n % 12=10\/n % 12=11:=by omega
 unfold Zdq
 rcases h with e|e|e|e|e|e|e|e|e|e|e|e <;>
 ·rw[e]
  refine Zao rfl ?_
  exact⟨_,Mem.le_add hf _,Mem.le_refl _,_,rfl,rfl⟩
theorem ZeR(k:Int)(t:T):Za3 k t=if t.k=k then t.subs else if k=3/\t.k=1 then[]else[t]:=rfl
theorem ZdX(l:List T):∀u∈Rx.ZcI l,u.oneCell'=true:=by
 intro u hu
 simp only[Rx.ZcI,List.mem_flatten,List.mem_map]at hu
 obtain⟨_,⟨t,_,rfl⟩,h⟩:=hu
 simp only[T.cs,List.mem_cons,List.not_mem_nil,or_false,T.sl]at h
 rcases h with rfl|rfl|rfl|rfl|rfl|rfl|rfl|rfl <;> rfl
theorem Znw(k:Int)(t u:T)(hk:k=3\/k=4)(m:Mem)(hr:Rep m t)(hu:Rep m u)(ht:(Za3 k t).length<=10000)(vF:(Za3 k u).length<=10000):CX Tryz.prog 101 #[.int .u8 k,t.v,u.v] m [] (Zpy (λr=>∃a c,r=Zfg k a c (Za3 k t++Za3 k u))):=by
 apply ZiX
 intro b m1 aV _ b1 m2 bA _ b2 b3 iT
 have j7:=mLt aV bA
 have iw:m.le (m2.add b3 (t.cs++u.cs)):=mLt j7 (Mem.le_add iT _)
 refine⟨λxs css tvs m' q=>∃(i:Nat)(l:List T)(a:Option Addr)(c:Nat),i<=2/\xs=[.slice a l.length c,.int .i64 i]/\tvs=[.slice a l.length c]/\l=(([t,u].take i).map (Za3 k)).flatten/\rowRd m' a (Rx.ZcI l)/\q=2 - i,⟨2,0,[],none,0,by omega,rfl,rfl,rfl,.inl rfl,rfl⟩,?_⟩
 rintro a n c z a1 n1 c1 m3 q bR ⟨i,l,a',c',hi,eZ,ft,hl,bF,hq⟩
 simp only[List.cons.injEq,Value.slice.injEq,Value.int.injEq,true_and,and_true]at eZ ft
 obtain⟨⟨rfl,rfl,rfl⟩,rfl⟩:=eZ
 obtain⟨rfl,rfl,rfl⟩:=ft
 have jg:=mLt iw bR
 have gx:l.length<=20000:=by
  rw[hl]
  have:i=0\/i=1\/i=2:=by omega
  rcases this with rfl|rfl|rfl <;> simp <;> omega
 refine Zab (λbB=>?_) (λdB=>?_)
 ·have h2:i=0\/i=1:=by have:=of_decide_eq_true bB;omega
  rcases h2 with rfl|rfl
  ·
   refine⟨⟨by omega,by omega⟩,Zaa rfl λb4=>Zaa rfl (Zao (v:=.int .u8 t.k) rfl (Zaa rfl (Zab (λfl=>Zao (v:=t.sl) rfl (Zaa rfl ?_)) (λfl=>?_))))⟩
   ·have gC:t.k=k:=by simpa[RowKit.intOf]using fl
    have hj:Za3 k t=t.subs:=by rw[ZeR,if_pos gC]
    have bT:=ht
    rw[hj]at bT
    refine⟨.inl rfl,Rx.ZcI l,Rx.ZcI t.subs,ZaL _,ZaL _,bF,(ZfZ (hr.subs)).mono jg,ZdX _,?_,?_,λa2 c2 m4 cO eB=>⟨by trivial,1,by omega,1,l++t.subs,a2,c2,by omega,?_,?_,?_,?_,?_⟩⟩
    ·simp only[T.sl,slN];omega
    ·simp only[T.sl,slN];omega
    ·rw[List.length_append];rfl
    ·rw[List.length_append];rfl
    ·rw[hl,<-hj];simp
    ·rw[ZaM];exact eB
    ·omega
   ·have gC:¬t.k=k:=by simpa[RowKit.intOf]using fl
    refine⟨k == 3&&t.k == 1,Zab (λh=>Zao (v:=.int .u8 t.k) rfl (Zaa rfl ⟨by trivial,by trivial,?_⟩)) (λh=>⟨by trivial,by trivial,?_⟩),Zab (λh=>⟨by trivial,1,by omega,1,l,_,_,by omega,rfl,rfl,?_,bF,by omega⟩) (λh=>Zaa rfl λb6 iv=>?_)⟩
    ·rw[h];rfl
    ·rw[h];rfl
    ·have:k=3/\t.k=1:=by simpa using h
     have hj:Za3 k t=[]:=by rw[ZeR,if_neg gC,if_pos this]
     rw[hl];simp[hj]
    ·have:¬(k=3/\t.k=1):=by simpa using h
     have hj:Za3 k t=[t]:=by rw[ZeR,if_neg gC,if_neg this]
     have gO:=Mem.le_add iv t.cs
     refine⟨.inl rfl,Rx.ZcI l,t.cs,ZaL _,rfl,bF.mono gO,.inr ⟨b6,0,rfl,λj v hj=>by rw[Nat.zero_add,Mem.add_same];exact hj⟩,by rw[<-Zbt];exact ZdX _,by omega,by omega,λa2 c2 m4 cO eB=>⟨by trivial,1,by omega,1,l++[t],a2,c2,by omega,?_,?_,?_,?_,?_⟩⟩
     ·rw[List.length_append];rfl
     ·rw[List.length_append];rfl
     ·rw[hl];simp[hj]
     ·rw[ZaM,Zbt];exact eB
     ·omega
  ·
   refine⟨⟨by omega,by omega⟩,Zaa rfl λb4=>Zaa rfl (Zao (v:=.int .u8 u.k) rfl (Zaa rfl (Zab (λfl=>Zao (v:=u.sl) rfl (Zaa rfl ?_)) (λfl=>?_))))⟩
   ·have gC:u.k=k:=by simpa[RowKit.intOf]using fl
    have hj:Za3 k u=u.subs:=by rw[ZeR,if_pos gC]
    have bT:=vF
    rw[hj]at bT
    refine⟨.inl rfl,Rx.ZcI l,Rx.ZcI u.subs,ZaL _,ZaL _,bF,(ZfZ (hu.subs)).mono jg,ZdX _,?_,?_,λa2 c2 m4 cO eB=>⟨by trivial,0,by omega,2,l++u.subs,a2,c2,by omega,?_,?_,?_,?_,?_⟩⟩
    ·simp only[T.sl,slN];omega
    ·simp only[T.sl,slN];omega
    ·rw[List.length_append];rfl
    ·rw[List.length_append];rfl
    ·rw[hl,<-hj];simp
    ·rw[ZaM];exact eB
    ·omega
   ·have gC:¬u.k=k:=by simpa[RowKit.intOf]using fl
    refine⟨k == 3&&u.k == 1,Zab (λh=>Zao (v:=.int .u8 u.k) rfl (Zaa rfl ⟨by trivial,by trivial,?_⟩)) (λh=>⟨by trivial,by trivial,?_⟩),Zab (λh=>⟨by trivial,0,by omega,2,l,_,_,by omega,rfl,rfl,?_,bF,by omega⟩) (λh=>Zaa rfl λb6 iv=>?_)⟩
    ·rw[h];rfl
    ·rw[h];rfl
    ·have:k=3/\u.k=1:=by simpa using h
     have hj:Za3 k u=[]:=by rw[ZeR,if_neg gC,if_pos this]
     rw[hl];simp[hj]
    ·have:¬(k=3/\u.k=1):=by simpa using h
     have hj:Za3 k u=[u]:=by rw[ZeR,if_neg gC,if_neg this]
     have gO:=Mem.le_add iv u.cs
     refine⟨.inl rfl,Rx.ZcI l,u.cs,ZaL _,rfl,bF.mono gO,.inr ⟨b6,0,rfl,λj v hj=>by rw[Nat.zero_add,Mem.add_same];exact hj⟩,by rw[<-Zbt];exact ZdX _,by omega,by omega,λa2 c2 m4 cO eB=>⟨by trivial,0,by omega,2,l++[u],a2,c2,by omega,?_,?_,?_,?_,?_⟩⟩
     ·rw[List.length_append];rfl
     ·rw[List.length_append];rfl
     ·rw[hl];simp[hj]
     ·rw[ZaM,Zbt];exact eB
     ·omega
 ·have:i=2:=by have:=of_decide_eq_false dB;omega
  subst this
  have hl':Za3 k t++Za3 k u=l:=by rw[hl];simp
  rw[hl']
  have bV:∀x∈l,Rep m3 x:=by
   have key:∀t:T,Rep m t->∀x∈Za3 k t,Rep m3 x:=by
    intro t hr x hx
    rw[ZeR]at hx
    split at hx
    ·exact Zoo (hr.subs.mono jg) x hx
    ·split at hx
     ·simp at hx
     ·simp at hx;subst hx;exact hr.mono jg
   rw[<-hl']
   intro x hx
   rcases List.mem_append.1 hx with hx|hx
   ·exact key t hr x hx
   ·exact key u hu x hx
  refine Zab (λh0=>?_) (λh0=>Zab (λh1=>?_) (λh1=>?_))
  ·have:l=[]:=by simpa using h0
   subst this
   exact Zac jg ⟨T1,rfl,Zwe _,none,0,rfl⟩
  ·have qo:l.length=1:=by
    have:((l.length:Int) == 1)=true:=h1
    have:=of_decide_eq_true this;omega
   obtain⟨x,rfl⟩:∃x,l=[x]:=by
    match l,qo with
    | [x],_=>exact⟨x,rfl⟩
   rcases bF with bF|⟨b6,o,ha,eA⟩
   ·simp[Rx.ZcI,T.cs]at bF
   ·rw[Zbt]at eA
    exact⟨b6,o,ha,⟨by omega,by simp⟩,_,_,_,_,_,_,_,_,eA,Zaa rfl (ZaS jg ⟨x,rfl,bV x (by simp),none,0,rfl⟩)⟩
  ·have vG:¬l.length=0:=λe=>by rw[e]at h0;simp at h0
   have j6:¬l.length=1:=λe=>by rw[e]at h1;simp at h1
   obtain⟨x,y,r,rfl⟩:∃x y r,l=x::y::r:=by
    match l,vG,j6 with
    | [],h,_=>simp at h
    | [x],_,h=>simp at h
    | x::y::r,_,_=>exact⟨x,y,r,rfl⟩
   refine ZaS jg ⟨ZbY k 0 0 _ _ (x::y::r),rfl,ZfY (Zwg bF bV (by omega)) (by omega) (by omega) (by omega),_,_,rfl⟩
structure Sm (m:Mem)(a:Option Addr)(l:List (Nat×Nat×Nat)):Prop where
 len:l.length<=9223372036854775807
 byte:∀s∈l,s.1 < 256/\s.2.1 < 256/\s.2.2 < 256
 at':∀i s,l[i]?=some s->∃b o,a=some ⟨b,o,none⟩/\m.reads b (o+i*3) [.int .u8 s.1,.int .u8 s.2.1,.int .u8 s.2.2]
theorem Sm.mono{m m':Mem}{a l}(h:Sm m a l)(hm:m.le m'):Sm m' a l:=
 ⟨h.len,h.byte,λi s hi=>by obtain⟨b,o,h1,h2⟩:=h.at' i s hi;exact⟨b,o,h1,h2.mono hm⟩⟩
theorem Zpk(n:Nat):(([[97],[98],[97,98],[97],[98],[99],[97,98,99],[98,99],[10],[0,255],[97],[98]][n % 12]?).getD []:List Nat).length<=100000:=by
 have h:n % 12=0\/n % 12=1\/n % 12=2\/n % 12=3\/n % 12=4\/n % 12=5\/n % 12=6\/n % 12=7\/n % 12=8\/n % 12=9\/n % 12=10\/n % 12=11:=by omega
 rcases h with e|e|e|e|e|e|e|e|e|e|e|e <;> rw[e] <;> decide
theorem ZwK:∀L < 3,∀Mo < 4,((Mo < L\/Mo=0\/(L=1/\Mo=1))->Zj6 (L:Nat) (-1)=true/\ZuB (L:Nat) (-1)<=((max 1 L:Nat):Int))/\(¬(Mo < L\/Mo=0\/(L=1/\Mo=1))->Zj6 (L:Nat) (Mo:Nat)=true/\ZuB (L:Nat) (Mo:Nat)<=((max 1 (max L Mo):Nat):Int)):=by
 intro L hL Mo hM
 have h1:L=0\/L=1\/L=2:=by omega
 have h2:Mo=0\/Mo=1\/Mo=2\/Mo=3:=by omega
 rcases h1 with rfl|rfl|rfl <;> rcases h2 with rfl|rfl|rfl|rfl <;> exact⟨λ_=>by first|exact⟨by decide,by decide⟩|omega,λ_=>by first|exact⟨by decide,by decide⟩|omega⟩
theorem Zti(l:List (Nat×Nat×Nat))(a:Option Addr)(c:Nat)(m:Mem)(hl:Sm m a l)(hc:l.length<=c):CX Tryz.prog 65 #[.slice a l.length c] m [] (Zpy (λt=>t.check=0/\t.nodes.length<=26)):=by
 apply Zk2
 have bT:=hl.len
 intro b
 have hN:(if(25:Int) < (l.length:Int)then(25:Int)else(l.length:Int))=((min 25 l.length:Nat):Int):=by split <;> omega
 simp only[hN,Int.toNat_natCast,Nat.sub_zero]
 generalize qw:min 25 l.length=N
 refine⟨⟨by omega,by omega⟩,λxs css tvs m' q=>∃(i:Nat)(ts:List T)(a:Option Addr)(c:Nat)(u g:Nat)(mb:Mem),i<=N/\xs=[.slice a ts.length c,.int .i64 u,.int .i64 g,.int .i64 i]/\tvs=[.slice a ts.length c]/\ts.length<=c/\m.le mb/\mb.le m'/\Apart mb a/\rowRd m' a (Rx.ZcI ts)/\(∀t∈ts,Rep mb t)/\J i ts u g/\q=N - i,⟨N,0,[],none,0,1,0,m,by omega,rfl,rfl,by simp,Mem.le_refl _,Mem.le_refl _,.inl rfl,.inl rfl,by simp,J.zero,by omega⟩,?_⟩
 rintro a1 n1 c1 z1 z2 z3 a2 n2 c2 m1 q _ ⟨i,ts,a',c',u,g,mb,hi,eZ,ft,dW,gz,dT,dE,bF,bV,hJ,hq⟩
 simp only[List.cons.injEq,Value.slice.injEq,Value.int.injEq,true_and,and_true]at eZ ft
 obtain⟨⟨rfl,rfl,rfl⟩,rfl,rfl,rfl⟩:=eZ
 obtain⟨rfl,rfl,rfl⟩:=ft
 have gT:ts.length<=25:=by have:=hJ.sz;have:=Zrh ts;omega
 refine Zab (λbB=>?_) (λdB=>?_)
 ·have qx:i < N:=by have:=of_decide_eq_true bB;omega
  have hi':i < l.length:=by omega
  obtain⟨s,hs⟩:=Zbc hi'
  obtain⟨bs,os,ha,eA⟩:=(hl.mono (mLt gz dT)).at' i s hs
  obtain⟨s1,s2,s3⟩:=s
  obtain⟨pk,iY,mL⟩:=hl.byte _ (List.mem_of_getElem? hs)
  have hw:IntKind.i64.wrap ((i:Int)+1)=((i+1:Nat):Int):=by rw[Zal (by omega) (by omega)];rfl
  have na:Int.tmod (intOf (Value.int .u8 (s1:Nat))) 12=((s1 % 12:Nat):Int):=rfl
  simp only[hw,Int.toNat_natCast]
  refine⟨bs,os,ha,⟨by omega,by omega⟩,_,_,_,eA,λb2=>Zaa rfl (Zaa rfl ⟨by omega,?_⟩)⟩
  simp only[na]
  refine Zab (λh1=>?_) (λh1=>Zab (λh2=>?_) (λh2=>?_))
  ·refine Zai (ZqD s2 iY m1) (λv _ _ ⟨s,e,_⟩=>by rw[e];rfl) ?_
   rintro str m2 bA ⟨s',hv,hb⟩
   cases hv
   refine Zai (Zpj str (by rw[hb];unfold Zdq;exact Zpk _) m2) ZgZ (Zsx λt m3 bR hr ht b3 iT=>?_)
   rw[hb]at ht
   have iw:=mLt bA (mLt bR (Mem.le_add iT t.cs))
   obtain⟨k1,k2,k3,k4⟩:=Zri s2
   refine⟨.inl trivial,Rx.ZcI ts,t.cs,ZaL _,rfl,bF.mono (iw),.inr ⟨b3,0,rfl,λj v hj=>by rw[Nat.zero_add,Mem.add_same];exact hj⟩,by rw[<-Zbt];exact ZdX _,by omega,by omega,λa4 c4 m4 cO eB bX=>⟨by trivial,N - (i+1),by omega,i+1,ts++[t],a4,c4,u,g,mb,by omega,?_,?_,by have:=bX.1;rw[List.length_append];exact this,gz,mLt dT (mLt (iw) cO),dE.tok (mLt dT (iw)) bX,?_,?_,?_,by omega⟩⟩
   ·rw[List.length_append];rfl
   ·rw[List.length_append];rfl
   ·rw[ZaM,Zbt];exact eB
   ·intro x hx
    rcases List.mem_append.1 hx with hx|hx
    ·exact bV x hx
    ·simp at hx;subst hx;exact(by rw[ht];exact Zop _ _)
   ·rw[ht];exact hJ.push k1 k2 k3 k4
  ·intro b3 iT
   have iw:=Mem.le_add iT T1.cs
   refine⟨.inl trivial,Rx.ZcI ts,T1.cs,ZaL _,rfl,bF.mono (iw),.inr ⟨b3,0,rfl,λj v hj=>by rw[Nat.zero_add,Mem.add_same];exact hj⟩,by rw[<-Zbt];exact ZdX _,by omega,by omega,λa4 c4 m4 cO eB bX=>⟨by trivial,N - (i+1),by omega,i+1,ts++[T1],a4,c4,u,g,mb,by omega,?_,?_,by have:=bX.1;rw[List.length_append];exact this,gz,mLt dT (mLt (iw) cO),dE.tok (mLt dT (iw)) bX,?_,?_,?_,by omega⟩⟩
   ·rw[List.length_append];rfl
   ·rw[List.length_append];rfl
   ·rw[ZaM,Zbt];exact eB
   ·intro x hx
    rcases List.mem_append.1 hx with hx|hx
    ·exact bV x hx
    ·simp at hx;subst hx;exact Zwe _
   ·exact hJ.push Zwi.1 Zwi.2.1 Zwi.2.2.1 Zwi.2.2.2
  ·refine⟨decide (s1 % 12 < 7)&&decide (1 < ts.length),Zab (λh3=>⟨by trivial,by trivial,?_⟩) (λh3=>⟨by trivial,by trivial,?_⟩),Zab (λh3=>?_) (λh3=>?_)⟩
   ·refine Zae ?_
    rw[Bool.eq_iff_iff];simp;have:=of_decide_eq_true h3;omega
   ·refine Zae ?_
    rw[eq_comm,Bool.and_eq_false_iff];left;have:=of_decide_eq_false h3;exact decide_eq_false (by omega)
   ·skip
    obtain⟨r,x,y,rfl⟩:=Zyt (ts:=ts) (by simp at h3;omega)
    have gn:(r++[x,y]).length=r.length+2:=by simp
    have gR:IntKind.i64.wrap (((r++[x,y]).length:Int) - 2)=(r.length:Int):=by rw[gn,Zal (by omega) (by omega)];omega
    have iK:IntKind.i64.wrap (((r++[x,y]).length:Int) - 1)=((r.length+1:Nat):Int):=by rw[gn,Zal (by omega) (by omega)];omega
    simp only[gR,iK,Int.toNat_natCast,Nat.sub_zero]
    obtain⟨bb,je,jc,o',u',hu'⟩:=dE.base bF (by simp)
    obtain⟨bx,ox,jf,iG⟩:=Zeo bF (i:=r.length) (t:=x) (by simp)
    obtain⟨by',oy,po,pq⟩:=Zeo bF (i:=r.length+1) (t:=y) (by simp)
    have sm:(Za3 3 x).length<=10000:=by
     have:=hJ.sz
     rw[ZaE,show szL [x,y]=szL ([x]++[y]) from rfl,ZaE,Zbj,Zbj]at this
     have:=Zel (k:=3) (t:=x)
     omega
    have sn:(Za3 3 y).length<=10000:=by
     have:=hJ.sz
     rw[ZaE,show szL [x,y]=szL ([x]++[y]) from rfl,ZaE,Zbj,Zbj]at this
     have:=Zel (k:=3) (t:=y)
     omega
    refine⟨λ_ _ _=>ZtZ mb m1 (λr=>∃a c,r=Zfg 3 a c (Za3 3 x++Za3 3 y)),⟨by omega,by omega⟩,⟨by omega,by omega⟩,bx,ox,jf,⟨by omega,by omega⟩,_,_,_,_,_,_,_,_,iG,by',oy,po,⟨by omega,by omega⟩,_,_,_,_,_,_,_,_,pq,ZtZ mb m1 (λr=>∃a c,r=Zfg 3 a c (Za3 3 x++Za3 3 y)),rfl,(Znw 3 x y (by omega) mb (bV x (by simp)) (bV y (by simp)) sm sn).frame2 dT,Zd4,ZlX λt m0 m3 bR h0 iH dA gp ht b6 iv=>?_⟩
    obtain⟨at',ct,ht⟩:=ht
    have gO:=Mem.le_add iv t.cs
    have fL:Apart m0 _:=.inr ⟨bb,je,λo=>by rw[dA bb o' u' hu' o];exact jc o⟩
    refine⟨.inr (.inr (by omega)),Rx.ZcI r,t.cs,ZaL _,rfl,((Zrp bF).mono bR).mono gO,.inr ⟨b6,0,rfl,λj v hj=>by rw[Nat.zero_add,Mem.add_same];exact hj⟩,by rw[<-Zbt];exact ZdX _,by omega,by omega,λa4 c4 m4 cO eB bX M jA io kU jE=>⟨by trivial,N - (i+1),by omega,i+1,r++[t],a4,c4,u,g,m0,by omega,?_,?_,by have:=bX.1;rw[List.length_append];exact this,mLt gz h0,mLt iH io,fL.tok (mLt iH gO) bX,?_,?_,?_,by omega⟩⟩
    ·rw[List.length_append];rfl
    ·rw[List.length_append];rfl
    ·rw[ZaM,Zbt];exact eB.mono jE
    ·intro z hz
     rcases List.mem_append.1 hz with hz|hz
     ·exact(bV z (by simp[hz])).mono h0
     ·simp at hz;subst hz;exact gp
    ·rw[ht];exact hJ.join (by omega) (by omega) _ _
   ·refine⟨decide (s1 % 12 < 9)&&decide (1 < ts.length),Zab (λh4=>⟨by trivial,by trivial,?_⟩) (λh4=>⟨by trivial,by trivial,?_⟩),Zab (λh4=>?_) (λh4=>?_)⟩
    ·refine Zae ?_
     rw[Bool.eq_iff_iff];simp;have:=of_decide_eq_true h4;omega
    ·refine Zae ?_
     rw[eq_comm,Bool.and_eq_false_iff];left;have:=of_decide_eq_false h4;exact decide_eq_false (by omega)
    ·skip
     obtain⟨r,x,y,rfl⟩:=Zyt (ts:=ts) (by simp at h4;omega)
     have gn:(r++[x,y]).length=r.length+2:=by simp
     have gR:IntKind.i64.wrap (((r++[x,y]).length:Int) - 2)=(r.length:Int):=by rw[gn,Zal (by omega) (by omega)];omega
     have iK:IntKind.i64.wrap (((r++[x,y]).length:Int) - 1)=((r.length+1:Nat):Int):=by rw[gn,Zal (by omega) (by omega)];omega
     simp only[gR,iK,Int.toNat_natCast,Nat.sub_zero]
     obtain⟨bb,je,jc,o',u',hu'⟩:=dE.base bF (by simp)
     obtain⟨bx,ox,jf,iG⟩:=Zeo bF (i:=r.length) (t:=x) (by simp)
     obtain⟨by',oy,po,pq⟩:=Zeo bF (i:=r.length+1) (t:=y) (by simp)
     have sm:(Za3 4 x).length<=10000:=by
      have:=hJ.sz
      rw[ZaE,show szL [x,y]=szL ([x]++[y]) from rfl,ZaE,Zbj,Zbj]at this
      have:=Zel (k:=4) (t:=x)
      omega
     have sn:(Za3 4 y).length<=10000:=by
      have:=hJ.sz
      rw[ZaE,show szL [x,y]=szL ([x]++[y]) from rfl,ZaE,Zbj,Zbj]at this
      have:=Zel (k:=4) (t:=y)
      omega
     refine⟨λ_ _ _=>ZtZ mb m1 (λr=>∃a c,r=Zfg 4 a c (Za3 4 x++Za3 4 y)),⟨by omega,by omega⟩,⟨by omega,by omega⟩,bx,ox,jf,⟨by omega,by omega⟩,_,_,_,_,_,_,_,_,iG,by',oy,po,⟨by omega,by omega⟩,_,_,_,_,_,_,_,_,pq,ZtZ mb m1 (λr=>∃a c,r=Zfg 4 a c (Za3 4 x++Za3 4 y)),rfl,(Znw 4 x y (by omega) mb (bV x (by simp)) (bV y (by simp)) sm sn).frame2 dT,Zd4,ZlX λt m0 m3 bR h0 iH dA gp ht b6 iv=>?_⟩
     obtain⟨at',ct,ht⟩:=ht
     have gO:=Mem.le_add iv t.cs
     have fL:Apart m0 _:=.inr ⟨bb,je,λo=>by rw[dA bb o' u' hu' o];exact jc o⟩
     refine⟨.inr (.inr (by omega)),Rx.ZcI r,t.cs,ZaL _,rfl,((Zrp bF).mono bR).mono gO,.inr ⟨b6,0,rfl,λj v hj=>by rw[Nat.zero_add,Mem.add_same];exact hj⟩,by rw[<-Zbt];exact ZdX _,by omega,by omega,λa4 c4 m4 cO eB bX M jA io kU jE=>⟨by trivial,N - (i+1),by omega,i+1,r++[t],a4,c4,u,g,m0,by omega,?_,?_,by have:=bX.1;rw[List.length_append];exact this,mLt gz h0,mLt iH io,fL.tok (mLt iH gO) bX,?_,?_,?_,by omega⟩⟩
     ·rw[List.length_append];rfl
     ·rw[List.length_append];rfl
     ·rw[ZaM,Zbt];exact eB.mono jE
     ·intro z hz
      rcases List.mem_append.1 hz with hz|hz
      ·exact(bV z (by simp[hz])).mono h0
      ·simp at hz;subst hz;exact gp
     ·rw[ht];exact hJ.join (by omega) (by omega) _ _
    ·refine⟨decide (s1 % 12=9)&&(decide (0 < ts.length)&&decide (g < 9)),Zab (λh5=>Zab (λh6=>⟨by trivial,by trivial,?_⟩) (λh6=>⟨by trivial,by trivial,?_⟩)) (λh5=>⟨by trivial,by trivial,?_⟩),Zab (λh5=>?_) (λh5=>?_)⟩
     ·refine Zae ?_
      have e1:=of_decide_eq_true h6
      have e2:s1 % 12=9:=by have:=h5;simp at this;omega
      rw[decide_eq_true e2,decide_eq_true (show 0 < ts.length by omega),Bool.true_and,Bool.true_and,Bool.eq_iff_iff];simp;omega
     ·refine Zae ?_
      have e1:=of_decide_eq_false h6
      rw[decide_eq_false (show ¬0 < ts.length by omega)];simp
     ·refine Zae ?_
      have e2:¬s1 % 12=9:=by have:=h5;simp at this;omega
      rw[decide_eq_false e2];rfl
     ·
      have vH:g < 9:=by simp at h5;omega
      skip
      obtain⟨r,x,rfl⟩:=Zyu (ts:=ts) (by simp at h5;omega)
      have gn:(r++[x]).length=r.length+1:=by simp
      have iK:IntKind.i64.wrap (((r++[x]).length:Int) - 1)=(r.length:Int):=by rw[gn,Zal (by omega) (by omega)];omega
      obtain⟨bb,je,jc,o',u',hu'⟩:=dE.base bF (by simp)
      subst je
      obtain⟨bx,ox,jf,iG⟩:=Zeo bF (i:=r.length) (t:=x) (by simp)
      cases jf
      have sq:IntKind.i64.wrap ((g:Int)+1)=((g+1:Nat):Int):=by rw[Zal (by omega) (by omega)];rfl
      simp only[iK,sq,Int.toNat_natCast]
      refine⟨_,_,rfl,⟨by omega,by omega⟩,_,_,_,_,_,_,_,_,iG,Zai ((Zvd x mb (bV x (by simp))).frame2 dT) (Zd4 (mb:=mb) (M0:=m1)) (ZlX λt m0 m3 bR h0 iH dA gp ht=>?_)⟩
      obtain⟨at',ct,ht⟩:=ht
      have fL:m0.free bb:=λo=>by rw[dA bb o' u' hu' o];exact jc o
      refine⟨bb,0,rfl,⟨by omega,by omega⟩,rfl,by omega,by trivial,N - (i+1),by omega,i+1,r++[t],_,_,u,g+1,m0,by omega,?_,?_,by rw[List.length_append];rw[gn]at dW;exact dW,mLt gz h0,Mem.le_upd iH fL _ _,.inr ⟨bb,rfl,fL⟩,Zrq (bF.mono bR),?_,?_,by omega⟩
      ·rw[gn,List.length_append];rfl
      ·rw[gn,List.length_append];rfl
      ·intro z hz
       rcases List.mem_append.1 hz with hz|hz
       ·exact(bV z (by simp[hz])).mono h0
       ·simp at hz;subst hz;exact gp
      ·rw[ht];exact hJ.group vH _ _
     ·by_cases h0:0 < ts.length
      ·skip
       obtain⟨r,x,rfl⟩:=Zyu (ts:=ts) (by exact h0)
       have gn:(r++[x]).length=r.length+1:=by simp
       have iK:IntKind.i64.wrap (((r++[x]).length:Int) - 1)=(r.length:Int):=by rw[gn,Zal (by omega) (by omega)];omega
       obtain⟨bb,je,jc,o',u',hu'⟩:=dE.base bF (by simp)
       subst je
       obtain⟨bx,ox,jf,iG⟩:=Zeo bF (i:=r.length) (t:=x) (by simp)
       cases jf
       have vI:IntKind.i64.wrap (Int.tmod (intOf (Value.int .u8 (s2:Nat))) 3)=((s2 % 3:Nat):Int):=by
        rw[show Int.tmod (intOf (Value.int .u8 (s2:Nat))) 3=((s2 % 3:Nat):Int) from rfl,Zal (by omega) (by omega)]
       have vJ:IntKind.i64.wrap (Int.tmod (intOf (Value.int .u8 (s3:Nat))) 4)=((s3 % 4:Nat):Int):=by
        rw[show Int.tmod (intOf (Value.int .u8 (s3:Nat))) 4=((s3 % 4:Nat):Int) from rfl,Zal (by omega) (by omega)]
       simp only[iK,vI,vJ,Int.toNat_natCast]
       have qv:s2 % 3 < 3:=by omega
       have jE:s3 % 4 < 4:=by omega
       generalize s2 % 3=L at *
       generalize s3 % 4=Mo at *
       refine⟨decide (9 < s1 % 12)&&!(x.k == 1),Zab (λh6=>Zab (λh7=>⟨_,_,rfl,⟨by omega,by omega⟩,.int .u8 x.k,iG 0 _ rfl,Zaa rfl ⟨by trivial,by trivial,?_⟩⟩) (λh7=>absurd h7 (by simp))) (λh6=>⟨by trivial,by trivial,?_⟩),Zab (λh6=>Zaa rfl ⟨by omega,Zaa rfl ⟨by omega,?_⟩⟩) (λh6=>⟨by trivial,N - (i+1),by omega,i+1,r++[x],_,_,u,g,mb,by omega,rfl,rfl,dW,gz,dT,dE,bF,bV,hJ.skip,by omega⟩)⟩
       ·refine Zae ?_
        have:=of_decide_eq_true h6
        rw[decide_eq_true (show 9 < s1 % 12 by omega),Bool.true_and];rfl
       ·refine Zae ?_
        have:=of_decide_eq_false h6
        rw[decide_eq_false (show ¬9 < s1 % 12 by omega)];rfl
       ·have gk:x.k≠1:=by
         rw[Bool.and_eq_true]at h6
         simpa using h6.2
        obtain⟨tab1,tab2⟩:=ZwK L qv Mo jE
        refine⟨decide (Mo < L\/Mo=0\/(L=1/\Mo=1)),Zab (λg1=>⟨by trivial,by trivial,Zae ?_⟩) (λg1=>Zab (λg2=>⟨by trivial,by trivial,Zae ?_⟩) (λg2=>Zab (λg3=>⟨by trivial,by trivial,Zae ?_⟩) (λg3=>⟨by trivial,by trivial,Zae ?_⟩))),Zab (λg4=>?_) (λg4=>?_)⟩
        ·have:=of_decide_eq_true g1
         exact(decide_eq_true (by omega)).symm
        ·have:Mo=0:=by simp at g2;omega
         exact(decide_eq_true (by omega)).symm
        ·have e1:=of_decide_eq_false g1
         have e2:¬Mo=0:=by simp at g2;omega
         have e3:L=1:=by simp at g3;omega
         rw[Bool.eq_iff_iff];simp;omega
        ·have e1:=of_decide_eq_false g1
         have e2:¬Mo=0:=by simp at g2;omega
         have e3:¬L=1:=by simp at g3;omega
         exact(decide_eq_false (by omega)).symm
        ·
         have hA:(if(1:Int) > (if(-1:Int) > (L:Int)then(-1:Int)else(L:Int))then(1:Int)else(if(-1:Int) > (L:Int)then(-1:Int)else(L:Int)))=((max 1 L:Nat):Int):=by
          split <;> split <;> omega
         obtain⟨tb,tp⟩:=tab1 (of_decide_eq_true g4)
         have oX:u*max 1 L<=48:=by have:=Nat.mul_le_mul hJ.u16 (show max 1 L<=3 by omega);omega
         have sr:IntKind.i64.wrap ((u:Int)*((max 1 L:Nat):Int))=((u*max 1 L:Nat):Int):=by rw[<-Int.natCast_mul];exact Zal (by omega) (by omega)
         simp only[hA,sr]
         refine Zab (λg5=>?_) (λg5=>⟨by trivial,N - (i+1),by omega,i+1,r++[x],_,_,u,g,mb,by omega,rfl,rfl,dW,gz,dT,dE,bF,bV,hJ.skip,by omega⟩)
         have nb:u*max 1 L<=16:=by have:=of_decide_eq_true g5;omega
         refine⟨_,_,rfl,⟨by omega,by omega⟩,_,_,_,_,_,_,_,_,iG,Zai ((ZwJ x (L:Nat) (-1:Int) ⟨by omega,by omega⟩ ⟨by omega,by omega⟩ mb (bV x (by simp))).frame2 dT) (Zd4 (mb:=mb) (M0:=m1)) (ZlX λt m0 m3 bR h0 iH dA gp ht=>?_)⟩
         obtain⟨at',ct,ht⟩:=ht
         have fL:m0.free bb:=λo=>by rw[dA bb o' u' hu' o];exact jc o
         refine⟨bb,0,rfl,⟨by omega,by omega⟩,rfl,by omega,by trivial,N - (i+1),by omega,i+1,r++[t],_,_,u*max 1 L,g,m0,by omega,?_,?_,by rw[List.length_append];rw[gn]at dW;exact dW,mLt gz h0,Mem.le_upd iH fL _ _,.inr ⟨bb,rfl,fL⟩,Zrq (bF.mono bR),?_,?_,by omega⟩
         ·rw[gn,List.length_append];rfl
         ·rw[gn,List.length_append];rfl
         ·intro z hz
          rcases List.mem_append.1 hz with hz|hz
          ·exact(bV z (by simp[hz])).mono h0
          ·simp at hz;subst hz;exact gp
         ·rw[ht];exact hJ.rep gk tb tp (by omega) nb _ _
        ·
         have hA:(if(1:Int) > (if((Mo:Int)) > (L:Int)then((Mo:Int))else(L:Int))then(1:Int)else(if((Mo:Int)) > (L:Int)then((Mo:Int))else(L:Int)))=((max 1 (max L Mo):Nat):Int):=by
          split <;> split <;> omega
         obtain⟨tb,tp⟩:=tab2 (of_decide_eq_false g4)
         have oX:u*max 1 (max L Mo)<=48:=by have:=Nat.mul_le_mul hJ.u16 (show max 1 (max L Mo)<=3 by omega);omega
         have sr:IntKind.i64.wrap ((u:Int)*((max 1 (max L Mo):Nat):Int))=((u*max 1 (max L Mo):Nat):Int):=by rw[<-Int.natCast_mul];exact Zal (by omega) (by omega)
         simp only[hA,sr]
         refine Zab (λg5=>?_) (λg5=>⟨by trivial,N - (i+1),by omega,i+1,r++[x],_,_,u,g,mb,by omega,rfl,rfl,dW,gz,dT,dE,bF,bV,hJ.skip,by omega⟩)
         have nb:u*max 1 (max L Mo)<=16:=by have:=of_decide_eq_true g5;omega
         refine⟨_,_,rfl,⟨by omega,by omega⟩,_,_,_,_,_,_,_,_,iG,Zai ((ZwJ x (L:Nat) ((Mo:Int)) ⟨by omega,by omega⟩ ⟨by omega,by omega⟩ mb (bV x (by simp))).frame2 dT) (Zd4 (mb:=mb) (M0:=m1)) (ZlX λt m0 m3 bR h0 iH dA gp ht=>?_)⟩
         obtain⟨at',ct,ht⟩:=ht
         have fL:m0.free bb:=λo=>by rw[dA bb o' u' hu' o];exact jc o
         refine⟨bb,0,rfl,⟨by omega,by omega⟩,rfl,by omega,by trivial,N - (i+1),by omega,i+1,r++[t],_,_,u*max 1 (max L Mo),g,m0,by omega,?_,?_,by rw[List.length_append];rw[gn]at dW;exact dW,mLt gz h0,Mem.le_upd iH fL _ _,.inr ⟨bb,rfl,fL⟩,Zrq (bF.mono bR),?_,?_,by omega⟩
         ·rw[gn,List.length_append];rfl
         ·rw[gn,List.length_append];rfl
         ·intro z hz
          rcases List.mem_append.1 hz with hz|hz
          ·exact(bV z (by simp[hz])).mono h0
          ·simp at hz;subst hz;exact gp
         ·rw[ht];exact hJ.rep gk tb tp (by omega) nb _ _
      ·refine⟨false,Zab (λh6=>Zab (λh7=>absurd (of_decide_eq_true h7) (by omega)) (λh7=>⟨by trivial,by trivial,rfl⟩)) (λh6=>⟨by trivial,by trivial,rfl⟩),ZdE rfl ⟨by trivial,N - (i+1),by omega,i+1,ts,_,_,u,g,mb,by omega,rfl,rfl,dW,gz,dT,dE,bF,bV,hJ.skip,by omega⟩⟩
 ·have qx:i=N:=by have:=of_decide_eq_false dB;omega
  have aV:=mLt gz dT
  refine Zab (λh0=>?_) (λh0=>?_)
  ·have ss:(Zer ⟨#[97]⟩)=Zdq 0:=by rfl
   refine Zai (Zpj ⟨#[97]⟩ (by decide) m1) ZgZ (Zsx λt m2 bA hr ht=>ZaS (mLt aV bA) ⟨t,rfl,hr,?_⟩)
   rw[ss]at ht
   obtain⟨k1,k2,k3,k4⟩:=Zri 0
   rw[<-ht]at k1 k2 k3 k4
   exact(F26.leaf ⟨k1,by simp,by simp[szL,ZaJ,k2],by simp[Zfc];omega,by simp[grL,ZaJ,k4]⟩ k2).done
  ·obtain⟨t0,rest,rfl⟩:∃t r,ts=t::r:=by cases ts with
    | nil=>simp at h0
    | cons t r=>exact⟨t,r,rfl⟩
   have hF:=F26.start hJ (by omega)
   obtain⟨bb,je,jc,o',u',hu'⟩:=dE.base bF (by simp)
   subst je
   obtain⟨bx,ox,jf,iG⟩:=Zeo bF (i:=0) (t:=t0) rfl
   cases jf
   rw[List.length_cons]at gT dW
   refine⟨_,_,rfl,⟨by omega,by simp⟩,_,_,_,_,_,_,_,_,iG,λb2=>Zaa rfl ⟨⟨by omega,by rw[List.length_cons];omega⟩,?_⟩⟩
   refine⟨λxs css tvs m' q=>∃(k:Nat)(t:T),k<=rest.length/\xs=[.int .i64 k]/\css=[t.cs]/\m1.le m'/\Rep m' t/\F26 t (rest.drop k)/\q=rest.length - k,⟨rest.length,0,t0,by omega,rfl,rfl,Mem.le_refl _,(bV t0 (by simp)).mono dT,hF,by omega⟩,?_⟩
   rintro z cs m2 q2 _ ⟨k,t,hk,hz,dM,bA,gp,kT,nq⟩
   obtain rfl:z=k:=by simpa using hz
   obtain rfl:cs=t.cs:=by simpa using dM
   have jC:((t0::rest).length - Int.toNat 1)=rest.length:=by simp
   simp only[jC]
   refine Zab (λbB=>?_) (λfM=>Zaa rfl (ZaS (mLt aV bA) ⟨t,rfl,gp,by rw[show k=rest.length by have:=of_decide_eq_false fM;omega,List.drop_length]at kT;exact kT.done⟩))
   have bQ:k < rest.length:=by have:=of_decide_eq_true bB;omega
   obtain⟨x,hx⟩:=Zbc bQ
   obtain⟨b3,o3,f5,mG⟩:=Zeo (bF.mono bA) (i:=k+1) (t:=x) (by simpa using hx)
   cases f5
   have iL:IntKind.i64.wrap ((k:Int)+1)=((k+1:Nat):Int):=by rw[Zal (by omega) (by omega)];rfl
   simp only[iL,Int.toNat_natCast]
   rw[Zon hx]at kT
   have cE:=kT.f.sz
   rw[ZeJ]at cE
   have oV:=Zel (k:=4) (t:=t)
   have tn:=Zel (k:=4) (t:=x)
   have iJ:ZaU (some (⟨bb,0,none⟩:Addr)) (Int.toNat 1) c2 8=some ⟨bb,0+8,none⟩:=by
    unfold ZaU
    have:Nat.beq c2 1=false:=by
     cases hb:Nat.beq c2 1 with
     | false=>rfl
     | true=>have:=Nat.eq_of_beq_eq_true hb;omega
    show(bif Nat.beq c2 1 then _ else some (Addr.add _ (1*8)))=_
    rw[this,ZbK];rfl
   refine⟨_,_,iJ,⟨by omega,by omega⟩,_,_,_,_,_,_,_,_,by rw[show 0+8+k*8=0+(k+1)*8 by omega];exact mG,λb4=>Zaa rfl (Zai (Znw 4 t x (.inr rfl) m2 gp ((bV x (by simp[List.mem_of_getElem? hx])).mono (mLt dT bA)) (by omega) (by omega)) ZgZ (Zsx λt' m3 bR hr' ht'=>⟨by trivial,by trivial,rest.length - (k+1),by omega,k+1,t',by omega,rfl,rfl,mLt bA bR,hr',?_,by omega⟩))⟩
   obtain⟨a3,c3,ht'⟩:=ht'
   rw[ht'];exact kT.step _ _
structure SAct where
 k:Nat
 n:Nat
 pa:Option Addr
 pl:List Nat
 pd:Nat
 ea:Option Addr
 el:List (Nat×Nat×Nat)
 ed:Nat
def SAct.cs(x:SAct):List Value:=[.int .u8 x.k,.int .u8 x.n,.slice x.pa x.pl.length x.pd,.slice x.ea x.el.length x.ed]
theorem SAct.len(x:SAct):x.cs.length=4:=rfl
structure RepSA (m:Mem)(x:SAct):Prop where
 k:x.k < 256
 n:x.n < 256
 p:BytU m x.pa x.pl
 pl:x.pl.length<=1000000000000000
 pd:x.pl.length<=x.pd
 e:SmE m x.ea x.el
 ed:x.el.length<=x.ed
theorem RepSA.mono{m m':Mem}{x:SAct}(h:RepSA m x)(hm:m.le m'):RepSA m' x:=⟨h.k,h.n,h.p.mono hm,h.pl,h.pd,h.e.mono hm,h.ed⟩
theorem SmE.take{m:Mem}{a:Option Addr}{l:List (Nat×Nat×Nat)}(h:SmE m a l)(n:Nat):SmE m a (l.take n):=
 ⟨by rw[List.length_take];have:=h.len;omega,λs hs=>h.byte s (List.mem_of_mem_take hs),λi s hi=>h.at' i s (by
  have bB:=(List.getElem?_eq_some_iff.1 hi).1
  rw[List.length_take]at bB
  rw[List.getElem?_take_of_lt (by omega)]at hi;exact hi)⟩
def AcR(c:Int):Value->Mem->List (List Value)->Prop:=λv m' _=>∃a:Ac,v=.agg a.cs.toArray/\RepA m' a/\MkA c a
theorem ZwL{c:Int}:∀(v:Value)(m':Mem) (css:List (List Value)),AcR c v m' css->Shape.fits (.agg [.int .u8,.str,.slice,.int .u8,.any,.str,.int .i64,.slice]) v=true:=λv _ _ ⟨_,h,_⟩=>by rw[h];rfl
theorem Zt9{c:Int}{l:List Pt}(h:MkT c l):l.length<=few:=by have:=h.len;unfold few;omega
theorem ZwM(x:SAct)(c:Int)(m:Mem)(hx:RepSA m x)(hc : -1<=c/\c<=10000):CX Tryz.prog 67 #[.agg x.cs.toArray,.int .i64 c] m [] (AcR c):=by
 apply ZhB
 intro b m1 aV _ b1
 have wx:=hx.e.len
 have hN:(if(8:Int) < (x.el.length:Int)then(8:Int)else(x.el.length:Int))=((min 8 x.el.length:Nat):Int):=by split <;> omega
 simp only[hN,Int.toNat_natCast,Nat.sub_zero]
 have hd:=hx.ed
 have fA:(x.el.take 8).length=min 8 x.el.length:=List.length_take ..
 have hM:=Zvb (x.el.take 8) x.ea x.ed m1 ((hx.e.mono aV).take 8) (by omega)
 rw[fA]at hM
 refine⟨⟨by omega,by omega⟩,Zai hM ZhE (ZxU λe1 m2 bA dR tP=>?_)⟩
 have j6:=tP.len
 refine Zai (Zl1 e1 c m2 dR tP.all (by omega)) ZhE (ZxU λe m3 bR hr he b2=>Zaa rfl ⟨by omega,?_⟩)
 have hE:MkE c 20 e:=he.toMk (by omega)
 have eG:=mLt aV (mLt bA bR)
 have kB:=hx.mono eG
 refine Zab (λh2=>?_) (λh2=>Zab (λh3=>?_) (λh3=>?_))
 ·refine⟨λk _ _=>if k=0 then Zxc Ze0 else TmR c,_,rfl,Znv m3,Zdt,?_⟩
  rintro a5 n5 c5 m5 dY ⟨a',c',gP,gi⟩
  simp only[Value.slice.injEq]at gP
  obtain⟨rfl,rfl,rfl⟩:=gP
  have bB:x.n % 2 < 2:=Nat.mod_lt _ (by omega)
  obtain⟨s,hs⟩:=Zbc (l:=Ze0) (k:=x.n % 2) bB
  have jF:=List.mem_of_getElem? hs
  obtain⟨b6,o6,iu,eA⟩:=ZcC gi hs
  have cE:s.size<=1000000000000000:=by have:=Zk6 s jF;omega
  have hu:Int.tmod (x.n:Int) 2=((x.n % 2:Nat):Int):=rfl
  refine⟨by omega,b6,o6,iu,by rw[hu];exact⟨by omega,by show((x.n % 2:Nat):Int) < (2:Nat);omega⟩,_,by rw[hu,Int.toNat_natCast];exact eA,s,rfl,_,rfl,Zju x.pl x.pa x.pd e c m5 (kB.p.mono dY) hx.pd hx.pl (hr.mono' dY) hE hc,Zt8,?_⟩
  rintro a7 n7 c7 m7 iS ⟨L,aL,dL,px,bF,bV,hT⟩ M jA _ kU
  simp only[Value.slice.injEq]at px
  obtain⟨rfl,rfl,rfl⟩:=px
  exact ZaS (mLt eG jA) ⟨⟨2,s,a7,c7,L,E0⟩,rfl,⟨by show(0:Int)<=2/\(2:Int) < 256;omega,cE,Zt9 hT,bF.mono kU,λp hp=>(bV p hp).mono kU,ZvA M⟩,.set s jF _ _ L hT⟩
 ·refine⟨λ_ _ _=>Zxc Zjv,_,rfl,Zh4 m3,Zdt,?_⟩
  rintro a5 n5 c5 m5 dY ⟨a',c',gP,gi⟩
  simp only[Value.slice.injEq]at gP
  obtain⟨rfl,rfl,rfl⟩:=gP
  have bB:x.n % 4 < 4:=Nat.mod_lt _ (by omega)
  obtain⟨s,hs⟩:=Zbc (l:=Zjv) (k:=x.n % 4) bB
  have jF:=List.mem_of_getElem? hs
  obtain⟨b6,o6,iu,eA⟩:=ZcC gi hs
  have cE:s.size<=1000000000000000:=by have:=Zk5 s jF;omega
  have hu:Int.tmod (x.n:Int) 4=((x.n % 4:Nat):Int):=rfl
  refine⟨by omega,b6,o6,iu,by rw[hu];exact⟨by omega,by show((x.n % 4:Nat):Int) < (4:Nat);omega⟩,_,by rw[hu,Int.toNat_natCast];exact eA,s,rfl,Zaa rfl λM jA io=>?_⟩
  exact ZaS (mLt eG jA) ⟨⟨3,s,none,0,[],e⟩,rfl,⟨by show(0:Int)<=3/\(3:Int) < 256;omega,cE,by simp,.inl rfl,by simp,hr.mono' jA⟩,.let_ s jF e hE⟩
 ·refine Zai (Zju x.pl x.pa x.pd e c m3 kB.p hx.pd hx.pl hr hE hc) Zt8 ?_
  rintro a7 n7 c7 m7 iS ⟨L,aL,dL,px,bF,bV,hT⟩
  simp only[Value.slice.injEq]at px
  obtain⟨rfl,rfl,rfl⟩:=px
  exact ZaS (mLt eG iS) ⟨⟨1,.empty,a7,c7,L,E0⟩,rfl,⟨by show(0:Int)<=1/\(1:Int) < 256;omega,by show ByteArray.empty.size<=_;rw[ZaN];omega,Zt9 hT,bF,bV,ZvA m7⟩,.send _ _ L hT⟩
structure SRul where
 k:Nat
 n:Nat
 t:Nat
 g:Nat
 ra:Option Addr
 rl:List (Nat×Nat×Nat)
 rd:Nat
 aa:Option Addr
 al:List SAct
 ad:Nat
def SRul.cs(x:SRul):List Value:=[.int .u8 x.k,.int .u8 x.n,.int .u8 x.t,.int .u8 x.g,.slice x.ra x.rl.length x.rd,.slice x.aa x.al.length x.ad]
theorem SRul.len(x:SRul):x.cs.length=6:=rfl
structure RepSR (m:Mem)(x:SRul):Prop where
 k:x.k < 256
 n:x.n < 256
 t:x.t < 256
 g:x.g < 256
 r:Sm m x.ra x.rl
 rd:x.rl.length<=x.rd
 al:x.al.length<=1000000000000000
 ad:x.al.length<=x.ad
 row:rowRd m x.aa (x.al.map SAct.cs).flatten
 all:∀a∈x.al,RepSA m a
theorem RepSR.mono{m m':Mem}{x:SRul}(h:RepSR m x)(hm:m.le m'):RepSR m' x:=⟨h.k,h.n,h.t,h.g,h.r.mono hm,h.rd,h.al,h.ad,h.row.mono hm,λa ha=>(h.all a ha).mono hm⟩
def RuR(n:Nat):Value->Mem->List (List Value)->Prop:=λv m' _=>∃r:Ru,v=.agg r.cs.toArray/\RepR m' r/\MkR n r
theorem ZwN{n:Nat}:∀(v:Value)(m':Mem) (css:List (List Value)),RuR n v m' css->Shape.fits (.agg [.int .u8,.bool,.bool,.int .u8,.int .u64,.int .u64,.int .u64,.int .u64,.int .i64,.int .i64,.slice,.str,.int .i64,.slice,.str,.int .i64]) v=true:=λv _ _ ⟨_,h,_⟩=>by rw[h];rfl
theorem Ac.one(a:Ac):∀u∈a.cs,u.oneCell'=true:=by
 intro u hu
 simp only[Ac.cs,List.mem_cons,List.not_mem_nil,or_false]at hu
 rcases hu with rfl|rfl|rfl|rfl|rfl|rfl|rfl|rfl <;> rfl
structure Ru0 (m:Mem)(r:Ru):Prop where
 kind:Zxx r
 t:Rep m r.t
 acts:r.acts=[]/\r.aa=none/\r.ac=0
 go:r.go=.empty/\r.code=0
theorem ZwO(m:Mem):Rep m T0:=by
 simp only[T0,Rep]
 exact⟨by simp,.inl trivial,⟨by omega,by omega,by omega,by omega,by omega,by omega,by omega⟩⟩
theorem ZwP{r:Ru}(h:Zxx r):(0<=r.k/\r.k < 256)/\r.s.size<=1000000000000000/\I64 r.n:=by
 unfold I64
 rcases h with⟨h1,_,_,h2,h3⟩|⟨_,⟨h1,h2,h3,h4⟩|⟨h1,h2,h3⟩|⟨h1,h2,h3,h4⟩⟩
 ·rw[h2,ZaN];omega
 ·omega
 ·rw[h2,ZaN];omega
 ·rw[h2,ZaN];omega
theorem Zpl{t:T}(h:t.light=true):t.groups=(t.gr:Nat):=by unfold T.groups;rw[h];rfl
theorem ZzI:∀j < 6,∃s:ByteArray,[Value.string ⟨#[97]⟩,.string ⟨#[98]⟩,.string ⟨#[97,98]⟩,.string ⟨#[98,97]⟩,.string ⟨#[97,97,98]⟩,.string ⟨#[99]⟩][j*1]?=some (.string s)/\1<=s.size/\s.size<=3:=by
 intro j hj
 have:j=0\/j=1\/j=2\/j=3\/j=4\/j=5:=by omega
 rcases this with rfl|rfl|rfl|rfl|rfl|rfl <;> exact⟨_,rfl,by decide,by decide⟩
set_option maxHeartbeats 2000000 in
theorem Zvf(x:SRul)(p:Nat)(m:Mem)(hx:RepSR m x)(hp:1<=p/\p<=4):CX Tryz.prog 35 #[.agg x.cs.toArray,.int .i64 p] m [] (RuR p):=by
 apply ZkT
 intro b m1 aV _ b1 b2
 have eW:=hx.mono aV
 have sj:Int.tmod (x.k:Int) 8=((x.k % 8:Nat):Int):=rfl
 have si:x.k % 8 < 8:=Nat.mod_lt _ (by omega)
 refine⟨λxs css _ M=>∃r:Ru,xs=[.int .i64 (Zcb r)]/\css=[r.cs]/\Ru0 M r,⟨_,rfl,by omega,?_⟩,?_⟩
 ·simp only[sj]
  generalize x.k % 8=k at si
  refine⟨λxs _ _ m'=>xs=[.bool (decide (k<=2))]/\m1.le m',Zab (λh=>⟨trivial,?_,Mem.le_refl _⟩) (λh=>Zab (λh2=>⟨trivial,?_,Mem.le_refl _⟩) (λh2=>⟨trivial,?_,Mem.le_refl _⟩)),?_⟩
  ·have:k=0:=by simp at h;omega
   rw[h,this];rfl
  ·have:k=1:=by simp at h2;omega
   rw[h2,this];rfl
  ·have h0:¬k=0:=by simp at h;omega
   have h1:¬k=1:=by simp at h2;omega
   refine Zae ?_
   rw[Bool.eq_iff_iff];simp;omega
  rintro c2 m2 bA ⟨vK,_⟩
  obtain rfl:c2=decide (k<=2):=by simpa using vK
  refine Zaw (λhk=>?_) (λhk=>?_)
  ·have hM:=Zti x.rl x.ra x.rd m2 (eW.r.mono bA) hx.rd
   refine⟨λ_ _ _=>Zpy (λt=>t.check=0/\t.nodes.length<=26),_,rfl,by omega,_,rfl,by omega,_,rfl,hM,ZgZ,Zsx λt m3 bR gp ht M _ kU=>?_⟩
   have hl:t.nodes.length<=10000:=by omega
   refine Zax (Zl2 t M (gp.mono kU) hl) λm4 cO=>⟨trivial,⟨1,Int.tmod (x.n:Int) 5 == 4,Int.tmod (x.n:Int) 7 == 6,t,.empty,0,none,0,[],.empty,0⟩,?_,rfl,⟨.inl ⟨rfl,ht.1,ht.2,rfl,rfl⟩,gp.mono (mLt kU cO),⟨rfl,rfl,rfl⟩,rfl,rfl⟩⟩
   have hg:=Zpl (Zkd hl)
   show[Value.int .i64 _]=[Value.int .i64 (if(1:Int)=1 then t.groups else _)]
   rw[if_pos rfl,hg]
  ·refine⟨λxs _ _ m'=>xs=[.bool (decide (k<=4))]/\m2.le m',Zab (λh=>⟨trivial,?_,Mem.le_refl _⟩) (λh=>⟨trivial,?_,Mem.le_refl _⟩),?_⟩
   ·have:k=3:=by simp at h;omega
    rw[h,this];rfl
   ·have:¬k=3:=by simp at h;omega
    refine Zae ?_
    rw[Bool.eq_iff_iff];simp;omega
   rintro c3 m3 bR ⟨tC,_⟩
   obtain rfl:c3=decide (k<=4):=by simpa using tC
   refine Zaw (λqR=>λb5 jd=>?_) (λqR=>Zab (λh5=>⟨trivial,⟨3,false,false,T0,.empty,0,none,0,[],.empty,0⟩,rfl,rfl,⟨.inr ⟨⟨rfl,rfl,rfl⟩,.inr (.inl ⟨rfl,rfl,rfl⟩)⟩,ZwO _,⟨rfl,rfl,rfl⟩,rfl,rfl⟩⟩) (λh5=>⟨_,rfl,by omega,trivial,?_⟩))
   ·have tQ:Int.tmod (x.n:Int) 6=((x.n % 6:Nat):Int):=rfl
    have h6:x.n % 6 < 6:=Nat.mod_lt _ (by omega)
    obtain⟨s,hs,pk,mL⟩:=ZzI (x.n % 6) h6
    refine⟨_,rfl,by omega,by rw[tQ];exact⟨by omega,by omega⟩,Zao (by rw[tQ,Int.toNat_natCast];exact hs) ⟨s,rfl,λM _ _=>⟨trivial,⟨2,false,false,T0,s,0,none,0,[],.empty,0⟩,rfl,rfl,⟨.inr ⟨⟨rfl,rfl,rfl⟩,.inl ⟨rfl,pk,mL,rfl⟩⟩,ZwO _,⟨rfl,rfl,rfl⟩,rfl,rfl⟩⟩⟩⟩
   ·have rX:Int.tmod (x.t:Int) 8=((x.t % 8:Nat):Int):=rfl
    have h8:x.t % 8 < 8:=Nat.mod_lt _ (by omega)
    have hw:IntKind.i64.wrap (1+IntKind.i64.wrap (Int.tmod (x.t:Int) 8))=((1+x.t % 8:Nat):Int):=by rw[rX,Zal (n:=((x.t % 8:Nat):Int)) (by omega) (by omega),Zal (by omega) (by omega)];omega
    exact⟨⟨4,false,false,T0,.empty,IntKind.i64.wrap (1+IntKind.i64.wrap (Int.tmod (x.t:Int) 8)),none,0,[],.empty,0⟩,rfl,rfl,⟨.inr ⟨⟨rfl,rfl,rfl⟩,.inr (.inr ⟨rfl,rfl,by show 1<=IntKind.i64.wrap (1+IntKind.i64.wrap (Int.tmod (x.t:Int) 8));rw[hw];omega,by show IntKind.i64.wrap (1+IntKind.i64.wrap (Int.tmod (x.t:Int) 8))<=8;rw[hw];omega⟩)⟩,ZwO _,⟨rfl,rfl,rfl⟩,rfl,rfl⟩⟩
 rintro cn cs m2 bA ⟨r,nK,jG,hR⟩
 simp only[List.cons.injEq,Value.int.injEq,true_and,and_true]at nK jG
 subst nK jG
 have jQ:=hx.al
 have wy:=hx.ad
 have hN:(if(3:Int) < (x.al.length:Int)then(3:Int)else(x.al.length:Int))=((min 3 x.al.length:Nat):Int):=by split <;> omega
 simp only[hN,Int.toNat_natCast,Nat.sub_zero]
 generalize qw:min 3 x.al.length=N
 have dW : -1<=Zcb r/\Zcb r<=10000:=by
  refine⟨Zrl r,?_⟩
  unfold Zcb
  rcases hR.kind with⟨h1,h2,h3,_⟩|⟨_,⟨h1,_⟩|⟨h1,_⟩|⟨h1,_⟩⟩ <;> rw[h1]
  ·rw[if_pos rfl,Zpl (Zkd (by omega))]
   have:r.t.gr<=r.t.nodes.length:=List.countP_le_length
   omega
  ·rw[if_neg (by decide),if_pos rfl];omega
  ·rw[if_neg (by decide),if_neg (by decide)];omega
  ·rw[if_neg (by decide),if_neg (by decide)];omega
 have gQ:=eW.mono bA
 refine⟨⟨by omega,by omega⟩,λxs css tvs m' q=>∃(L:List Ac)(a:Option Addr)(d:Nat),L.length<=N/\xs=[.int .i64 L.length]/\css=[({ r with acts:=L,aa:=a,ac:=d }:Ru).cs]/\tvs=[.slice a L.length d]/\rowRd m' a (L.map Ac.cs).flatten/\(∀y∈L,RepA m' y)/\(∀y∈L,MkA (Zcb r) y)/\q=N - L.length,⟨N,[],none,0,by simp,rfl,?_,rfl,.inl rfl,by simp,by simp,rfl⟩,?_⟩
 ·show[r.cs]=[_]
  unfold Ru.cs
  rw[hR.acts.1,hR.acts.2.1,hR.acts.2.2]
 rintro z cs a n1 d m3 q bR ⟨L,a',d',wz,hz,dM,ft,bF,bV,gE,rfl⟩
 simp only[List.cons.injEq,Value.slice.injEq,Value.int.injEq,true_and,and_true]at hz dM ft
 obtain⟨rfl,rfl,rfl⟩:=ft
 subst hz dM
 have eG:=mLt aV (mLt bA bR)
 refine Zaw (λbB=>?_) (λdB=>?_)
 ·have bQ:L.length < N:=by omega
  obtain⟨y,hy⟩:=Zbc (l:=x.al) (k:=L.length) (by omega)
  obtain⟨b3,o3,f5,gU⟩:=Zam SAct.len (gQ.mono bR).row hy (by omega)
  have hw:IntKind.i64.wrap ((L.length:Int)+1)=((L.length+1:Nat):Int):=by rw[Zal (by omega) (by omega)];rfl
  refine⟨b3,o3,f5,⟨by omega,bB⟩,_,_,_,_,gU,λb4=>Zaa rfl ⟨λ_ _ _=>AcR (Zcb r),Zao rfl ⟨_,rfl,ZwM y (Zcb r) m3 ((gQ.mono bR).all y (List.mem_of_getElem? hy)) dW,ZwL,?_⟩⟩⟩
  rintro n s a3 n3 c3 n5 v s1 n6 a4 n7 c4 m4 cO ⟨w,hv,jU,su⟩ b5 jd
  simp only[Ac.cs,Value.agg.injEq,Array.mk.injEq,List.cons.injEq,Value.int.injEq,Value.string.injEq,Value.slice.injEq,true_and,and_true]at hv
  obtain⟨rfl,rfl,⟨rfl,rfl,rfl⟩,rfl,rfl,rfl,rfl,rfl,rfl,rfl⟩:=hv
  refine Zaa rfl ?_
  refine ZhD Ac.len Ac.one jd w (bF.mono cO) 112 (by omega) (by omega) (.inl rfl) λa5 c5 m5 dY eF=>Zaa rfl λM _ io kU jE=>⟨trivial,N - (L.length+1),by omega,L++[w],a5,c5,by rw[List.length_append];exact bQ,by rw[hw,List.length_append];rfl,?_,by rw[List.length_append];rfl,eF.mono jE,?_,?_,by rw[List.length_append];rfl⟩
  ·unfold Ru.cs;rw[List.length_append];rfl
  ·intro z hz
   rcases List.mem_append.1 hz with hz|hz
   ·exact(bV z hz).mono (mLt cO io)
   ·rw[List.mem_singleton]at hz;subst hz;exact jU.mono io
  ·intro z hz
   rcases List.mem_append.1 hz with hz|hz
   ·exact gE z hz
   ·rw[List.mem_singleton]at hz;subst hz;exact su
 ·have vL:Int.tmod (x.g:Int) 8=((x.g % 8:Nat):Int):=rfl
  have sq:IntKind.i64.wrap (Int.tmod (x.g:Int) 8)=((x.g % 8:Nat):Int):=by rw[vL,Zal (by omega) (by omega)]
  have hg:x.g % 8 < 8:=Nat.mod_lt _ (by omega)
  have gv:=ZwP hR.kind
  have base:∀{M:Mem},m3.le M->∀(go:ByteArray)(code:Int),go.size<=16->(0<=code/\code<=255)->RepR M { r with acts:=L,aa:=a,ac:=d,go:=go,code:=code }:=λ{M} hM go code h1 h2=>
   ⟨gv.1,hR.t.mono (mLt bR hM),gv.2.1,gv.2.2,by show L.length<=few;unfold few;omega,bF.mono hM,λy hy=>(bV y hy).mono hM,by show go.size<=_;omega,by show I64 code;unfold I64;omega⟩
  refine⟨λ_ css _ M=>∃r':Ru,css=[r'.cs]/\RepR M r'/\MkR p r',⟨_,rfl,by omega,?_⟩,?_⟩
  rw[sq]
  generalize x.g % 8=g at hg
  refine Zaw (λh6=>?_) (λh6=>⟨by omega,Zaa rfl ⟨trivial,trivial,?_⟩⟩)
  ·refine⟨λ_ _ _=>Zxc ZvH,_,rfl,Zpi m3,Zdt,?_⟩
   rintro a5 n5 c5 m5 dY ⟨a',c',gP,gi⟩
   simp only[Value.slice.injEq]at gP
   obtain⟨rfl,rfl,rfl⟩:=gP
   have vM:g % p < p:=Nat.mod_lt _ (by omega)
   obtain⟨s,hs⟩:=Zbc (l:=ZvH) (k:=g % p) (by show g % p < 4;omega)
   have jF:=List.mem_of_getElem? hs
   obtain⟨b6,o6,iu,eA⟩:=ZcC gi hs
   have hu:Int.tmod (g:Int) (p:Int)=((g % p:Nat):Int):=rfl
   refine⟨by omega,b6,o6,iu,by rw[hu];exact⟨by omega,by show((g % p:Nat):Int) < (4:Nat);omega⟩,_,by rw[hu,Int.toNat_natCast];exact eA,s,rfl,Zaa rfl λM jA _=>⟨trivial,trivial,{ r with acts:=L,aa:=a,ac:=d,go:=s,code:=0 },?_,base jA s 0 (by have:=Zns s jF;omega) (by omega),hR.kind,by show L.length<=3;omega,gE,.inl ⟨⟨g % p,vM,hs⟩,rfl⟩⟩⟩
   show[_]=[_]
   unfold Ru.cs ZaG
   rw[hR.go.2];rfl
  ·have ie:Int.tmod (IntKind.i64.wrap ((g:Int)*41)) 256=((g*41 % 256:Nat):Int):=by
    rw[show((g:Int)*41)=((g*41:Nat):Int) by omega,Zal (by omega) (by omega)];rfl
   rw[ie]
   have pw:g*41 % 256 < 256:=Nat.mod_lt _ (by omega)
   refine⟨{ r with acts:=L,aa:=a,ac:=d,go:=.empty,code:=((g*41 % 256:Nat):Int) },?_,base (Mem.le_refl _) _ _ (by rw[ZaN];omega) (by omega),hR.kind,by show L.length<=3;omega,gE,.inr ⟨rfl,by show 0<=((g*41 % 256:Nat):Int)/\((g*41 % 256:Nat):Int)<=255;omega⟩⟩
   show[_]=[_]
   unfold Ru.cs ZaG
   rw[hR.go.1];rfl
  ·rintro cs m5 dY ⟨r',dM,hr',hk'⟩
   obtain rfl:cs=r'.cs:=by simpa using dM
   exact Zaa rfl (ZaS (mLt eG dY) ⟨r',rfl,hr',hk'⟩)
theorem Zk7{α:Type}{cs:α->List Value}{n:Nat}(hn:∀x,(cs x).length=n)(h1:∀x,∀u∈cs x,u.oneCell'=true){m3:Mem}{b3:Nat}(hf:m3.free b3){a:Option Addr}{ts:List α}(t:α)(bF:rowRd m3 a (ts.map cs).flatten)(sz:Nat)(cE:(ts.length+1)*sz<=140737488355328)(hl:ts.length<=1000000){P Q:Prop}(hp:P\/Q){K:Option Addr->Nat->Mem->Prop}
  (k:∀(a':Option Addr)(c':Nat)(m4:Mem),(m3.add b3 (cs t)).le m4->rowRd m4 a' ((ts++[t]).map cs).flatten->ts.length+1<=c'->K a' c' m4):
  (P\/Q)/\∃xs ys:List Value,xs.length=ts.length*n/\ys.length=1*n/\rowRd (m3.add b3 (cs t)) a xs/\rowRd (m3.add b3 (cs t)) (some ⟨b3,0,none⟩) ys/\(∀u:Value,u∈ys->u.oneCell'=true)/\(ts.length+1)*sz<=140737488355328/\ts.length+1<=9223372036854775807/\
   ∀(a':Option Addr)(c':Nat)(m4:Mem),(m3.add b3 (cs t)).le m4->rowRd m4 a' (List.append xs ys)->ts.length+1<=c'->K a' c' m4:=
 ⟨hp,(ts.map cs).flatten,cs t,Zdr hn ts,by rw[hn,Nat.one_mul],bF.mono (Mem.le_add hf _),ZbM,h1 t,cE,by omega,λa' c' m4 hm hr hc=>k a' c' m4 hm (by rw[Zk3];exact hr) hc⟩
structure SSta where
 a:Option Addr
 l:List SRul
 d:Nat
def SSta.cs(x:SSta):List Value:=[.slice x.a x.l.length x.d]
theorem SSta.len(x:SSta):x.cs.length=1:=rfl
structure RepSS (m:Mem)(x:SSta):Prop where
 l:x.l.length<=1000000000000000
 d:x.l.length<=x.d
 row:rowRd m x.a (x.l.map SRul.cs).flatten
 all:∀r∈x.l,RepSR m r
theorem RepSS.mono{m m':Mem}{x:SSta}(h:RepSS m x)(hm:m.le m'):RepSS m' x:=⟨h.l,h.d,h.row.mono hm,λa ha=>(h.all a ha).mono hm⟩
structure SScr where
 n:Nat
 va:Option Addr
 vl:List Nat
 vd:Nat
 sa:Option Addr
 sl:List SSta
 sd:Nat
def SScr.cs(x:SScr):List Value:=[.int .u8 x.n,.slice x.va x.vl.length x.vd,.slice x.sa x.sl.length x.sd]
theorem SScr.len(x:SScr):x.cs.length=3:=rfl
structure RepSC (m:Mem)(x:SScr):Prop where
 n:x.n < 256
 v:BytU m x.va x.vl
 vl:x.vl.length<=1000000000000000
 sl:x.sl.length<=1000000000000000
 sd:x.sl.length<=x.sd
 row:rowRd m x.sa (x.sl.map SSta.cs).flatten
 all:∀s∈x.sl,RepSS m s
theorem RepSC.mono{m m':Mem}{x:SScr}(h:RepSC m x)(hm:m.le m'):RepSC m' x:=⟨h.n,h.v.mono hm,h.vl,h.sl,h.sd,h.row.mono hm,λa ha=>(h.all a ha).mono hm⟩
def ByR:Value->Mem->List (List Value)->Prop:=λv _ _=>∃n:Nat,v=.int .i64 n/\n < 256
theorem Zua:∀(v:Value)(m':Mem) (css:List (List Value)),ByR v m' css->Shape.fits (.int .i64) v=true:=λv _ _ ⟨_,h,_⟩=>by rw[h];rfl
theorem ZwQ(x:SScr)(b:Nat)(i:Nat)(m:Mem)(hb:m.reads b 0 x.cs)(hx:RepSC m x)(hi:i<=1000):CX Tryz.prog 31 #[.int .i64 i,.pointer (some ⟨b,0,none⟩)] m [] ByR:=by
 apply Zhy
 have h1:=hb 1 _ rfl
 refine⟨_,h1,Zaa rfl (Zab (λh=>ZaS (Mem.le_refl _) ⟨0,rfl,by omega⟩) (λh=>⟨_,h1,_,h1,Zaa rfl ⟨?_,Zaa rfl ?_⟩⟩))⟩
 ·show(x.vl.length:Int)≠0
  have:¬((x.vl.length:Int)=0):=by simpa[slN]using h
  exact this
 have h0:x.vl.length≠0:=by
  intro e
  have:¬((x.vl.length:Int)=0):=by simpa[slN]using h
  omega
 have bB:i % x.vl.length < x.vl.length:=Nat.mod_lt _ (by omega)
 obtain⟨n,hn⟩:=Zbc bB
 obtain⟨js,b1,o1,iP,dR⟩:=hx.v.get hn
 have ls:Int.tmod (i:Int) ((slN (.slice x.va x.vl.length x.vd):Nat):Int)=((i % x.vl.length:Nat):Int):=rfl
 refine⟨b1,o1,iP,by rw[ls];exact⟨by omega,by show((i % x.vl.length:Nat):Int) < (x.vl.length:Nat);omega⟩,_,by rw[ls,Int.toNat_natCast];exact dR,_,rfl,ZaS (Mem.le_refl _) ⟨n,?_,js⟩⟩
 rw[Zal (by omega) (by omega)]
theorem ZxW(n:Int):ConvIs Tryz.prog 3 87 (.int .i64 n) (.float .f64 (FloatKind.f64.nearest n)):=λw=>by
 simp[convert,Tryz.underlying3,Tryz.underlying87,Conv.intToFloat]
theorem Zy8:∀n:Fin 5,((FloatKind.f64.format.div (FloatKind.f64.nearest (n:Nat)) 4611686018427387904).any Zfd)=true:=by decide +kernel
theorem Zy9:∀j < 5,∃s:ByteArray,[Value.string ⟨#[]⟩,.string ⟨#[97]⟩,.string ⟨#[98,98]⟩,.string ⟨#[49]⟩,.string ⟨#[48,46,53]⟩][j*1]?=some (.string s)/\s.size<=3:=by
 intro j hj
 have:j=0\/j=1\/j=2\/j=3\/j=4:=by omega
 rcases this with rfl|rfl|rfl|rfl|rfl <;> exact⟨_,rfl,by decide⟩
theorem Va.one(a:Va):∀u∈a.cs,u.oneCell'=true:=by
 intro u hu
 simp only[Va.cs,List.mem_cons,List.not_mem_nil,or_false]at hu
 rcases hu with rfl|rfl|rfl|rfl <;> rfl
theorem Sta.one(a:Sta):∀u∈a.cs,u.oneCell'=true:=by
 intro u hu
 simp only[Sta.cs,List.mem_cons,List.not_mem_nil,or_false]at hu
 rcases hu with rfl|rfl <;> rfl
theorem Ru.one(a:Ru):∀u∈a.cs,u.oneCell'=true:=by
 intro u hu
 simp only[Ru.cs,List.mem_cons,List.not_mem_nil,or_false]at hu
 rcases hu with rfl|rfl|rfl|rfl|rfl|rfl|rfl|rfl|rfl|rfl|rfl|rfl|rfl|rfl|rfl|rfl <;> rfl
def ScR:Value->Mem->List (List Value)->Prop:=λv m' _=>∃s:Sc,v=s.v/\RepC m' s/\MkC s
theorem ZwR:∀(v:Value)(m':Mem) (css:List (List Value)),ScR v m' css->Shape.fits (.agg [.int .i64,.slice,.slice]) v=true:=λv _ _ ⟨_,h,_⟩=>by rw[h];rfl
theorem Zrz{α:Type}{L:List α}{t:α}{P:Nat->α->Prop}(h:∀j v,L[j]?=some v->P j v)(ht:P L.length t):∀j v,(L++[t])[j]?=some v->P j v:=by
 intro j v hv
 rcases Nat.lt_or_ge j L.length with bB|dB
 ·rw[List.getElem?_append_left bB]at hv;exact h j v hv
 ·have hj:=(List.getElem?_eq_some_iff.1 hv).1
  rw[List.length_append,List.length_singleton]at hj
  obtain rfl:j=L.length:=by omega
  simp at hv;subst hv;exact ht
theorem ZwS{i:Nat}{v:Va}(h:MkV i v):RepV v:=by
 have hm:=List.mem_of_getElem? h.name
 refine⟨?_,?_⟩
 ·rcases List.mem_append.1 hm with hm|hm
  ·have:=Zk5 _ hm;omega
  ·have:=Zk6 _ hm;omega
 ·rcases h.kind with⟨_,_,h,_⟩|⟨_,_,h,_⟩
  ·rw[h,ZaN];omega
  ·omega
set_option maxHeartbeats 2000000 in
theorem ZwT(x:SScr)(m:Mem)(hx:RepSC m x):CX Tryz.prog 9 #[.agg x.cs.toArray] m [] ScR:=by
 apply ZkU
 intro b m1 aV hb b1
 have eW:=hx.mono aV
 have sw:Int.tmod (x.n:Int) 11=((x.n % 11:Nat):Int):=rfl
 have kP:IntKind.i64.wrap (2+IntKind.i64.wrap (Int.tmod (x.n:Int) 11))=((2+x.n % 11:Nat):Int):=by rw[sw,Zal (n:=((x.n % 11:Nat):Int)) (by omega) (by omega),Zal (by omega) (by omega)];omega
 have sx:x.n % 11 < 11:=Nat.mod_lt _ (by omega)
 refine⟨_,rfl,by omega,λb2=>Zai (Zh4 m1) Zdt ?_⟩
 rintro a0 n0 c0 m2 bA ⟨a',c',nv,gi⟩
 simp only[Value.slice.injEq]at nv
 obtain⟨rfl,rfl,rfl⟩:=nv
 rw[kP]
 generalize x.n % 11=u at sx
 have eI:=mLt aV bA
 refine⟨λxs css tvs m' q=>∃(L:List Va)(a:Option Addr)(d:Nat),L.length<=4/\xs=[.int .i64 L.length]/\css=[[.int .i64 ((2+u:Nat):Int),.slice a L.length d,.slice none 0 0]]/\tvs=[.slice a L.length d]/\L.length<=d/\rowRd m' a (L.map Va.cs).flatten/\(∀j v,L[j]?=some v->MkV j v)/\q=4 - L.length,⟨4,[],none,0,by simp,rfl,rfl,rfl,by simp,.inl rfl,by simp,rfl⟩,?_⟩
 rintro z cs a n1 d m3 q bR ⟨L,a',d',wB,hz,dM,ft,vN,bF,gE,rfl⟩
 simp only[List.cons.injEq,Value.slice.injEq,Value.int.injEq,true_and,and_true]at hz dM ft
 obtain⟨rfl,rfl,rfl⟩:=ft
 subst hz dM
 have py:=mLt bA bR
 refine Zaw (λbB=>?_) (λdB=>?_)
 ·have bQ:L.length < 4:=by have:(L.length:Int) < (Zjv.length:Nat):=bB;have:Zjv.length=4:=rfl;omega
  obtain⟨s,hs⟩:=Zbc (l:=Zjv) (k:=L.length) bQ
  obtain⟨b3,o3,f5,eA⟩:=ZcC (gi.mono bR) hs
  refine⟨b3,o3,f5,⟨by omega,bB⟩,_,eA,s,rfl,λ_ _ _=>ByR,Zao rfl ⟨_,rfl,ZwQ x b L.length m3 (hb.mono py) (eW.mono py) (by omega),Zua,?_⟩⟩
  rintro n4 m4 cO ⟨n,hn,js⟩
  obtain rfl:n4=n:=by simpa using hn
  have hq:=Zy8 ⟨n % 5,Nat.mod_lt _ (by omega)⟩
  obtain⟨r,hr,fO⟩:=(Option.any_eq_true ..).1 hq
  have hr:FloatKind.f64.format.div (FloatKind.f64.nearest ((n % 5:Nat):Int)) 4611686018427387904=some r:=hr
  have qz:Int.tmod (n:Int) 5=((n % 5:Nat):Int):=rfl
  refine⟨by omega,_,ZxW _,_,by rw[qz];exact Zt7 _ hr,Zaa rfl (Zaa rfl (Zaa rfl λb5 jd=>Zaa rfl ?_))⟩
  have hw:IntKind.i64.wrap ((L.length:Int)+1)=((L.length+1:Nat):Int):=by rw[Zal (by omega) (by omega)];rfl
  refine Zk7 Va.len Va.one jd (⟨s,true,.empty,r⟩:Va) (bF.mono cO) 48 (by omega) (by omega) (.inl rfl) λa6 c6 m6 gZ iU mY=>Zaa rfl λM _ _ _ hM=>⟨rfl,4 - (L.length+1),by omega,L++[⟨s,true,.empty,r⟩],a6,c6,by rw[List.length_append];exact bQ,by rw[hw,List.length_append];rfl,by rw[List.length_append];rfl,by rw[List.length_append];rfl,by rw[List.length_append];exact mY,iU.mono hM,Zrz gE ⟨by rw[List.getElem?_append_left bQ];exact hs,.inl ⟨bQ,rfl,rfl,fO⟩⟩,by rw[List.length_append];rfl⟩
 have hL:L.length=4:=by have:¬(L.length:Int) < (Zjv.length:Nat):=dB;have:Zjv.length=4:=rfl;omega
 refine Zai (Znv m3) Zdt ?_
 rintro a5 n5 c5 m4 cO ⟨a',c',gP,gp⟩
 simp only[Value.slice.injEq]at gP
 obtain⟨rfl,rfl,rfl⟩:=gP
 have jL:=mLt py cO
 refine⟨λxs css tvs m' q=>∃(W:List Va)(a:Option Addr)(d i:Nat),i<=2/\W.length=4+i/\xs=[.int .i64 i]/\css=[[.int .i64 ((2+u:Nat):Int),.slice a W.length d,.slice none 0 0]]/\tvs=[.slice a W.length d]/\W.length<=d/\rowRd m' a (W.map Va.cs).flatten/\(∀j v,W[j]?=some v->MkV j v)/\q=2 - i,⟨2,L,a,d,0,by omega,by omega,rfl,rfl,rfl,vN,bF.mono cO,gE,rfl⟩,?_⟩
 rintro z cs a7 n7 d7 m5 q dY ⟨W,a',d',i,ik,vO,hz,dM,ft,tR,kH,lu,rfl⟩
 simp only[List.cons.injEq,Value.slice.injEq,Value.int.injEq,true_and,and_true]at hz dM ft
 obtain⟨rfl,rfl,rfl⟩:=ft
 subst hz dM
 have sy:=mLt jL dY
 refine Zaw (λbB=>?_) (λdB=>?_)
 ·have bQ:i < 2:=by have:(i:Int) < (Ze0.length:Nat):=bB;have:Ze0.length=2:=rfl;omega
  obtain⟨s,hs⟩:=Zbc (l:=Ze0) (k:=i) bQ
  obtain⟨b3,o3,f5,eA⟩:=ZcC (gp.mono dY) hs
  have rZ:IntKind.i64.wrap ((i:Int)+4)=((i+4:Nat):Int):=by rw[Zal (by omega) (by omega)];rfl
  have hw:IntKind.i64.wrap ((i:Int)+1)=((i+1:Nat):Int):=by rw[Zal (by omega) (by omega)];rfl
  rw[rZ,hw]
  refine⟨b3,o3,f5,⟨by omega,bB⟩,_,eA,s,rfl,λ_ _ _=>ByR,Zao rfl λb4 pn=>⟨_,rfl,ZwQ x b (i+4) m5 (hb.mono sy) (eW.mono sy) (by omega),Zua,?_⟩⟩
  rintro n4 m6 gZ ⟨n,hn,js⟩
  obtain rfl:n4=n:=by simpa using hn
  have qz:Int.tmod (n:Int) 5=((n % 5:Nat):Int):=rfl
  have h5:n % 5 < 5:=Nat.mod_lt _ (by omega)
  obtain⟨s1,pk,mL⟩:=Zy9 (n % 5) h5
  refine⟨by omega,by rw[qz];exact⟨by omega,by omega⟩,λV _ _ _=>Zao (by rw[qz,Int.toNat_natCast];exact pk) ⟨s1,rfl,λV2 vP _ _ b5 jd=>Zaa rfl ?_⟩⟩
  refine Zk7 Va.len Va.one jd (⟨s,false,s1,0⟩:Va) (kH.mono vP) 48 (by omega) (by omega) (.inl rfl) λa6 c6 m7 iS iU mY=>Zaa rfl λM _ _ _ _ hM=>⟨rfl,rfl,2 - (i+1),by omega,W++[⟨s,false,s1,0⟩],a6,c6,i+1,by omega,by rw[List.length_append];simp;omega,rfl,by rw[List.length_append];rfl,by rw[List.length_append];rfl,by rw[List.length_append];exact mY,iU.mono hM,Zrz lu ⟨by rw[vO,List.getElem?_append_right (show Zjv.length<=4+i by show 4<=_;omega)];show Ze0[4+i - 4]?=_;rw[show 4+i - 4=i by omega];exact hs,.inr ⟨by omega,rfl,mL,rfl⟩⟩,rfl⟩
 have hW:W.length=6:=by have:¬(i:Int) < (Ze0.length:Nat):=dB;have:Ze0.length=2:=rfl;omega
 have fP:=hx.sl
 have s4:=hx.sd
 have hN:(if(4:Int) < (x.sl.length:Int)then(4:Int)else(x.sl.length:Int))=((min 4 x.sl.length:Nat):Int):=by split <;> omega
 simp only[hN,Int.toNat_natCast,Nat.sub_zero]
 generalize qw:min 4 x.sl.length=N
 refine⟨⟨by omega,by omega⟩,λxs css tvs m' q=>∃(S:List Sta)(a:Option Addr)(e:Nat),S.length<=N/\xs=[.int .i64 S.length]/\css=[[.int .i64 ((2+u:Nat):Int),.slice a7 W.length d7,.slice a S.length e]]/\tvs=[.slice a S.length e]/\S.length<=e/\rowRd m' a (S.map Sta.cs).flatten/\(∀y∈S,RepS m' y)/\(∀j y,S[j]?=some y->MkS N j y)/\q=N - S.length,⟨N,[],none,0,by simp,rfl,rfl,rfl,by simp,.inl rfl,by simp,by simp,rfl⟩,?_⟩
 rintro z cs a8 n8 d8 m6 q gZ ⟨S,a',d',wC,hz,dM,ft,vQ,lV,lW,pz,rfl⟩
 simp only[List.cons.injEq,Value.slice.injEq,Value.int.injEq,true_and,and_true]at hz dM ft
 obtain⟨rfl,rfl,rfl⟩:=ft
 subst hz dM
 have qu:=mLt sy gZ
 have mV:=eW.mono qu
 have tS:∀v∈W,RepV v:=λv hv=>by
  obtain⟨j,hj⟩:=List.getElem?_of_mem hv
  exact ZwS (lu j v hj)
 refine Zaw (λbB=>?_) (λdB=>?_)
 ·have bQ:S.length < N:=by omega
  obtain⟨y,hy⟩:=Zbc (l:=x.sl) (k:=S.length) (by omega)
  obtain⟨b3,o3,f5,gU⟩:=Zam SSta.len mV.row hy (by omega)
  have mq:=mV.all y (List.mem_of_getElem? hy)
  refine⟨b3,o3,f5,⟨by omega,bB⟩,_,gU 0 _ rfl,Zai (Zpi m6) Zdt ?_⟩
  rintro a9 n9 c9 m7 iS ⟨a',c',qA,jY⟩
  simp only[Value.slice.injEq]at qA
  obtain⟨rfl,rfl,rfl⟩:=qA
  obtain⟨s,hs⟩:=Zbc (l:=ZvH) (k:=S.length) (by show S.length < 4;omega)
  obtain⟨b4,o4,ph,eA⟩:=ZcC jY hs
  have gA:=mq.l
  have wD:=mq.d
  have vR:(if(5:Int) < (slN (.slice y.a y.l.length y.d):Nat)then(5:Int)else(slN (.slice y.a y.l.length y.d):Nat))=((min 5 y.l.length:Nat):Int):=by
   show(if(5:Int) < (y.l.length:Int)then(5:Int)else(y.l.length:Int))=_
   split <;> omega
  have vS:=mq.mono iS
  refine⟨b4,o4,ph,⟨by omega,by show(S.length:Int) < (4:Nat);omega⟩,_,eA,s,rfl,λb5=>Zaa rfl (Zaa rfl ?_)⟩
  simp only[vR,Int.toNat_natCast,Nat.sub_zero]
  generalize ql:min 5 y.l.length=K
  have vT:=Zns s (List.mem_of_getElem? hs)
  refine⟨⟨by omega,by show((K:Nat):Int)<=(y.d:Nat);omega⟩,λxs css tvs m' q=>∃(T:List Ru)(a:Option Addr)(e:Nat),T.length<=K/\xs=[.int .i64 T.length]/\css=[[.string s,.slice a T.length e]]/\tvs=[.slice a T.length e]/\rowRd m' a (T.map Ru.cs).flatten/\(∀r∈T,RepR m' r)/\(∀r∈T,MkR N r)/\q=K - T.length,⟨K,[],none,0,by simp,rfl,rfl,rfl,.inl rfl,by simp,by simp,rfl⟩,?_⟩
  rintro z cs a10 n10 d10 m8 q gu ⟨T,a',d',wE,hz,dM,ft,lX,lY,pA,rfl⟩
  simp only[List.cons.injEq,Value.slice.injEq,Value.int.injEq,true_and,and_true]at hz dM ft
  obtain⟨rfl,rfl,rfl⟩:=ft
  subst hz dM
  refine Zaw (λfF=>?_) (λfM=>?_)
  ·have kA:T.length < K:=by omega
   obtain⟨r,hr⟩:=Zbc (l:=y.l) (k:=T.length) (by omega)
   have tT:=vS.mono gu
   obtain⟨b6,o6,iu,fU⟩:=Zam SRul.len tT.row hr (by omega)
   have hw:IntKind.i64.wrap ((T.length:Int)+1)=((T.length+1:Nat):Int):=by rw[Zal (by omega) (by omega)];rfl
   refine⟨b6,o6,iu,⟨by omega,fF⟩,_,_,_,_,_,_,fU,λb7=>Zaa rfl ⟨λ_ _ _=>RuR N,Zao rfl ⟨_,rfl,Zvf r N m8 (tT.all r (List.mem_of_getElem? hr)) (by omega),ZwN,?_⟩⟩⟩
   rintro k1 k2 k3 k4 k5 k6 k7 k8 k9 k10 ka kb kc ks kd ke kf kg kh ki m9 lT ⟨w,hv,jU,su⟩ b10 nf
   simp only[Ru.cs,Value.agg.injEq,Array.mk.injEq,List.cons.injEq,Value.int.injEq,Value.bool.injEq,Value.string.injEq,Value.slice.injEq,true_and,and_true]at hv
   obtain⟨rfl,rfl,rfl,rfl,rfl,rfl,rfl,rfl,rfl,rfl,⟨rfl,rfl,rfl⟩,rfl,rfl,⟨rfl,rfl,rfl⟩,rfl,rfl⟩:=hv
   refine Zaa rfl ?_
   refine Zk7 Ru.len Ru.one nf w (lX.mono lT) 168 (by omega) (by omega) (.inl rfl) λa5 c5 m5 dY eF _=>Zaa rfl λM _ io kU jE=>⟨trivial,trivial,K - (T.length+1),by omega,T++[w],a5,c5,by rw[List.length_append];exact kA,by rw[hw,List.length_append];rfl,by rw[List.length_append];rfl,by rw[List.length_append];rfl,eF.mono jE,?_,?_,by rw[List.length_append];rfl⟩
   ·intro z hz
    rcases List.mem_append.1 hz with hz|hz
    ·exact(lY z hz).mono (mLt lT io)
    ·rw[List.mem_singleton]at hz;subst hz;exact jU.mono io
   ·intro z hz
    rcases List.mem_append.1 hz with hz|hz
    ·exact pA z hz
    ·rw[List.mem_singleton]at hz;subst hz;exact su
  ·have hw:IntKind.i64.wrap ((S.length:Int)+1)=((S.length+1:Nat):Int):=by rw[Zal (by omega) (by omega)];rfl
   have tU:=mLt iS gu
   refine Zao rfl (Zaa rfl λb6 iv=>Zaa rfl ?_)
   refine Zk7 Sta.len Sta.one iv (⟨s,a10,d10,T⟩:Sta) (lV.mono tU) 40 (by omega) (by omega) (.inl rfl) λa5 c5 m5 dY eF r7=>Zaa rfl ⟨trivial,trivial,N - (S.length+1),by omega,S++[⟨s,a10,d10,T⟩],a5,c5,by rw[List.length_append];exact bQ,by rw[hw,List.length_append];rfl,by rw[List.length_append];rfl,by rw[List.length_append];rfl,by rw[List.length_append];exact r7,eF,?_,Zrz pz ⟨hs,by show T.length<=5;omega,pA⟩,by rw[List.length_append];rfl⟩
   have fx:=mLt (Mem.le_add iv (⟨s,a10,d10,T⟩:Sta).cs) dY
   intro z hz
   rcases List.mem_append.1 hz with hz|hz
   ·exact(lW z hz).mono (mLt tU fx)
   ·rw[List.mem_singleton]at hz;subst hz
    exact⟨by show s.size<=_;omega,by show T.length<=few;unfold few;omega,lX.mono fx,λr hr=>(lY r hr).mono fx⟩
 ·have vU:S.length=N:=by omega
  have kC:=mLt aV qu
  have pB:W.length<=few:=by unfold few;omega
  have hn:I64 ((2+u:Nat):Int):=by unfold I64;omega
  have tV:m5.le m6:=gZ
  refine Zao rfl (Zaa rfl (Zab (λh0=>λb3 iT=>Zaa rfl (Zaa rfl ?_)) (λh0=>Zaa rfl (ZaS kC ⟨⟨((2+u:Nat):Int),a7,d7,W,a8,d8,S⟩,rfl,⟨hn,pB,kH.mono tV,tS,by show S.length<=few;unfold few;omega,lV,lW,tR,vQ⟩,⟨by show 2<=((2+u:Nat):Int)/\((2+u:Nat):Int)<=12;omega,hW,lu,?_,?_⟩⟩))))
  ·have fx:=Mem.le_add iT [Value.string ⟨#[97]⟩,.slice none 0 0]
   refine ZaS (mLt kC fx) ⟨⟨((2+u:Nat):Int),a7,d7,W,some ⟨b3,0,none⟩,1,[⟨⟨#[97]⟩,none,0,[]⟩]⟩,rfl,⟨hn,pB,(kH.mono tV).mono fx,tS,by show 1<=few;unfold few;omega,ZbM,?_,tR,by show 1<=1;omega⟩,⟨by show 2<=((2+u:Nat):Int)/\((2+u:Nat):Int)<=12;omega,hW,lu,by show 1<=1/\1<=4;omega,?_⟩⟩
   ·intro y hy
    rw[List.mem_singleton]at hy;subst hy
    exact⟨by show(ByteArray.mk #[97]).size<=_;decide,by show 0<=few;omega,.inl rfl,by simp⟩
   ·intro j y hy
    have:j=0:=by have:=(List.getElem?_eq_some_iff.1 hy).1;simp at this;omega
    subst this
    simp at hy;subst hy
    exact⟨rfl,by show 0<=5;omega,by simp⟩
  ·have:¬((S.length:Int)=0):=by simpa[slN]using h0
   show 1<=S.length/\S.length<=4
   omega
  ·intro j y hy
   show MkS S.length j y
   rw[vU];exact pz j y hy
end Go.Proofs.YtojlhhphofhaoaaGreatDoor