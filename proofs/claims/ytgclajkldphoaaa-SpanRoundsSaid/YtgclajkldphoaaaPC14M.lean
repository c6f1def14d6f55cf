/- Part of the proof: conditions and contracts of functions of this program. No condition of its own. -/
import Derived.Test.YtgclajkldphoaaaPC14K
import Derived.Test.YtgclajkldphoaaaPVSJ
import Derived.Test.YtgclajkldphoaaaPEnv
import Derived.Test.YtgclajkldphoaaaMc
import Derived.Test.YtgclajkldphoaaaPVC
import Derived.Test.YtgclajkldphoaaaMr
import Derived.Test.YtgclajkldphoaaaPVSB
import Derived.Test.YtgclajkldphoaaaPC13S
set_option linter.unusedVariables false
set_option linter.unusedSimpArgs false
set_option linter.unusedSectionVars false
namespace Go.Proofs.Ytgclajkldphoaaa
open Go Go.Eng Go.Rx Go.Proofs Go.RowKit
set_option maxRecDepth 100000
theorem Zcm{m:Mem}{b:Nat}{l:List T}(hf:m.free b)(hr:∀t∈l,Rep m t)(hl:l.length<=1000000000000000):RepL (m.add b (ZcS l)) (some ⟨b,0,none⟩) l:=
 Zq7 (.inr ⟨b,0,rfl,λj v hj=>by rw[Nat.zero_add,Mem.add_same];exact hj⟩) (λt ht=>(hr t ht).mono (Mem.le_add hf _)) hl
theorem Zqx{m:Mem}{b:Nat}(s:List Nat)(h:∀c∈s,c < 256):Byt (m.add b (s.map λc:Nat=>Value.int .u8 c)) (some ⟨b,0,none⟩) s:=
 ⟨.inr ⟨b,0,rfl,λj v hj=>by rw[Nat.zero_add,Mem.add_same];exact hj⟩,h⟩
theorem Zpf{s:ByteArray}{c:Nat}(h:c∈ZbV s):c < 256:=by
 unfold ZbV at h
 obtain⟨b,_,rfl⟩:=List.mem_map.1 h
 exact b.toNat_lt
theorem Zio{m:Mem}{b:Nat}(W:PL)(h:W≠[]):PtAt (m.add b (plV W)) (some ⟨b,0,none⟩) W:=by
 have at2:∀(P:PL)(q:Nat)(p:Int×Int),P[q]?=some p->(plV P)[q*2]?=some (.int .i64 p.1)/\(plV P)[q*2+1]?=some (.int .i64 p.2):=λP=>by
  induction P with
  | nil=>intro q p hq;simp at hq
  | cons p0 P ih=>
   intro q p hq
   cases q with
   | zero=>simp at hq;subst hq;exact⟨rfl,rfl⟩
   | succ q=>
    have:=ih q p (by simpa using hq)
    rw[show(q+1)*2=q*2+2 by omega]
    exact this
 exact .inr ⟨b,rfl,λq p hq=>by rw[Mem.add_same,Mem.add_same];exact at2 W q p hq,h⟩
def ZzD(E:T)(s:List Nat):RT:=Ret (.tuple #[.int .i64 ((Zna E s).1:Nat),.int .i64 (Zna E s).2])
theorem Zpg(t E:T)(sa:Option Addr)(s:List Nat)(sc:Nat)(m:Mem)(he:t.er=E)(hr:Rep m t)(hb:Byt m sa s):CX Try.prog 15 #[t.v,.slice sa s.length sc] m [] (ZyY E s):=by
 have:=Zk1 t sa s sc m hr (λ_=>hb)
 unfold ZyY at *
 rwa [<-ZtK t,he]at this
theorem ZsW(t E:T)(sa:Option Addr)(s:List Nat)(sc:Nat)(i:Int)(m:Mem)(he:t.er=E)(hr:Rep m t)(hb:Byt m sa s):CX Try.prog 14 #[t.v,.slice sa s.length sc,.int .i64 i] m [] (ZzC E s i):=by
 have:=Zu2 t sa s sc i m hr (λ_ _=>hb)
 unfold ZzC at *
 rwa [<-Zwy t,he]at this
theorem Zqy(t E:T)(sa:Option Addr)(s:List Nat)(sc:Nat)(m:Mem)(he:t.er=E)(hr:Rep m t)(hb:Byt m sa s):CX Try.prog 17 #[t.v,.slice sa s.length sc] m [] (ZzD E s):=by
 have:=Zpc t sa s sc m hr (λ_ _=>hb)
 unfold ZzD at *
 rwa [<-Zwz t,he]at this
theorem ZmN(t E:T)(sa:Option Addr)(s:List Nat)(sc:Nat)(m:Mem)(he:t.er=E)(hr:Rep m t)(hb:Byt m sa s)(rM:s.length<=sc):CX Try.prog 16 #[t.v,.slice sa s.length sc] m [] (ZyZ E s):=by
 have:=Zpd t sa s sc m hr (λ_=>hb) rM
 unfold ZyZ at *
 rwa [<-ZwA t,he]at this
theorem Zqz(x y:List Nat)(ax ay:Option Addr)(cx cy:Nat)(m:Mem)(hx:rowRd m ax (nsL x))(hy:rowRd m ay (nsL y))(bL:x.length<=1000000000000000):CX Try.prog 35 #[.slice ax x.length cx,.slice ay y.length cy] m [] (Ret (.bool (x == y))):=
 ZmD x y ax ay cx cy m hx hy bL
theorem ZmO(x:List (List Nat))(ax ay:Option Addr)(cx cy:Nat)(m:Mem)(hx:rowRd m ax (x.map Zvr))(hy:rowRd m ay (x.map Zvr))(bL:x.length<=1000000):CX Try.prog 36 #[.slice ax x.length cx,.slice ay x.length cy] m [] (Ret (.bool true)):=by
 apply Zcb
 unfold Zbj
 refine ZkQ (by simp) ⟨λxs _ _ _ q=>∃j:Nat,j<=x.length/\xs=[.int .i64 (j:Nat)]/\q=x.length - j,⟨_,0,by omega,rfl,rfl⟩,?_⟩
 rintro y m1 q bH ⟨j,hj,cU,rfl⟩
 obtain rfl:y=j:=by simpa using cU
 refine Zab (λbF=>?_) (λcR=>Zah bH rfl)
 have bI:j < x.length:=by have:=of_decide_eq_true bF;omega
 obtain⟨z,hz⟩:∃z,x[j]?=some z:=⟨_,List.getElem?_eq_getElem bI⟩
 have one:∀a:Option Addr,rowRd m a (x.map Zvr)->∃b o,a=some ⟨b,o,none⟩/\m1 b (o+j)=some (Zvr z):=λa h=>by
  rcases h with h|⟨b,o,h1,h2⟩
  ·have:x=[]:=by simpa using h
   rw[this]at bI;simp at bI
  ·exact⟨b,o,h1,bH.c _ _ _ (h2 j _ (by rw[List.getElem?_map,hz];rfl))⟩
 obtain⟨b1,o1,h1,h2⟩:=one ax hx
 obtain⟨b2,o2,h3,h4⟩:=one ay hy
 rw[wr1 (by omega)]
 refine⟨b1,o1,h1,⟨by omega,by omega⟩,_,by rw[Int.toNat_natCast,Nat.mul_one];exact h2,b2,o2,h3,⟨by omega,by omega⟩,_,by rw[Int.toNat_natCast,Nat.mul_one];exact h4,Zaa rfl (ZkQ (by simp) ⟨x.length - (j+1),by omega,j+1,by omega,rfl,rfl⟩)⟩
def aE1:T:=ZdU 97
def aE2:T:=ZdU 98
def aE3:T:=ZdU 99
def aE9:T:=eN 3 0 0 [aE1,aE2]
def Zxz:T:=eN 3 0 0 [aE2,aE3]
def Zu3:T:=eN 5 (0) (-1) [aE1]
def Zy0:T:=eN 4 0 0 [aE1,aE9]
def Zy1:T:=eN 6 0 0 [Zy0]
def Zy2:T:=eN 4 0 0 [aE3,Zxz]
def Zy3:T:=eN 6 0 0 [Zy2]
def Zy4:T:=eN 3 0 0 [Zy1,Zy3]
def Zy5:T:=eN 4 0 0 [aE9,aE1]
def Zy6:T:=eN 6 0 0 [Zy5]
def Zy7:T:=eN 4 0 0 [Zxz,aE3]
def Zy8:T:=eN 6 0 0 [Zy7]
def Zy9:T:=eN 3 0 0 [Zy6,Zy8]
def Zza:T:=eN 6 0 0 [Zu3]
def Zzb:T:=eN 6 0 0 [Zu3]
def Zzc:T:=eN 3 0 0 [Zza,Zzb]
def Zzd:T:=eN 4 0 0 [aE1,aE2]
def Zze:T:=eN 6 0 0 [Zzd]
def Zzf:T:=eN 5 (0) (-1) [Zze]
def Zzg:T:=eN 6 0 0 [Zu3]
def Zzh:T:=eN 5 (0) (-1) [Zzg]
def Zzi:T:=eN 6 0 0 [Zu3]
def Zzj:T:=eN 5 (1) (2) [Zzi]
def Zzk:T:=eN 6 0 0 [aE1]
def Zzl:T:=eN 4 0 0 [Zzk,aE2]
def Zzm:T:=eN 6 0 0 [Zzl]
def Zzn:T:=eN 5 (0) (-1) [Zzm]
theorem aR0:ZfD Zy4 [97,98,99]=([(0,1),(1,3)],0):=by decide +kernel
theorem aR1:ZfD Zy9 [97,98,99]=([(0,2),(2,3)],0):=by decide +kernel
theorem aR2:ZfD Zzc [97,97]=([(0,2),(2,2)],0):=by decide +kernel
theorem aR3:ZfD Zzf [97,98]=([(1,2)],0):=by decide +kernel
theorem aR4:ZfD Zzh []=([(-1,-1)],0):=by decide +kernel
theorem aR5:ZfD Zzj []=([(0,0)],0):=by decide +kernel
theorem aR6:ZfD Zzn [97,98]=([(1,2),(0,1)],0):=by decide +kernel
def ZxA:T:=eN 6 0 0 [Zu3]
def ZxB:T:=eN 5 (0) (-1) [ZxA]
def ZxC:T:=eN 4 0 0 [Zu3,aE2]
def Zw0:T:=eN 3 0 0 [aE1,aE1]
def Zw1:T:=eN 4 0 0 [Zw0,aE1]
def Zpy:T:=eN 5 (0) (-1) [Zw1]
def Zw2:T:=eN 4 0 0 [aE1,aE9]
def Zw3:T:=eN 6 0 0 [Zw2]
def Zw4:T:=eN 4 0 0 [aE3,Zxz]
def Zw5:T:=eN 6 0 0 [Zw4]
def Zvs:T:=eN 3 0 0 [Zw3,Zw5]
def ZzO:Fx:=λi _ _=>match i with
 | 3=>IsE aE9
 | 7=>IsE Zxz
 | _=>IsE (ZdU 0)
def ZzP:Fx:=λi _ _=>match i with
 | 3=>IsE Zy0
 | 4=>IsE Zy1
 | 8=>IsE Zy2
 | 9=>IsE Zy3
 | 11=>IsE Zy4
 | 19=>IsE Zy5
 | 20=>IsE Zy6
 | 24=>IsE Zy7
 | 25=>IsE Zy8
 | 27=>IsE Zy9
 | 33=>IsE Zza
 | 35=>IsE Zzb
 | 37=>IsE Zzc
 | 45=>IsE Zzd
 | 46=>IsE Zze
 | 47=>IsE Zzf
 | 52=>IsE Zzg
 | 53=>IsE Zzh
 | 58=>IsE Zzi
 | 59=>IsE Zzj
 | 64=>IsE Zzk
 | 67=>IsE Zzl
 | 68=>IsE Zzm
 | 69=>IsE Zzn
 | _=>IsE (ZdU 0)
def ZzQ:Fx:=λi _ _=>match i with
 | 3=>IsE Zw0
 | 6=>IsE Zw1
 | 7=>IsE Zpy
 | 10=>ZzD Zpy [97,97,97]
 | _=>IsE (ZdU 0)
def ZzR:Fx:=λi _ _=>match i with
 | 3=>IsE Zw2
 | 4=>IsE Zw3
 | 8=>IsE Zw4
 | 9=>IsE Zw5
 | 11=>IsE Zvs
 | 14=>ZyZ Zvs [97,98,99]
 | _=>IsE (ZdU 0)
theorem Zzo:ZfD ZxB [98]=([],141):=by decide +kernel
theorem Zzp:Zvn ZxC [97,97,98] 0=([2,1,0],0):=by decide +kernel
theorem Zzq:Zna Zpy [97,97,97]=(2,0):=by decide +kernel
theorem Zzr:Zvx Zvs [97,98,99]=([[97,98,99],[97],[98,99]],0):=by decide +kernel
set_option maxHeartbeats 6400000 in
theorem ZqA(m:Mem):CX Try.prog 8 #[] m [] (Ret (.bool true)):=by
 apply Zjd
 unfold Zgi
 refine⟨_,trivial,Zhl 97 (by omega) _,ZaB (E:=aE1),Zgk λt1 m1 h1 r1 e1=>?_⟩
 refine⟨_,trivial,Zhl 98 (by omega) _,ZaB (E:=aE2),Zgk λt2 m2 h2 r2 e2=>?_⟩
 refine⟨_,trivial,Zhl 99 (by omega) _,ZaB (E:=aE3),Zgk λt3 m3 h3 r3 e3=>?_⟩
 intro b4 b5 b6
 refine⟨ZzO,?_⟩
 intro b7 f8
 refine⟨_,rfl,ZfW _ _ [t1,t2] [aE1,aE2] _ (Zcm (l:=[t1,t2]) f8 (by simp only[List.mem_cons,List.not_mem_nil,or_false];rintro x (rfl|rfl);exact(r1.mono (mLt h2 h3));exact(r2.mono (h3))) (by simp)) (by simp only[List.map_cons,List.map_nil,e1,e2] <;> rfl),ZaB (E:=aE9),Zgk λt9 m9 h9 r9 e9=>?_⟩
 intro b10 f11
 intro m12 vW BL zS
 refine⟨_,rfl,ZfW _ _ [t2,t3] [aE2,aE3] _ ((Zcm (l:=[t2,t3]) f11 (by simp only[List.mem_cons,List.not_mem_nil,or_false];rintro x (rfl|rfl);exact(r2.mono (h3));exact r3) (by simp)).mono (zS)) (by simp only[List.map_cons,List.map_nil,e2,e3] <;> rfl),ZaB (E:=Zxz),Zgk λt16 m16 vD r16 e16=>?_⟩
 intro b17 b18 m19 jT BM wa rL wc
 refine⟨_,trivial,ZfX t1 aE1 (0) (-1) (by omega) (by omega) _ (r1.mono (mLt h2 (mLt h3 jT))) e1,ZaB (E:=Zu3),Zgk λt25 m25 fV r25 e25=>?_⟩
 intro b26
 refine⟨ZzP,?_⟩
 intro b27 f28
 refine⟨_,rfl,Zdy _ _ [t1,t9] [aE1,aE9] _ (Zcm (l:=[t1,t9]) f28 (by simp only[List.mem_cons,List.not_mem_nil,or_false];rintro x (rfl|rfl);exact(r1.mono (mLt h2 (mLt h3 (mLt jT fV))));exact(r9.mono (mLt wa fV))) (by simp)) (by simp only[List.map_cons,List.map_nil,e1,e9] <;> rfl),ZaB (E:=Zy0),Zgk λt29 m29 BN r29 e29=>?_⟩
 refine⟨_,rfl,Za8 t29 Zy0 _ r29 e29,ZaB (E:=Zy1),Zgk λt30 m30 BO r30 e30=>?_⟩
 intro b31 f32
 intro m33 BP zT zU
 refine⟨_,rfl,Zdy _ _ [t3,t16] [aE3,Zxz] _ ((Zcm (l:=[t3,t16]) f32 (by simp only[List.mem_cons,List.not_mem_nil,or_false];rintro x (rfl|rfl);exact(r3.mono (mLt jT fV));exact(r16.mono (mLt wc fV))) (by simp)).mono (zU)) (by simp only[List.map_cons,List.map_nil,e3,e16] <;> rfl),ZaB (E:=Zy2),Zgk λt37 m37 zV r37 e37=>?_⟩
 refine⟨_,rfl,Za8 t37 Zy2 _ r37 e37,ZaB (E:=Zy3),Zgk λt38 m38 zW r38 e38=>?_⟩
 intro b39 f40
 refine⟨_,rfl,ZfW _ _ [t30,t38] [Zy1,Zy3] _ (Zcm (l:=[t30,t38]) f40 (by simp only[List.mem_cons,List.not_mem_nil,or_false];rintro x (rfl|rfl);exact(r30.mono (mLt zT (mLt zV zW)));exact r38) (by simp)) (by simp only[List.map_cons,List.map_nil,e30,e38] <;> rfl),ZaB (E:=Zy4),Zgk λt41 m41 BQ r41 e41=>?_⟩
 intro b42 f43
 intro b44 f45
 intro m46 BR BS zX
 refine⟨_,rfl,Zdy _ _ [t9,t1] [aE9,aE1] _ ((Zcm (l:=[t9,t1]) f45 (by simp only[List.mem_cons,List.not_mem_nil,or_false];rintro x (rfl|rfl);exact(r9.mono (mLt wa fV));exact(r1.mono (mLt h2 (mLt h3 (mLt jT fV))))) (by simp)).mono (zX)) (by simp only[List.map_cons,List.map_nil,e9,e1] <;> rfl),ZaB (E:=Zy5),Zgk λt50 m50 BT r50 e50=>?_⟩
 refine⟨_,rfl,Za8 t50 Zy5 _ r50 e50,ZaB (E:=Zy6),Zgk λt51 m51 BU r51 e51=>?_⟩
 intro b52 f53
 intro m54 xS zY zZ
 refine⟨_,rfl,Zdy _ _ [t16,t3] [Zxz,aE3] _ ((Zcm (l:=[t16,t3]) f53 (by simp only[List.mem_cons,List.not_mem_nil,or_false];rintro x (rfl|rfl);exact(r16.mono (mLt wc fV));exact(r3.mono (mLt jT fV))) (by simp)).mono (zZ)) (by simp only[List.map_cons,List.map_nil,e16,e3] <;> rfl),ZaB (E:=Zy7),Zgk λt58 m58 wd r58 e58=>?_⟩
 refine⟨_,rfl,Za8 t58 Zy7 _ r58 e58,ZaB (E:=Zy8),Zgk λt59 m59 we r59 e59=>?_⟩
 intro b60 f61
 refine⟨_,rfl,ZfW _ _ [t51,t59] [Zy6,Zy8] _ (Zcm (l:=[t51,t59]) f61 (by simp only[List.mem_cons,List.not_mem_nil,or_false];rintro x (rfl|rfl);exact(r51.mono (mLt zY (mLt wd we)));exact r59) (by simp)) (by simp only[List.map_cons,List.map_nil,e51,e59] <;> rfl),ZaB (E:=Zy9),Zgk λt62 m62 xU r62 e62=>?_⟩
 intro b63 f64
 refine⟨_,rfl,Za8 t25 Zu3 _ (r25.mono (mLt xS (mLt wd (mLt we (mLt (Mem.le_add f61 _) xU))))) e25,ZaB (E:=Zza),Zgk λt65 m65 z4 r65 e65=>?_⟩
 refine⟨_,rfl,Za8 t25 Zu3 _ (r25.mono (mLt xS (mLt wd (mLt we (mLt (Mem.le_add f61 _) (mLt xU z4)))))) e25,ZaB (E:=Zzb),Zgk λt66 m66 z5 r66 e66=>?_⟩
 intro b67 f68
 refine⟨_,rfl,ZfW _ _ [t65,t66] [Zza,Zzb] _ (Zcm (l:=[t65,t66]) f68 (by simp only[List.mem_cons,List.not_mem_nil,or_false];rintro x (rfl|rfl);exact(r65.mono (z5));exact r66) (by simp)) (by simp only[List.map_cons,List.map_nil,e65,e66] <;> rfl),ZaB (E:=Zzc),Zgk λt69 m69 BV r69 e69=>?_⟩
 intro b70 f71
 intro b72 f73
 intro m74 uj BW z6
 refine⟨_,rfl,Zdy _ _ [t1,t2] [aE1,aE2] _ ((Zcm (l:=[t1,t2]) f73 (by simp only[List.mem_cons,List.not_mem_nil,or_false];rintro x (rfl|rfl);exact(r1.mono (mLt h2 (mLt h3 (mLt jT fV))));exact(r2.mono (mLt h3 (mLt jT fV)))) (by simp)).mono (z6)) (by simp only[List.map_cons,List.map_nil,e1,e2] <;> rfl),ZaB (E:=Zzd),Zgk λt78 m78 uk r78 e78=>?_⟩
 refine⟨_,rfl,Za8 t78 Zzd _ r78 e78,ZaB (E:=Zze),Zgk λt79 m79 ul r79 e79=>?_⟩
 refine⟨_,rfl,ZfX t79 Zze (0) (-1) (by omega) (by omega) _ r79 e79,ZaB (E:=Zzf),Zgk λt80 m80 um r80 e80=>?_⟩
 intro b81 f82
 refine⟨_,rfl,Za8 t25 Zu3 _ (r25.mono (mLt uj (mLt uk (mLt ul um)))) e25,ZaB (E:=Zzg),Zgk λt83 m83 wg r83 e83=>?_⟩
 refine⟨_,rfl,ZfX t83 Zzg (0) (-1) (by omega) (by omega) _ r83 e83,ZaB (E:=Zzh),Zgk λt84 m84 wh r84 e84=>?_⟩
 intro b85 f86
 refine⟨_,rfl,Za8 t25 Zu3 _ (r25.mono (mLt uj (mLt uk (mLt ul (mLt um (mLt wg wh)))))) e25,ZaB (E:=Zzi),Zgk λt87 m87 xV r87 e87=>?_⟩
 refine⟨_,rfl,ZfX t87 Zzi (1) (2) (by omega) (by omega) _ r87 e87,ZaB (E:=Zzj),Zgk λt88 m88 xW r88 e88=>?_⟩
 intro b89 f90
 refine⟨_,rfl,Za8 t1 aE1 _ (r1.mono (mLt h2 (mLt h3 (mLt jT (mLt fV (mLt uj (mLt uk (mLt ul (mLt um (mLt wg (mLt wh (mLt xV xW)))))))))))) e1,ZaB (E:=Zzk),Zgk λt91 m91 z7 r91 e91=>?_⟩
 intro b92 f93
 refine⟨_,rfl,Zdy _ _ [t91,t2] [Zzk,aE2] _ (Zcm (l:=[t91,t2]) f93 (by simp only[List.mem_cons,List.not_mem_nil,or_false];rintro x (rfl|rfl);exact r91;exact(r2.mono (mLt h3 (mLt jT (mLt fV (mLt uj (mLt uk (mLt ul (mLt um (mLt wg (mLt wh (mLt xV (mLt xW z7))))))))))))) (by simp)) (by simp only[List.map_cons,List.map_nil,e91,e2] <;> rfl),ZaB (E:=Zzl),Zgk λt94 m94 BX r94 e94=>?_⟩
 refine⟨_,rfl,Za8 t94 Zzl _ r94 e94,ZaB (E:=Zzm),Zgk λt95 m95 BY r95 e95=>?_⟩
 refine⟨_,rfl,ZfX t95 Zzm (0) (-1) (by omega) (by omega) _ r95 e95,ZaB (E:=Zzn),Zgk λt96 m96 BZ r96 e96=>?_⟩
 intro b97 f98
 intro m99 z8 z9 Aa Ab Ac Ad Ae Af Ag
 intro b109 f110
 intro m111 gJ Ah Ai Aj Ak Al Am An wi wj Ao Ap Aq Ar As At Au wl wm Av Aw Ax wn wo Ay Az AA wp wq tB wt wu AB ww wx AC AD AE AF wy wz AG
 have bG:∀j:Nat,j < 7->∃(x X:T)(bs:ByteArray)(W:PL)(wb:Nat),List.take 10 (List.drop (Int.toNat (j:Int)*10) (ZaV t41.k t41.s0 t41.s1 t41.s2 t41.s3 t41.mn t41.mx t41.a t41.subs.length t41.c b42 t62.k t62.s0 t62.s1 t62.s2 t62.s3 t62.mn t62.mx t62.a t62.subs.length t62.c b63 t69.k t69.s0 t69.s1 t69.s2 t69.s3 t69.mn t69.mx t69.a t69.subs.length t69.c b70 t80.k t80.s0 t80.s1 t80.s2 t80.s3 t80.mn t80.mx t80.a t80.subs.length t80.c b81 t84.k t84.s0 t84.s1 t84.s2 t84.s3 t84.mn t84.mx t84.a t84.subs.length t84.c b85 t88.k t88.s0 t88.s1 t88.s2 t88.s3 t88.mn t88.mx t88.a t88.subs.length t88.c b89 t96.k t96.s0 t96.s1 t96.s2 t96.s3 t96.mn t96.mx t96.a t96.subs.length t96.c b97))=x.cs++[.string bs,.slice (some ⟨wb,0,none⟩) W.length W.length]/\Rep m111 x/\x.er=X/\ZfD X (ZbV bs)=(W,0)/\PtAt m111 (some ⟨wb,0,none⟩) W/\W.length<=100:=by
  intro j hj
  have hj:j=0\/j=1\/j=2\/j=3\/j=4\/j=5\/j=6:=by omega
  rcases hj with rfl|rfl|rfl|rfl|rfl|rfl|rfl
  ·exact⟨t41,Zy4,⟨#[97,98,99]⟩,[(0,1),(1,3)],b42,rfl,(r41.mono (wi)),e41,aR0,(Zio [(0,1),(1,3)] (by simp)).mono (wj),by decide⟩
  ·exact⟨t62,Zy9,⟨#[97,98,99]⟩,[(0,2),(2,3)],b63,rfl,(r62.mono (wl)),e62,aR1,(Zio [(0,2),(2,3)] (by simp)).mono (wm),by decide⟩
  ·exact⟨t69,Zzc,⟨#[97,97]⟩,[(0,2),(2,2)],b70,rfl,(r69.mono (wn)),e69,aR2,(Zio [(0,2),(2,2)] (by simp)).mono (wo),by decide⟩
  ·exact⟨t80,Zzf,⟨#[97,98]⟩,[(1,2)],b81,rfl,(r80.mono (wp)),e80,aR3,(Zio [(1,2)] (by simp)).mono (wq),by decide⟩
  ·exact⟨t84,Zzh,⟨#[]⟩,[(-1,-1)],b85,rfl,(r84.mono (wt)),e84,aR4,(Zio [(-1,-1)] (by simp)).mono (wu),by decide⟩
  ·exact⟨t88,Zzj,⟨#[]⟩,[(0,0)],b89,rfl,(r88.mono (ww)),e88,aR5,(Zio [(0,0)] (by simp)).mono (wx),by decide⟩
  ·exact⟨t96,Zzn,⟨#[97,98]⟩,[(1,2),(0,1)],b97,rfl,(r96.mono (wy)),e96,aR6,(Zio [(1,2),(0,1)] (by simp)).mono (wz),by decide⟩
 refine⟨λxs _ _ _ q=>∃j:Nat,j<=7/\xs=[.int .i64 (j:Nat)]/\q=7 - j,⟨7,0,by omega,rfl,rfl⟩,?_⟩
 rintro y M1 q dL ⟨j,hj,cU,rfl⟩
 obtain rfl:y=j:=by simpa using cU
 refine Zab (λbF=>?_) (λcR=>?_)
 ·have bI:j < 7:=by have:=of_decide_eq_true bF;omega
  obtain⟨x,X,bs,W,wb,dA,hx,hX,fJ,nJ,vE⟩:=bG j bI
  refine⟨⟨by omega,by omega⟩,Zaa (by rw[Nat.ble_eq,Int.toNat_natCast];omega) λb9=>?_⟩
  rw[dA]
  have bW:ByteArray.size (Zcs (.string bs))=(ZbV bs).length:=by rw[ZlX];rfl
  have cV:ZaG (Zcs (.string bs))=(ZbV bs).map λc:Nat=>Value.int .u8 c:=ZjP bs
  refine Zaa rfl (Zaa rfl (Zau rfl (Zaa rfl λb8 c8 xX B0=>?_)))
  rw[cV,bW]
  have gH:Byt (M1.add b8 ((ZbV bs).map λc:Nat=>Value.int .u8 c)) (some ⟨b8,0,none⟩) (ZbV bs):=Zqx _ (λc hc=>Zpf hc)
  refine⟨_,trivial,Zpg x X _ (ZbV bs) _ _ hX (hx.mono (mLt dL (Mem.le_add xX _))) gH,(λv _ _ ⟨_,_,h,_⟩=>by rw[h];rfl),?_⟩
  rintro a n c z M2 dR ⟨a',c',hv,hp⟩
  rw[fJ]at hv hp
  simp only[Value.tuple.injEq,Array.mk.injEq,List.cons.injEq,Value.int.injEq,Value.slice.injEq,true_and,and_true]at hv
  obtain⟨⟨rfl,rfl,rfl⟩,rfl⟩:=hv
  refine⟨false,ZkQ rfl (Zau rfl ⟨_,trivial,Zk3 W W a (some ⟨wb,0,none⟩) c W.length M2 (Znj hp) (Znj (nJ.mono (mLt dL (mLt (Mem.le_add xX _) dR)))) (by omega),(λv _ _ h=>by unfold Ret at h;rw[h];rfl),?_⟩),ZkQ rfl ⟨rfl,_,?_,j+1,by omega,by rw[wr1 (by omega)],rfl⟩⟩
  ·rintro b7 M3 kB AH
   obtain rfl:b7=true:=by simpa[Ret]using AH
   exact⟨rfl,rfl⟩
  ·omega
 ·clear bG cR
  refine⟨_,trivial,Za8 t25 Zu3 _ (r25.mono (mLt gJ dL)) e25,ZaB (E:=ZxA),Zgk λt154 m154 gS r154 e154=>?_⟩
  refine⟨_,trivial,ZfX t154 ZxA (0) (-1) (by omega) (by omega) _ r154 e154,ZaB (E:=ZxB),Zgk λt155 m155 gT r155 e155=>?_⟩
  intro b156 f157
  refine⟨_,trivial,Zpg t155 ZxB _ [98] _ _ e155 (r155.mono (Mem.le_add f157 _)) (Zqx [98] (by decide)),(λv _ _ ⟨_,_,h,_⟩=>by rw[h];rfl),?_⟩
  rintro a158 n158 c158 z158 m158 gU ⟨a158',c158',nB,tC⟩
  rw[Zzo]at nB tC
  simp only[Value.tuple.injEq,Array.mk.injEq,List.cons.injEq,Value.int.injEq,Value.slice.injEq,true_and,and_true]at nB
  obtain⟨⟨rfl,rfl,rfl⟩,rfl⟩:=nB
  intro b159 f160
  refine⟨_,trivial,Zdy _ _ [t25,t2] [Zu3,aE2] _ (Zcm (l:=[t25,t2]) f160 (by simp only[List.mem_cons,List.not_mem_nil,or_false];rintro x (rfl|rfl);exact(r25.mono (mLt gJ (mLt dL (mLt gS (mLt gT (mLt (Mem.le_add f157 _) gU))))));exact(r2.mono (mLt h3 (mLt jT (mLt fV (mLt gJ (mLt dL (mLt gS (mLt gT (mLt (Mem.le_add f157 _) gU)))))))))) (by simp)) (by simp only[List.map_cons,List.map_nil,e25,e2] <;> rfl),ZaB (E:=ZxC),Zgk λt161 m161 jG r161 e161=>?_⟩
  intro b162 f163
  refine⟨_,trivial,ZsW t161 ZxC _ [97,97,98] _ 0 _ e161 (r161.mono (Mem.le_add f163 _)) (Zqx [97,97,98] (by decide)),(λv _ _ ⟨_,_,h,_⟩=>by rw[h];rfl),?_⟩
  rintro a164 n164 c164 z164 m164 jH ⟨a164',c164',nC,pZ⟩
  rw[Zzp]at nC pZ
  simp only[Value.tuple.injEq,Array.mk.injEq,List.cons.injEq,Value.int.injEq,Value.slice.injEq,true_and,and_true]at nC
  obtain⟨⟨rfl,rfl,rfl⟩,rfl⟩:=nC
  refine⟨ZzQ,?_⟩
  intro b165 f166
  refine⟨_,rfl,ZfW _ _ [t1,t1] [aE1,aE1] _ (Zcm (l:=[t1,t1]) f166 (by simp only[List.mem_cons,List.not_mem_nil,or_false];rintro x (rfl|rfl);exact(r1.mono (mLt h2 (mLt h3 (mLt jT (mLt fV (mLt gJ (mLt dL (mLt gS (mLt gT (mLt (Mem.le_add f157 _) (mLt gU (mLt (Mem.le_add f160 _) (mLt jG (mLt (Mem.le_add f163 _) jH))))))))))))));exact(r1.mono (mLt h2 (mLt h3 (mLt jT (mLt fV (mLt gJ (mLt dL (mLt gS (mLt gT (mLt (Mem.le_add f157 _) (mLt gU (mLt (Mem.le_add f160 _) (mLt jG (mLt (Mem.le_add f163 _) jH))))))))))))))) (by simp)) (by simp only[List.map_cons,List.map_nil,e1] <;> rfl),ZaB (E:=Zw0),Zgk λt167 m167 wA r167 e167=>?_⟩
  intro b168 f169
  refine⟨_,rfl,Zdy _ _ [t167,t1] [Zw0,aE1] _ (Zcm (l:=[t167,t1]) f169 (by simp only[List.mem_cons,List.not_mem_nil,or_false];rintro x (rfl|rfl);exact r167;exact(r1.mono (mLt h2 (mLt h3 (mLt jT (mLt fV (mLt gJ (mLt dL (mLt gS (mLt gT (mLt (Mem.le_add f157 _) (mLt gU (mLt (Mem.le_add f160 _) (mLt jG (mLt (Mem.le_add f163 _) (mLt jH (mLt (Mem.le_add f166 _) wA))))))))))))))))) (by simp)) (by simp only[List.map_cons,List.map_nil,e167,e1] <;> rfl),ZaB (E:=Zw1),Zgk λt170 m170 AI r170 e170=>?_⟩
  refine⟨_,rfl,ZfX t170 Zw1 (0) (-1) (by omega) (by omega) _ r170 e170,ZaB (E:=Zpy),Zgk λt171 m171 AJ r171 e171=>?_⟩
  intro b172 f173
  intro m174 AK wB wC
  refine⟨_,rfl,Zqy t171 Zpy _ [97,97,97] _ _ e171 (r171.mono (wB)) ((Zqx [97,97,97] (by decide)).mono (wC)),(λv _ _ h=>by have h:v=.tuple #[.int .i64 ((Zna Zpy [97,97,97]).1:Nat),.int .i64 (Zna Zpy [97,97,97]).2]:=h;rw[h];rfl),?_⟩
  rintro z178 y178 m178 AL jI
  have jI:Value.tuple #[.int .i64 z178,.int .i64 y178]=.tuple #[.int .i64 ((Zna Zpy [97,97,97]).1:Nat),.int .i64 (Zna Zpy [97,97,97]).2]:=jI
  rw[Zzq]at jI
  simp only[Value.tuple.injEq,Array.mk.injEq,List.cons.injEq,Value.int.injEq,true_and,and_true]at jI
  obtain⟨rfl,rfl⟩:=jI
  intro m179 lF AM AN AO AP AQ AR AS
  refine⟨ZzR,?_⟩
  intro b188 f189
  refine⟨_,rfl,Zdy _ _ [t1,t9] [aE1,aE9] _ (Zcm (l:=[t1,t9]) f189 (by simp only[List.mem_cons,List.not_mem_nil,or_false];rintro x (rfl|rfl);exact(r1.mono (mLt h2 (mLt h3 (mLt jT (mLt fV (mLt gJ (mLt dL (mLt gS (mLt gT (mLt (Mem.le_add f157 _) (mLt gU (mLt (Mem.le_add f160 _) (mLt jG (mLt (Mem.le_add f163 _) (mLt jH lF)))))))))))))));exact(r9.mono (mLt wa (mLt fV (mLt gJ (mLt dL (mLt gS (mLt gT (mLt (Mem.le_add f157 _) (mLt gU (mLt (Mem.le_add f160 _) (mLt jG (mLt (Mem.le_add f163 _) (mLt jH lF)))))))))))))) (by simp)) (by simp only[List.map_cons,List.map_nil,e1,e9] <;> rfl),ZaB (E:=Zw2),Zgk λt190 m190 AT r190 e190=>?_⟩
  refine⟨_,rfl,Za8 t190 Zw2 _ r190 e190,ZaB (E:=Zw3),Zgk λt191 m191 AU r191 e191=>?_⟩
  intro b192 f193
  intro m194 AV wD wE
  refine⟨_,rfl,Zdy _ _ [t3,t16] [aE3,Zxz] _ ((Zcm (l:=[t3,t16]) f193 (by simp only[List.mem_cons,List.not_mem_nil,or_false];rintro x (rfl|rfl);exact(r3.mono (mLt jT (mLt fV (mLt gJ (mLt dL (mLt gS (mLt gT (mLt (Mem.le_add f157 _) (mLt gU (mLt (Mem.le_add f160 _) (mLt jG (mLt (Mem.le_add f163 _) (mLt jH lF)))))))))))));exact(r16.mono (mLt wc (mLt fV (mLt gJ (mLt dL (mLt gS (mLt gT (mLt (Mem.le_add f157 _) (mLt gU (mLt (Mem.le_add f160 _) (mLt jG (mLt (Mem.le_add f163 _) (mLt jH lF)))))))))))))) (by simp)).mono (wE)) (by simp only[List.map_cons,List.map_nil,e3,e16] <;> rfl),ZaB (E:=Zw4),Zgk λt198 m198 wF r198 e198=>?_⟩
  refine⟨_,rfl,Za8 t198 Zw4 _ r198 e198,ZaB (E:=Zw5),Zgk λt199 m199 wG r199 e199=>?_⟩
  intro b200 f201
  refine⟨_,rfl,ZfW _ _ [t191,t199] [Zw3,Zw5] _ (Zcm (l:=[t191,t199]) f201 (by simp only[List.mem_cons,List.not_mem_nil,or_false];rintro x (rfl|rfl);exact(r191.mono (mLt wD (mLt wF wG)));exact r199) (by simp)) (by simp only[List.map_cons,List.map_nil,e191,e199] <;> rfl),ZaB (E:=Zvs),Zgk λt202 m202 AW r202 e202=>?_⟩
  intro b203 f204
  intro m205 AX wH wI
  refine⟨_,rfl,ZmN t202 Zvs _ [97,98,99] _ _ e202 (r202.mono (wH)) ((Zqx [97,98,99] (by decide)).mono (wI)) (by decide),(λv _ _ ⟨_,_,h,_⟩=>by rw[h];rfl),?_⟩
  rintro a209 n209 c209 z209 m209 AY ⟨a209',c209',nD,p6⟩
  rw[Zzr]at nD p6
  simp only[Value.tuple.injEq,Array.mk.injEq,List.cons.injEq,Value.int.injEq,Value.slice.injEq,true_and,and_true]at nD
  obtain⟨⟨rfl,rfl,rfl⟩,rfl⟩:=nD
  intro m210 nE AZ A0 A1 A3 A4 A5 A6 A7 A8 wJ
  refine Zvy rfl (Zvy rfl λbx fx=>?_)
  refine⟨_,trivial,Zqz [2,1,0] [2,1,0] _ _ _ _ _ (pZ.mono (mLt (mLt lF nE) (Mem.le_add fx _))) (.inr ⟨bx,0,rfl,λj v hj=>by rw[Nat.zero_add,Mem.add_same];exact hj⟩) (by decide),(λv _ _ h=>by unfold Ret at h;rw[h];rfl),?_⟩
  rintro q1 N1 xY gW
  obtain rfl:q1=true:=by simpa[Ret]using gW
  refine Zvy rfl (Zvy rfl λby_ fy=>?_)
  refine⟨_,trivial,ZmO [[97,98,99],[97],[98,99]] _ _ _ _ _ (p6.mono (mLt (mLt (wJ) (mLt (Mem.le_add fx _) xY)) (Mem.le_add fy _))) (.inr ⟨by_,0,rfl,λj v hj=>by rw[Nat.zero_add,Mem.add_same];exact hj⟩) (by decide),(λv _ _ h=>by unfold Ret at h;rw[h];rfl),?_⟩
  rintro q2 N2 A9 jW
  obtain rfl:q2=true:=by simpa[Ret]using jW
  refine Zvy rfl ⟨_,trivial,Zo7 _,(λv _ _ h=>by rw[h];rfl),?_⟩
  rintro y1 y2 N3 wK hy
  obtain⟨rfl,rfl⟩:y1=-1/\y2=-1:=by simpa using hy
  exact⟨_,Zpe _ _ _ _,N3,mLt (mLt h1 (mLt h2 (mLt h3 (mLt jT (mLt fV (mLt gJ (mLt dL (mLt gS (mLt gT (mLt (Mem.le_add f157 _) (mLt gU (mLt (Mem.le_add f160 _) (mLt jG (mLt (Mem.le_add f163 _) (mLt jH (mLt lF nE)))))))))))))))) (mLt (mLt (Mem.le_add fx _) xY) (mLt (mLt (Mem.le_add fy _) A9) wK)),Mem.le_refl _,rfl⟩
end Go.Proofs.Ytgclajkldphoaaa
set_option linter.unusedVariables false
namespace Go.Proofs.Ytgclajkldphoaaa
open Go Go.Eng Go.Proofs Go.RowKit
open Go.Value (int slice agg bool string tuple func)
open Go.IntKind (u8 u64 i64)
set_option maxRecDepth 100000
noncomputable def ZsX:Env:={ EB with
 joins:=(λi=>bif Nat.beq i 1 then some [(2,.bool)]else none)
 frzNew:=[1] }
def Zl1(aG aD aI aJ aK aE aH:Int)(aB:Option Addr)(aA aC:Nat)(m:Mem)(R:RT):Prop:=
 ∀(b:Nat)(m':Mem),Mem.le m m'->Mem.reads m' b 0 [int u8 aG,int u64 aD,int u64 aI,int u64 aJ,int u64 aK,int i64 aE,int i64 aH,slice aB aA aC]->∃(b_1:Bool),(∃(R:RT),True/\CX
 Try.prog 86 (Array.mk [agg (Array.mk [int u8 aG,int u64 aD,int u64 aI,int u64 aJ,int u64 aK,int i64 aE,int i64 aH,slice aB aA aC]),agg (Array.mk [int u8 0,int u64 0,int u64 0,int u64 0,
 int u64 0,int i64 0,int i64 0,slice none 0 0])]) m' [] R/\Zaz Shape.bool R/\∀(b_2:Bool)(m'_1:Mem),Mem.le m' m'_1->R (bool b_2) m'_1 []->br b_2 ([some (Box.mk b [int u8 aG,int u64 aD,int u64 aI,
 int u64 aJ,int u64 aK,int i64 aE,int i64 aH,slice aB aA aC] 29 8 true true)]=[some (Box.mk b [int u8 aG,int u64 aD,int u64 aI,int u64 aJ,int u64 aK,int i64 aE,int i64 aH,slice
 aB aA aC] 29 8 true true)]/\[bool true]=[bool b_1]) (∃(R:RT),True/\CX Try.prog 48 (Array.mk [agg (Array.mk [int u8 aG,int u64 aD,int u64 aI,int u64 aJ,int u64 aK,int i64 aE,int i64
 aH,slice aB aA aC])]) m'_1 [] R/\Zaz Shape.bool R/\∀(b_3:Bool)(m':Mem),Mem.le m'_1 m'->R (bool b_3) m' []->[some (Box.mk b [int u8 aG,int u64 aD,int u64 aI,int u64 aJ,int u64 aK,
 int i64 aE,int i64 aH,slice aB aA aC] 29 8 true true)]=[some (Box.mk b [int u8 aG,int u64 aD,int u64 aI,int u64 aJ,int u64 aK,int i64 aE,int i64 aH,slice aB aA aC] 29 8
 true true)]/\[bool b_3]=[bool b_1]))/\∃(m'':Mem),Mem.le m m''/\Mem.le m'' m'/\R (bool b_1) m'' []
theorem ZqB(aG aD aI aJ aK aE aH:Int)(aB:Option Addr)(aA aC:Nat)(m:Mem)(R:RT)(h:Zl1 aG aD aI aJ aK aE aH aB aA aC m R):CX Try.prog 60 #[.agg #[.int .u8 aG,.int .u64 aD,.int .u64 aI,.int .u64 aJ,.int .u64 aK,.int .i64 aE,.int .i64 aH,.slice aB aA aC]] m [] R:=
 Zaj (E:=ZsX) ZaA mix Try.func60 [.v (.agg #[.int .u8 aG,.int .u64 aD,.int .u64 aI,.int .u64 aJ,.int .u64 aK,.int .i64 aE,.int .i64 aH,.slice aB aA aC])] [] (by kernel_rfl) (Eq.mp (by kernel_rfl) h)
noncomputable def ZmP:Env:={ EB with
 frzNew:=[1] }
def Zhm(aG aD aI aJ aK aE aH:Int)(aB:Option Addr)(aA aC:Nat)(m:Mem)(R:RT):Prop:=
 ∀(b:Nat)(m':Mem),Mem.le m m'->Mem.reads m' b 0 [int u8 aG,int u64 aD,int u64 aI,int u64 aJ,int u64 aK,int i64 aE,int i64 aH,slice aB aA aC]->∀(b:Nat),∃(R_1:RT),True/\CX
 Try.prog 48 (Array.mk [agg (Array.mk [int u8 aG,int u64 aD,int u64 aI,int u64 aJ,int u64 aK,int i64 aE,int i64 aH,slice aB aA aC])]) m' [] R_1/\Zaz Shape.bool R_1/\∀(b:Bool) (m'_1:
 Mem),Mem.le m' m'_1->R_1 (bool b) m'_1 []->br (!b) (∃(m'':Mem),Mem.le m m''/\Mem.le m'' m'_1/\R (agg (Array.mk [int u8 0,int u64 0,int u64 0,int u64 0,int u64 0,int i64 0,int i64 0,slice none 0 0])) m''
 []) (∃(R_2:RT),True/\CX Try.prog 62 (Array.mk [agg (Array.mk [int u8 aG,int u64 aD,int u64 aI,int u64 aJ,int u64 aK,int i64 aE,int i64 aH,slice aB aA aC])]) m'_1 [] R_2/\Zaz (shT)
 R_2/\∀(n n_1 n_2 n_3 n_4 n_5 n_6:Int)(a:Option Addr)(n_7 c:Nat)(m':Mem),Mem.le m'_1 m'->R_2 (agg (Array.mk [int u8 n,int u64 n_1,int u64 n_2,int u64 n_3,int u64 n_4,int i64 n_5,int i64 n_6,slice a
 n_7 c])) m' []->∃(m'':Mem),Mem.le m m''/\Mem.le m'' m'/\R (agg (Array.mk [int u8 n,int u64 n_1,int u64 n_2,int u64 n_3,int u64 n_4,int i64 n_5,int i64 n_6,slice a n_7 c])) m'' [])
theorem Zk5(aG aD aI aJ aK aE aH:Int)(aB:Option Addr)(aA aC:Nat)(m:Mem)(R:RT)(h:Zhm aG aD aI aJ aK aE aH aB aA aC m R):CX Try.prog 47 #[.agg #[.int .u8 aG,.int .u64 aD,.int .u64 aI,.int .u64 aJ,.int .u64 aK,.int .i64 aE,.int .i64 aH,.slice aB aA aC]] m [] R:=
 Zaj (E:=ZmP) ZaA mix Try.func47 [.v (.agg #[.int .u8 aG,.int .u64 aD,.int .u64 aI,.int .u64 aJ,.int .u64 aK,.int .i64 aE,.int .i64 aH,.slice aB aA aC])] [] (by kernel_rfl) (Eq.mp (by kernel_rfl) h)
noncomputable def ZqC:Env:={ EB with
 joins:=(λi=>bif Nat.beq i 1 then some [(7,.bool),(8,.bool)]else bif Nat.beq i 2 then some [(21,.bool)]else bif Nat.beq i 4 then some [(40,.bool)]else bif Nat.beq i 6 then some [(49,.bool)]else none)
 frzNew:=[3] }
def ZjR(aG aD aI aJ aK aE aH:Int)(aB:Option Addr)(aA aC:Nat)(p1 p2:Int)(m:Mem)(R:RT):Prop:=
 ∀(b:Nat)(m':Mem),Mem.le m m'->Mem.reads m' b 0 [int u8 aG,int u64 aD,int u64 aI,int u64 aJ,int u64 aK,int i64 aE,int i64 aH,slice aB aA aC]->∀(aa:Nat),∃(ad:Bool),∃(ae:
 Bool),br (p1 == (0:Int)) (br (p1 == (1:Int)) ([some (Box.mk aa [int u8 0,int u64 0,int u64 0,int u64 0,int u64 0,int i64 0,int i64 0,slice none 0 0] 29 8 false true),some (Box.mk b [int u8 aG,int u64
 aD,int u64 aI,int u64 aJ,int u64 aK,int i64 aE,int i64 aH,slice aB aA aC] 29 8 true true)]=[some (Box.mk aa [int u8 0,int u64 0,int u64 0,int u64 0,int u64 0,int i64 0,int i64 0,slice
 none 0 0] 29 8 false true),some (Box.mk b [int u8 aG,int u64 aD,int u64 aI,int u64 aJ,int u64 aK,int i64 aE,int i64 aH,slice aB aA aC] 29 8 true true)]/\[bool (p2 == (0:Int)),bool (p2
 == (1:Int))]=[bool ad,bool ae]) ([some (Box.mk aa [int u8 0,int u64 0,int u64 0,int u64 0,int u64 0,int i64 0,int i64 0,slice none 0 0] 29 8 false true),some (Box.mk b [int u8 aG,int u64 aD,int u64
 aI,int u64 aJ,int u64 aK,int i64 aE,int i64 aH,slice aB aA aC] 29 8 true true)]=[some (Box.mk aa [int u8 0,int u64 0,int u64 0,int u64 0,int u64 0,int i64 0,int i64 0,slice none 0 0] 29
 8 false true),some (Box.mk b [int u8 aG,int u64 aD,int u64 aI,int u64 aJ,int u64 aK,int i64 aE,int i64 aH,slice aB aA aC] 29 8 true true)]/\[bool (p2 == (0:Int)),bool false]=[bool
 ad,bool ae])) (br (p1 == (1:Int)) ([some (Box.mk aa [int u8 0,int u64 0,int u64 0,int u64 0,int u64 0,int i64 0,int i64 0,slice none 0 0] 29 8 false true),some (Box.mk b [int u8 aG,int u64 aD,int u64
 aI,int u64 aJ,int u64 aK,int i64 aE,int i64 aH,slice aB aA aC] 29 8 true true)]=[some (Box.mk aa [int u8 0,int u64 0,int u64 0,int u64 0,int u64 0,int i64 0,int i64 0,slice none 0 0] 29
 8 false true),some (Box.mk b [int u8 aG,int u64 aD,int u64 aI,int u64 aJ,int u64 aK,int i64 aE,int i64 aH,slice aB aA aC] 29 8 true true)]/\[bool false,bool (p2 == (1:Int))]=[bool
 ad,bool ae]) ([some (Box.mk aa [int u8 0,int u64 0,int u64 0,int u64 0,int u64 0,int i64 0,int i64 0,slice none 0 0] 29 8 false true),some (Box.mk b [int u8 aG,int u64 aD,int u64 aI,int u64 aJ,int
 u64 aK,int i64 aE,int i64 aH,slice aB aA aC] 29 8 true true)]=[some (Box.mk aa [int u8 0,int u64 0,int u64 0,int u64 0,int u64 0,int i64 0,int i64 0,slice none 0 0] 29 8 false true),some
 (Box.mk b [int u8 aG,int u64 aD,int u64 aI,int u64 aJ,int u64 aK,int i64 aE,int i64 aH,slice aB aA aC] 29 8 true true)]/\[bool false,bool false]=[bool ad,bool ae]))/\∃(ag:Bool),(∃
 (R:RT),True/\CX Try.prog 60 (Array.mk [agg (Array.mk [int u8 aG,int u64 aD,int u64 aI,int u64 aJ,int u64 aK,int i64 aE,int i64 aH,slice aB aA aC])]) m' [] R/\Zaz Shape.bool R/\∀(af
 : Bool) (ab:Mem),Mem.le m' ab->R (bool af) ab []->br (!af) ([some (Box.mk aa [int u8 0,int u64 0,int u64 0,int u64 0,int u64 0,int i64 0,int i64 0,slice none 0 0] 29 8 false true),some (Box.mk b [int u8
 aG,int u64 aD,int u64 aI,int u64 aJ,int u64 aK,int i64 aE,int i64 aH,slice aB aA aC] 29 8 true true)]=[some (Box.mk aa [int u8 0,int u64 0,int u64 0,int u64 0,int u64 0,int i64 0,
 int i64 0,slice none 0 0] 29 8 false true),some (Box.mk b [int u8 aG,int u64 aD,int u64 aI,int u64 aJ,int u64 aK,int i64 aE,int i64 aH,slice aB aA aC] 29 8 true true)]/\[bool true] =
 [bool ag]) (br (!ad) (br (!ae) (∃(R:RT),True/\CX Try.prog 61 (Array.mk [int i64 p1,int i64 p2]) ab [] R/\Zaz Shape.bool R/\∀(ac:Bool)(m':Mem),Mem.le ab m'->R (bool ac) m' []->[some (Box.mk aa [int u8
 0,int u64 0,int u64 0,int u64 0,int u64 0,int i64 0,int i64 0,slice none 0 0] 29 8 false true),some (Box.mk b [int u8 aG,int u64 aD,int u64 aI,int u64 aJ,int u64 aK,int i64 aE,int i64 aH,
 slice aB aA aC] 29 8 true true)]=[some (Box.mk aa [int u8 0,int u64 0,int u64 0,int u64 0,int u64 0,int i64 0,int i64 0,slice none 0 0] 29 8 false true),some (Box.mk b [int u8 aG,int u64 aD,int
 u64 aI,int u64 aJ,int u64 aK,int i64 aE,int i64 aH,slice aB aA aC] 29 8 true true)]/\[bool !ac]=[bool ag]) ([some (Box.mk aa [int u8 0,int u64 0,int u64 0,int u64 0,int u64 0,int i64 0,
 int i64 0,slice none 0 0] 29 8 false true),some (Box.mk b [int u8 aG,int u64 aD,int u64 aI,int u64 aJ,int u64 aK,int i64 aE,int i64 aH,slice aB aA aC] 29 8 true true)]=[some (Box.mk aa
 [int u8 0,int u64 0,int u64 0,int u64 0,int u64 0,int i64 0,int i64 0,slice none 0 0] 29 8 false true),some (Box.mk b [int u8 aG,int u64 aD,int u64 aI,int u64 aJ,int u64 aK,int i64 aE,int i64
 aH,slice aB aA aC] 29 8 true true)]/\[bool false]=[bool ag])) ([some (Box.mk aa [int u8 0,int u64 0,int u64 0,int u64 0,int u64 0,int i64 0,int i64 0,slice none 0 0] 29 8 false true),some (Box.mk
 b [int u8 aG,int u64 aD,int u64 aI,int u64 aJ,int u64 aK,int i64 aE,int i64 aH,slice aB aA aC] 29 8 true true)]=[some (Box.mk aa [int u8 0,int u64 0,int u64 0,int u64 0,int u64 0,int
 i64 0,int i64 0,slice none 0 0] 29 8 false true),some (Box.mk b [int u8 aG,int u64 aD,int u64 aI,int u64 aJ,int u64 aK,int i64 aE,int i64 aH,slice aB aA aC] 29 8 true true)]/\[bool
 false]=[bool ag])))/\br ag (∃(m'':Mem),Mem.le m m''/\Mem.le m'' m'/\R (agg (Array.mk [int u8 0,int u64 0,int u64 0,int u64 0,int u64 0,int i64 0,int i64 0,slice none 0 0])) m'' []) (∃(af:Bool),br
 (aG == (0:Int)) ([some (Box.mk aa [int u8 0,int u64 0,int u64 0,int u64 0,int u64 0,int i64 0,int i64 0,slice none 0 0] 29 8 false true),some (Box.mk b [int u8 aG,int u64 aD,int u64 aI,int u64 aJ,
 int u64 aK,int i64 aE,int i64 aH,slice aB aA aC] 29 8 true true)]=[some (Box.mk aa [int u8 0,int u64 0,int u64 0,int u64 0,int u64 0,int i64 0,int i64 0,slice none 0 0] 29 8 false true),some
 (Box.mk b [int u8 aG,int u64 aD,int u64 aI,int u64 aJ,int u64 aK,int i64 aE,int i64 aH,slice aB aA aC] 29 8 true true)]/\[bool (decide (p1 > (0:Int)))]=[bool af]) ([some (Box.mk aa
 [int u8 0,int u64 0,int u64 0,int u64 0,int u64 0,int i64 0,int i64 0,slice none 0 0] 29 8 false true),some (Box.mk b [int u8 aG,int u64 aD,int u64 aI,int u64 aJ,int u64 aK,int i64 aE,int i64
 aH,slice aB aA aC] 29 8 true true)]=[some (Box.mk aa [int u8 0,int u64 0,int u64 0,int u64 0,int u64 0,int i64 0,int i64 0,slice none 0 0] 29 8 false true),some (Box.mk b [int u8 aG,int u64
 aD,int u64 aI,int u64 aJ,int u64 aK,int i64 aE,int i64 aH,slice aB aA aC] 29 8 true true)]/\[bool false]=[bool af])/\br af (∃(m'':Mem),Mem.le m m''/\Mem.le m'' m'/\R (agg (Array.mk
 [int u8 0,int u64 0,int u64 0,int u64 0,int u64 0,int i64 0,int i64 0,slice none 0 0])) m'' []) (∃(ac:Bool),br ad ([some (Box.mk aa [int u8 0,int u64 0,int u64 0,int u64 0,int u64 0,int i64 0,int i64 0,
 slice none 0 0] 29 8 false true),some (Box.mk b [int u8 aG,int u64 aD,int u64 aI,int u64 aJ,int u64 aK,int i64 aE,int i64 aH,slice aB aA aC] 29 8 true true)]=[some (Box.mk aa [int u8 0,
 int u64 0,int u64 0,int u64 0,int u64 0,int i64 0,int i64 0,slice none 0 0] 29 8 false true),some (Box.mk b [int u8 aG,int u64 aD,int u64 aI,int u64 aJ,int u64 aK,int i64 aE,int i64 aH,slice
 aB aA aC] 29 8 true true)]/\[bool true]=[bool ac]) (br (aG == (0:Int)) ([some (Box.mk aa [int u8 0,int u64 0,int u64 0,int u64 0,int u64 0,int i64 0,int i64 0,slice none 0 0] 29 8 false true),
 some (Box.mk b [int u8 aG,int u64 aD,int u64 aI,int u64 aJ,int u64 aK,int i64 aE,int i64 aH,slice aB aA aC] 29 8 true true)]=[some (Box.mk aa [int u8 0,int u64 0,int u64 0,int u64 0,
 int u64 0,int i64 0,int i64 0,slice none 0 0] 29 8 false true),some (Box.mk b [int u8 aG,int u64 aD,int u64 aI,int u64 aJ,int u64 aK,int i64 aE,int i64 aH,slice aB aA aC] 29 8 true
 true)]/\[bool true]=[bool ac]) ([some (Box.mk aa [int u8 0,int u64 0,int u64 0,int u64 0,int u64 0,int i64 0,int i64 0,slice none 0 0] 29 8 false true),some (Box.mk b [int u8 aG,int u64 aD,int u64 aI,
 int u64 aJ,int u64 aK,int i64 aE,int i64 aH,slice aB aA aC] 29 8 true true)]=[some (Box.mk aa [int u8 0,int u64 0,int u64 0,int u64 0,int u64 0,int i64 0,int i64 0,slice none 0 0] 29 8
 false true),some (Box.mk b [int u8 aG,int u64 aD,int u64 aI,int u64 aJ,int u64 aK,int i64 aE,int i64 aH,slice aB aA aC] 29 8 true true)]/\[bool (aG == (1:Int))]=[bool ac]))/\br ac
 (∃(m'':Mem),Mem.le m m''/\Mem.le m'' m'/\R (agg (Array.mk [int u8 1,int u64 0,int u64 0,int u64 0,int u64 0,int i64 0,int i64 0,slice none 0 0])) m'' []) (br ae (∃(R_1:RT),True/\CX Try.prog 62
 (Array.mk [agg (Array.mk [int u8 aG,int u64 aD,int u64 aI,int u64 aJ,int u64 aK,int i64 aE,int i64 aH,slice aB aA aC])]) m' [] R_1/\Zaz (shT) R_1/\∀(n ah ai aj ak al am:Int) (a:
 Option Addr) (an c:Nat) (ab:Mem),Mem.le m' ab->R_1 (agg (Array.mk [int u8 n,int u64 ah,int u64 ai,int u64 aj,int u64 ak,int i64 al,int i64 am,slice a an c])) ab []->∃(m'':Mem),Mem.le m m''/\Mem.le m''
 ab/\R (agg (Array.mk [int u8 n,int u64 ah,int u64 ai,int u64 aj,int u64 ak,int i64 al,int i64 am,slice a an c])) m'' []) (∀(b:Nat),Mem.free m' b->∃(R_1:RT),True/\CX Try.prog 47 (Array.mk [agg (Array.mk
 [int u8 5,int u64 0,int u64 0,int u64 0,int u64 0,int i64 p1,int i64 p2,slice (some (Addr.mk b 0 none)) 1 1])]) (Mem.add m' b [int u8 aG,int u64 aD,int u64 aI,int u64 aJ,int u64 aK,int i64 aE,
 int i64 aH,slice aB aA aC]) [] R_1/\Zaz (shT) R_1/\∀(n ah ai aj ak al am:Int)(a:Option Addr)(an c:Nat)(ab:Mem),Mem.le (Mem.add m' b [int u8 aG,int u64 aD,int u64 aI,int u64 aJ,int
 u64 aK,int i64 aE,int i64 aH,slice aB aA aC]) ab->R_1 (agg (Array.mk [int u8 n,int u64 ah,int u64 ai,int u64 aj,int u64 ak,int i64 al,int i64 am,slice a an c])) ab []->∃(m'':Mem),Mem.le m
 m''/\Mem.le m'' ab/\R (agg (Array.mk [int u8 n,int u64 ah,int u64 ai,int u64 aj,int u64 ak,int i64 al,int i64 am,slice a an c])) m'' []))))
theorem Zph(aG aD aI aJ aK aE aH:Int)(aB:Option Addr)(aA aC:Nat)(p1 p2:Int)(m:Mem)(R:RT)(h:ZjR aG aD aI aJ aK aE aH aB aA aC p1 p2 m R):CX Try.prog 28 #[.agg #[.int .u8 aG,.int .u64 aD,.int .u64 aI,.int .u64 aJ,.int .u64 aK,.int .i64 aE,.int .i64 aH,.slice aB aA aC],.int .i64 p1,.int .i64 p2] m [] R:=
 Zaj (E:=ZqC) ZaA mix Try.func28 [.v (.agg #[.int .u8 aG,.int .u64 aD,.int .u64 aI,.int .u64 aJ,.int .u64 aK,.int .i64 aE,.int .i64 aH,.slice aB aA aC]),.v (.int .i64 p1),.v (.int .i64 p2)] [] (by kernel_rfl) (Eq.mp (by kernel_rfl) h)
noncomputable def ZmQ:Env:={ EB with
 frzNew:=[1] }
def Zhn(aG aD aI aJ aK aE aH:Int)(aB:Option Addr)(aA aC:Nat)(m:Mem)(R:RT):Prop:=
 ∀(b:Nat)(m':Mem),Mem.le m m'->Mem.reads m' b 0 [int u8 aG,int u64 aD,int u64 aI,int u64 aJ,int u64 aK,int i64 aE,int i64 aH,slice aB aA aC]->∀(b b:Nat),Mem.free m' b->∃(R_1:
 RT),True/\CX Try.prog 47 (Array.mk [agg (Array.mk [int u8 6,int u64 0,int u64 0,int u64 0,int u64 0,int i64 0,int i64 0,slice (some (Addr.mk b 0 none)) 1 1])]) (Mem.add m' b [int u8 aG,int u64 aD,int u64
 aI,int u64 aJ,int u64 aK,int i64 aE,int i64 aH,slice aB aA aC]) [] R_1/\Zaz (shT) R_1/\∀(n n_1 n_2 n_3 n_4 n_5 n_6:Int)(a:Option Addr)(n_7 c:Nat)(m'_1:Mem),Mem.le (Mem.add m' b
 [int u8 aG,int u64 aD,int u64 aI,int u64 aJ,int u64 aK,int i64 aE,int i64 aH,slice aB aA aC]) m'_1->R_1 (agg (Array.mk [int u8 n,int u64 n_1,int u64 n_2,int u64 n_3,int u64 n_4,int
 i64 n_5,int i64 n_6,slice a n_7 c])) m'_1 []->∃(m'':Mem),Mem.le m m''/\Mem.le m'' m'_1/\R (agg (Array.mk [int u8 n,int u64 n_1,int u64 n_2,int u64 n_3,int u64 n_4,int i64 n_5,int i64 n_6,slice a n_7 c]))
 m'' []
theorem Zk6(aG aD aI aJ aK aE aH:Int)(aB:Option Addr)(aA aC:Nat)(m:Mem)(R:RT)(h:Zhn aG aD aI aJ aK aE aH aB aA aC m R):CX Try.prog 18 #[.agg #[.int .u8 aG,.int .u64 aD,.int .u64 aI,.int .u64 aJ,.int .u64 aK,.int .i64 aE,.int .i64 aH,.slice aB aA aC]] m [] R:=
 Zaj (E:=ZmQ) ZaA mix Try.func18 [.v (.agg #[.int .u8 aG,.int .u64 aD,.int .u64 aI,.int .u64 aJ,.int .u64 aK,.int .i64 aE,.int .i64 aH,.slice aB aA aC])] [] (by kernel_rfl) (Eq.mp (by kernel_rfl) h)
end Go.Proofs.Ytgclajkldphoaaa
set_option linter.unusedVariables false
namespace Go.Proofs.Ytgclajkldphoaaa
open Go Go.Eng Go.Proofs Go.RowKit
open Go.Value (int slice agg bool string tuple func)
open Go.IntKind (u8 u64 i64)
set_option maxRecDepth 100000
noncomputable def Zpi:Env:={ EB with
 loops:=(λi=>bif Nat.beq i 3 then⟨[(12,.int .i64)],[],[],false⟩ else⟨[],[],[],false⟩)
 dr:=(λi=>bif Nat.beq i 5 then[⟨0,[1],[],none,[],[]⟩,⟨1,[1],[],none,[0],[]⟩,⟨2,[],[],none,[],[]⟩,⟨3,[4],[],none,[],[]⟩,⟨4,[],[],none,[3],[]⟩,⟨5,[],[],none,[0,1,2,3,4],[]⟩]else[])
 thaw:=true
 stAt:=(λi=>bif Nat.beq i 22 then some 7 else none)
 last:=(λi=>bif Nat.beq i 5 then true else false)
 tokC:=(λi=>bif Nat.beq i 7 then some (7,8)else none) }
def Zip(aG aD aI aJ aK aE aH:Int)(aB:Option Addr)(aA aC:Nat)(m:Mem)(R:RT):Prop:=
 ∀(b ak:Nat),∃(R_1:RT),CXT Try.prog 25 (Array.mk [slice aB aA aC]) m 8 R_1/\Zaz Shape.slice R_1/\∀(a:Option Addr)(n c:Nat)(m':Mem),Mem.le m m'->R_1 (slice a n c) m' []->∃(I:IT),(∃(n:
 Nat),I [int i64 0] [] [] m' n)/\∀(aa:Int)(m':Mem)(al:Nat),True->I [int i64 aa] [] [] m' al->br (decide (aa < (↑n:Int))) (∃(am:Nat),∃(o:Nat),a=some (Addr.mk am o none)/\Zag aa n/\∃(v:
 Value),∃(ab:Value),∃(ac:Value),∃(ad:Value),∃(ae:Value),∃(af:Value),∃(ag:Value),∃(ah:Value),Mem.reads m' am (o+Int.toNat aa*8) [v,ab,ac,ad,ae,af,ag,ah]/\∀(az:Nat),chk
 (Value.oneCell' v&&(Value.oneCell' ab&&(Value.oneCell' ac&&(Value.oneCell' ad&&(Value.oneCell' ae&&(Value.oneCell' af&&(Value.oneCell' ag&&(Value.oneCell' ah&&true)))))))) (∃(f:Fx),∃(R:RT),R=f
 4 [agg (Array.mk [v,ab,ac,ad,ae,af,ag,ah])] m'/\CX Try.prog 62 (Array.mk [agg (Array.mk [v,ab,ac,ad,ae,af,ag,ah])]) m' [] R/\Zaz (shT) R/\∀(an ao ap aq ar au av:Int)(aw:Option Addr)(ax ay:Nat)
 (ai:Mem),Mem.le m' ai->R (agg (Array.mk [int u8 an,int u64 ao,int u64 ap,int u64 aq,int u64 ar,int i64 au,int i64 av,slice aw ax ay])) ai []->∃(aj:Nat),∃(o:Nat),a=some (Addr.mk aj o none)/\Zag
 aa n/\∀(M:Mem),Mem.le m' M->Mem.le ai M->slice a n c=slice (some (Addr.mk aj 0 none)) n c/\o+Int.toNat aa*8+8<=n*8/\[some (Box.mk ak [int u8 0,int u64 0,int u64 0,int u64 0,int u64 0,int i64 0,
 int i64 0,slice none 0 0] 29 8 false true),some (Box.mk b [int u8 aG,int u64 aD,int u64 aI,int u64 aJ,int u64 aK,int i64 aE,int i64 aH,slice a n c] 29 8 false true)]=[some (Box.mk ak [int u8 0,
 int u64 0,int u64 0,int u64 0,int u64 0,int i64 0,int i64 0,slice none 0 0] 29 8 false true),some (Box.mk b [int u8 aG,int u64 aD,int u64 aI,int u64 aJ,int u64 aK,int i64 aE,int i64 aH,slice
 a n c] 29 8 false true)]/\[some (Tok.mk (slice a n c) 8)]=[some (Tok.mk (slice a n c) 8)]/\∃(n':Nat),n' < al/\I [int i64 (IntKind.wrap i64 (aa+(1:Int)))] [] [] (Mem.upd M aj (o+Int.toNat aa*8) [int u8
 an,int u64 ao,int u64 ap,int u64 aq,int u64 ar,int i64 au,int i64 av,slice aw ax ay]) n')) (∃(m'':Mem),Mem.le m m''/\Mem.le m'' m'/\R (agg (Array.mk [int u8 aG,int u64 aD,int u64 aI,int u64 aJ,
 int u64 aK,int i64 aE,int i64 aH,slice a n c])) m'' [])
theorem ZmR(aG aD aI aJ aK aE aH:Int)(aB:Option Addr)(aA aC:Nat)(m:Mem)(R:RT)(h:Zip aG aD aI aJ aK aE aH aB aA aC m R):CX Try.prog 62 #[.agg #[.int .u8 aG,.int .u64 aD,.int .u64 aI,.int .u64 aJ,.int .u64 aK,.int .i64 aE,.int .i64 aH,.slice aB aA aC]] m [] R:=
 Zaj (E:=Zpi) ZaA mix Try.func62 [.v (.agg #[.int .u8 aG,.int .u64 aD,.int .u64 aI,.int .u64 aJ,.int .u64 aK,.int .i64 aE,.int .i64 aH,.slice aB aA aC])] [] (by kernel_rfl) (Eq.mp (by kernel_rfl) h)
noncomputable def ZbY:Env:={ EB with
 tokOf:=(λi=>bif Nat.beq i 2 then 7 else bif Nat.beq i 7 then 7 else 0)
 tokC:=(λi=>bif Nat.beq i 5 then some (7,8)else none)
 thaw:=true }
def Za9(p0a:Option Addr)(p0n p0c:Nat)(m:Mem)(R:RT):Prop:=
 br (Option.isNone p0a) (slice none 0 0=slice none 0 0/\R (slice none 0 0) m []) (((0:Int)=(0:Int)/\(0:Int)<=(0:Int)/\(0:Int)*(↑(80:Nat):Int)<=(281474976710656:Int)/\(0:Int) <=
 (9223372036854775807:Int))/\∀(b:Nat),Mem.free m b->(Tok.mk (slice (some (Addr.mk b 0 none)) 0 (Int.toNat (0:Int))) 8=Tok.mk (slice (some (Addr.mk b 0 none)) 0 (Int.toNat (0:Int))) 8\/slice (some (Addr.mk
 b 0 none)) 0 (Int.toNat (0:Int))=slice none 0 0\/Int.toNat (0:Int) < 0+p0n)/\∃(xs:List Value),∃(ys:List Value),List.length xs=0*8/\List.length ys=p0n*8/\rowRd m (some (Addr.mk b 0 none)) xs/\
 rowRd m p0a ys/\(∀(u:Value),u∈ys->Value.oneCell' u=true)/\(0+p0n)*80<=140737488355328/\0+p0n<=9223372036854775807/\∀(a':Option Addr)(c':Nat)(m':Mem),Mem.le m m'->rowRd m' a' (List.append
 xs ys)->TokFact m (some (Addr.mk b 0 none)) a' (0+p0n) c'->some (Tok.mk (slice a' (0+p0n) c') 8)=some (Tok.mk (slice a' (0+p0n) c') 8)/\R (slice a' (0+p0n) c') m' [])
theorem ZbN(p0a:Option Addr)(p0n p0c:Nat)(m:Mem)(R:RT)(h:Za9 p0a p0n p0c m R):CXT Try.prog 25 #[.slice p0a p0n p0c] m 8 R:=
 ZlF (E:=ZbY) ZaA mix Try.func25 [.v (.slice p0a p0n p0c)] (by kernel_rfl) (Eq.mp (by kernel_rfl) h)
end Go.Proofs.Ytgclajkldphoaaa
set_option linter.unusedVariables false
set_option linter.unusedSimpArgs false
set_option linter.unusedSectionVars false
namespace Go.Proofs.Ytgclajkldphoaaa
open Go Go.Eng Go.Rx Go.Proofs Go.RowKit
set_option maxRecDepth 100000
theorem ZzS(l:List T):∀u∈Rx.ZcS l,u.oneCell'=true:=by
 intro u hu
 simp only[Rx.ZcS,List.mem_flatten,List.mem_map]at hu
 obtain⟨_,⟨t,_,rfl⟩,h⟩:=hu
 simp only[T.cs,T.sl,List.mem_cons,List.not_mem_nil,or_false]at h
 rcases h with rfl|rfl|rfl|rfl|rfl|rfl|rfl|rfl <;> rfl
theorem ZmS(a:Option Addr)(c:Nat)(l:List T)(m:Mem)(h:rowRd m a (Rx.ZcS l))(hl:l.length<=1000000000000):CXT Try.prog 25 #[.slice a l.length c] m 8 (λv m' _=>∃a' c',v=.slice a' l.length c'/\rowRd m' a' (Rx.ZcS l)/\l.length<=c'/\(l.length=0\/∃b,a'=some ⟨b,0,none⟩/\m.free b)):=by
 apply ZbN
 unfold Za9
 have bL:=Zar l
 refine Zab (λha=>?_) (λha=>⟨⟨rfl,Int.le_refl _,by decide,by decide⟩,λb hf=>⟨.inl rfl,[],Rx.ZcS l,rfl,bL,.inl rfl,h,ZzS l,by omega,by omega,λa' c' m' hm bG wL=>⟨rfl,?_⟩⟩⟩)
 ·obtain rfl:a=none:=by simpa using ha
  have h0:l=[]:=by
   rcases h with h|⟨_,_,h,_⟩
   ·rw[h]at bL;exact List.eq_nil_of_length_eq_zero (by simp at bL;omega)
   ·cases h
  subst h0
  exact⟨rfl,none,0,rfl,.inl rfl,Nat.le_refl _,.inl rfl⟩
 ·simp only[Nat.zero_add]at wL ⊢
  refine⟨a',c',rfl,bG,wL.1,?_⟩
  rcases(wL.old (λ_ _ e=>by cases e;rfl)).2 with h1|⟨b',h1,h2|h2⟩
  ·subst h1
   left
   rcases bG with h3|⟨_,_,h3,_⟩
   ·have h4:(Rx.ZcS l).length=0:=congrArg List.length h3
    omega
   ·cases h3
  ·right;rw[<-h2];exact⟨b,rfl,hf⟩
  ·exact .inr ⟨b',h1,h2⟩
theorem Zu4{m:Mem}{b:Nat}{ts r:List T}{x t:T}(h:rowRd m (some ⟨b,0,none⟩) (Rx.ZcS (ts++x::r))):rowRd (m.upd b (0+ts.length*8) t.cs) (some ⟨b,0,none⟩) (Rx.ZcS (ts++t::r)):=by
 rcases h with h|⟨b',o',ha,h⟩
 ·have hl:(Rx.ZcS (ts++x::r)).length=0:=by rw[h];rfl
  rw[Zar,List.length_append,List.length_cons]at hl
  omega
 cases ha
 have e:∀y:T,Rx.ZcS (ts++y::r)=Rx.ZcS ts++(y.cs++Rx.ZcS r):=λy=>by simp[Rx.ZcS]
 have h8:∀y:T,y.cs.length=8:=λ_=>rfl
 refine .inr ⟨b,0,rfl,λj v hj=>?_⟩
 rw[e]at hj
 unfold Mem.upd;try dsimp only
 rw[Nat.zero_add,Nat.zero_add,h8]
 rcases Nat.lt_or_ge j (ts.length*8)with bF|cR
 ·rw[if_neg (by omega)]
  rw[List.getElem?_append_left (by rw[Zar];exact bF)]at hj
  have:=h j v (by rw[e,List.getElem?_append_left (by rw[Zar];exact bF)];exact hj)
  rwa [Nat.zero_add]at this
 ·rw[List.getElem?_append_right (by rw[Zar];exact cR),Zar]at hj
  rcases Nat.lt_or_ge j (ts.length*8+8)with bF|vU
  ·rw[if_pos ⟨rfl,cR,bF⟩]
   rw[List.getElem?_append_left (by rw[h8];omega)]at hj
   exact hj
  ·rw[if_neg (by omega)]
   rw[List.getElem?_append_right (by rw[h8];omega),h8]at hj
   have:=h j v (by
    rw[e,List.getElem?_append_right (by rw[Zar];exact cR),Zar,List.getElem?_append_right (by rw[h8];omega),h8];exact hj)
   rwa [Nat.zero_add]at this
theorem Zu5{m m':Mem}(h:m.le m'){b:Nat}(hf:m'.free b):m.free b:=λo=>by
 cases he:m b o with
 | none=>rfl
 | some v=>have:=h _ _ _ he;rw[hf o]at this;cases this
def NewT(m:Mem)(t:T):Prop:=∀x∈t.nodes,x.subs=[]\/∃b,x.a=some ⟨b,0,none⟩/\m.free b
theorem NewT.less{m m':Mem}{t:T}(hn:NewT m' t)(h:m.le m'):NewT m t:=λx hx=>(hn x hx).imp id λ⟨b,e,hf⟩=>⟨b,e,Zu5 h hf⟩
theorem ZsY{m:Mem}{k s0 s1 s2 s3 mn mx:Int}{a:Option Addr}{c:Nat}{l:List T}(h:l=[]\/∃b,a=some ⟨b,0,none⟩/\m.free b)(hl:∀x∈l,NewT m x):NewT m (.node k s0 s1 s2 s3 mn mx a c l):=by
 intro x hx
 simp only[T.nodes,List.mem_cons]at hx
 rcases hx with rfl|hx
 ·exact h
 ·have:∀l:List T,(∀x∈l,NewT m x)->∀x∈Zak l,x.subs=[]\/∃b,x.a=some ⟨b,0,none⟩/\m.free b:=by
   intro l
   induction l with
   | nil=>intro _ x hx;simp[Zak]at hx
   | cons y l ih=>
    intro h x hx
    simp only[Zak,List.mem_append]at hx
    rcases hx with hx|hx
    ·exact h y (by simp) x hx
    ·exact ih (λz hz=>h z (by simp[hz])) x hx
  exact this l hl x hx
theorem Znk{m:Mem}{t:T}(h:t.subs=[]):NewT m t:=by
 intro x hx
 rw[Zbc,h]at hx
 simp[Zak]at hx
 subst hx;exact .inl h
set_option maxHeartbeats 800000 in
theorem ZiR(t:T)(m:Mem)(hr:Rep m t)(hz:t.nodes.length<=10000):CX Try.prog 62 #[t.v] m [] (Zhx λt'=>t'.er=t.er/\(t'.caps/\NewT m t')):=by
 have bW:szL t.subs<=10000:=by rw[ZsB]at hz;omega
 have iB:t.subs.length<=10000:=Nat.le_trans (Zq9 _) bW
 apply ZmR
 unfold Zip
 intro b b1
 refine⟨_,ZmS t.a t.c t.subs m (Zg5 hr.subs) (by omega),(λv _ _ ⟨a,c,e,_⟩=>by rw[e];rfl),?_⟩
 rintro a n c m1 bH ⟨a',c',hv,bG,hH,bQ⟩
 simp only[Value.slice.injEq]at hv
 obtain⟨rfl,rfl,rfl⟩:=hv
 have cK:∀x∈t.subs,Rep m x:=Zoh hr.subs
 refine⟨λxs css tvs m' q=>∃(k:Nat)(L:List T)(mb:Mem),k<=t.subs.length/\xs=[.int .i64 k]/\q=t.subs.length - k/\L.length=k/\L.map T.er=(t.subs.take k).map T.er/\m.le mb/\mb.le m'/\(t.subs.length=0\/∃b,a=some ⟨b,0,none⟩/\mb.free b)/\(∀x∈L,Rep mb x/\(x.caps/\NewT m x))/\(t.subs.length=0\/∃b,a=some ⟨b,0,none⟩/\m.free b)/\rowRd m' a (Rx.ZcS (L++t.subs.drop k)),⟨_,0,[],m,by omega,rfl,rfl,rfl,rfl,Mem.le_refl _,bH,bQ,by simp,bQ,bG⟩,?_⟩
 rintro z m2 q _ ⟨k,L,mb,hk,cU,hq,un,wM,iO,rm,eD,pW,bZ,jJ⟩
 obtain rfl:z=k:=by simpa using cU
 refine Zab (λbF=>?_) (λcR=>?_)
 ·have bI:k < t.subs.length:=by have:=of_decide_eq_true bF;omega
  obtain⟨x,hx⟩:=Zfl bI
  have fF:=cK x (List.mem_of_getElem? hx)
  have qR:x.nodes.length<=10000:=by
   obtain⟨h1,h2⟩:=List.getElem?_eq_some_iff.1 hx
   have:=congrArg List.length (Zd6 hx)
   unfold szL at bW
   simp only[List.length_append]at this
   omega
  have kO:t.subs.drop k=x::t.subs.drop (k+1):=by
   rw[List.drop_eq_getElem_cons bI,(List.getElem?_eq_some_iff.1 hx).2]
  rcases eD with eD|⟨bk,rfl,dB⟩
  ·omega
  obtain⟨b0,o0,Ba,cS⟩:=Zfm jJ (i:=k) (t:=x) (by rw[List.getElem?_append_right (by omega),un,Nat.sub_self,kO];rfl)
  cases Ba
  have hw:IntKind.i64.wrap ((k:Int)+1)=((k+1:Nat):Int):=by rw[ZaK (by omega) (by omega)];rfl
  simp only[hw,Int.toNat_natCast]
  have iU:CX Try.prog 62 #[x.v] m2 [] (Zpv mb m2 λt'=>t'.er=x.er/\(t'.caps/\NewT mb t')):=(ZiR x mb (Rep.mono iO x fF) qR).frame2 rm
  refine⟨bk,0,rfl,⟨by omega,by omega⟩,_,_,_,_,_,_,_,_,cS,λb3=>Zaa rfl ⟨λ_ _ _=>Zpv mb m2 λt'=>t'.er=x.er/\(t'.caps/\NewT mb t'),Zpv mb m2 λt'=>t'.er=x.er/\(t'.caps/\NewT mb t'),rfl,iU,ZdW,ZjN λt' m0 m3 bX h0 nR eF hr' ht'=>⟨bk,0,rfl,⟨by omega,by omega⟩,λM dR kB=>⟨rfl,by omega,by trivial,by trivial,t.subs.length - (k+1),by omega,k+1,L++[t'],m0,by omega,rfl,rfl,by simp[un],?_,mLt iO h0,?_,.inr ⟨bk,rfl,?_⟩,?_,bZ,?_⟩⟩⟩⟩
  ·rw[List.map_append,wM,Zce hx,List.map_append]
   simp[ht'.1]
  ·refine Mem.le_upd (mLt nR kB) ?_ _ _
   intro o'
   have hc:m2 bk (0+k*8+0)=some (.int .u8 x.k):=cS 0 _ rfl
   rw[eF _ _ _ hc o'];exact dB o'
  ·intro o'
   have hc:m2 bk (0+k*8+0)=some (.int .u8 x.k):=cS 0 _ rfl
   rw[eF _ _ _ hc o'];exact dB o'
  ·intro y hy
   rcases List.mem_append.1 hy with hy|hy
   ·exact⟨Rep.mono h0 y (pW y hy).1,(pW y hy).2⟩
   ·simp at hy;subst hy;exact⟨hr',ht'.2.1,ht'.2.2.less iO⟩
  ·rw[kO]at jJ
   have h5:=Zu4 (t:=t') (jJ.mono dR)
   rw[un]at h5
   rw[List.append_assoc]
   exact h5
 ·have dP:k=t.subs.length:=by have:=of_decide_eq_false cR;omega
  subst dP
  rw[List.drop_length,List.append_nil]at jJ
  rw[List.take_length]at wM
  have bY:=Zul hr
  refine⟨m2,mLt iO rm,Mem.le_refl _,.node t.k t.s0 t.s1 t.s2 t.s3 t.mn t.mx a c L,?_,?_,?_⟩
  ·simp only[T.v,T.k,T.s0,T.s1,T.s2,T.s3,T.mn,T.mx,T.a,T.c,T.subs,un]
  ·have:=Zq7 jJ (λx hx=>Rep.mono rm x (pW x hx).1) (by omega)
   exact ZxL this.1 this.2 bY
  ·have:=Zwu (k:=t.k) (s0:=t.s0) (s1:=t.s1) (s2:=t.s2) (s3:=t.s3) (mn:=t.mn) (mx:=t.mx) (a:=a) (a':=t.a) (c:=c) (c':=t.c) wM
   refine⟨this.trans ?_,Zou (by omega) λx hx=>(pW x hx).2.1,ZsY (bZ.imp (λh=>List.eq_nil_of_length_eq_zero (by omega)) id) λx hx=>(pW x hx).2.2⟩
   cases t;rfl
termination_by SizeOf.sizeOf t
decreasing_by exact Zn8 (List.mem_of_getElem? hx)
end Go.Proofs.Ytgclajkldphoaaa
set_option linter.unusedVariables false
set_option linter.unusedSimpArgs false
set_option linter.unusedSectionVars false
namespace Go.Proofs.Ytgclajkldphoaaa
open Go Go.Eng Go.Rx Go.Proofs Go.RowKit
set_option maxRecDepth 100000
theorem Zqa(m:Mem):Rep m T0:=Zbg (k:=0) (mn:=0) (mx:=0) (a:=none) (c:=0) (l:=[]) ⟨by simp,.inl rfl⟩ (by omega) (by omega) (by omega)
theorem Zsy(m:Mem):Rep m T1:=Zbg (k:=1) (mn:=0) (mx:=0) (a:=none) (c:=0) (l:=[]) ⟨by simp,.inl rfl⟩ (by omega) (by omega) (by omega)
theorem Zw6(t:T)(m:Mem)(hr:Rep m t)(hc:t.clean=true):CX Try.prog 60 #[t.v] m [] (Ret (.bool true)):=by
 apply ZqB
 unfold Zl1
 intro b m1 bH _
 refine⟨true,Zaq (Zrx t T0 m1 (hr.mono bH) (Zqa _)) λm2 bO=>Zab (λ_=>⟨by trivial,rfl⟩) (λ_=>?_),Zah bH rfl⟩
 have h:=Znf t m2 (hr.mono (mLt bH bO))
 rw[hc]at h
 exact Zaq h λm3 bX=>⟨by trivial,rfl⟩
theorem ZjS(t:T)(m:Mem)(hr:Rep m t):CX Try.prog 47 #[t.v] m [] (Zhx λt'=>Zxc t t'/\NewT m t'):=by
 apply Zk5
 unfold Zhm
 intro b m1 bH _ b1
 refine Zaq (Znf t m1 (hr.mono bH)) λm2 bO=>Zab (λh=>?_) (λh=>?_)
 ·exact⟨m2,mLt bH bO,Mem.le_refl _,T0,rfl,Zqa _,⟨.inr ⟨by simpa using h,rfl⟩,Zwv⟩,Znk rfl⟩
 ·have hc:t.clean=true:=by simpa using h
  refine ZaZ (ZiR t m2 (hr.mono (mLt bH bO)) (ZjD hc)) ZbT (Zgx λt' m3 bX hr' ht'=>?_)
  exact⟨m3,mLt bH (mLt bO bX),Mem.le_refl _,t',rfl,hr',⟨.inl ⟨hc,ht'.1⟩,ht'.2.1⟩,ht'.2.2.less (mLt bH bO)⟩
theorem Zpj(t:T)(m:Mem)(hr:Rep m t):CX Try.prog 18 #[t.v] m [] (Zhx λt'=>(∃a c,Zxc (Zap 6 0 0 a c [t]) t')/\NewT m t'):=by
 apply Zk6
 unfold Zhn
 intro b m1 bH _ b1 b2 mP
 have cE:=mLt bH (Mem.le_add mP t.cs)
 have hL:RepL (m1.add b2 t.cs) (some ⟨b2,0,none⟩) [t]:=Zg4 (λj v hj=>by rw[Nat.zero_add,Mem.add_same];exact hj) (hr.mono cE)
 have kV:Rep (m1.add b2 t.cs) (Zap 6 0 0 (some ⟨b2,0,none⟩) 1 [t]):=Zbg hL (by omega) (by omega) (by omega)
 refine ZaZ (ZjS (Zap 6 0 0 (some ⟨b2,0,none⟩) 1 [t]) (m1.add b2 t.cs) kV) ZbT (Zgx λt' m2 bO hr' ht'=>?_)
 exact⟨m2,mLt cE bO,Mem.le_refl _,t',rfl,hr',⟨_,_,ht'.1⟩,ht'.2.less cE⟩
theorem Zl2(t:T)(m:Mem)(hr:Rep m t):CX Try.prog 18 #[t.v] m [] (Zhx λt'=>∃a c,Zxc (Zap 6 0 0 a c [t]) t'):=
 (Zpj t m hr).mono λ_ _ _ _ ⟨t',e,hr',h⟩=>⟨t',e,hr',h.1⟩
set_option maxHeartbeats 1600000 in
theorem ZsZ(t:T)(lo hi:Int)(m:Mem)(hr:Rep m t)(hc:t.clean=true):CX Try.prog 28 #[t.v,.int .i64 lo,.int .i64 hi] m [] (Zhx λt'=>Zxu t lo hi t'/\NewT m t'):=by
 apply Zph
 unfold ZjR
 intro b m1 bH _ b1
 have hk:=Zww hc
 have hk':(t.k == 0)=false:=by simpa using hk
 have xZ:=ZoP lo hi
 generalize hB:Zfg lo hi=B at xZ
 have hz:∃z,(lo == 0&&hi == 0)=z:=⟨_,rfl⟩
 have ho:∃o,(lo == 1&&hi == 1)=o:=⟨_,rfl⟩
 obtain⟨z,hz⟩:=hz
 obtain⟨o,ho⟩:=ho
 have Bb:z=true->lo=0/\hi=0:=λh=>by rw[h]at hz;simpa using hz
 have rE:o=true->lo=1/\hi=1:=λh=>by rw[h]at ho;simpa using ho
 refine⟨z,o,?_,!z&&(!o&&!B),?_,Zab (λh=>?_) (λh=>⟨false,?_,ZkQ rfl ⟨z||t.k == 1,?_,Zab (λh2=>?_) (λh2=>Zab (λh3=>?_) (λh3 b4 v9=>?_))⟩⟩)⟩
 ·rw[<-hz,<-ho]
  refine Zab (λh=>Zab (λh2=>⟨by trivial,?_⟩) (λh2=>⟨by trivial,?_⟩)) (λh=>Zab (λh2=>⟨by trivial,?_⟩) (λh2=>⟨by trivial,?_⟩)) <;> rw[h,h2] <;> rfl
 ·refine Zaq (Zw6 t m1 (hr.mono bH) hc) λm2 bO=>ZkQ rfl (Zab (λh=>Zab (λh2=>?_) (λh2=>?_)) (λh=>?_))
  ·refine Zaq (xZ m2) λm3 bX=>⟨by trivial,?_⟩
   rw[h,h2];rfl
  ·refine⟨by trivial,?_⟩
   rw[h,h2];rfl
  ·refine⟨by trivial,?_⟩
   rw[h];rfl
 ·exact⟨m1,bH,Mem.le_refl _,T0,rfl,Zqa _,.inl ⟨rfl,by
   cases z <;> cases o <;> cases B <;> simp_all⟩,Znk rfl⟩
 ·exact ZkQ hk' ⟨by trivial,rfl⟩
 ·refine Zab (λh3=>⟨by trivial,?_⟩) (λh3=>ZkQ hk' ⟨by trivial,?_⟩)
  ·rw[h3];rfl
  ·rw[h3];rfl
 ·refine⟨m1,bH,Mem.le_refl _,T1,rfl,Zsy _,.inr (.inl ⟨rfl,?_⟩),Znk rfl⟩
  cases z with
  | true=>exact .inl (Bb rfl)
  | false=>
   right
   refine⟨by simpa using h2,?_⟩
   cases o with
   | true=>exact .inl (rE rfl)
   | false=>right;simpa[hB]using h
 ·refine ZaZ (ZiR t m1 (hr.mono bH) (ZjD hc)) ZbT (Zgx λt' m2 bO hr' ht'=>?_)
  have:=rE (by simpa using h3)
  exact⟨m2,mLt bH bO,Mem.le_refl _,t',rfl,hr',.inr (.inr (.inl ⟨this.1,this.2,ht'.1⟩)),ht'.2.2.less bH⟩
 ·have cE:=mLt bH (Mem.le_add v9 t.cs)
  have hL:RepL (m1.add b4 t.cs) (some ⟨b4,0,none⟩) [t]:=Zg4 (λj v hj=>by rw[Nat.zero_add,Mem.add_same];exact hj) (hr.mono cE)
  have Bc:B=true:=by
   rw[h3]at h
   have:z=false:=by
    cases z with
    | true=>simp at h2
    | false=>rfl
   rw[this]at h
   simpa using h
  have hb:=hB.trans Bc
  have lP:0<=lo/\lo<=16/\-1<=hi/\hi<=16:=by
   unfold Zfg at hb
   simp only[Bool.and_eq_true,Bool.not_eq_true',Bool.or_eq_false_iff,Bool.or_eq_true,decide_eq_false_iff_not,decide_eq_true_eq,beq_iff_eq]at hb
   omega
  have kV:Rep (m1.add b4 t.cs) (Zap 5 lo hi (some ⟨b4,0,none⟩) 1 [t]):=Zbg hL (by omega) (by omega) (by omega)
  refine ZaZ (ZjS (Zap 5 lo hi (some ⟨b4,0,none⟩) 1 [t]) (m1.add b4 t.cs) kV) ZbT (Zgx λt' m2 bO hr' ht'=>?_)
  exact⟨m2,mLt cE bO,Mem.le_refl _,t',rfl,hr',.inr (.inr (.inr ⟨_,_,ht'.1⟩)),ht'.2.less cE⟩
theorem Zu6(t:T)(lo hi:Int)(m:Mem)(hr:Rep m t)(hc:t.clean=true):CX Try.prog 28 #[t.v,.int .i64 lo,.int .i64 hi] m [] (Zhx (Zxu t lo hi)):=
 (ZsZ t lo hi m hr hc).mono λ_ _ _ _ ⟨t',e,hr',h⟩=>⟨t',e,hr',h.1⟩
end Go.Proofs.Ytgclajkldphoaaa
set_option linter.unusedVariables false
set_option linter.unusedSimpArgs false
set_option linter.unusedSectionVars false
namespace Go.Proofs.Ytgclajkldphoaaa
open Go Go.Eng Go.Rx Go.Proofs Go.RowKit
set_option maxRecDepth 100000
theorem ZqD{m:Mem}{a:Option Addr}{s:List Nat}(h:Byt m a s)(n:Nat):Byt m a (s.take n):=by
 refine⟨?_,λc hc=>h.2 c (List.mem_of_mem_take hc)⟩
 rcases h.1 with hs|⟨b,o,h1,h2⟩
 ·subst hs;left;simp
 ·refine .inr ⟨b,o,h1,λj v hj=>?_⟩
  have bF:=(List.getElem?_eq_some_iff.1 hj).1
  simp only[List.length_map,List.length_take]at bF
  rw[List.getElem?_map,List.getElem?_take_of_lt (by omega),<-List.getElem?_map]at hj
  exact h2 j v hj
end Go.Proofs.Ytgclajkldphoaaa
