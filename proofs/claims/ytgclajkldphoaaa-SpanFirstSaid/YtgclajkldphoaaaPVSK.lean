/- Part of the proof: conditions and contracts of functions of this program. No condition of its own. -/
import Derived.Test.YtgclajkldphoaaaPC14K
import Derived.Test.YtgclajkldphoaaaPVSJ
import Derived.Test.YtgclajkldphoaaaPEnv
import Derived.Test.YtgclajkldphoaaaMc
import Derived.Test.YtgclajkldphoaaaPVC
import Derived.Test.YtgclajkldphoaaaMr
import Derived.Test.YtgclajkldphoaaaPVSC
import Derived.Test.YtgclajkldphoaaaPC13S
set_option linter.unusedVariables false
set_option linter.unusedSimpArgs false
set_option linter.unusedSectionVars false
namespace Go.Proofs.Ytgclajkldphoaaa
open Go Go.Eng Go.Rx Go.Proofs Go.RowKit
set_option maxRecDepth 100000
theorem ZcD{m:Mem}{b:Nat}{l:List T}(hf:m.free b)(hr:∀t∈l,Rep m t)(hl:l.length<=1000000000000000):RepL (m.add b (ZcF l)) (some ⟨b,0,none⟩) l:=
 Zmv (.inr ⟨b,0,rfl,λj v hj=>by rw[Nat.zero_add,Mem.add_same];exact hj⟩) (λt ht=>(hr t ht).mono (Mem.le_add hf _)) hl
theorem Zrk{m:Mem}{b:Nat}(s:List Nat)(h:∀c∈s,c < 256):Byt (m.add b (s.map λc:Nat=>Value.int .u8 c)) (some ⟨b,0,none⟩) s:=
 ⟨.inr ⟨b,0,rfl,λj v hj=>by rw[Nat.zero_add,Mem.add_same];exact hj⟩,h⟩
theorem ZpW{s:ByteArray}{c:Nat}(h:c∈Zb7 s):c < 256:=by
 unfold Zb7 at h
 obtain⟨b,_,rfl⟩:=List.mem_map.1 h
 exact b.toNat_lt
theorem ZiZ{m:Mem}{b:Nat}(W:PL)(h:W≠[]):PtAt (m.add b (plV W)) (some ⟨b,0,none⟩) W:=by
 have at2:∀(P:PL)(q:Nat)(p:Int×Int),P[q]?=some p->(plV P)[q*2]?=some (.int .i64 p.1)/\(plV P)[q*2+1]?=some (.int .i64 p.2):=λP=>by
  induction P with
  | nil=>intro q p hq;simp at hq
  | cons p0 P ih=>
   intro q p hq
   cases q with
   | zero=>simp at hq;subst hq;exact⟨rfl,rfl⟩
   | succ q=>
    have:=ih q p (by simpa using hq)
    rw[show(q+1)*2=q*2+2 by omega]
    exact this
 exact .inr ⟨b,rfl,λq p hq=>by rw[Mem.add_same,Mem.add_same];exact at2 W q p hq,h⟩
def ZA6(E:T)(s:List Nat):RT:=Ret (.tuple #[.int .i64 ((ZtE E s).1:Nat),.int .i64 (ZtE E s).2])
theorem ZlQ(t E:T)(sa:Option Addr)(s:List Nat)(sc:Nat)(m:Mem)(he:t.er=E)(hr:Rep m t)(hb:Byt m sa s):CX Try.prog 15 #[t.v,.slice sa s.length sc] m [] (ZA5 E s):=by
 have:=ZsD t sa s sc m hr (λ_=>hb)
 unfold ZA5 at *
 rwa [<-ZgF t,he]at this
theorem Zt4(t E:T)(sa:Option Addr)(s:List Nat)(sc:Nat)(i:Int)(m:Mem)(he:t.er=E)(hr:Rep m t)(hb:Byt m sa s):CX Try.prog 14 #[t.v,.slice sa s.length sc,.int .i64 i] m [] (ZAq E s i):=by
 have:=ZsC t sa s sc i m hr (λ_ _=>hb)
 unfold ZAq at *
 rwa [<-ZxM t,he]at this
theorem Zrl(t E:T)(sa:Option Addr)(s:List Nat)(sc:Nat)(m:Mem)(he:t.er=E)(hr:Rep m t)(hb:Byt m sa s):CX Try.prog 17 #[t.v,.slice sa s.length sc] m [] (ZA6 E s):=by
 have:=Zt3 t sa s sc m hr (λ_ _=>hb)
 unfold ZA6 at *
 rwa [<-ZxN t,he]at this
theorem ZnE(t E:T)(sa:Option Addr)(s:List Nat)(sc:Nat)(m:Mem)(he:t.er=E)(hr:Rep m t)(hb:Byt m sa s)(sO:s.length<=sc):CX Try.prog 16 #[t.v,.slice sa s.length sc] m [] (ZAr E s):=by
 have:=ZpV t sa s sc m hr (λ_=>hb) sO
 unfold ZAr at *
 rwa [<-ZxO t,he]at this
theorem Zrm(x y:List Nat)(ax ay:Option Addr)(cx cy:Nat)(m:Mem)(hx:rowRd m ax (nsL x))(hy:rowRd m ay (nsL y))(bM:x.length<=1000000000000000):CX Try.prog 35 #[.slice ax x.length cx,.slice ay y.length cy] m [] (Ret (.bool (x == y))):=
 Znu x y ax ay cx cy m hx hy bM
theorem ZnF(x:List (List Nat))(ax ay:Option Addr)(cx cy:Nat)(m:Mem)(hx:rowRd m ax (x.map ZwG))(hy:rowRd m ay (x.map ZwG))(bM:x.length<=1000000):CX Try.prog 36 #[.slice ax x.length cx,.slice ay x.length cy] m [] (Ret (.bool true)):=by
 apply Zcq
 unfold Zbr
 refine ZpA (by simp) ⟨λxs _ _ _ q=>∃j:Nat,j<=x.length/\xs=[.int .i64 (j:Nat)]/\q=x.length - j,⟨_,0,by omega,rfl,rfl⟩,?_⟩
 rintro y m1 q bH ⟨j,hj,cJ,rfl⟩
 obtain rfl:y=j:=by simpa using cJ
 refine Zab (λbF=>?_) (λcP=>Zag bH rfl)
 have bI:j < x.length:=by have:=of_decide_eq_true bF;omega
 obtain⟨z,hz⟩:∃z,x[j]?=some z:=⟨_,List.getElem?_eq_getElem bI⟩
 have one:∀a:Option Addr,rowRd m a (x.map ZwG)->∃b o,a=some ⟨b,o,none⟩/\m1 b (o+j)=some (ZwG z):=λa h=>by
  rcases h with h|⟨b,o,h1,h2⟩
  ·have:x=[]:=by simpa using h
   rw[this]at bI;simp at bI
  ·exact⟨b,o,h1,bH.c _ _ _ (h2 j _ (by rw[List.getElem?_map,hz];rfl))⟩
 obtain⟨b1,o1,h1,h2⟩:=one ax hx
 obtain⟨b2,o2,h3,h4⟩:=one ay hy
 rw[wr1 (by omega)]
 refine⟨b1,o1,h1,⟨by omega,by omega⟩,_,by rw[Int.toNat_natCast,Nat.mul_one];exact h2,b2,o2,h3,⟨by omega,by omega⟩,_,by rw[Int.toNat_natCast,Nat.mul_one];exact h4,Zaa rfl (ZpA (by simp) ⟨x.length - (j+1),by omega,j+1,by omega,rfl,rfl⟩)⟩
def aE1:T:=Zei 97
def aE2:T:=Zei 98
def aE3:T:=Zei 99
def aE9:T:=eN 3 0 0 [aE1,aE2]
def ZyU:T:=eN 3 0 0 [aE2,aE3]
def Zwk:T:=eN 5 (0) (-1) [aE1]
def ZAs:T:=eN 4 0 0 [aE1,aE9]
def ZAt:T:=eN 6 0 0 [ZAs]
def ZAu:T:=eN 4 0 0 [aE3,ZyU]
def ZAv:T:=eN 6 0 0 [ZAu]
def ZAw:T:=eN 3 0 0 [ZAt,ZAv]
def ZAx:T:=eN 4 0 0 [aE9,aE1]
def ZAy:T:=eN 6 0 0 [ZAx]
def ZAz:T:=eN 4 0 0 [ZyU,aE3]
def ZAA:T:=eN 6 0 0 [ZAz]
def ZAB:T:=eN 3 0 0 [ZAy,ZAA]
def ZAC:T:=eN 6 0 0 [Zwk]
def ZAD:T:=eN 6 0 0 [Zwk]
def ZAE:T:=eN 3 0 0 [ZAC,ZAD]
def ZAF:T:=eN 4 0 0 [aE1,aE2]
def ZAG:T:=eN 6 0 0 [ZAF]
def ZAH:T:=eN 5 (0) (-1) [ZAG]
def ZAI:T:=eN 6 0 0 [Zwk]
def ZAJ:T:=eN 5 (0) (-1) [ZAI]
def ZAK:T:=eN 6 0 0 [Zwk]
def ZAL:T:=eN 5 (1) (2) [ZAK]
def ZAM:T:=eN 6 0 0 [aE1]
def ZAN:T:=eN 4 0 0 [ZAM,aE2]
def ZAO:T:=eN 6 0 0 [ZAN]
def ZAP:T:=eN 5 (0) (-1) [ZAO]
theorem aR0:Zb1 ZAw [97,98,99]=([(0,1),(1,3)],0):=by decide +kernel
theorem aR1:Zb1 ZAB [97,98,99]=([(0,2),(2,3)],0):=by decide +kernel
theorem aR2:Zb1 ZAE [97,97]=([(0,2),(2,2)],0):=by decide +kernel
theorem aR3:Zb1 ZAH [97,98]=([(1,2)],0):=by decide +kernel
theorem aR4:Zb1 ZAJ []=([(-1,-1)],0):=by decide +kernel
theorem aR5:Zb1 ZAL []=([(0,0)],0):=by decide +kernel
theorem aR6:Zb1 ZAP [97,98]=([(1,2),(0,1)],0):=by decide +kernel
def ZyV:T:=eN 6 0 0 [Zwk]
def ZyW:T:=eN 5 (0) (-1) [ZyV]
def ZyX:T:=eN 4 0 0 [Zwk,aE2]
def Zyj:T:=eN 3 0 0 [aE1,aE1]
def Zyk:T:=eN 4 0 0 [Zyj,aE1]
def Zqg:T:=eN 5 (0) (-1) [Zyk]
def Zyl:T:=eN 4 0 0 [aE1,aE9]
def Zym:T:=eN 6 0 0 [Zyl]
def Zyn:T:=eN 4 0 0 [aE3,ZyU]
def Zyo:T:=eN 6 0 0 [Zyn]
def ZwH:T:=eN 3 0 0 [Zym,Zyo]
def ZBi:Fx:=λi _ _=>match i with
 | 3=>IsE aE9
 | 7=>IsE ZyU
 | _=>IsE (Zei 0)
def ZBj:Fx:=λi _ _=>match i with
 | 3=>IsE ZAs
 | 4=>IsE ZAt
 | 8=>IsE ZAu
 | 9=>IsE ZAv
 | 11=>IsE ZAw
 | 19=>IsE ZAx
 | 20=>IsE ZAy
 | 24=>IsE ZAz
 | 25=>IsE ZAA
 | 27=>IsE ZAB
 | 33=>IsE ZAC
 | 35=>IsE ZAD
 | 37=>IsE ZAE
 | 45=>IsE ZAF
 | 46=>IsE ZAG
 | 47=>IsE ZAH
 | 52=>IsE ZAI
 | 53=>IsE ZAJ
 | 58=>IsE ZAK
 | 59=>IsE ZAL
 | 64=>IsE ZAM
 | 67=>IsE ZAN
 | 68=>IsE ZAO
 | 69=>IsE ZAP
 | _=>IsE (Zei 0)
def ZBk:Fx:=λi _ _=>match i with
 | 3=>IsE Zyj
 | 6=>IsE Zyk
 | 7=>IsE Zqg
 | 10=>ZA6 Zqg [97,97,97]
 | _=>IsE (Zei 0)
def ZBl:Fx:=λi _ _=>match i with
 | 3=>IsE Zyl
 | 4=>IsE Zym
 | 8=>IsE Zyn
 | 9=>IsE Zyo
 | 11=>IsE ZwH
 | 14=>ZAr ZwH [97,98,99]
 | _=>IsE (Zei 0)
theorem ZAQ:Zb1 ZyW [98]=([],141):=by decide +kernel
theorem ZAR:ZuM ZyX [97,97,98] 0=([2,1,0],0):=by decide +kernel
theorem ZAS:ZtE Zqg [97,97,97]=(2,0):=by decide +kernel
theorem ZAT:ZwM ZwH [97,98,99]=([[97,98,99],[97],[98,99]],0):=by decide +kernel
set_option maxHeartbeats 6400000 in
theorem Zrn(m:Mem):CX Try.prog 8 #[] m [] (Ret (.bool true)):=by
 apply ZjU
 unfold ZgR
 refine⟨_,trivial,ZhT 97 (by omega) _,ZaE (E:=aE1),ZgU λt1 m1 h1 r1 e1=>?_⟩
 refine⟨_,trivial,ZhT 98 (by omega) _,ZaE (E:=aE2),ZgU λt2 m2 h2 r2 e2=>?_⟩
 refine⟨_,trivial,ZhT 99 (by omega) _,ZaE (E:=aE3),ZgU λt3 m3 h3 r3 e3=>?_⟩
 intro b4 b5 b6
 refine⟨ZBi,?_⟩
 intro b7 f8
 refine⟨_,rfl,Zgr _ _ [t1,t2] [aE1,aE2] _ (ZcD (l:=[t1,t2]) f8 (by simp only[List.mem_cons,List.not_mem_nil,or_false];rintro x (rfl|rfl);exact(r1.mono (mLt h2 h3));exact(r2.mono (h3))) (by simp)) (by simp only[List.map_cons,List.map_nil,e1,e2] <;> rfl),ZaE (E:=aE9),ZgU λt9 m9 h9 r9 e9=>?_⟩
 intro b10 f11
 intro m12 wU CM AV
 refine⟨_,rfl,Zgr _ _ [t2,t3] [aE2,aE3] _ ((ZcD (l:=[t2,t3]) f11 (by simp only[List.mem_cons,List.not_mem_nil,or_false];rintro x (rfl|rfl);exact(r2.mono (h3));exact r3) (by simp)).mono (AV)) (by simp only[List.map_cons,List.map_nil,e2,e3] <;> rfl),ZaE (E:=ZyU),ZgU λt16 m16 tM r16 e16=>?_⟩
 intro b17 b18 m19 kN CN xd sN xe
 refine⟨_,trivial,Zgs t1 aE1 (0) (-1) (by omega) (by omega) _ (r1.mono (mLt h2 (mLt h3 kN))) e1,ZaE (E:=Zwk),ZgU λt25 m25 hU r25 e25=>?_⟩
 intro b26
 refine⟨ZBj,?_⟩
 intro b27 f28
 refine⟨_,rfl,ZdW _ _ [t1,t9] [aE1,aE9] _ (ZcD (l:=[t1,t9]) f28 (by simp only[List.mem_cons,List.not_mem_nil,or_false];rintro x (rfl|rfl);exact(r1.mono (mLt h2 (mLt h3 (mLt kN hU))));exact(r9.mono (mLt xd hU))) (by simp)) (by simp only[List.map_cons,List.map_nil,e1,e9] <;> rfl),ZaE (E:=ZAs),ZgU λt29 m29 CO r29 e29=>?_⟩
 refine⟨_,rfl,Zbg t29 ZAs _ r29 e29,ZaE (E:=ZAt),ZgU λt30 m30 CP r30 e30=>?_⟩
 intro b31 f32
 intro m33 CQ AW AX
 refine⟨_,rfl,ZdW _ _ [t3,t16] [aE3,ZyU] _ ((ZcD (l:=[t3,t16]) f32 (by simp only[List.mem_cons,List.not_mem_nil,or_false];rintro x (rfl|rfl);exact(r3.mono (mLt kN hU));exact(r16.mono (mLt xe hU))) (by simp)).mono (AX)) (by simp only[List.map_cons,List.map_nil,e3,e16] <;> rfl),ZaE (E:=ZAu),ZgU λt37 m37 uu r37 e37=>?_⟩
 refine⟨_,rfl,Zbg t37 ZAu _ r37 e37,ZaE (E:=ZAv),ZgU λt38 m38 AY r38 e38=>?_⟩
 intro b39 f40
 refine⟨_,rfl,Zgr _ _ [t30,t38] [ZAt,ZAv] _ (ZcD (l:=[t30,t38]) f40 (by simp only[List.mem_cons,List.not_mem_nil,or_false];rintro x (rfl|rfl);exact(r30.mono (mLt AW (mLt uu AY)));exact r38) (by simp)) (by simp only[List.map_cons,List.map_nil,e30,e38] <;> rfl),ZaE (E:=ZAw),ZgU λt41 m41 CR r41 e41=>?_⟩
 intro b42 f43
 intro b44 f45
 intro m46 CS uv AZ
 refine⟨_,rfl,ZdW _ _ [t9,t1] [aE9,aE1] _ ((ZcD (l:=[t9,t1]) f45 (by simp only[List.mem_cons,List.not_mem_nil,or_false];rintro x (rfl|rfl);exact(r9.mono (mLt xd hU));exact(r1.mono (mLt h2 (mLt h3 (mLt kN hU))))) (by simp)).mono (AZ)) (by simp only[List.map_cons,List.map_nil,e9,e1] <;> rfl),ZaE (E:=ZAx),ZgU λt50 m50 CT r50 e50=>?_⟩
 refine⟨_,rfl,Zbg t50 ZAx _ r50 e50,ZaE (E:=ZAy),ZgU λt51 m51 CU r51 e51=>?_⟩
 intro b52 f53
 intro m54 za A0 A5
 refine⟨_,rfl,ZdW _ _ [t16,t3] [ZyU,aE3] _ ((ZcD (l:=[t16,t3]) f53 (by simp only[List.mem_cons,List.not_mem_nil,or_false];rintro x (rfl|rfl);exact(r16.mono (mLt xe hU));exact(r3.mono (mLt kN hU))) (by simp)).mono (A5)) (by simp only[List.map_cons,List.map_nil,e16,e3] <;> rfl),ZaE (E:=ZAz),ZgU λt58 m58 xf r58 e58=>?_⟩
 refine⟨_,rfl,Zbg t58 ZAz _ r58 e58,ZaE (E:=ZAA),ZgU λt59 m59 xg r59 e59=>?_⟩
 intro b60 f61
 refine⟨_,rfl,Zgr _ _ [t51,t59] [ZAy,ZAA] _ (ZcD (l:=[t51,t59]) f61 (by simp only[List.mem_cons,List.not_mem_nil,or_false];rintro x (rfl|rfl);exact(r51.mono (mLt A0 (mLt xf xg)));exact r59) (by simp)) (by simp only[List.map_cons,List.map_nil,e51,e59] <;> rfl),ZaE (E:=ZAB),ZgU λt62 m62 zb r62 e62=>?_⟩
 intro b63 f64
 refine⟨_,rfl,Zbg t25 Zwk _ (r25.mono (mLt za (mLt xf (mLt xg (mLt (Mem.le_add f61 _) zb))))) e25,ZaE (E:=ZAC),ZgU λt65 m65 A6 r65 e65=>?_⟩
 refine⟨_,rfl,Zbg t25 Zwk _ (r25.mono (mLt za (mLt xf (mLt xg (mLt (Mem.le_add f61 _) (mLt zb A6)))))) e25,ZaE (E:=ZAD),ZgU λt66 m66 A7 r66 e66=>?_⟩
 intro b67 f68
 refine⟨_,rfl,Zgr _ _ [t65,t66] [ZAC,ZAD] _ (ZcD (l:=[t65,t66]) f68 (by simp only[List.mem_cons,List.not_mem_nil,or_false];rintro x (rfl|rfl);exact(r65.mono (A7));exact r66) (by simp)) (by simp only[List.map_cons,List.map_nil,e65,e66] <;> rfl),ZaE (E:=ZAE),ZgU λt69 m69 CV r69 e69=>?_⟩
 intro b70 f71
 intro b72 f73
 intro m74 vj CW A8
 refine⟨_,rfl,ZdW _ _ [t1,t2] [aE1,aE2] _ ((ZcD (l:=[t1,t2]) f73 (by simp only[List.mem_cons,List.not_mem_nil,or_false];rintro x (rfl|rfl);exact(r1.mono (mLt h2 (mLt h3 (mLt kN hU))));exact(r2.mono (mLt h3 (mLt kN hU)))) (by simp)).mono (A8)) (by simp only[List.map_cons,List.map_nil,e1,e2] <;> rfl),ZaE (E:=ZAF),ZgU λt78 m78 vn r78 e78=>?_⟩
 refine⟨_,rfl,Zbg t78 ZAF _ r78 e78,ZaE (E:=ZAG),ZgU λt79 m79 vo r79 e79=>?_⟩
 refine⟨_,rfl,Zgs t79 ZAG (0) (-1) (by omega) (by omega) _ r79 e79,ZaE (E:=ZAH),ZgU λt80 m80 vp r80 e80=>?_⟩
 intro b81 f82
 refine⟨_,rfl,Zbg t25 Zwk _ (r25.mono (mLt vj (mLt vn (mLt vo vp)))) e25,ZaE (E:=ZAI),ZgU λt83 m83 xh r83 e83=>?_⟩
 refine⟨_,rfl,Zgs t83 ZAI (0) (-1) (by omega) (by omega) _ r83 e83,ZaE (E:=ZAJ),ZgU λt84 m84 xi r84 e84=>?_⟩
 intro b85 f86
 refine⟨_,rfl,Zbg t25 Zwk _ (r25.mono (mLt vj (mLt vn (mLt vo (mLt vp (mLt xh xi)))))) e25,ZaE (E:=ZAK),ZgU λt87 m87 zd r87 e87=>?_⟩
 refine⟨_,rfl,Zgs t87 ZAK (1) (2) (by omega) (by omega) _ r87 e87,ZaE (E:=ZAL),ZgU λt88 m88 ze r88 e88=>?_⟩
 intro b89 f90
 refine⟨_,rfl,Zbg t1 aE1 _ (r1.mono (mLt h2 (mLt h3 (mLt kN (mLt hU (mLt vj (mLt vn (mLt vo (mLt vp (mLt xh (mLt xi (mLt zd ze)))))))))))) e1,ZaE (E:=ZAM),ZgU λt91 m91 A9 r91 e91=>?_⟩
 intro b92 f93
 refine⟨_,rfl,ZdW _ _ [t91,t2] [ZAM,aE2] _ (ZcD (l:=[t91,t2]) f93 (by simp only[List.mem_cons,List.not_mem_nil,or_false];rintro x (rfl|rfl);exact r91;exact(r2.mono (mLt h3 (mLt kN (mLt hU (mLt vj (mLt vn (mLt vo (mLt vp (mLt xh (mLt xi (mLt zd (mLt ze A9))))))))))))) (by simp)) (by simp only[List.map_cons,List.map_nil,e91,e2] <;> rfl),ZaE (E:=ZAN),ZgU λt94 m94 CZ r94 e94=>?_⟩
 refine⟨_,rfl,Zbg t94 ZAN _ r94 e94,ZaE (E:=ZAO),ZgU λt95 m95 C0 r95 e95=>?_⟩
 refine⟨_,rfl,Zgs t95 ZAO (0) (-1) (by omega) (by omega) _ r95 e95,ZaE (E:=ZAP),ZgU λt96 m96 C1 r96 e96=>?_⟩
 intro b97 f98
 intro m99 Ba Bb Bc Bd Be Bf Bg Bh Bi
 intro b109 f110
 intro m111 gP Bj Bk Bl Bm Bn Bo Bp xj xk Bq Br Bs Bt Bu Bv Bw xl xm Bx By Bz xn xo BA BB BC xp xq BD xr xt BE xu xv BF BG BH BI xw xx BJ
 have bG:∀j:Nat,j < 7->∃(x X:T)(bs:ByteArray)(W:PL)(wb:Nat),List.take 10 (List.drop (Int.toNat (j:Int)*10) (Za1 t41.k t41.s0 t41.s1 t41.s2 t41.s3 t41.mn t41.mx t41.a t41.subs.length t41.c b42 t62.k t62.s0 t62.s1 t62.s2 t62.s3 t62.mn t62.mx t62.a t62.subs.length t62.c b63 t69.k t69.s0 t69.s1 t69.s2 t69.s3 t69.mn t69.mx t69.a t69.subs.length t69.c b70 t80.k t80.s0 t80.s1 t80.s2 t80.s3 t80.mn t80.mx t80.a t80.subs.length t80.c b81 t84.k t84.s0 t84.s1 t84.s2 t84.s3 t84.mn t84.mx t84.a t84.subs.length t84.c b85 t88.k t88.s0 t88.s1 t88.s2 t88.s3 t88.mn t88.mx t88.a t88.subs.length t88.c b89 t96.k t96.s0 t96.s1 t96.s2 t96.s3 t96.mn t96.mx t96.a t96.subs.length t96.c b97))=x.cs++[.string bs,.slice (some ⟨wb,0,none⟩) W.length W.length]/\Rep m111 x/\x.er=X/\Zb1 X (Zb7 bs)=(W,0)/\PtAt m111 (some ⟨wb,0,none⟩) W/\W.length<=100:=by
  intro j hj
  have hj:j=0\/j=1\/j=2\/j=3\/j=4\/j=5\/j=6:=by omega
  rcases hj with rfl|rfl|rfl|rfl|rfl|rfl|rfl
  ·exact⟨t41,ZAw,⟨#[97,98,99]⟩,[(0,1),(1,3)],b42,rfl,(r41.mono (xj)),e41,aR0,(ZiZ [(0,1),(1,3)] (by simp)).mono (xk),by decide⟩
  ·exact⟨t62,ZAB,⟨#[97,98,99]⟩,[(0,2),(2,3)],b63,rfl,(r62.mono (xl)),e62,aR1,(ZiZ [(0,2),(2,3)] (by simp)).mono (xm),by decide⟩
  ·exact⟨t69,ZAE,⟨#[97,97]⟩,[(0,2),(2,2)],b70,rfl,(r69.mono (xn)),e69,aR2,(ZiZ [(0,2),(2,2)] (by simp)).mono (xo),by decide⟩
  ·exact⟨t80,ZAH,⟨#[97,98]⟩,[(1,2)],b81,rfl,(r80.mono (xp)),e80,aR3,(ZiZ [(1,2)] (by simp)).mono (xq),by decide⟩
  ·exact⟨t84,ZAJ,⟨#[]⟩,[(-1,-1)],b85,rfl,(r84.mono (xr)),e84,aR4,(ZiZ [(-1,-1)] (by simp)).mono (xt),by decide⟩
  ·exact⟨t88,ZAL,⟨#[]⟩,[(0,0)],b89,rfl,(r88.mono (xu)),e88,aR5,(ZiZ [(0,0)] (by simp)).mono (xv),by decide⟩
  ·exact⟨t96,ZAP,⟨#[97,98]⟩,[(1,2),(0,1)],b97,rfl,(r96.mono (xw)),e96,aR6,(ZiZ [(1,2),(0,1)] (by simp)).mono (xx),by decide⟩
 refine⟨λxs _ _ _ q=>∃j:Nat,j<=7/\xs=[.int .i64 (j:Nat)]/\q=7 - j,⟨7,0,by omega,rfl,rfl⟩,?_⟩
 rintro y M1 q dR ⟨j,hj,cJ,rfl⟩
 obtain rfl:y=j:=by simpa using cJ
 refine Zab (λbF=>?_) (λcP=>?_)
 ·have bI:j < 7:=by have:=of_decide_eq_true bF;omega
  obtain⟨x,X,bs,W,wb,dA,hx,hX,fZ,oP,zf⟩:=bG j bI
  refine⟨⟨by omega,by omega⟩,Zaa (by rw[Nat.ble_eq,Int.toNat_natCast];omega) λb9=>?_⟩
  rw[dA]
  have bW:ByteArray.size (ZcL (.string bs))=(Zb7 bs).length:=by rw[ZmH];rfl
  have cW:ZaM (ZcL (.string bs))=(Zb7 bs).map λc:Nat=>Value.int .u8 c:=Zkz bs
  refine Zaa rfl (Zaa rfl (Zaw rfl (Zaa rfl λb8 c8 zh C3=>?_)))
  rw[cW,bW]
  have gL:Byt (M1.add b8 ((Zb7 bs).map λc:Nat=>Value.int .u8 c)) (some ⟨b8,0,none⟩) (Zb7 bs):=Zrk _ (λc hc=>ZpW hc)
  refine⟨_,trivial,ZlQ x X _ (Zb7 bs) _ _ hX (hx.mono (mLt dR (Mem.le_add zh _))) gL,(λv _ _ ⟨_,_,h,_⟩=>by rw[h];rfl),?_⟩
  rintro a n c z M2 dW ⟨a',c',hv,hp⟩
  rw[fZ]at hv hp
  simp only[Value.tuple.injEq,Array.mk.injEq,List.cons.injEq,Value.int.injEq,Value.slice.injEq,true_and,and_true]at hv
  obtain⟨⟨rfl,rfl,rfl⟩,rfl⟩:=hv
  refine⟨false,ZpA rfl (Zaw rfl ⟨_,trivial,Zfv W W a (some ⟨wb,0,none⟩) c W.length M2 (ZlM hp) (ZlM (oP.mono (mLt dR (mLt (Mem.le_add zh _) dW)))) (by omega),(λv _ _ h=>by unfold Ret at h;rw[h];rfl),?_⟩),ZpA rfl ⟨rfl,_,?_,j+1,by omega,by rw[wr1 (by omega)],rfl⟩⟩
  ·rintro b7 M3 gU BK
   obtain rfl:b7=true:=by simpa[Ret]using BK
   exact⟨rfl,rfl⟩
  ·omega
 ·clear bG cP
  refine⟨_,trivial,Zbg t25 Zwk _ (r25.mono (mLt gP dR)) e25,ZaE (E:=ZyV),ZgU λt154 m154 iA r154 e154=>?_⟩
  refine⟨_,trivial,Zgs t154 ZyV (0) (-1) (by omega) (by omega) _ r154 e154,ZaE (E:=ZyW),ZgU λt155 m155 iB r155 e155=>?_⟩
  intro b156 f157
  refine⟨_,trivial,ZlQ t155 ZyW _ [98] _ _ e155 (r155.mono (Mem.le_add f157 _)) (Zrk [98] (by decide)),(λv _ _ ⟨_,_,h,_⟩=>by rw[h];rfl),?_⟩
  rintro a158 n158 c158 z158 m158 iC ⟨a158',c158',n9,uw⟩
  rw[ZAQ]at n9 uw
  simp only[Value.tuple.injEq,Array.mk.injEq,List.cons.injEq,Value.int.injEq,Value.slice.injEq,true_and,and_true]at n9
  obtain⟨⟨rfl,rfl,rfl⟩,rfl⟩:=n9
  intro b159 f160
  refine⟨_,trivial,ZdW _ _ [t25,t2] [Zwk,aE2] _ (ZcD (l:=[t25,t2]) f160 (by simp only[List.mem_cons,List.not_mem_nil,or_false];rintro x (rfl|rfl);exact(r25.mono (mLt gP (mLt dR (mLt iA (mLt iB (mLt (Mem.le_add f157 _) iC))))));exact(r2.mono (mLt h3 (mLt kN (mLt hU (mLt gP (mLt dR (mLt iA (mLt iB (mLt (Mem.le_add f157 _) iC)))))))))) (by simp)) (by simp only[List.map_cons,List.map_nil,e25,e2] <;> rfl),ZaE (E:=ZyX),ZgU λt161 m161 jZ r161 e161=>?_⟩
  intro b162 f163
  refine⟨_,trivial,Zt4 t161 ZyX _ [97,97,98] _ 0 _ e161 (r161.mono (Mem.le_add f163 _)) (Zrk [97,97,98] (by decide)),(λv _ _ ⟨_,_,h,_⟩=>by rw[h];rfl),?_⟩
  rintro a164 n164 c164 z164 m164 kA ⟨a164',c164',oA,qN⟩
  rw[ZAR]at oA qN
  simp only[Value.tuple.injEq,Array.mk.injEq,List.cons.injEq,Value.int.injEq,Value.slice.injEq,true_and,and_true]at oA
  obtain⟨⟨rfl,rfl,rfl⟩,rfl⟩:=oA
  refine⟨ZBk,?_⟩
  intro b165 f166
  refine⟨_,rfl,Zgr _ _ [t1,t1] [aE1,aE1] _ (ZcD (l:=[t1,t1]) f166 (by simp only[List.mem_cons,List.not_mem_nil,or_false];rintro x (rfl|rfl);exact(r1.mono (mLt h2 (mLt h3 (mLt kN (mLt hU (mLt gP (mLt dR (mLt iA (mLt iB (mLt (Mem.le_add f157 _) (mLt iC (mLt (Mem.le_add f160 _) (mLt jZ (mLt (Mem.le_add f163 _) kA))))))))))))));exact(r1.mono (mLt h2 (mLt h3 (mLt kN (mLt hU (mLt gP (mLt dR (mLt iA (mLt iB (mLt (Mem.le_add f157 _) (mLt iC (mLt (Mem.le_add f160 _) (mLt jZ (mLt (Mem.le_add f163 _) kA))))))))))))))) (by simp)) (by simp only[List.map_cons,List.map_nil,e1] <;> rfl),ZaE (E:=Zyj),ZgU λt167 m167 xy r167 e167=>?_⟩
  intro b168 f169
  refine⟨_,rfl,ZdW _ _ [t167,t1] [Zyj,aE1] _ (ZcD (l:=[t167,t1]) f169 (by simp only[List.mem_cons,List.not_mem_nil,or_false];rintro x (rfl|rfl);exact r167;exact(r1.mono (mLt h2 (mLt h3 (mLt kN (mLt hU (mLt gP (mLt dR (mLt iA (mLt iB (mLt (Mem.le_add f157 _) (mLt iC (mLt (Mem.le_add f160 _) (mLt jZ (mLt (Mem.le_add f163 _) (mLt kA (mLt (Mem.le_add f166 _) xy))))))))))))))))) (by simp)) (by simp only[List.map_cons,List.map_nil,e167,e1] <;> rfl),ZaE (E:=Zyk),ZgU λt170 m170 BL r170 e170=>?_⟩
  refine⟨_,rfl,Zgs t170 Zyk (0) (-1) (by omega) (by omega) _ r170 e170,ZaE (E:=Zqg),ZgU λt171 m171 BM r171 e171=>?_⟩
  intro b172 f173
  intro m174 BN xz xA
  refine⟨_,rfl,Zrl t171 Zqg _ [97,97,97] _ _ e171 (r171.mono (xz)) ((Zrk [97,97,97] (by decide)).mono (xA)),(λv _ _ h=>by have h:v=.tuple #[.int .i64 ((ZtE Zqg [97,97,97]).1:Nat),.int .i64 (ZtE Zqg [97,97,97]).2]:=h;rw[h];rfl),?_⟩
  rintro z178 y178 m178 BO kB
  have kB:Value.tuple #[.int .i64 z178,.int .i64 y178]=.tuple #[.int .i64 ((ZtE Zqg [97,97,97]).1:Nat),.int .i64 (ZtE Zqg [97,97,97]).2]:=kB
  rw[ZAS]at kB
  simp only[Value.tuple.injEq,Array.mk.injEq,List.cons.injEq,Value.int.injEq,true_and,and_true]at kB
  obtain⟨rfl,rfl⟩:=kB
  intro m179 mE BP BQ BR BS BT BU BV
  refine⟨ZBl,?_⟩
  intro b188 f189
  refine⟨_,rfl,ZdW _ _ [t1,t9] [aE1,aE9] _ (ZcD (l:=[t1,t9]) f189 (by simp only[List.mem_cons,List.not_mem_nil,or_false];rintro x (rfl|rfl);exact(r1.mono (mLt h2 (mLt h3 (mLt kN (mLt hU (mLt gP (mLt dR (mLt iA (mLt iB (mLt (Mem.le_add f157 _) (mLt iC (mLt (Mem.le_add f160 _) (mLt jZ (mLt (Mem.le_add f163 _) (mLt kA mE)))))))))))))));exact(r9.mono (mLt xd (mLt hU (mLt gP (mLt dR (mLt iA (mLt iB (mLt (Mem.le_add f157 _) (mLt iC (mLt (Mem.le_add f160 _) (mLt jZ (mLt (Mem.le_add f163 _) (mLt kA mE)))))))))))))) (by simp)) (by simp only[List.map_cons,List.map_nil,e1,e9] <;> rfl),ZaE (E:=Zyl),ZgU λt190 m190 BW r190 e190=>?_⟩
  refine⟨_,rfl,Zbg t190 Zyl _ r190 e190,ZaE (E:=Zym),ZgU λt191 m191 BX r191 e191=>?_⟩
  intro b192 f193
  intro m194 BY xB xC
  refine⟨_,rfl,ZdW _ _ [t3,t16] [aE3,ZyU] _ ((ZcD (l:=[t3,t16]) f193 (by simp only[List.mem_cons,List.not_mem_nil,or_false];rintro x (rfl|rfl);exact(r3.mono (mLt kN (mLt hU (mLt gP (mLt dR (mLt iA (mLt iB (mLt (Mem.le_add f157 _) (mLt iC (mLt (Mem.le_add f160 _) (mLt jZ (mLt (Mem.le_add f163 _) (mLt kA mE)))))))))))));exact(r16.mono (mLt xe (mLt hU (mLt gP (mLt dR (mLt iA (mLt iB (mLt (Mem.le_add f157 _) (mLt iC (mLt (Mem.le_add f160 _) (mLt jZ (mLt (Mem.le_add f163 _) (mLt kA mE)))))))))))))) (by simp)).mono (xC)) (by simp only[List.map_cons,List.map_nil,e3,e16] <;> rfl),ZaE (E:=Zyn),ZgU λt198 m198 xD r198 e198=>?_⟩
  refine⟨_,rfl,Zbg t198 Zyn _ r198 e198,ZaE (E:=Zyo),ZgU λt199 m199 xE r199 e199=>?_⟩
  intro b200 f201
  refine⟨_,rfl,Zgr _ _ [t191,t199] [Zym,Zyo] _ (ZcD (l:=[t191,t199]) f201 (by simp only[List.mem_cons,List.not_mem_nil,or_false];rintro x (rfl|rfl);exact(r191.mono (mLt xB (mLt xD xE)));exact r199) (by simp)) (by simp only[List.map_cons,List.map_nil,e191,e199] <;> rfl),ZaE (E:=ZwH),ZgU λt202 m202 BZ r202 e202=>?_⟩
  intro b203 f204
  intro m205 B0 xF xG
  refine⟨_,rfl,ZnE t202 ZwH _ [97,98,99] _ _ e202 (r202.mono (xF)) ((Zrk [97,98,99] (by decide)).mono (xG)) (by decide),(λv _ _ ⟨_,_,h,_⟩=>by rw[h];rfl),?_⟩
  rintro a209 n209 c209 z209 m209 B1 ⟨a209',c209',oB,qO⟩
  rw[ZAT]at oB qO
  simp only[Value.tuple.injEq,Array.mk.injEq,List.cons.injEq,Value.int.injEq,Value.slice.injEq,true_and,and_true]at oB
  obtain⟨⟨rfl,rfl,rfl⟩,rfl⟩:=oB
  intro m210 ux B2 B3 B4 B5 B6 B7 B8 B9 Ca xH
  refine Zyw rfl (Zyw rfl λbx fx=>?_)
  refine⟨_,trivial,Zrm [2,1,0] [2,1,0] _ _ _ _ _ (qN.mono (mLt (mLt mE ux) (Mem.le_add fx _))) (.inr ⟨bx,0,rfl,λj v hj=>by rw[Nat.zero_add,Mem.add_same];exact hj⟩) (by decide),(λv _ _ h=>by unfold Ret at h;rw[h];rfl),?_⟩
  rintro q1 N1 zi iE
  obtain rfl:q1=true:=by simpa[Ret]using iE
  refine Zyw rfl (Zyw rfl λby_ fy=>?_)
  refine⟨_,trivial,ZnF [[97,98,99],[97],[98,99]] _ _ _ _ _ (qO.mono (mLt (mLt (xH) (mLt (Mem.le_add fx _) zi)) (Mem.le_add fy _))) (.inr ⟨by_,0,rfl,λj v hj=>by rw[Nat.zero_add,Mem.add_same];exact hj⟩) (by decide),(λv _ _ h=>by unfold Ret at h;rw[h];rfl),?_⟩
  rintro q2 N2 Cb kR
  obtain rfl:q2=true:=by simpa[Ret]using kR
  refine Zyw rfl ⟨_,trivial,ZpR _,(λv _ _ h=>by rw[h];rfl),?_⟩
  rintro y1 y2 N3 xI hy
  obtain⟨rfl,rfl⟩:y1=-1/\y2=-1:=by simpa using hy
  exact⟨_,ZsG _ _ _ _,N3,mLt (mLt h1 (mLt h2 (mLt h3 (mLt kN (mLt hU (mLt gP (mLt dR (mLt iA (mLt iB (mLt (Mem.le_add f157 _) (mLt iC (mLt (Mem.le_add f160 _) (mLt jZ (mLt (Mem.le_add f163 _) (mLt kA (mLt mE ux)))))))))))))))) (mLt (mLt (Mem.le_add fx _) zi) (mLt (mLt (Mem.le_add fy _) Cb) xI)),Mem.le_refl _,rfl⟩
end Go.Proofs.Ytgclajkldphoaaa
namespace Go.Proofs.Ytgclajkldphoaaa
open Go Go.Eng Go.Proofs Go.RowKit
open Go.Value (int slice agg bool string tuple func)
open Go.IntKind (u8 u64 i64)
set_option maxRecDepth 100000
noncomputable def Zt5:Env:={ EB with
 joins:=(λi=>bif Nat.beq i 1 then some [(2,.bool)]else none)
 frzNew:=[1] }
def ZmL(aG aD aI aJ aK aE aH:Int)(aB:Option Addr)(aA aC:Nat)(m:Mem)(R:RT):Prop:=
 ∀(b:Nat)(m':Mem),Mem.le m m'->Mem.reads m' b 0 [int u8 aG,int u64 aD,int u64 aI,int u64 aJ,int u64 aK,int i64 aE,int i64 aH,slice aB aA aC]->∃(b_1:Bool),(∃(R:RT),True/\CX
 Try.prog 86 (Array.mk [agg (Array.mk [int u8 aG,int u64 aD,int u64 aI,int u64 aJ,int u64 aK,int i64 aE,int i64 aH,slice aB aA aC]),agg (Array.mk [int u8 0,int u64 0,int u64 0,int u64 0,
 int u64 0,int i64 0,int i64 0,slice none 0 0])]) m' [] R/\Zar Shape.bool R/\∀(b_2:Bool)(m'_1:Mem),Mem.le m' m'_1->R (bool b_2) m'_1 []->br b_2 ([some (Box.mk b [int u8 aG,int u64 aD,int u64 aI,
 int u64 aJ,int u64 aK,int i64 aE,int i64 aH,slice aB aA aC] 29 8 true true)]=[some (Box.mk b [int u8 aG,int u64 aD,int u64 aI,int u64 aJ,int u64 aK,int i64 aE,int i64 aH,slice
 aB aA aC] 29 8 true true)]/\[bool true]=[bool b_1]) (∃(R:RT),True/\CX Try.prog 48 (Array.mk [agg (Array.mk [int u8 aG,int u64 aD,int u64 aI,int u64 aJ,int u64 aK,int i64 aE,int i64
 aH,slice aB aA aC])]) m'_1 [] R/\Zar Shape.bool R/\∀(b_3:Bool)(m':Mem),Mem.le m'_1 m'->R (bool b_3) m' []->[some (Box.mk b [int u8 aG,int u64 aD,int u64 aI,int u64 aJ,int u64 aK,
 int i64 aE,int i64 aH,slice aB aA aC] 29 8 true true)]=[some (Box.mk b [int u8 aG,int u64 aD,int u64 aI,int u64 aJ,int u64 aK,int i64 aE,int i64 aH,slice aB aA aC] 29 8
 true true)]/\[bool b_3]=[bool b_1]))/\∃(m'':Mem),Mem.le m m''/\Mem.le m'' m'/\R (bool b_1) m'' []
theorem Zro(aG aD aI aJ aK aE aH:Int)(aB:Option Addr)(aA aC:Nat)(m:Mem)(R:RT)(h:ZmL aG aD aI aJ aK aE aH aB aA aC m R):CX Try.prog 60 #[.agg #[.int .u8 aG,.int .u64 aD,.int .u64 aI,.int .u64 aJ,.int .u64 aK,.int .i64 aE,.int .i64 aH,.slice aB aA aC]] m [] R:=
 Zah (E:=Zt5) Zay mix Try.func60 [.v (.agg #[.int .u8 aG,.int .u64 aD,.int .u64 aI,.int .u64 aJ,.int .u64 aK,.int .i64 aE,.int .i64 aH,.slice aB aA aC])] [] (by kernel_rfl) (Eq.mp (by kernel_rfl) h)
noncomputable def ZnG:Env:={ EB with
 frzNew:=[1] }
def ZhU(aG aD aI aJ aK aE aH:Int)(aB:Option Addr)(aA aC:Nat)(m:Mem)(R:RT):Prop:=
 ∀(b:Nat)(m':Mem),Mem.le m m'->Mem.reads m' b 0 [int u8 aG,int u64 aD,int u64 aI,int u64 aJ,int u64 aK,int i64 aE,int i64 aH,slice aB aA aC]->∀(b:Nat),∃(R_1:RT),True/\CX
 Try.prog 48 (Array.mk [agg (Array.mk [int u8 aG,int u64 aD,int u64 aI,int u64 aJ,int u64 aK,int i64 aE,int i64 aH,slice aB aA aC])]) m' [] R_1/\Zar Shape.bool R_1/\∀(b:Bool) (m'_1:
 Mem),Mem.le m' m'_1->R_1 (bool b) m'_1 []->br (!b) (∃(m'':Mem),Mem.le m m''/\Mem.le m'' m'_1/\R (agg (Array.mk [int u8 0,int u64 0,int u64 0,int u64 0,int u64 0,int i64 0,int i64 0,slice none 0 0])) m''
 []) (∃(R_2:RT),True/\CX Try.prog 62 (Array.mk [agg (Array.mk [int u8 aG,int u64 aD,int u64 aI,int u64 aJ,int u64 aK,int i64 aE,int i64 aH,slice aB aA aC])]) m'_1 [] R_2/\Zar (shT)
 R_2/\∀(n n_1 n_2 n_3 n_4 n_5 n_6:Int)(a:Option Addr)(n_7 c:Nat)(m':Mem),Mem.le m'_1 m'->R_2 (agg (Array.mk [int u8 n,int u64 n_1,int u64 n_2,int u64 n_3,int u64 n_4,int i64 n_5,int i64 n_6,slice a
 n_7 c])) m' []->∃(m'':Mem),Mem.le m m''/\Mem.le m'' m'/\R (agg (Array.mk [int u8 n,int u64 n_1,int u64 n_2,int u64 n_3,int u64 n_4,int i64 n_5,int i64 n_6,slice a n_7 c])) m'' [])
theorem ZlR(aG aD aI aJ aK aE aH:Int)(aB:Option Addr)(aA aC:Nat)(m:Mem)(R:RT)(h:ZhU aG aD aI aJ aK aE aH aB aA aC m R):CX Try.prog 47 #[.agg #[.int .u8 aG,.int .u64 aD,.int .u64 aI,.int .u64 aJ,.int .u64 aK,.int .i64 aE,.int .i64 aH,.slice aB aA aC]] m [] R:=
 Zah (E:=ZnG) Zay mix Try.func47 [.v (.agg #[.int .u8 aG,.int .u64 aD,.int .u64 aI,.int .u64 aJ,.int .u64 aK,.int .i64 aE,.int .i64 aH,.slice aB aA aC])] [] (by kernel_rfl) (Eq.mp (by kernel_rfl) h)
noncomputable def Zt6:Env:={ EB with
 loops:=(λi=>bif Nat.beq i 3 then⟨[(7,.slice),(12,.int .i64)],[],[(28,8)],false⟩ else⟨[],[],[],false⟩)
 tokOf:=(λi=>bif Nat.beq i 21 then 28 else bif Nat.beq i 28 then 28 else 0) }
def ZmM(p0 p1:Int)(p2a:Option Addr)(p2n p2c:Nat)(m:Mem)(R:RT):Prop:=
 ∃(I:IT),(∃(n:Nat),I [slice none 0 0,int i64 0] [] [slice none 0 0] m n)/\∀(a:Option Addr)(n c:Nat)(n_1:Int)(a_1:Option Addr)(n_2 c_1:Nat)(m':Mem)(n_3:Nat),Mem.le m m'->I [slice a n c,
 int i64 n_1] [] [slice a_1 n_2 c_1] m' n_3->br (decide (n_1 < (↑p2n:Int))) (∃(b:Nat),∃(o:Nat),p2a=some (Addr.mk b o none)/\Zaj n_1 p2n/\∃(v:Value),∃(v_1:Value),∃(v_2:Value),∃(v_3:
 Value),∃(v_4:Value),∃(v_5:Value),∃(v_6:Value),∃(v_7:Value),Mem.reads m' b (o+Int.toNat n_1*8) [v,v_1,v_2,v_3,v_4,v_5,v_6,v_7]/\∀(b:Nat),chk (Value.oneCell' v&&(Value.oneCell' v_1 &&
 (Value.oneCell' v_2&&(Value.oneCell' v_3&&(Value.oneCell' v_4&&(Value.oneCell' v_5&&(Value.oneCell' v_6&&(Value.oneCell' v_7&&true)))))))) (chk (ZaX u8 v&&decide (u8=u8)) (br (RowKit.intOf v == p0)
 (chk (ZeR v_7&&true) ((Tok.mk (slice a_1 n_2 c_1) 8=Tok.mk (slice a n c) 8\/slice a n c=slice none 0 0\/c < n+slN v_7)/\∃(xs:List Value),∃(ys:List Value),List.length xs=n*8/\List.length ys=slN
 v_7*8/\rowRd m' a xs/\rowRd m' (slA v_7) ys/\(∀(u:Value),u∈ys->Value.oneCell' u=true)/\(n+slN v_7)*80<=140737488355328/\n+slN v_7<=9223372036854775807/\∀(a':Option Addr)(c':Nat) (m'_1:
 Mem),Mem.le m' m'_1->rowRd m'_1 a' (List.append xs ys)->∃(n':Nat),n' < n_3/\I [slice a' (n+slN v_7) c',int i64 (IntKind.wrap i64 (n_1+(1:Int)))] [] [slice a' (n+slN v_7) c'] m'_1 n')) (chk (ZaX u8 v
 && decide (u8=u8)) (br (RowKit.intOf v == p1) (∃(n':Nat),n' < n_3/\I [slice a n c,int i64 (IntKind.wrap i64 (n_1+(1:Int)))] [] [slice a_1 n_2 c_1] m' n') (∀(b:Nat),Mem.free m' b->(Tok.mk (slice a_1 n_2
 c_1) 8=Tok.mk (slice a n c) 8\/slice a n c=slice none 0 0\/c < n+1)/\∃(xs:List Value),∃(ys:List Value),List.length xs=n*8/\List.length ys=1*8/\rowRd (Mem.add m' b [v,v_1,v_2,v_3,v_4,v_5,
 v_6,v_7]) a xs/\rowRd (Mem.add m' b [v,v_1,v_2,v_3,v_4,v_5,v_6,v_7]) (some (Addr.mk b 0 none)) ys/\(∀(u:Value),u∈ys->Value.oneCell' u=true)/\(n+1)*80<=140737488355328/\n+1 <=
 9223372036854775807/\∀(a':Option Addr)(c':Nat)(m'_1:Mem),Mem.le (Mem.add m' b [v,v_1,v_2,v_3,v_4,v_5,v_6,v_7]) m'_1->rowRd m'_1 a' (List.append xs ys)->∃(n':Nat),n' < n_3/\I [slice a' (n+1)
 c',int i64 (IntKind.wrap i64 (n_1+(1:Int)))] [] [slice a' (n+1) c'] m'_1 n')))))) (∃(m'':Mem),Mem.le m m''/\Mem.le m'' m'/\R (slice a n c) m'' [])
theorem Zrp(p0 p1:Int)(p2a:Option Addr)(p2n p2c:Nat)(m:Mem)(R:RT)(h:ZmM p0 p1 p2a p2n p2c m R):CX Try.prog 68 #[.int .u8 p0,.int .u8 p1,.slice p2a p2n p2c] m [] R:=
 Zah (E:=Zt6) Zay mix Try.func68 [.v (.int .u8 p0),.v (.int .u8 p1),.v (.slice p2a p2n p2c)] [] (by kernel_rfl) (Eq.mp (by kernel_rfl) h)
noncomputable def ZpX:Env:={ EB with
 frzNew:=[5] }
def Zi0(p0:Int)(p1a:Option Addr)(p1n p1c:Nat)(aY aZ bA bB bC bD bE:Int)(bR:Option Addr)(bS bT:Nat)(m:Mem)(R:RT):Prop:=
 ∀(b:Nat)(m':Mem),Mem.le m m'->Mem.reads m' b 0 [int u8 aY,int u64 aZ,int u64 bA,int u64 bB,int u64 bC,int i64 bD,int i64 bE,slice bR bS bT]->∀(b:Nat),br ((↑p1n:Int) == (0:
 Int)) (∃(m'':Mem),Mem.le m m''/\Mem.le m'' m'/\R (agg (Array.mk [int u8 aY,int u64 aZ,int u64 bA,int u64 bB,int u64 bC,int i64 bD,int i64 bE,slice bR bS bT])) m'' []) (br ((↑p1n:
 Int) == (1:Int)) (∃(b:Nat),∃(o:Nat),p1a=some (Addr.mk b o none)/\Zaj (0:Int) p1n/\∃(v:Value),∃(v_1:Value),∃(v_2:Value),∃(v_3:Value),∃(v_4:Value),∃(v_5:Value),∃(v_6:Value),
 ∃(v_7:Value),Mem.reads m' b (o+0) [v,v_1,v_2,v_3,v_4,v_5,v_6,v_7]/\∃(R_1:RT),True/\CX Try.prog 47 (Array.mk [agg (Array.mk [v,v_1,v_2,v_3,v_4,v_5,v_6,v_7])]) m' [] R_1/\Zar (shT) R_1/\∀(n
 n_1 n_2 n_3 n_4 n_5 n_6:Int) (a:Option Addr) (n_7 c:Nat) (m'_1:Mem),Mem.le m' m'_1->R_1 (agg (Array.mk [int u8 n,int u64 n_1,int u64 n_2,int u64 n_3,int u64 n_4,int i64 n_5,int i64 n_6,slice a n_7 c]))
 m'_1 []->∃(m'':Mem),Mem.le m m''/\Mem.le m'' m'_1/\R (agg (Array.mk [int u8 n,int u64 n_1,int u64 n_2,int u64 n_3,int u64 n_4,int i64 n_5,int i64 n_6,slice a n_7 c])) m'' []) (∃(R_1:RT),True/\CX
 Try.prog 47 (Array.mk [agg (Array.mk [int u8 p0,int u64 0,int u64 0,int u64 0,int u64 0,int i64 0,int i64 0,slice p1a p1n p1c])]) m' [] R_1/\Zar (shT) R_1/\∀(n n_1 n_2 n_3 n_4 n_5 n_6:Int)(a:Option Addr)
 (n_7 c:Nat) (m'_1:Mem),Mem.le m' m'_1->R_1 (agg (Array.mk [int u8 n,int u64 n_1,int u64 n_2,int u64 n_3,int u64 n_4,int i64 n_5,int i64 n_6,slice a n_7 c])) m'_1 []->∃(m'':Mem),Mem.le m m''/\Mem.le
 m'' m'_1/\R (agg (Array.mk [int u8 n,int u64 n_1,int u64 n_2,int u64 n_3,int u64 n_4,int i64 n_5,int i64 n_6,slice a n_7 c])) m'' []))
theorem ZnH(p0:Int)(p1a:Option Addr)(p1n p1c:Nat)(aY aZ bA bB bC bD bE:Int)(bR:Option Addr)(bS bT:Nat)(m:Mem)(R:RT)(h:Zi0 p0 p1a p1n p1c aY aZ bA bB bC bD bE bR bS bT m R):CX Try.prog 67 #[.int .u8 p0,.slice p1a p1n p1c,.agg #[.int .u8 aY,.int .u64 aZ,.int .u64 bA,.int .u64 bB,.int .u64 bC,.int .i64 bD,.int .i64 bE,.slice bR bS bT]] m [] R:=
 Zah (E:=ZpX) Zay mix Try.func67 [.v (.int .u8 p0),.v (.slice p1a p1n p1c),.v (.agg #[.int .u8 aY,.int .u64 aZ,.int .u64 bA,.int .u64 bB,.int .u64 bC,.int .i64 bD,.int .i64 bE,.slice bR bS bT])] [] (by kernel_rfl) (Eq.mp (by kernel_rfl) h)
noncomputable def Zyp:Env:={ EB with
 loops:=(λi=>bif Nat.beq i 2 then⟨[(7,.int .i64)],[2],[],false⟩ else⟨[],[],[],false⟩) }
def ZsH(p0a:Option Addr)(p0n p0c:Nat)(m:Mem)(R:RT):Prop:=
 ∀(b:Nat),∃(I:IT),(∃(n:Nat),I [int i64 0] [[int u8 0,int u64 0,int u64 0,int u64 0,int u64 0,int i64 0,int i64 0,slice none 0 0]] [] m n)/\∀(n:Int)(cs:List Value)(m':Mem)(n_1:Nat),Mem.le
 m m'->I [int i64 n] [cs] [] m' n_1->br (decide (n < (↑p0n:Int))) (∃(b_1:Nat),∃(o:Nat),p0a=some (Addr.mk b_1 o none)/\Zaj n p0n/\∃(v:Value),∃(v_1:Value),∃(v_2:Value),∃(v_3:Value),∃
 (v_4:Value),∃(v_5:Value),∃(v_6:Value),∃(v_7:Value),Mem.reads m' b_1 (o+Int.toNat n*8) [v,v_1,v_2,v_3,v_4,v_5,v_6,v_7]/\∀(b_2:Nat),chk (Value.oneCell' v&&(Value.oneCell' v_1 &&
 (Value.oneCell' v_2&&(Value.oneCell' v_3&&(Value.oneCell' v_4&&(Value.oneCell' v_5&&(Value.oneCell' v_6&&(Value.oneCell' v_7&&true)))))))) (∃(R_1:RT),True/\CX Try.prog 60 (Array.mk [agg (Array.mk [v,
 v_1,v_2,v_3,v_4,v_5,v_6,v_7])]) m' [] R_1/\Zar Shape.bool R_1/\∀(b_3:Bool)(m'_1:Mem),Mem.le m' m'_1->R_1 (bool b_3) m'_1 []->br (!b_3) (∃(m'':Mem),Mem.le m m''/\Mem.le m'' m'_1/\R (agg (Array.mk
 [int u8 0,int u64 0,int u64 0,int u64 0,int u64 0,int i64 0,int i64 0,slice none 0 0])) m'' []) ([some (Box.mk b [] 29 8 false true)]=[some (Box.mk b [] 29 8 false true)]/\∃(n':Nat),n' < n_1/\I [int i64
 (IntKind.wrap i64 (n+(1:Int)))] [cs] [] m'_1 n'))) (∃(R_1:RT),True/\CX Try.prog 68 (Array.mk [int u8 4,int u8 0,slice p0a p0n p0c]) m' [] R_1/\Zar Shape.slice R_1/\∀(a:Option Addr)(n c:Nat) (m'_1:
 Mem),Mem.le m' m'_1->R_1 (slice a n c) m'_1 []->∃(R_2:RT),True/\CX Try.prog 67 (Array.mk [int u8 4,slice a n c,agg (Array.mk [int u8 0,int u64 0,int u64 0,int u64 0,int u64 0,int i64 0,int i64 0,slice
 none 0 0])]) m'_1 [] R_2/\Zar (shT) R_2/\∀(n n_2 n_3 n_4 n_5 n_6 n_7:Int)(a:Option Addr)(n_8 c:Nat)(m':Mem),Mem.le m'_1 m'->R_2 (agg (Array.mk [int u8 n,int u64 n_2,int u64 n_3,int u64 n_4,int u64
 n_5,int i64 n_6,int i64 n_7,slice a n_8 c])) m' []->∃(m'':Mem),Mem.le m m''/\Mem.le m'' m'/\R (agg (Array.mk [int u8 n,int u64 n_2,int u64 n_3,int u64 n_4,int u64 n_5,int i64 n_6,int i64 n_7,slice a n_8
 c])) m'' [])
theorem Zwl(p0a:Option Addr)(p0n p0c:Nat)(m:Mem)(R:RT)(h:ZsH p0a p0n p0c m R):CX Try.prog 32 #[.slice p0a p0n p0c] m [] R:=
 Zah (E:=Zyp) Zay mix Try.func32 [.v (.slice p0a p0n p0c)] [] (by kernel_rfl) (Eq.mp (by kernel_rfl) h)
noncomputable def Zwm:Env:={ EB with
 loops:=(λi=>bif Nat.beq i 2 then⟨[(7,.int .i64)],[2],[],false⟩ else⟨[],[],[],false⟩)
 joins:=(λi=>bif Nat.beq i 4 then some [(18,.bool)]else none) }
def ZpY(p0a:Option Addr)(p0n p0c:Nat)(m:Mem)(R:RT):Prop:=
 ∀(b:Nat),∃(I:IT),(∃(n:Nat),I [int i64 0] [[int u8 0,int u64 0,int u64 0,int u64 0,int u64 0,int i64 0,int i64 0,slice none 0 0]] [] m n)/\∀(n:Int)(cs:List Value)(m':Mem)(ak:Nat),Mem.le m
 m'->I [int i64 n] [cs] [] m' ak->br (decide (n < (↑p0n:Int))) (∃(al:Nat),∃(o:Nat),p0a=some (Addr.mk al o none)/\Zaj n p0n/\∃(v:Value),∃(aa:Value),∃(ab:Value),∃(ac:Value),∃(ad:
 Value),∃(ae:Value),∃(af:Value),∃(ag:Value),Mem.reads m' al (o+Int.toNat n*8) [v,aa,ab,ac,ad,ae,af,ag]/\∀(ai:Nat),chk (Value.oneCell' v&&(Value.oneCell' aa&&(Value.oneCell' ab &&
 (Value.oneCell' ac&&(Value.oneCell' ad&&(Value.oneCell' ae&&(Value.oneCell' af&&(Value.oneCell' ag&&true)))))))) (∃(aj:Bool),chk (ZaX u8 v&&decide (u8=u8)) (br (RowKit.intOf v == (0:Int)) ([some
 (Box.mk ai [v,aa,ab,ac,ad,ae,af,ag] 29 8 false true),some (Box.mk b cs 29 8 false true)]=[some (Box.mk ai [v,aa,ab,ac,ad,ae,af,ag] 29 8 false true),some (Box.mk b cs 29 8 false true)]/\[bool true] =
 [bool aj]) (∃(R:RT),True/\CX Try.prog 48 (Array.mk [agg (Array.mk [v,aa,ab,ac,ad,ae,af,ag])]) m' [] R/\Zar Shape.bool R/\∀(am:Bool)(ah:Mem),Mem.le m' ah->R (bool am) ah []->[some (Box.mk ai [v,
 aa,ab,ac,ad,ae,af,ag] 29 8 false true),some (Box.mk b cs 29 8 false true)]=[some (Box.mk ai [v,aa,ab,ac,ad,ae,af,ag] 29 8 false true),some (Box.mk b cs 29 8 false true)]/\[bool !am]=[bool aj]))/\br
 aj (∃(m'':Mem),Mem.le m m''/\Mem.le m'' m'/\R (agg (Array.mk [int u8 0,int u64 0,int u64 0,int u64 0,int u64 0,int i64 0,int i64 0,slice none 0 0])) m'' []) ([some (Box.mk b [] 29 8 false true)]=[some
 (Box.mk b [] 29 8 false true)]/\∃(n':Nat),n' < ak/\I [int i64 (IntKind.wrap i64 (n+(1:Int)))] [cs] [] m' n'))) (∃(R_1:RT),True/\CX Try.prog 68 (Array.mk [int u8 3,int u8 1,slice p0a p0n p0c]) m' [] R_1
 /\ Zar Shape.slice R_1/\∀(a:Option Addr)(n c:Nat)(ah:Mem),Mem.le m' ah->R_1 (slice a n c) ah []->∃(R_2:RT),True/\CX Try.prog 67 (Array.mk [int u8 3,slice a n c,agg (Array.mk [int u8 1,int u64 0,int
 u64 0,int u64 0,int u64 0,int i64 0,int i64 0,slice none 0 0])]) ah [] R_2/\Zar (shT) R_2/\∀(n an ao ap aq ar au:Int)(a:Option Addr)(av c:Nat)(m':Mem),Mem.le ah m'->R_2 (agg (Array.mk [int u8 n,
 int u64 an,int u64 ao,int u64 ap,int u64 aq,int i64 ar,int i64 au,slice a av c])) m' []->∃(m'':Mem),Mem.le m m''/\Mem.le m'' m'/\R (agg (Array.mk [int u8 n,int u64 an,int u64 ao,int u64 ap,int u64 aq,
 int i64 ar,int i64 au,slice a av c])) m'' [])
theorem Zt7(p0a:Option Addr)(p0n p0c:Nat)(m:Mem)(R:RT)(h:ZpY p0a p0n p0c m R):CX Try.prog 34 #[.slice p0a p0n p0c] m [] R:=
 Zah (E:=Zwm) Zay mix Try.func34 [.v (.slice p0a p0n p0c)] [] (by kernel_rfl) (Eq.mp (by kernel_rfl) h)
noncomputable def ZnI:Env:={ EB with
 frzNew:=[1] }
def ZhV(aG aD aI aJ aK aE aH:Int)(aB:Option Addr)(aA aC:Nat)(m:Mem)(R:RT):Prop:=
 ∀(b:Nat)(m':Mem),Mem.le m m'->Mem.reads m' b 0 [int u8 aG,int u64 aD,int u64 aI,int u64 aJ,int u64 aK,int i64 aE,int i64 aH,slice aB aA aC]->∀(b b:Nat),Mem.free m' b->∃(R_1:
 RT),True/\CX Try.prog 47 (Array.mk [agg (Array.mk [int u8 6,int u64 0,int u64 0,int u64 0,int u64 0,int i64 0,int i64 0,slice (some (Addr.mk b 0 none)) 1 1])]) (Mem.add m' b [int u8 aG,int u64 aD,int u64
 aI,int u64 aJ,int u64 aK,int i64 aE,int i64 aH,slice aB aA aC]) [] R_1/\Zar (shT) R_1/\∀(n n_1 n_2 n_3 n_4 n_5 n_6:Int)(a:Option Addr)(n_7 c:Nat)(m'_1:Mem),Mem.le (Mem.add m' b
 [int u8 aG,int u64 aD,int u64 aI,int u64 aJ,int u64 aK,int i64 aE,int i64 aH,slice aB aA aC]) m'_1->R_1 (agg (Array.mk [int u8 n,int u64 n_1,int u64 n_2,int u64 n_3,int u64 n_4,int
 i64 n_5,int i64 n_6,slice a n_7 c])) m'_1 []->∃(m'':Mem),Mem.le m m''/\Mem.le m'' m'_1/\R (agg (Array.mk [int u8 n,int u64 n_1,int u64 n_2,int u64 n_3,int u64 n_4,int i64 n_5,int i64 n_6,slice a n_7 c]))
 m'' []
theorem ZlS(aG aD aI aJ aK aE aH:Int)(aB:Option Addr)(aA aC:Nat)(m:Mem)(R:RT)(h:ZhV aG aD aI aJ aK aE aH aB aA aC m R):CX Try.prog 18 #[.agg #[.int .u8 aG,.int .u64 aD,.int .u64 aI,.int .u64 aJ,.int .u64 aK,.int .i64 aE,.int .i64 aH,.slice aB aA aC]] m [] R:=
 Zah (E:=ZnI) Zay mix Try.func18 [.v (.agg #[.int .u8 aG,.int .u64 aD,.int .u64 aI,.int .u64 aJ,.int .u64 aK,.int .i64 aE,.int .i64 aH,.slice aB aA aC])] [] (by kernel_rfl) (Eq.mp (by kernel_rfl) h)
noncomputable def ZpZ:Env:={ EB with
 loops:=(λi=>bif Nat.beq i 3 then⟨[(12,.int .i64)],[],[],false⟩ else⟨[],[],[],false⟩)
 dr:=(λi=>bif Nat.beq i 5 then[⟨0,[1],[],none,[],[]⟩,⟨1,[1],[],none,[0],[]⟩,⟨2,[],[],none,[],[]⟩,⟨3,[4],[],none,[],[]⟩,⟨4,[],[],none,[3],[]⟩,⟨5,[],[],none,[0,1,2,3,4],[]⟩]else[])
 thaw:=true
 stAt:=(λi=>bif Nat.beq i 22 then some 7 else none)
 last:=(λi=>bif Nat.beq i 5 then true else false)
 tokC:=(λi=>bif Nat.beq i 7 then some (7,8)else none) }
def Zi1(aG aD aI aJ aK aE aH:Int)(aB:Option Addr)(aA aC:Nat)(m:Mem)(R:RT):Prop:=
 ∀(b ak:Nat),∃(R_1:RT),CXT Try.prog 25 (Array.mk [slice aB aA aC]) m 8 R_1/\Zar Shape.slice R_1/\∀(a:Option Addr)(n c:Nat)(m':Mem),Mem.le m m'->R_1 (slice a n c) m' []->∃(I:IT),(∃(n:
 Nat),I [int i64 0] [] [] m' n)/\∀(aa:Int)(m':Mem)(al:Nat),True->I [int i64 aa] [] [] m' al->br (decide (aa < (↑n:Int))) (∃(am:Nat),∃(o:Nat),a=some (Addr.mk am o none)/\Zaj aa n/\∃(v:
 Value),∃(ab:Value),∃(ac:Value),∃(ad:Value),∃(ae:Value),∃(af:Value),∃(ag:Value),∃(ah:Value),Mem.reads m' am (o+Int.toNat aa*8) [v,ab,ac,ad,ae,af,ag,ah]/\∀(az:Nat),chk
 (Value.oneCell' v&&(Value.oneCell' ab&&(Value.oneCell' ac&&(Value.oneCell' ad&&(Value.oneCell' ae&&(Value.oneCell' af&&(Value.oneCell' ag&&(Value.oneCell' ah&&true)))))))) (∃(f:Fx),∃(R:RT),R=f
 4 [agg (Array.mk [v,ab,ac,ad,ae,af,ag,ah])] m'/\CX Try.prog 62 (Array.mk [agg (Array.mk [v,ab,ac,ad,ae,af,ag,ah])]) m' [] R/\Zar (shT) R/\∀(an ao ap aq ar au av:Int)(aw:Option Addr)(ax ay:Nat)
 (ai:Mem),Mem.le m' ai->R (agg (Array.mk [int u8 an,int u64 ao,int u64 ap,int u64 aq,int u64 ar,int i64 au,int i64 av,slice aw ax ay])) ai []->∃(aj:Nat),∃(o:Nat),a=some (Addr.mk aj o none)/\Zaj
 aa n/\∀(M:Mem),Mem.le m' M->Mem.le ai M->slice a n c=slice (some (Addr.mk aj 0 none)) n c/\o+Int.toNat aa*8+8<=n*8/\[some (Box.mk ak [int u8 0,int u64 0,int u64 0,int u64 0,int u64 0,int i64 0,
 int i64 0,slice none 0 0] 29 8 false true),some (Box.mk b [int u8 aG,int u64 aD,int u64 aI,int u64 aJ,int u64 aK,int i64 aE,int i64 aH,slice a n c] 29 8 false true)]=[some (Box.mk ak [int u8 0,
 int u64 0,int u64 0,int u64 0,int u64 0,int i64 0,int i64 0,slice none 0 0] 29 8 false true),some (Box.mk b [int u8 aG,int u64 aD,int u64 aI,int u64 aJ,int u64 aK,int i64 aE,int i64 aH,slice
 a n c] 29 8 false true)]/\[some (Tok.mk (slice a n c) 8)]=[some (Tok.mk (slice a n c) 8)]/\∃(n':Nat),n' < al/\I [int i64 (IntKind.wrap i64 (aa+(1:Int)))] [] [] (Mem.upd M aj (o+Int.toNat aa*8) [int u8
 an,int u64 ao,int u64 ap,int u64 aq,int u64 ar,int i64 au,int i64 av,slice aw ax ay]) n')) (∃(m'':Mem),Mem.le m m''/\Mem.le m'' m'/\R (agg (Array.mk [int u8 aG,int u64 aD,int u64 aI,int u64 aJ,
 int u64 aK,int i64 aE,int i64 aH,slice a n c])) m'' [])
theorem ZnJ(aG aD aI aJ aK aE aH:Int)(aB:Option Addr)(aA aC:Nat)(m:Mem)(R:RT)(h:Zi1 aG aD aI aJ aK aE aH aB aA aC m R):CX Try.prog 62 #[.agg #[.int .u8 aG,.int .u64 aD,.int .u64 aI,.int .u64 aJ,.int .u64 aK,.int .i64 aE,.int .i64 aH,.slice aB aA aC]] m [] R:=
 Zah (E:=ZpZ) Zay mix Try.func62 [.v (.agg #[.int .u8 aG,.int .u64 aD,.int .u64 aI,.int .u64 aJ,.int .u64 aK,.int .i64 aE,.int .i64 aH,.slice aB aA aC])] [] (by kernel_rfl) (Eq.mp (by kernel_rfl) h)
noncomputable def Zcb:Env:={ EB with
 tokOf:=(λi=>bif Nat.beq i 2 then 7 else bif Nat.beq i 7 then 7 else 0)
 tokC:=(λi=>bif Nat.beq i 5 then some (7,8)else none)
 thaw:=true }
def Zbh(p0a:Option Addr)(p0n p0c:Nat)(m:Mem)(R:RT):Prop:=
 br (Option.isNone p0a) (slice none 0 0=slice none 0 0/\R (slice none 0 0) m []) (((0:Int)=(0:Int)/\(0:Int)<=(0:Int)/\(0:Int)*(↑(80:Nat):Int)<=(281474976710656:Int)/\(0:Int) <=
 (9223372036854775807:Int))/\∀(b:Nat),Mem.free m b->(Tok.mk (slice (some (Addr.mk b 0 none)) 0 (Int.toNat (0:Int))) 8=Tok.mk (slice (some (Addr.mk b 0 none)) 0 (Int.toNat (0:Int))) 8\/slice (some (Addr.mk
 b 0 none)) 0 (Int.toNat (0:Int))=slice none 0 0\/Int.toNat (0:Int) < 0+p0n)/\∃(xs:List Value),∃(ys:List Value),List.length xs=0*8/\List.length ys=p0n*8/\rowRd m (some (Addr.mk b 0 none)) xs/\
 rowRd m p0a ys/\(∀(u:Value),u∈ys->Value.oneCell' u=true)/\(0+p0n)*80<=140737488355328/\0+p0n<=9223372036854775807/\∀(a':Option Addr)(c':Nat)(m':Mem),Mem.le m m'->rowRd m' a' (List.append
 xs ys)->TokFact m (some (Addr.mk b 0 none)) a' (0+p0n) c'->some (Tok.mk (slice a' (0+p0n) c') 8)=some (Tok.mk (slice a' (0+p0n) c') 8)/\R (slice a' (0+p0n) c') m' [])
theorem ZbY(p0a:Option Addr)(p0n p0c:Nat)(m:Mem)(R:RT)(h:Zbh p0a p0n p0c m R):CXT Try.prog 25 #[.slice p0a p0n p0c] m 8 R:=
 Zjm (E:=Zcb) Zay mix Try.func25 [.v (.slice p0a p0n p0c)] (by kernel_rfl) (Eq.mp (by kernel_rfl) h)
end Go.Proofs.Ytgclajkldphoaaa
namespace Go.Proofs.Ytgclajkldphoaaa
open Go Go.Eng Go.Rx Go.Proofs Go.RowKit
set_option maxRecDepth 100000
theorem ZA7(l:List T):∀u∈Rx.ZcF l,u.oneCell'=true:=by
 intro u hu
 simp only[Rx.ZcF,List.mem_flatten,List.mem_map]at hu
 obtain⟨_,⟨t,_,rfl⟩,h⟩:=hu
 simp only[T.cs,T.sl,List.mem_cons,List.not_mem_nil,or_false]at h
 rcases h with rfl|rfl|rfl|rfl|rfl|rfl|rfl|rfl <;> rfl
theorem ZnK(a:Option Addr)(c:Nat)(l:List T)(m:Mem)(h:rowRd m a (Rx.ZcF l))(hl:l.length<=1000000000000):CXT Try.prog 25 #[.slice a l.length c] m 8 (λv m' _=>∃a' c',v=.slice a' l.length c'/\rowRd m' a' (Rx.ZcF l)/\l.length<=c'/\(l.length=0\/∃b,a'=some ⟨b,0,none⟩/\m.free b)):=by
 apply ZbY
 unfold Zbh
 have bM:=Zan l
 refine Zab (λha=>?_) (λha=>⟨⟨rfl,Int.le_refl _,by decide,by decide⟩,λb hf=>⟨.inl rfl,[],Rx.ZcF l,rfl,bM,.inl rfl,h,ZA7 l,by omega,by omega,λa' c' m' hm bG xJ=>⟨rfl,?_⟩⟩⟩)
 ·obtain rfl:a=none:=by simpa using ha
  have h0:l=[]:=by
   rcases h with h|⟨_,_,h,_⟩
   ·rw[h]at bM;exact List.eq_nil_of_length_eq_zero (by simp at bM;omega)
   ·cases h
  subst h0
  exact⟨rfl,none,0,rfl,.inl rfl,Nat.le_refl _,.inl rfl⟩
 ·simp only[Nat.zero_add]at xJ ⊢
  refine⟨a',c',rfl,bG,xJ.1,?_⟩
  rcases(xJ.old (λ_ _ e=>by cases e;rfl)).2 with h1|⟨b',h1,h2|h2⟩
  ·subst h1
   left
   rcases bG with h3|⟨_,_,h3,_⟩
   ·have h4:(Rx.ZcF l).length=0:=congrArg List.length h3
    omega
   ·cases h3
  ·right;rw[<-h2];exact⟨b,rfl,hf⟩
  ·exact .inr ⟨b',h1,h2⟩
theorem Zwn{m:Mem}{b:Nat}{ts r:List T}{x t:T}(h:rowRd m (some ⟨b,0,none⟩) (Rx.ZcF (ts++x::r))):rowRd (m.upd b (0+ts.length*8) t.cs) (some ⟨b,0,none⟩) (Rx.ZcF (ts++t::r)):=by
 rcases h with h|⟨b',o',ha,h⟩
 ·have hl:(Rx.ZcF (ts++x::r)).length=0:=by rw[h];rfl
  rw[Zan,List.length_append,List.length_cons]at hl
  omega
 cases ha
 have e:∀y:T,Rx.ZcF (ts++y::r)=Rx.ZcF ts++(y.cs++Rx.ZcF r):=λy=>by simp[Rx.ZcF]
 have h8:∀y:T,y.cs.length=8:=λ_=>rfl
 refine .inr ⟨b,0,rfl,λj v hj=>?_⟩
 rw[e]at hj
 unfold Mem.upd;try dsimp only
 rw[Nat.zero_add,Nat.zero_add,h8]
 rcases Nat.lt_or_ge j (ts.length*8)with bF|cP
 ·rw[if_neg (by omega)]
  rw[List.getElem?_append_left (by rw[Zan];exact bF)]at hj
  have:=h j v (by rw[e,List.getElem?_append_left (by rw[Zan];exact bF)];exact hj)
  rwa [Nat.zero_add]at this
 ·rw[List.getElem?_append_right (by rw[Zan];exact cP),Zan]at hj
  rcases Nat.lt_or_ge j (ts.length*8+8)with bF|rO
  ·rw[if_pos ⟨rfl,cP,bF⟩]
   rw[List.getElem?_append_left (by rw[h8];omega)]at hj
   exact hj
  ·rw[if_neg (by omega)]
   rw[List.getElem?_append_right (by rw[h8];omega),h8]at hj
   have:=h j v (by
    rw[e,List.getElem?_append_right (by rw[Zan];exact cP),Zan,List.getElem?_append_right (by rw[h8];omega),h8];exact hj)
   rwa [Nat.zero_add]at this
theorem Zwo{m m':Mem}(h:m.le m'){b:Nat}(hf:m'.free b):m.free b:=λo=>by
 cases he:m b o with
 | none=>rfl
 | some v=>have:=h _ _ _ he;rw[hf o]at this;cases this
def NewT(m:Mem)(t:T):Prop:=∀x∈t.nodes,x.subs=[]\/∃b,x.a=some ⟨b,0,none⟩/\m.free b
theorem NewT.less{m m':Mem}{t:T}(hn:NewT m' t)(h:m.le m'):NewT m t:=λx hx=>(hn x hx).imp id λ⟨b,e,hf⟩=>⟨b,e,Zwo h hf⟩
theorem Zt8{m:Mem}{k s0 s1 s2 s3 mn mx:Int}{a:Option Addr}{c:Nat}{l:List T}(h:l=[]\/∃b,a=some ⟨b,0,none⟩/\m.free b)(hl:∀x∈l,NewT m x):NewT m (.node k s0 s1 s2 s3 mn mx a c l):=by
 intro x hx
 simp only[T.nodes,List.mem_cons]at hx
 rcases hx with rfl|hx
 ·exact h
 ·have:∀l:List T,(∀x∈l,NewT m x)->∀x∈Zak l,x.subs=[]\/∃b,x.a=some ⟨b,0,none⟩/\m.free b:=by
   intro l
   induction l with
   | nil=>intro _ x hx;simp[Zak]at hx
   | cons y l ih=>
    intro h x hx
    simp only[Zak,List.mem_append]at hx
    rcases hx with hx|hx
    ·exact h y (by simp) x hx
    ·exact ih (λz hz=>h z (by simp[hz])) x hx
  exact this l hl x hx
theorem ZsI{m:Mem}{t:T}(h:t.subs=[]):NewT m t:=by
 intro x hx
 rw[Zbk,h]at hx
 simp[Zak]at hx
 subst hx;exact .inl h
set_option maxHeartbeats 800000 in
theorem ZmN(t:T)(m:Mem)(hr:Rep m t)(hz:t.nodes.length<=10000):CX Try.prog 62 #[t.v] m [] (Zcu λt'=>t'.er=t.er/\(t'.caps/\NewT m t')):=by
 have bW:szL t.subs<=10000:=by rw[ZrV]at hz;omega
 have iQ:t.subs.length<=10000:=Nat.le_trans (Zo0 _) bW
 apply ZnJ
 unfold Zi1
 intro b b1
 refine⟨_,ZnK t.a t.c t.subs m (Zcg hr.subs) (by omega),(λv _ _ ⟨a,c,e,_⟩=>by rw[e];rfl),?_⟩
 rintro a n c m1 bH ⟨a',c',hv,bG,iL,bQ⟩
 simp only[Value.slice.injEq]at hv
 obtain⟨rfl,rfl,rfl⟩:=hv
 have bY:∀x∈t.subs,Rep m x:=Zex hr.subs
 refine⟨λxs css tvs m' q=>∃(k:Nat)(L:List T)(mb:Mem),k<=t.subs.length/\xs=[.int .i64 k]/\q=t.subs.length - k/\L.length=k/\L.map T.er=(t.subs.take k).map T.er/\m.le mb/\mb.le m'/\(t.subs.length=0\/∃b,a=some ⟨b,0,none⟩/\mb.free b)/\(∀x∈L,Rep mb x/\(x.caps/\NewT m x))/\(t.subs.length=0\/∃b,a=some ⟨b,0,none⟩/\m.free b)/\rowRd m' a (Rx.ZcF (L++t.subs.drop k)),⟨_,0,[],m,by omega,rfl,rfl,rfl,rfl,Mem.le_refl _,bH,bQ,by simp,bQ,bG⟩,?_⟩
 rintro z m2 q _ ⟨k,L,mb,hk,cJ,hq,vq,xK,jJ,r6,eP,qK,cB,kC⟩
 obtain rfl:z=k:=by simpa using cJ
 refine Zab (λbF=>?_) (λcP=>?_)
 ·have bI:k < t.subs.length:=by have:=of_decide_eq_true bF;omega
  obtain⟨x,hx⟩:=ZdP bI
  have eC:=bY x (List.mem_of_getElem? hx)
  have rB:x.nodes.length<=10000:=by
   obtain⟨h1,h2⟩:=List.getElem?_eq_some_iff.1 hx
   have:=congrArg List.length (Zew hx)
   unfold szL at bW
   simp only[List.length_append]at this
   omega
  have lK:t.subs.drop k=x::t.subs.drop (k+1):=by
   rw[List.drop_eq_getElem_cons bI,(List.getElem?_eq_some_iff.1 hx).2]
  rcases eP with eP|⟨bk,rfl,dD⟩
  ·omega
  obtain⟨b0,o0,pW,cK⟩:=Zdq kC (i:=k) (t:=x) (by rw[List.getElem?_append_right (by omega),vq,Nat.sub_self,lK];rfl)
  cases pW
  have hw:IntKind.i64.wrap ((k:Int)+1)=((k+1:Nat):Int):=by rw[ZaO (by omega) (by omega)];rfl
  simp only[hw,Int.toNat_natCast]
  have iK:CX Try.prog 62 #[x.v] m2 [] (Zqd mb m2 λt'=>t'.er=x.er/\(t'.caps/\NewT mb t')):=(ZmN x mb (Rep.mono jJ x eC) rB).frame2 r6
  refine⟨bk,0,rfl,⟨by omega,by omega⟩,_,_,_,_,_,_,_,_,cK,λb3=>Zaa rfl ⟨λ_ _ _=>Zqd mb m2 λt'=>t'.er=x.er/\(t'.caps/\NewT mb t'),Zqd mb m2 λt'=>t'.er=x.er/\(t'.caps/\NewT mb t'),rfl,iK,Zel,Zkx λt' m0 m3 bX h0 mD eH hr' ht'=>⟨bk,0,rfl,⟨by omega,by omega⟩,λM dW gU=>⟨rfl,by omega,by trivial,by trivial,t.subs.length - (k+1),by omega,k+1,L++[t'],m0,by omega,rfl,rfl,by simp[vq],?_,mLt jJ h0,?_,.inr ⟨bk,rfl,?_⟩,?_,cB,?_⟩⟩⟩⟩
  ·rw[List.map_append,xK,Zcf hx,List.map_append]
   simp[ht'.1]
  ·refine Mem.le_upd (mLt mD gU) ?_ _ _
   intro o'
   have hc:m2 bk (0+k*8+0)=some (.int .u8 x.k):=cK 0 _ rfl
   rw[eH _ _ _ hc o'];exact dD o'
  ·intro o'
   have hc:m2 bk (0+k*8+0)=some (.int .u8 x.k):=cK 0 _ rfl
   rw[eH _ _ _ hc o'];exact dD o'
  ·intro y hy
   rcases List.mem_append.1 hy with hy|hy
   ·exact⟨Rep.mono h0 y (qK y hy).1,(qK y hy).2⟩
   ·simp at hy;subst hy;exact⟨hr',ht'.2.1,ht'.2.2.less jJ⟩
  ·rw[lK]at kC
   have h5:=Zwn (t:=t') (kC.mono dW)
   rw[vq]at h5
   rw[List.append_assoc]
   exact h5
 ·have dM:k=t.subs.length:=by have:=of_decide_eq_false cP;omega
  subst dM
  rw[List.drop_length,List.append_nil]at kC
  rw[List.take_length]at xK
  have cA:=Zvz hr
  refine⟨m2,mLt jJ r6,Mem.le_refl _,.node t.k t.s0 t.s1 t.s2 t.s3 t.mn t.mx a c L,?_,?_,?_⟩
  ·simp only[T.v,T.k,T.s0,T.s1,T.s2,T.s3,T.mn,T.mx,T.a,T.c,T.subs,vq]
  ·have:=Zmv kC (λx hx=>Rep.mono r6 x (qK x hx).1) (by omega)
   exact Zy6 this.1 this.2 cA
  ·have:=ZxH (k:=t.k) (s0:=t.s0) (s1:=t.s1) (s2:=t.s2) (s3:=t.s3) (mn:=t.mn) (mx:=t.mx) (a:=a) (a':=t.a) (c:=c) (c':=t.c) xK
   refine⟨this.trans ?_,Zpc (by omega) λx hx=>(qK x hx).2.1,Zt8 (cB.imp (λh=>List.eq_nil_of_length_eq_zero (by omega)) id) λx hx=>(qK x hx).2.2⟩
   cases t;rfl
termination_by SizeOf.sizeOf t
decreasing_by exact ZoP (List.mem_of_getElem? hx)
theorem ZqT(m:Mem):Rep m T0:=Zbo (k:=0) (mn:=0) (mx:=0) (a:=none) (c:=0) (l:=[]) ⟨by simp,.inl rfl⟩ (by omega) (by omega) (by omega)
theorem ZtB(m:Mem):Rep m T1:=Zbo (k:=1) (mn:=0) (mx:=0) (a:=none) (c:=0) (l:=[]) ⟨by simp,.inl rfl⟩ (by omega) (by omega) (by omega)
theorem Zyq(t:T)(m:Mem)(hr:Rep m t)(hc:t.clean=true):CX Try.prog 60 #[t.v] m [] (Ret (.bool true)):=by
 apply Zro
 unfold ZmL
 intro b m1 bH _
 refine⟨true,Zas (Zst t T0 m1 (hr.mono bH) (ZqT _)) λm2 bL=>Zab (λ_=>⟨by trivial,rfl⟩) (λ_=>?_),Zag bH rfl⟩
 have h:=ZlB t m2 (hr.mono (mLt bH bL))
 rw[hc]at h
 exact Zas h λm3 bX=>⟨by trivial,rfl⟩
theorem ZhW(t:T)(m:Mem)(hr:Rep m t):CX Try.prog 47 #[t.v] m [] (Zcu λt'=>Zzf t t'/\NewT m t'):=by
 apply ZlR
 unfold ZhU
 intro b m1 bH _ b1
 refine Zas (ZlB t m1 (hr.mono bH)) λm2 bL=>Zab (λh=>?_) (λh=>?_)
 ·exact⟨m2,mLt bH bL,Mem.le_refl _,T0,rfl,ZqT _,⟨.inr ⟨by simpa using h,rfl⟩,ZxI⟩,ZsI rfl⟩
 ·have hc:t.clean=true:=by simpa using h
  refine Zav (ZmN t m2 (hr.mono (mLt bH bL)) (Zko hc)) ZaL (Zco λt' m3 bX hr' ht'=>?_)
  exact⟨m3,mLt bH (mLt bL bX),Mem.le_refl _,t',rfl,hr',⟨.inl ⟨hc,ht'.1⟩,ht'.2.1⟩,ht'.2.2.less (mLt bH bL)⟩
theorem Zvb(k w:Int)(L:List T)(a:Option Addr)(c:Nat)(m:Mem)(hL:RepL m a L)(hl:L.length<=1000)(hs:∀x∈L,x.subs.length<=10000):CX Try.prog 68 #[.int .u8 k,.int .u8 w,.slice a L.length c] m [] (λv m' _=>∃a' c',v=.slice a' (Zek k w L).length c'/\RepL m' a' (Zek k w L)):=by
 apply Zrp
 unfold ZmM
 have bG:=Zcg hL
 have bY:=Zex hL
 have nJ:∀i,(Zek k w (L.take i)).length<=10001000:=λi=>by
  have:=ZiA k w (L.take i) λx hx=>hs x (List.mem_of_mem_take hx)
  have h2:(L.take i).length<=1000:=by rw[List.length_take];omega
  omega
 refine⟨λxs css tvs m' q=>∃(i:Nat)(a:Option Addr)(c:Nat),i<=L.length/\xs=[.slice a (Zek k w (L.take i)).length c,.int .i64 i]/\tvs=[.slice a (Zek k w (L.take i)).length c]/\rowRd m' a (Rx.ZcF (Zek k w (L.take i)))/\q=L.length - i,⟨_,0,none,0,by omega,rfl,rfl,.inl rfl,rfl⟩,?_⟩
 rintro a1 n1 c1 z a2 n2 c2 m1 q bH ⟨i,a',c',hi,cJ,fN,gN,hq⟩
 simp only[List.cons.injEq,Value.slice.injEq,Value.int.injEq,true_and,and_true]at cJ fN
 obtain⟨⟨rfl,rfl,rfl⟩,rfl⟩:=cJ
 obtain⟨rfl,rfl,rfl⟩:=fN
 refine Zab (λbF=>?_) (λcP=>?_)
 ·have bI:i < L.length:=by have:=of_decide_eq_true bF;omega
  obtain⟨x,hx⟩:=ZdP bI
  obtain⟨b0,o0,pW,cK⟩:=Zdq (bG.mono bH) hx
  have eC:=(bY x (List.mem_of_getElem? hx)).mono bH
  have cJ:=hs x (List.mem_of_getElem? hx)
  have hw:IntKind.i64.wrap ((i:Int)+1)=((i+1:Nat):Int):=by rw[ZaO (by omega) (by omega)];rfl
  have cG:=ZqX k w (L.take i) x
  rw[<-Zcf hx]at cG
  have mM:=nJ i
  simp only[hw,Int.toNat_natCast]
  refine⟨b0,o0,pW,⟨by omega,by omega⟩,_,_,_,_,_,_,_,_,cK,λb3=>Zaa rfl (Zaa rfl (Zab (λhk=>?_) (λhk=>Zaa rfl (Zab (λhw'=>?_) (λhw' b4 xc=>?_)))))⟩
  ·have hk':x.k=k:=by simpa[RowKit.intOf]using hk
   have kP:Zkn k w x=x.subs:=by unfold Zkn;rw[if_pos hk']
   rw[kP]at cG
   refine Zaa rfl ⟨.inl trivial,Rx.ZcF (Zek k w (L.take i)),Rx.ZcF x.subs,Zan _,Zan _,gN,Zcg eC.subs,ZA7 _,?_,?_,λa5 c5 m5 c9 oC=>⟨L.length - (i+1),by omega,i+1,a5,c5,by omega,?_,?_,?_,rfl⟩⟩
   ·simp only[T.sl,slN];omega
   ·simp only[T.sl,slN];omega
   ·rw[cG,List.length_append];rfl
   ·rw[cG,List.length_append];rfl
   ·rw[cG,ZaP];exact oC
  ·have hk':¬x.k=k:=by simpa[RowKit.intOf]using hk
   have dT:x.k=w:=by simpa[RowKit.intOf]using hw'
   have kP:Zkn k w x=[]:=by unfold Zkn;rw[if_neg hk',if_pos dT]
   rw[kP,List.append_nil]at cG
   exact⟨L.length - (i+1),by omega,i+1,a2,c2,by omega,by rw[cG],by rw[cG],by rw[cG];exact gN,rfl⟩
  ·have hk':¬x.k=k:=by simpa[RowKit.intOf]using hk
   have dT:¬x.k=w:=by simpa[RowKit.intOf]using hw'
   have kP:Zkn k w x=[x]:=by unfold Zkn;rw[if_neg hk',if_neg dT]
   rw[kP]at cG
   refine⟨.inl trivial,Rx.ZcF (Zek k w (L.take i)),x.cs,Zan _,rfl,gN.mono (Mem.le_add xc _),.inr ⟨b4,0,rfl,λj v hj=>by rw[Nat.zero_add,Mem.add_same];exact hj⟩,by have:=ZA7 [x];simpa[Rx.ZcF]using this,by omega,by omega,λa5 c5 m5 c9 oC=>⟨L.length - (i+1),by omega,i+1,a5,c5,by omega,?_,?_,?_,rfl⟩⟩
   ·rw[cG,List.length_append];rfl
   ·rw[cG,List.length_append];rfl
   ·rw[cG,ZoY];exact oC
 ·have wB:i=L.length:=by have:=of_decide_eq_false cP;omega
  subst wB
  rw[List.take_length]at gN ⊢
  have mM:=nJ L.length
  rw[List.take_length]at mM
  refine⟨m1,bH,Mem.le_refl _,a2,c2,rfl,Zmv gN (λt ht=>?_) (by omega)⟩
  simp only[Zek,List.mem_flatten,List.mem_map]at ht
  obtain⟨_,⟨x,hx,rfl⟩,ht⟩:=ht
  have eC:=(bY x hx).mono bH
  unfold Zkn at ht
  split at ht
  ·exact Zex eC.subs t ht
  ·split at ht
   ·simp at ht
   ·simp at ht;subst ht;exact eC
theorem ZmO(k:Int)(hk:k=3\/k=4)(a:Option Addr)(c:Nat)(l:List T)(u:T)(m:Mem)(hl:RepL m a l)(hu:Rep m u)(iF:l.length<=1000000000)(q8:u.subs=[]):CX Try.prog 67 #[.int .u8 k,.slice a l.length c,u.v] m [] (Zcu λt'=>ZzL k a c u l t'/\NewT m t'):=by
 apply ZnH
 unfold Zi0
 intro b m1 bH _ b1
 have bG:=Zcg (hl.mono bH)
 match l,hl,iF,bG with
 | [],hl,iF,bG=>exact Zyw rfl ⟨m1,bH,Mem.le_refl _,u,rfl,hu.mono bH,rfl,ZsI q8⟩
 | [x],hl,iF,bG=>
  refine ZpA rfl (Zyw rfl ?_)
  obtain⟨b0,o0,pW,cK⟩:=Zdq bG (i:=0) (t:=x) rfl
  refine⟨b0,o0,pW,⟨by omega,by simp⟩,_,_,_,_,_,_,_,_,cK,Zav (ZhW x m1 ((Zex hl x (by simp)).mono bH)) ZaL (Zco λt' m2 bL hr' ht'=>?_)⟩
  exact⟨m2,mLt bH bL,Mem.le_refl _,t',rfl,hr',ht'.1,ht'.2.less bH⟩
 | x::y::l,hl,iF,bG=>
  refine ZpA (by simp;omega) (ZpA (by simp;omega) ?_)
  have lT:Rep m1 (Zap k 0 0 a c (x::y::l)):=Zbo (hl.mono bH) (by omega) (by omega) (by omega)
  refine Zav (ZhW (Zap k 0 0 a c (x::y::l)) m1 lT) ZaL (Zco λt' m2 bL hr' ht'=>?_)
  exact⟨m2,mLt bH bL,Mem.le_refl _,t',rfl,hr',ht'.1,ht'.2.less bH⟩
theorem Zhb{t:T}(h:t.clean=true):t.subs.length<=10000:=by
 have h1:=Zko h
 rw[ZrV]at h1
 have:=Zo0 t.subs
 omega
theorem Zzt(L:List T)(a:Option Addr)(c:Nat)(m:Mem)(hL:RepL m a L)(hl:L.length<=1000)(hc:∀x∈L,x.clean=true):CX Try.prog 32 #[.slice a L.length c] m [] (Zcu λt'=>(∃a c,ZzL 4 a c T0 (Zek 4 0 L) t')/\NewT m t'):=by
 apply Zwl
 unfold ZsH
 intro b
 have bG:=Zcg hL
 have bY:=Zex hL
 refine⟨λxs css tvs m' q=>∃i:Nat,i<=L.length/\xs=[.int .i64 i]/\q=L.length - i,⟨_,0,by omega,rfl,rfl⟩,?_⟩
 rintro z cs m1 q bH ⟨i,hi,cJ,hq⟩
 obtain rfl:z=i:=by simpa using cJ
 refine Zab (λbF=>?_) (λcP=>?_)
 ·have bI:i < L.length:=by have:=of_decide_eq_true bF;omega
  obtain⟨x,hx⟩:=ZdP bI
  obtain⟨b0,o0,pW,cK⟩:=Zdq (bG.mono bH) hx
  have eC:=(bY x (List.mem_of_getElem? hx)).mono bH
  have hw:IntKind.i64.wrap ((i:Int)+1)=((i+1:Nat):Int):=by rw[ZaO (by omega) (by omega)];rfl
  simp only[hw,Int.toNat_natCast]
  exact⟨b0,o0,pW,⟨by omega,by omega⟩,_,_,_,_,_,_,_,_,cK,λb3=>Zaa rfl (Zas (Zyq x m1 eC (hc x (List.mem_of_getElem? hx))) λm2 bL=>ZpA rfl ⟨by trivial,L.length - (i+1),by omega,i+1,by omega,rfl,rfl⟩)⟩
 ·refine Zav (Zvb 4 0 L a c m1 (hL.mono bH) hl λx hx=>Zhb (hc x hx)) (λv _ _ ⟨a,c,e,_⟩=>by rw[e];rfl) ?_
  rintro a2 n2 c2 m2 bL ⟨a',c',hv,hF⟩
  simp only[Value.slice.injEq]at hv
  obtain⟨rfl,rfl,rfl⟩:=hv
  have nJ:=ZiA 4 0 L λx hx=>Zhb (hc x hx)
  refine Zav (ZmO 4 (.inr rfl) a2 c2 (Zek 4 0 L) T0 m2 hF (ZqT _) (by omega) rfl) ZaL (Zco λt' m3 bX hr' ht'=>?_)
  exact⟨m3,mLt bH (mLt bL bX),Mem.le_refl _,t',rfl,hr',⟨a2,c2,ht'.1⟩,ht'.2.less (mLt bH bL)⟩
theorem ZAU(L:List T)(a:Option Addr)(c:Nat)(m:Mem)(hL:RepL m a L)(hl:L.length<=1000)(hc:∀x∈L,x.clean=true):CX Try.prog 32 #[.slice a L.length c] m [] (Zcu λt'=>∃a c,ZzL 4 a c T0 (Zek 4 0 L) t'):=
 (Zzt L a c m hL hl hc).mono λ_ _ _ _ ⟨t',e,hr',h⟩=>⟨t',e,hr',h.1⟩
theorem Zyr(L:List T)(a:Option Addr)(c:Nat)(m:Mem)(hL:RepL m a L)(hl:L.length<=1000)(hc:∀x∈L,x.clean=true):CX Try.prog 34 #[.slice a L.length c] m [] (Zcu λt'=>(∃a c,ZzL 3 a c T1 (Zek 3 1 L) t')/\NewT m t'):=by
 apply Zt7
 unfold ZpY
 intro b
 have bG:=Zcg hL
 have bY:=Zex hL
 refine⟨λxs css tvs m' q=>∃i:Nat,i<=L.length/\xs=[.int .i64 i]/\q=L.length - i,⟨_,0,by omega,rfl,rfl⟩,?_⟩
 rintro z cs m1 q bH ⟨i,hi,cJ,hq⟩
 obtain rfl:z=i:=by simpa using cJ
 refine Zab (λbF=>?_) (λcP=>?_)
 ·have bI:i < L.length:=by have:=of_decide_eq_true bF;omega
  obtain⟨x,hx⟩:=ZdP bI
  obtain⟨b0,o0,pW,cK⟩:=Zdq (bG.mono bH) hx
  have eC:=(bY x (List.mem_of_getElem? hx)).mono bH
  have zj:=hc x (List.mem_of_getElem? hx)
  have hk:=ZxJ zj
  have eJ:=ZlB x m1 eC
  rw[zj]at eJ
  have hw:IntKind.i64.wrap ((i:Int)+1)=((i+1:Nat):Int):=by rw[ZaO (by omega) (by omega)];rfl
  simp only[hw,Int.toNat_natCast]
  refine⟨b0,o0,pW,⟨by omega,by omega⟩,_,_,_,_,_,_,_,_,cK,λb3=>Zaa rfl ⟨false,?_,ZpA rfl ⟨by trivial,L.length - (i+1),by omega,i+1,by omega,rfl,rfl⟩⟩⟩
  refine Zaa rfl (ZpA (by simpa[RowKit.intOf]using hk) ?_)
  exact Zas eJ λm2 bL=>⟨by trivial,rfl⟩
 ·refine Zav (Zvb 3 1 L a c m1 (hL.mono bH) hl λx hx=>Zhb (hc x hx)) (λv _ _ ⟨a,c,e,_⟩=>by rw[e];rfl) ?_
  rintro a2 n2 c2 m2 bL ⟨a',c',hv,hF⟩
  simp only[Value.slice.injEq]at hv
  obtain⟨rfl,rfl,rfl⟩:=hv
  have nJ:=ZiA 3 1 L λx hx=>Zhb (hc x hx)
  refine Zav (ZmO 3 (.inl rfl) a2 c2 (Zek 3 1 L) T1 m2 hF (ZtB _) (by omega) rfl) ZaL (Zco λt' m3 bX hr' ht'=>?_)
  exact⟨m3,mLt bH (mLt bL bX),Mem.le_refl _,t',rfl,hr',⟨a2,c2,ht'.1⟩,ht'.2.less (mLt bH bL)⟩
theorem Zzu(L:List T)(a:Option Addr)(c:Nat)(m:Mem)(hL:RepL m a L)(hl:L.length<=1000)(hc:∀x∈L,x.clean=true):CX Try.prog 34 #[.slice a L.length c] m [] (Zcu λt'=>∃a c,ZzL 3 a c T1 (Zek 3 1 L) t'):=
 (Zyr L a c m hL hl hc).mono λ_ _ _ _ ⟨t',e,hr',h⟩=>⟨t',e,hr',h.1⟩
theorem Zp0(t:T)(m:Mem)(hr:Rep m t):CX Try.prog 18 #[t.v] m [] (Zcu λt'=>(∃a c,Zzf (Zap 6 0 0 a c [t]) t')/\NewT m t'):=by
 apply ZlS
 unfold ZhV
 intro b m1 bH _ b1 b2 mB
 have cF:=mLt bH (Mem.le_add mB t.cs)
 have hL:RepL (m1.add b2 t.cs) (some ⟨b2,0,none⟩) [t]:=Zjo (λj v hj=>by rw[Nat.zero_add,Mem.add_same];exact hj) (hr.mono cF)
 have lT:Rep (m1.add b2 t.cs) (Zap 6 0 0 (some ⟨b2,0,none⟩) 1 [t]):=Zbo hL (by omega) (by omega) (by omega)
 refine Zav (ZhW (Zap 6 0 0 (some ⟨b2,0,none⟩) 1 [t]) (m1.add b2 t.cs) lT) ZaL (Zco λt' m2 bL hr' ht'=>?_)
 exact⟨m2,mLt cF bL,Mem.le_refl _,t',rfl,hr',⟨_,_,ht'.1⟩,ht'.2.less cF⟩
theorem Zb8(t:T)(m:Mem)(hr:Rep m t):CX Try.prog 18 #[t.v] m [] (Zcu λt'=>∃a c,Zzf (Zap 6 0 0 a c [t]) t'):=
 (Zp0 t m hr).mono λ_ _ _ _ ⟨t',e,hr',h⟩=>⟨t',e,hr',h.1⟩
theorem ZmP{m:Mem}{a:Option Addr}{s:List Nat}(h:Byt m a s)(n:Nat):Byt m a (s.take n):=by
 refine⟨?_,λc hc=>h.2 c (List.mem_of_mem_take hc)⟩
 rcases h.1 with hs|⟨b,o,h1,h2⟩
 ·subst hs;left;simp
 ·refine .inr ⟨b,o,h1,λj v hj=>?_⟩
  have bF:=(List.getElem?_eq_some_iff.1 hj).1
  simp only[List.length_map,List.length_take]at bF
  rw[List.getElem?_map,List.getElem?_take_of_lt (by omega),<-List.getElem?_map]at hj
  exact h2 j v hj
theorem ZlT{t:T}(hc:t.check=0){s:List Nat}(hs:s.length<=512):T.matches t s=true↔s.length∈t.e0 s 0:=by
 have hg:=(Zcs hc).1
 have hw:t.wrong s.length 0=0:=by rw[ZmB hc];unfold ZAm;rw[if_neg (by omega),if_neg (by omega)]
 rw[Zz1 s t hg 0 (by omega) s.length]
 unfold T.matches
 rw[hw,Bool.and_eq_true]
 have:=ZvP hg hs (i:=0) (j:=s.length) (by omega)
 constructor
 ·rintro⟨_,h⟩;exact this.1 h
 ·exact λh=>⟨rfl,this.2 h⟩
theorem Zt9{t:T}(hc:t.check=0)(a:Option Addr)(c:Nat):(Zap 6 0 0 a c [t]).clean=true:=by
 obtain⟨hg,hn⟩:=Zcs hc
 have e:(Zap 6 0 0 a c [t]).nodes=Zap 6 0 0 a c [t]::t.nodes:=by rw[Zbk];simp[Zap,T.subs,Zak]
 unfold T.clean T.light
 rw[e,List.all_cons,Bool.and_eq_true,Bool.and_eq_true]
 refine⟨decide_eq_true (by simp only[List.length_cons];omega),?_,hg⟩
 simp[T.right,Zap,T.k,T.subs,T.mn,T.mx,T.setZ,T.s0,T.s1,T.s2,T.s3]
theorem Zzv{t G:T}(hc:t.check=0)(h:∃a c,Zzf (Zap 6 0 0 a c [t]) G):G.clean=true/\∃a c,G.er=(Zap 6 0 0 a c [t]).er:=by
 obtain⟨a,c,h,_⟩:=h
 rcases h with⟨h1,h2⟩|⟨h1,_⟩
 ·exact⟨by rw[ZvL h2];exact h1,a,c,h2⟩
 ·rw[Zt9 hc]at h1;cases h1
end Go.Proofs.Ytgclajkldphoaaa
namespace Go.Proofs.Ytgclajkldphoaaa
open Go Go.Eng Go.Proofs Go.RowKit
open Go.Value (int slice agg bool string tuple func)
open Go.IntKind (u8 u64 i64)
set_option maxRecDepth 100000
noncomputable def Zhc:Env:=EB
def ZdX(p0 p1:Int)(m:Mem)(R:RT):Prop:=
 (0:Int)<=(32:Int)/\(0:Int)<=(32:Int)/\(0:Int)<=(32:Int)/\(0:Int)<=(32:Int)/\(0:Int)<=(32:Int)/\∃(m'':Mem),Mem.le m m''/\Mem.le m'' m/\R (tuple (Array.mk [int u64 (IntKind.wrap u64
 (IntKind.wrap u64 (IntKind.wrap u64 (Int.fdiv p0 ((2:Int) ^ 32)*Int.fdiv p1 ((2:Int) ^ 32))+Int.fdiv (IntKind.wrap u64 (IntKind.wrap u64 (Int.fdiv p0 ((2:Int) ^ 32)*IntKind.wrap u64 (↑(BitVec.toNat
 (BitVec.ofInt 64 p1&&&BitVec.ofInt 64 (4294967295:Int))):Int))+Int.fdiv (IntKind.wrap u64 (IntKind.wrap u64 (↑(BitVec.toNat (BitVec.ofInt 64 p0&&&BitVec.ofInt 64 (4294967295:Int))):Int)*IntKind.wrap u64
 (↑(BitVec.toNat (BitVec.ofInt 64 p1&&&BitVec.ofInt 64 (4294967295:Int))):Int))) ((2:Int) ^ 32))) ((2:Int) ^ 32))+Int.fdiv (IntKind.wrap u64 (IntKind.wrap u64 (↑(BitVec.toNat (BitVec.ofInt 64 (IntKind.wrap
 u64 (IntKind.wrap u64 (Int.fdiv p0 ((2:Int) ^ 32)*IntKind.wrap u64 (↑(BitVec.toNat (BitVec.ofInt 64 p1&&&BitVec.ofInt 64 (4294967295:Int))):Int))+Int.fdiv (IntKind.wrap u64 (IntKind.wrap u64 (↑(BitVec.toNat
 (BitVec.ofInt 64 p0&&&BitVec.ofInt 64 (4294967295:Int))):Int)*IntKind.wrap u64 (↑(BitVec.toNat (BitVec.ofInt 64 p1&&&BitVec.ofInt 64 (4294967295:Int))):Int))) ((2:Int) ^ 32)))&&&BitVec.ofInt 64
 (4294967295:Int))):Int)+IntKind.wrap u64 (IntKind.wrap u64 (↑(BitVec.toNat (BitVec.ofInt 64 p0&&&BitVec.ofInt 64 (4294967295:Int))):Int)*Int.fdiv p1 ((2:Int) ^ 32)))) ((2:Int) ^ 32))),int u64
 (IntKind.wrap u64 (p0*p1))])) m'' []
theorem Zgt(p0 p1:Int)(m:Mem)(R:RT)(h:ZdX p0 p1 m R):CX Try.prog 85 #[.int .u64 p0,.int .u64 p1] m [] R:=
 Zah (E:=Zhc) Zay mix Try.func85 [.v (.int .u64 p0),.v (.int .u64 p1)] [] (by kernel_rfl) (Eq.mp (by kernel_rfl) h)
noncomputable def Zi2:Env:=EB
def Ze2(p0 p1:Int)(m:Mem)(R:RT):Prop:=
 ∃(R_1:RT),True/\CX Try.prog 85 (Array.mk [int u64 p0,int u64 p1]) m [] R_1/\Zar (Shape.tup [Shape.int u64,Shape.int u64]) R_1/\∀(n n_1:Int)(m':Mem),Mem.le m m'->R_1 (tuple (Array.mk [int u64 n,int u64
 n_1])) m' []->∃(m'':Mem),Mem.le m m''/\Mem.le m'' m'/\R (tuple (Array.mk [int u64 n,int u64 n_1])) m'' []
theorem Zh4(p0 p1:Int)(m:Mem)(R:RT)(h:Ze2 p0 p1 m R):CX Try.prog 58 #[.int .u64 p0,.int .u64 p1] m [] R:=
 Zah (E:=Zi2) Zay mix Try.func58 [.v (.int .u64 p0),.v (.int .u64 p1)] [] (by kernel_rfl) (Eq.mp (by kernel_rfl) h)
noncomputable def ZbC:Env:={ EB with
 loops:=(λi=>bif Nat.beq i 8 then⟨[(8,.int .i64)],[30],[],false⟩ else⟨[],[],[],false⟩)
 joins:=(λi=>bif Nat.beq i 4 then some [(26,.bool)]else none)
 dr:=(λi=>bif Nat.beq i 9 then[⟨0,[],[],none,[],[]⟩,⟨1,[30],[],none,[],[]⟩,⟨2,[],[],none,[],[]⟩,⟨3,[30],[],none,[1,2],[]⟩,⟨4,[30],[],none,[],[]⟩,⟨5,[],[],none,[],[]⟩,⟨6,[30],[],none,[4,5],[]⟩,⟨7,[30],[30],none,[1,2,3,4,5,6],[]⟩,⟨8,[],[],none,[0,1,2,3,4,5,6,7],[]⟩,⟨9,[],[],none,[0,1,2,3,4,5,6,7,8],[]⟩]else[])
 hint:=(λi=>bif Nat.beq i 31 then some 30 else bif Nat.beq i 41 then some 30 else none)
 frz:=[30] }
def Za2(p0a:Option Addr)(p0n p0c:Nat)(p1:Int)(m:Mem)(R:RT):Prop:=
 br (decide (p1 < (0:Int))) False (∃(R_1:RT),True/\CX Try.prog 58 (Array.mk [int u64 (IntKind.wrap u64 (↑p0n:Int)),int u64 (IntKind.wrap u64 p1)]) m [] R_1/\Zar (Shape.tup [Shape.int u64,Shape.int u64]) R_1
 /\ ∀(n n_1:Int)(m':Mem),Mem.le m m'->R_1 (tuple (Array.mk [int u64 n,int u64 n_1])) m' []->∃(b:Bool),br (decide (n > (0:Int))) ([bool true]=[bool b]) ([bool (decide (n_1 > (9223372036854775807:Int)))]
 = [bool b])/\br b False (((0:Int)<=IntKind.wrap i64 n_1/\IntKind.wrap i64 n_1<=IntKind.wrap i64 n_1/\IntKind.wrap i64 n_1*(↑(16:Nat):Int)<=(281474976710656:Int)/\IntKind.wrap i64 n_1 <=
 (9223372036854775807:Int))/\∀(b:Nat),Mem.free m' b->∃(o:Nat),∃(xs:List Value),some (Addr.mk b 0 none)=some (Addr.mk b o none)/\List.length xs=min p0n (Int.toNat (IntKind.wrap i64 n_1))*2/\o +
 List.length xs<=List.length (List.flatten (List.replicate (Int.toNat (IntKind.wrap i64 n_1)) [int i64 0,int i64 0]))/\(∀(u:Value),u∈xs->Value.oneCell' u=true)/\(rowRd m' p0a xs\/∃(o':Nat),p0a=some
 (Addr.mk b o' none)/\∀(i:Nat)(u:Value),List.get?Internal xs i=some u->List.get?Internal (List.flatten (List.replicate (Int.toNat (IntKind.wrap i64 n_1)) [int i64 0,int i64 0])) (o'+i)=some u)/\∃(I:
 IT),(∃(n:Nat),I [int i64 (↑(min p0n (Int.toNat (IntKind.wrap i64 n_1))):Int)] [ZaG (List.flatten (List.replicate (Int.toNat (IntKind.wrap i64 n_1)) [int i64 0,int i64 0])) o xs] [] m' n)/\∀(n:Int) (cs:
 List Value) (m'_1:Mem) (n_2:Nat),Mem.le m' m'_1->I [int i64 n] [cs] [] m'_1 n_2->br (decide (n < (↑(Int.toNat (IntKind.wrap i64 n_1)):Int))) (((0:Int)<=n/\n<=(↑(Int.toNat (IntKind.wrap i64 n_1)):Int))/\
 ((0:Int)<=n/\n<=(↑(Int.toNat (IntKind.wrap i64 n_1)):Int))/\(Mem.free m'_1 b->∃(o:Nat),∃(xs:List Value),ZaC (some (Addr.mk b 0 none)) (Int.toNat n) (Int.toNat (IntKind.wrap i64 n_1)) 2=some
 (Addr.mk b o none)/\List.length xs=min (Int.toNat n - 0) (Int.toNat (IntKind.wrap i64 n_1) - Int.toNat n)*2/\o+List.length xs<=List.length cs/\(∀(u:Value),u∈xs->Value.oneCell' u=true)/\(rowRd m'_1
 (ZaC (some (Addr.mk b 0 none)) 0 (Int.toNat (IntKind.wrap i64 n_1)) 2) xs\/∃(o':Nat),ZaC (some (Addr.mk b 0 none)) 0 (Int.toNat (IntKind.wrap i64 n_1)) 2=some (Addr.mk b o' none)/\∀(i:Nat)(u:Value),
 List.get?Internal xs i=some u->List.get?Internal cs (o'+i)=some u)/\[some (Box.mk b [] 56 (Int.toNat (IntKind.wrap i64 n_1)*2) false true)]=[some (Box.mk b [] 56 (Int.toNat (IntKind.wrap i64 n_1)*2) false
 true)]/\∃(n':Nat),n' < n_2/\I [int i64 (IntKind.wrap i64 (n+(↑(min (Int.toNat n - 0) (Int.toNat (IntKind.wrap i64 n_1) - Int.toNat n)):Int)))] [ZaG cs o xs] [] m'_1 n')) (∃(m'':Mem),Mem.le m m''/\
 Mem.le m'' (Mem.add m'_1 b cs)/\R (slice (some (Addr.mk b 0 none)) (Int.toNat (IntKind.wrap i64 n_1)) (Int.toNat (IntKind.wrap i64 n_1))) m'' [])))
theorem Zbw(p0a:Option Addr)(p0n p0c:Nat)(p1:Int)(m:Mem)(R:RT)(h:Za2 p0a p0n p0c p1 m R):CX Try.prog 31 #[.slice p0a p0n p0c,.int .i64 p1] m [] R:=
 Zah (E:=ZbC) Zay mix Try.func31 [.v (.slice p0a p0n p0c),.v (.int .i64 p1)] [] (by kernel_rfl) (Eq.mp (by kernel_rfl) h)
end Go.Proofs.Ytgclajkldphoaaa