/- Part of the proof: conditions and contracts of functions of this program. No condition of its own. -/
import Derived.Test.YtgclajkldphoaaaGreatPC14K
import Derived.Test.YtgclajkldphoaaaGreatPVSJ
import Derived.Test.YtgclajkldphoaaaGreatPEnv
import Derived.Test.YtgclajkldphoaaaGreatMc
import Derived.Test.YtgclajkldphoaaaGreatPVC
import Derived.Test.YtgclajkldphoaaaGreatMr
import Derived.Test.YtgclajkldphoaaaGreatPC13J
import Derived.Shelf.Sort.Plain
import Derived.Shelf.Slices.In.SortNone
set_option linter.unusedVariables false
set_option linter.unusedSimpArgs false
set_option linter.unusedSectionVars false
namespace Go.Proofs.YtgclajkldphoaaaGreat
open Go Go.Eng Go.Rx Go.Proofs Go.RowKit
set_option maxRecDepth 100000
theorem Zct{m:Mem}{b:Nat}{l:List T}(hf:m.free b)(hr:∀t∈l,Rep m t)(hl:l.length<=1000000000000000):RepL (m.add b (Zcu l)) (some ⟨b,0,none⟩) l:=
 Zmo (.inr ⟨b,0,rfl,λj v hj=>by rw[Nat.zero_add,Mem.add_same];exact hj⟩) (λt ht=>(hr t ht).mono (Mem.le_add hf _)) hl
theorem Zrg{m:Mem}{b:Nat}(s:List Nat)(h:∀c∈s,c < 256):Byt (m.add b (s.map λc:Nat=>Value.int .u8 c)) (some ⟨b,0,none⟩) s:=
 ⟨.inr ⟨b,0,rfl,λj v hj=>by rw[Nat.zero_add,Mem.add_same];exact hj⟩,h⟩
theorem ZpU{s:ByteArray}{c:Nat}(h:c∈Zb2 s):c < 256:=by
 unfold Zb2 at h
 obtain⟨b,_,rfl⟩:=List.mem_map.1 h
 exact b.toNat_lt
theorem ZiM{m:Mem}{b:Nat}(W:PL)(h:W≠[]):PtAt (m.add b (plV W)) (some ⟨b,0,none⟩) W:=by
 have at2:∀(P:PL)(q:Nat)(p:Int×Int),P[q]?=some p->(plV P)[q*2]?=some (.int .i64 p.1)/\(plV P)[q*2+1]?=some (.int .i64 p.2):=λP=>by
  induction P with
  | nil=>intro q p hq;simp at hq
  | cons p0 P ih=>
   intro q p hq
   cases q with
   | zero=>simp at hq;subst hq;exact⟨rfl,rfl⟩
   | succ q=>
    have:=ih q p (by simpa using hq)
    rw[show(q+1)*2=q*2+2 by omega]
    exact this
 exact .inr ⟨b,rfl,λq p hq=>by rw[Mem.add_same,Mem.add_same];exact at2 W q p hq,h⟩
def ZBi(E:T)(s:List Nat):RT:=Ret (.tuple #[.int .i64 ((ZtE E s).1:Nat),.int .i64 (ZtE E s).2])
theorem ZlG(t E:T)(sa:Option Addr)(s:List Nat)(sc:Nat)(m:Mem)(he:t.er=E)(hr:Rep m t)(hb:Byt m sa s):CX Tryz.prog 10 #[t.v,.slice sa s.length sc] m [] (ZBh E s):=by
 have:=ZsE t sa s sc m hr (λ_=>hb)
 unfold ZBh at *
 rwa [<-Zr3 t,he]at this
theorem Zt8(t E:T)(sa:Option Addr)(s:List Nat)(sc:Nat)(i:Int)(m:Mem)(he:t.er=E)(hr:Rep m t)(hb:Byt m sa s):CX Tryz.prog 12 #[t.v,.slice sa s.length sc,.int .i64 i] m [] (ZAD E s i):=by
 have:=ZsD t sa s sc i m hr (λ_ _=>hb)
 unfold ZAD at *
 rwa [<-ZxV t,he]at this
theorem Zrh(t E:T)(sa:Option Addr)(s:List Nat)(sc:Nat)(m:Mem)(he:t.er=E)(hr:Rep m t)(hb:Byt m sa s):CX Tryz.prog 24 #[t.v,.slice sa s.length sc] m [] (ZBi E s):=by
 have:=Zt6 t sa s sc m hr (λ_ _=>hb)
 unfold ZBi at *
 rwa [<-ZxW t,he]at this
theorem Znw(t E:T)(sa:Option Addr)(s:List Nat)(sc:Nat)(m:Mem)(he:t.er=E)(hr:Rep m t)(hb:Byt m sa s)(sm:s.length<=sc):CX Tryz.prog 25 #[t.v,.slice sa s.length sc] m [] (ZAE E s):=by
 have:=ZpT t sa s sc m hr (λ_=>hb) sm
 unfold ZAE at *
 rwa [<-ZxX t,he]at this
theorem ZmD(x y:List Nat)(ax ay:Option Addr)(cx cy:Nat)(m:Mem)(hx:rowRd m ax (nsL x))(hy:rowRd m ay (nsL y))(bO:x.length<=1000000000000000):CX Tryz.prog 16 #[.slice ax x.length cx,.slice ay y.length cy] m [] (Ret (.bool (x == y))):=
 Znm x y ax ay cx cy m hx hy bO
theorem Znx(x:List (List Nat))(ax ay:Option Addr)(cx cy:Nat)(m:Mem)(hx:rowRd m ax (x.map ZwS))(hy:rowRd m ay (x.map ZwS))(bO:x.length<=1000000):CX Tryz.prog 26 #[.slice ax x.length cx,.slice ay x.length cy] m [] (Ret (.bool true)):=by
 apply Zci
 unfold Zbn
 refine ZjA (by simp) ⟨λxs _ _ _ q=>∃j:Nat,j<=x.length/\xs=[.int .i64 (j:Nat)]/\q=x.length - j,⟨_,0,by omega,rfl,rfl⟩,?_⟩
 rintro y m1 q bH ⟨j,hj,cJ,rfl⟩
 obtain rfl:y=j:=by simpa using cJ
 refine Zab (λbF=>?_) (λcR=>Zaf bH rfl)
 have bI:j < x.length:=by have:=of_decide_eq_true bF;omega
 obtain⟨z,hz⟩:∃z,x[j]?=some z:=⟨_,List.getElem?_eq_getElem bI⟩
 have one:∀a:Option Addr,rowRd m a (x.map ZwS)->∃b o,a=some ⟨b,o,none⟩/\m1 b (o+j)=some (ZwS z):=λa h=>by
  rcases h with h|⟨b,o,h1,h2⟩
  ·have:x=[]:=by simpa using h
   rw[this]at bI;simp at bI
  ·exact⟨b,o,h1,bH.c _ _ _ (h2 j _ (by rw[List.getElem?_map,hz];rfl))⟩
 obtain⟨b1,o1,h1,h2⟩:=one ax hx
 obtain⟨b2,o2,h3,h4⟩:=one ay hy
 rw[wr1 (by omega)]
 refine⟨b1,o1,h1,⟨by omega,by omega⟩,_,by rw[Int.toNat_natCast,Nat.mul_one];exact h2,b2,o2,h3,⟨by omega,by omega⟩,_,by rw[Int.toNat_natCast,Nat.mul_one];exact h4,Zaa rfl (ZjA (by simp) ⟨x.length - (j+1),by omega,j+1,by omega,rfl,rfl⟩)⟩
def aE1:T:=Zd6 97
def aE2:T:=Zd6 98
def aE3:T:=Zd6 99
def aE9:T:=eN 3 0 0 [aE1,aE2]
def Zy6:T:=eN 3 0 0 [aE2,aE3]
def Zwu:T:=eN 5 (0) (-1) [aE1]
def ZAF:T:=eN 4 0 0 [aE1,aE9]
def ZAG:T:=eN 6 0 0 [ZAF]
def ZAH:T:=eN 4 0 0 [aE3,Zy6]
def ZAI:T:=eN 6 0 0 [ZAH]
def ZAJ:T:=eN 3 0 0 [ZAG,ZAI]
def ZAK:T:=eN 4 0 0 [aE9,aE1]
def ZAL:T:=eN 6 0 0 [ZAK]
def ZAM:T:=eN 4 0 0 [Zy6,aE3]
def ZAN:T:=eN 6 0 0 [ZAM]
def ZAO:T:=eN 3 0 0 [ZAL,ZAN]
def ZAP:T:=eN 6 0 0 [Zwu]
def ZAQ:T:=eN 6 0 0 [Zwu]
def ZAR:T:=eN 3 0 0 [ZAP,ZAQ]
def ZAS:T:=eN 4 0 0 [aE1,aE2]
def ZAT:T:=eN 6 0 0 [ZAS]
def ZAU:T:=eN 5 (0) (-1) [ZAT]
def ZAV:T:=eN 6 0 0 [Zwu]
def ZAW:T:=eN 5 (0) (-1) [ZAV]
def ZAX:T:=eN 6 0 0 [Zwu]
def ZAY:T:=eN 5 (1) (2) [ZAX]
def ZAZ:T:=eN 6 0 0 [aE1]
def ZA0:T:=eN 4 0 0 [ZAZ,aE2]
def ZA1:T:=eN 6 0 0 [ZA0]
def ZA2:T:=eN 5 (0) (-1) [ZA1]
theorem aR0:ZbG ZAJ [97,98,99]=([(0,1),(1,3)],0):=by decide +kernel
theorem aR1:ZbG ZAO [97,98,99]=([(0,2),(2,3)],0):=by decide +kernel
theorem aR2:ZbG ZAR [97,97]=([(0,2),(2,2)],0):=by decide +kernel
theorem aR3:ZbG ZAU [97,98]=([(1,2)],0):=by decide +kernel
theorem aR4:ZbG ZAW []=([(-1,-1)],0):=by decide +kernel
theorem aR5:ZbG ZAY []=([(0,0)],0):=by decide +kernel
theorem aR6:ZbG ZA2 [97,98]=([(1,2),(0,1)],0):=by decide +kernel
def Zy7:T:=eN 6 0 0 [Zwu]
def Zy8:T:=eN 5 (0) (-1) [Zy7]
def Zy9:T:=eN 4 0 0 [Zwu,aE2]
def Zyx:T:=eN 3 0 0 [aE1,aE1]
def Zyy:T:=eN 4 0 0 [Zyx,aE1]
def Zqe:T:=eN 5 (0) (-1) [Zyy]
def Zyz:T:=eN 4 0 0 [aE1,aE9]
def ZyA:T:=eN 6 0 0 [Zyz]
def ZyB:T:=eN 4 0 0 [aE3,Zy6]
def ZyC:T:=eN 6 0 0 [ZyB]
def ZwT:T:=eN 3 0 0 [ZyA,ZyC]
def ZBw:Fx:=λi _ _=>match i with
 | 3=>IsE aE9
 | 7=>IsE Zy6
 | _=>IsE (Zd6 0)
def ZBx:Fx:=λi _ _=>match i with
 | 3=>IsE ZAF
 | 4=>IsE ZAG
 | 8=>IsE ZAH
 | 9=>IsE ZAI
 | 11=>IsE ZAJ
 | 19=>IsE ZAK
 | 20=>IsE ZAL
 | 24=>IsE ZAM
 | 25=>IsE ZAN
 | 27=>IsE ZAO
 | 33=>IsE ZAP
 | 35=>IsE ZAQ
 | 37=>IsE ZAR
 | 45=>IsE ZAS
 | 46=>IsE ZAT
 | 47=>IsE ZAU
 | 52=>IsE ZAV
 | 53=>IsE ZAW
 | 58=>IsE ZAX
 | 59=>IsE ZAY
 | 64=>IsE ZAZ
 | 67=>IsE ZA0
 | 68=>IsE ZA1
 | 69=>IsE ZA2
 | _=>IsE (Zd6 0)
def ZBy:Fx:=λi _ _=>match i with
 | 3=>IsE Zyx
 | 6=>IsE Zyy
 | 7=>IsE Zqe
 | 10=>ZBi Zqe [97,97,97]
 | _=>IsE (Zd6 0)
def ZBz:Fx:=λi _ _=>match i with
 | 3=>IsE Zyz
 | 4=>IsE ZyA
 | 8=>IsE ZyB
 | 9=>IsE ZyC
 | 11=>IsE ZwT
 | 14=>ZAE ZwT [97,98,99]
 | _=>IsE (Zd6 0)
theorem ZA3:ZbG Zy8 [98]=([],141):=by decide +kernel
theorem ZA4:ZuY Zy9 [97,97,98] 0=([2,1,0],0):=by decide +kernel
theorem ZA5:ZtE Zqe [97,97,97]=(2,0):=by decide +kernel
theorem ZA6:ZwY ZwT [97,98,99]=([[97,98,99],[97],[98,99]],0):=by decide +kernel
set_option maxHeartbeats 6400000 in
theorem Zri(m:Mem):CX Tryz.prog 4 #[] m [] (Ret (.bool true)):=by
 apply ZjI
 unfold ZgG
 refine⟨_,trivial,ZhG 97 (by omega) _,ZaB (E:=aE1),ZgI λt1 m1 h1 r1 e1=>?_⟩
 refine⟨_,trivial,ZhG 98 (by omega) _,ZaB (E:=aE2),ZgI λt2 m2 h2 r2 e2=>?_⟩
 refine⟨_,trivial,ZhG 99 (by omega) _,ZaB (E:=aE3),ZgI λt3 m3 h3 r3 e3=>?_⟩
 intro b4 b5 b6
 refine⟨ZBw,?_⟩
 intro b7 f8
 refine⟨_,rfl,Zgj _ _ [t1,t2] [aE1,aE2] _ (Zct (l:=[t1,t2]) f8 (by simp only[List.mem_cons,List.not_mem_nil,or_false];rintro x (rfl|rfl);exact(r1.mono (mLt h2 h3));exact(r2.mono (h3))) (by simp)) (by simp only[List.map_cons,List.map_nil,e1,e2] <;> rfl),ZaB (E:=aE9),ZgI λt9 m9 h9 r9 e9=>?_⟩
 intro b10 f11
 intro m12 wG Ch Ay
 refine⟨_,rfl,Zgj _ _ [t2,t3] [aE2,aE3] _ ((Zct (l:=[t2,t3]) f11 (by simp only[List.mem_cons,List.not_mem_nil,or_false];rintro x (rfl|rfl);exact(r2.mono (h3));exact r3) (by simp)).mono (Ay)) (by simp only[List.map_cons,List.map_nil,e2,e3] <;> rfl),ZaB (E:=Zy6),ZgI λt16 m16 uC r16 e16=>?_⟩
 intro b17 b18 m19 kD Ci wS sk wT
 refine⟨_,trivial,Zgk t1 aE1 (0) (-1) (by omega) (by omega) _ (r1.mono (mLt h2 (mLt h3 kD))) e1,ZaB (E:=Zwu),ZgI λt25 m25 iI r25 e25=>?_⟩
 intro b26
 refine⟨ZBx,?_⟩
 intro b27 f28
 refine⟨_,rfl,ZdJ _ _ [t1,t9] [aE1,aE9] _ (Zct (l:=[t1,t9]) f28 (by simp only[List.mem_cons,List.not_mem_nil,or_false];rintro x (rfl|rfl);exact(r1.mono (mLt h2 (mLt h3 (mLt kD iI))));exact(r9.mono (mLt wS iI))) (by simp)) (by simp only[List.map_cons,List.map_nil,e1,e9] <;> rfl),ZaB (E:=ZAF),ZgI λt29 m29 Cj r29 e29=>?_⟩
 refine⟨_,rfl,Zbe t29 ZAF _ r29 e29,ZaB (E:=ZAG),ZgI λt30 m30 Ck r30 e30=>?_⟩
 intro b31 f32
 intro m33 Cl Az AA
 refine⟨_,rfl,ZdJ _ _ [t3,t16] [aE3,Zy6] _ ((Zct (l:=[t3,t16]) f32 (by simp only[List.mem_cons,List.not_mem_nil,or_false];rintro x (rfl|rfl);exact(r3.mono (mLt kD iI));exact(r16.mono (mLt wT iI))) (by simp)).mono (AA)) (by simp only[List.map_cons,List.map_nil,e3,e16] <;> rfl),ZaB (E:=ZAH),ZgI λt37 m37 AB r37 e37=>?_⟩
 refine⟨_,rfl,Zbe t37 ZAH _ r37 e37,ZaB (E:=ZAI),ZgI λt38 m38 AC r38 e38=>?_⟩
 intro b39 f40
 refine⟨_,rfl,Zgj _ _ [t30,t38] [ZAG,ZAI] _ (Zct (l:=[t30,t38]) f40 (by simp only[List.mem_cons,List.not_mem_nil,or_false];rintro x (rfl|rfl);exact(r30.mono (mLt Az (mLt AB AC)));exact r38) (by simp)) (by simp only[List.map_cons,List.map_nil,e30,e38] <;> rfl),ZaB (E:=ZAJ),ZgI λt41 m41 Cm r41 e41=>?_⟩
 intro b42 f43
 intro b44 f45
 intro m46 Cn Co AD
 refine⟨_,rfl,ZdJ _ _ [t9,t1] [aE9,aE1] _ ((Zct (l:=[t9,t1]) f45 (by simp only[List.mem_cons,List.not_mem_nil,or_false];rintro x (rfl|rfl);exact(r9.mono (mLt wS iI));exact(r1.mono (mLt h2 (mLt h3 (mLt kD iI))))) (by simp)).mono (AD)) (by simp only[List.map_cons,List.map_nil,e9,e1] <;> rfl),ZaB (E:=ZAK),ZgI λt50 m50 Cp r50 e50=>?_⟩
 refine⟨_,rfl,Zbe t50 ZAK _ r50 e50,ZaB (E:=ZAL),ZgI λt51 m51 Cq r51 e51=>?_⟩
 intro b52 f53
 intro m54 yv AE AF
 refine⟨_,rfl,ZdJ _ _ [t16,t3] [Zy6,aE3] _ ((Zct (l:=[t16,t3]) f53 (by simp only[List.mem_cons,List.not_mem_nil,or_false];rintro x (rfl|rfl);exact(r16.mono (mLt wT iI));exact(r3.mono (mLt kD iI))) (by simp)).mono (AF)) (by simp only[List.map_cons,List.map_nil,e16,e3] <;> rfl),ZaB (E:=ZAM),ZgI λt58 m58 wU r58 e58=>?_⟩
 refine⟨_,rfl,Zbe t58 ZAM _ r58 e58,ZaB (E:=ZAN),ZgI λt59 m59 wV r59 e59=>?_⟩
 intro b60 f61
 refine⟨_,rfl,Zgj _ _ [t51,t59] [ZAL,ZAN] _ (Zct (l:=[t51,t59]) f61 (by simp only[List.mem_cons,List.not_mem_nil,or_false];rintro x (rfl|rfl);exact(r51.mono (mLt AE (mLt wU wV)));exact r59) (by simp)) (by simp only[List.map_cons,List.map_nil,e51,e59] <;> rfl),ZaB (E:=ZAO),ZgI λt62 m62 yw r62 e62=>?_⟩
 intro b63 f64
 refine⟨_,rfl,Zbe t25 Zwu _ (r25.mono (mLt yv (mLt wU (mLt wV (mLt (Mem.le_add f61 _) yw))))) e25,ZaB (E:=ZAP),ZgI λt65 m65 AG r65 e65=>?_⟩
 refine⟨_,rfl,Zbe t25 Zwu _ (r25.mono (mLt yv (mLt wU (mLt wV (mLt (Mem.le_add f61 _) (mLt yw AG)))))) e25,ZaB (E:=ZAQ),ZgI λt66 m66 AH r66 e66=>?_⟩
 intro b67 f68
 refine⟨_,rfl,Zgj _ _ [t65,t66] [ZAP,ZAQ] _ (Zct (l:=[t65,t66]) f68 (by simp only[List.mem_cons,List.not_mem_nil,or_false];rintro x (rfl|rfl);exact(r65.mono (AH));exact r66) (by simp)) (by simp only[List.map_cons,List.map_nil,e65,e66] <;> rfl),ZaB (E:=ZAR),ZgI λt69 m69 Cr r69 e69=>?_⟩
 intro b70 f71
 intro b72 f73
 intro m74 uS Cs AI
 refine⟨_,rfl,ZdJ _ _ [t1,t2] [aE1,aE2] _ ((Zct (l:=[t1,t2]) f73 (by simp only[List.mem_cons,List.not_mem_nil,or_false];rintro x (rfl|rfl);exact(r1.mono (mLt h2 (mLt h3 (mLt kD iI))));exact(r2.mono (mLt h3 (mLt kD iI)))) (by simp)).mono (AI)) (by simp only[List.map_cons,List.map_nil,e1,e2] <;> rfl),ZaB (E:=ZAS),ZgI λt78 m78 uT r78 e78=>?_⟩
 refine⟨_,rfl,Zbe t78 ZAS _ r78 e78,ZaB (E:=ZAT),ZgI λt79 m79 uU r79 e79=>?_⟩
 refine⟨_,rfl,Zgk t79 ZAT (0) (-1) (by omega) (by omega) _ r79 e79,ZaB (E:=ZAU),ZgI λt80 m80 uV r80 e80=>?_⟩
 intro b81 f82
 refine⟨_,rfl,Zbe t25 Zwu _ (r25.mono (mLt uS (mLt uT (mLt uU uV)))) e25,ZaB (E:=ZAV),ZgI λt83 m83 wW r83 e83=>?_⟩
 refine⟨_,rfl,Zgk t83 ZAV (0) (-1) (by omega) (by omega) _ r83 e83,ZaB (E:=ZAW),ZgI λt84 m84 wX r84 e84=>?_⟩
 intro b85 f86
 refine⟨_,rfl,Zbe t25 Zwu _ (r25.mono (mLt uS (mLt uT (mLt uU (mLt uV (mLt wW wX)))))) e25,ZaB (E:=ZAX),ZgI λt87 m87 yx r87 e87=>?_⟩
 refine⟨_,rfl,Zgk t87 ZAX (1) (2) (by omega) (by omega) _ r87 e87,ZaB (E:=ZAY),ZgI λt88 m88 yy r88 e88=>?_⟩
 intro b89 f90
 refine⟨_,rfl,Zbe t1 aE1 _ (r1.mono (mLt h2 (mLt h3 (mLt kD (mLt iI (mLt uS (mLt uT (mLt uU (mLt uV (mLt wW (mLt wX (mLt yx yy)))))))))))) e1,ZaB (E:=ZAZ),ZgI λt91 m91 AJ r91 e91=>?_⟩
 intro b92 f93
 refine⟨_,rfl,ZdJ _ _ [t91,t2] [ZAZ,aE2] _ (Zct (l:=[t91,t2]) f93 (by simp only[List.mem_cons,List.not_mem_nil,or_false];rintro x (rfl|rfl);exact r91;exact(r2.mono (mLt h3 (mLt kD (mLt iI (mLt uS (mLt uT (mLt uU (mLt uV (mLt wW (mLt wX (mLt yx (mLt yy AJ))))))))))))) (by simp)) (by simp only[List.map_cons,List.map_nil,e91,e2] <;> rfl),ZaB (E:=ZA0),ZgI λt94 m94 Ct r94 e94=>?_⟩
 refine⟨_,rfl,Zbe t94 ZA0 _ r94 e94,ZaB (E:=ZA1),ZgI λt95 m95 Cu r95 e95=>?_⟩
 refine⟨_,rfl,Zgk t95 ZA1 (0) (-1) (by omega) (by omega) _ r95 e95,ZaB (E:=ZA2),ZgI λt96 m96 Cv r96 e96=>?_⟩
 intro b97 f98
 intro m99 AK AL AM AN AO AP AQ AR AS
 intro b109 f110
 intro m111 gV AT AU AV AW AX AY AZ wY wZ A0 A1 A3 A4 A5 A6 A7 w4 w5 A8 A9 Ba w6 w7 Bb Bc Bd w8 w9 Be xb xc Bf xd xe Bg Bh Bi Bj xf xg Bk
 have bG:∀j:Nat,j < 7->∃(x X:T)(bs:ByteArray)(W:PL)(wb:Nat),List.take 10 (List.drop (Int.toNat (j:Int)*10) (ZaZ t41.k t41.s0 t41.s1 t41.s2 t41.s3 t41.mn t41.mx t41.a t41.subs.length t41.c b42 t62.k t62.s0 t62.s1 t62.s2 t62.s3 t62.mn t62.mx t62.a t62.subs.length t62.c b63 t69.k t69.s0 t69.s1 t69.s2 t69.s3 t69.mn t69.mx t69.a t69.subs.length t69.c b70 t80.k t80.s0 t80.s1 t80.s2 t80.s3 t80.mn t80.mx t80.a t80.subs.length t80.c b81 t84.k t84.s0 t84.s1 t84.s2 t84.s3 t84.mn t84.mx t84.a t84.subs.length t84.c b85 t88.k t88.s0 t88.s1 t88.s2 t88.s3 t88.mn t88.mx t88.a t88.subs.length t88.c b89 t96.k t96.s0 t96.s1 t96.s2 t96.s3 t96.mn t96.mx t96.a t96.subs.length t96.c b97))=x.cs++[.string bs,.slice (some ⟨wb,0,none⟩) W.length W.length]/\Rep m111 x/\x.er=X/\ZbG X (Zb2 bs)=(W,0)/\PtAt m111 (some ⟨wb,0,none⟩) W/\W.length<=100:=by
  intro j hj
  have hj:j=0\/j=1\/j=2\/j=3\/j=4\/j=5\/j=6:=by omega
  rcases hj with rfl|rfl|rfl|rfl|rfl|rfl|rfl
  ·exact⟨t41,ZAJ,⟨#[97,98,99]⟩,[(0,1),(1,3)],b42,rfl,(r41.mono (wY)),e41,aR0,(ZiM [(0,1),(1,3)] (by simp)).mono (wZ),by decide⟩
  ·exact⟨t62,ZAO,⟨#[97,98,99]⟩,[(0,2),(2,3)],b63,rfl,(r62.mono (w4)),e62,aR1,(ZiM [(0,2),(2,3)] (by simp)).mono (w5),by decide⟩
  ·exact⟨t69,ZAR,⟨#[97,97]⟩,[(0,2),(2,2)],b70,rfl,(r69.mono (w6)),e69,aR2,(ZiM [(0,2),(2,2)] (by simp)).mono (w7),by decide⟩
  ·exact⟨t80,ZAU,⟨#[97,98]⟩,[(1,2)],b81,rfl,(r80.mono (w8)),e80,aR3,(ZiM [(1,2)] (by simp)).mono (w9),by decide⟩
  ·exact⟨t84,ZAW,⟨#[]⟩,[(-1,-1)],b85,rfl,(r84.mono (xb)),e84,aR4,(ZiM [(-1,-1)] (by simp)).mono (xc),by decide⟩
  ·exact⟨t88,ZAY,⟨#[]⟩,[(0,0)],b89,rfl,(r88.mono (xd)),e88,aR5,(ZiM [(0,0)] (by simp)).mono (xe),by decide⟩
  ·exact⟨t96,ZA2,⟨#[97,98]⟩,[(1,2),(0,1)],b97,rfl,(r96.mono (xf)),e96,aR6,(ZiM [(1,2),(0,1)] (by simp)).mono (xg),by decide⟩
 refine⟨λxs _ _ _ q=>∃j:Nat,j<=7/\xs=[.int .i64 (j:Nat)]/\q=7 - j,⟨7,0,by omega,rfl,rfl⟩,?_⟩
 rintro y M1 q dQ ⟨j,hj,cJ,rfl⟩
 obtain rfl:y=j:=by simpa using cJ
 refine Zab (λbF=>?_) (λcR=>?_)
 ·have bI:j < 7:=by have:=of_decide_eq_true bF;omega
  obtain⟨x,X,bs,W,wb,dA,hx,hX,gB,lU,Cw⟩:=bG j bI
  refine⟨⟨by omega,by omega⟩,Zaa (by rw[Nat.ble_eq,Int.toNat_natCast];omega) λb9=>?_⟩
  rw[dA]
  have bW:ByteArray.size (Zcz (.string bs))=(Zb2 bs).length:=by rw[Zmz];rfl
  have cW:ZaI (Zcz (.string bs))=(Zb2 bs).map λc:Nat=>Value.int .u8 c:=Zkk bs
  refine Zaa rfl (Zaa rfl (Zar rfl (Zaa rfl λb8 c8 yz Cx=>?_)))
  rw[cW,bW]
  have gR:Byt (M1.add b8 ((Zb2 bs).map λc:Nat=>Value.int .u8 c)) (some ⟨b8,0,none⟩) (Zb2 bs):=Zrg _ (λc hc=>ZpU hc)
  refine⟨_,trivial,ZlG x X _ (Zb2 bs) _ _ hX (hx.mono (mLt dQ (Mem.le_add yz _))) gR,(λv _ _ ⟨_,_,h,_⟩=>by rw[h];rfl),?_⟩
  rintro a n c z M2 dT ⟨a',c',hv,hp⟩
  rw[gB]at hv hp
  simp only[Value.tuple.injEq,Array.mk.injEq,List.cons.injEq,Value.int.injEq,Value.slice.injEq,true_and,and_true]at hv
  obtain⟨⟨rfl,rfl,rfl⟩,rfl⟩:=hv
  refine⟨false,ZjA rfl (Zar rfl ⟨_,trivial,ZlE W W a (some ⟨wb,0,none⟩) c W.length M2 (ZlB hp) (ZlB (lU.mono (mLt dQ (mLt (Mem.le_add yz _) dT)))) (by omega),(λv _ _ h=>by unfold Ret at h;rw[h];rfl),?_⟩),ZjA rfl ⟨rfl,_,?_,j+1,by omega,by rw[wr1 (by omega)],rfl⟩⟩
  ·rintro b7 M3 iG Bl
   obtain rfl:b7=true:=by simpa[Ret]using Bl
   exact⟨rfl,rfl⟩
  ·omega
 ·clear bG cR
  refine⟨_,trivial,Zbe t25 Zwu _ (r25.mono (mLt gV dQ)) e25,ZaB (E:=Zy7),ZgI λt154 m154 iJ r154 e154=>?_⟩
  refine⟨_,trivial,Zgk t154 Zy7 (0) (-1) (by omega) (by omega) _ r154 e154,ZaB (E:=Zy8),ZgI λt155 m155 iK r155 e155=>?_⟩
  intro b156 f157
  refine⟨_,trivial,ZlG t155 Zy8 _ [98] _ _ e155 (r155.mono (Mem.le_add f157 _)) (Zrg [98] (by decide)),(λv _ _ ⟨_,_,h,_⟩=>by rw[h];rfl),?_⟩
  rintro a158 n158 c158 z158 m158 iL ⟨a158',c158',nN,tW⟩
  rw[ZA3]at nN tW
  simp only[Value.tuple.injEq,Array.mk.injEq,List.cons.injEq,Value.int.injEq,Value.slice.injEq,true_and,and_true]at nN
  obtain⟨⟨rfl,rfl,rfl⟩,rfl⟩:=nN
  intro b159 f160
  refine⟨_,trivial,ZdJ _ _ [t25,t2] [Zwu,aE2] _ (Zct (l:=[t25,t2]) f160 (by simp only[List.mem_cons,List.not_mem_nil,or_false];rintro x (rfl|rfl);exact(r25.mono (mLt gV (mLt dQ (mLt iJ (mLt iK (mLt (Mem.le_add f157 _) iL))))));exact(r2.mono (mLt h3 (mLt kD (mLt iI (mLt gV (mLt dQ (mLt iJ (mLt iK (mLt (Mem.le_add f157 _) iL)))))))))) (by simp)) (by simp only[List.map_cons,List.map_nil,e25,e2] <;> rfl),ZaB (E:=Zy9),ZgI λt161 m161 jW r161 e161=>?_⟩
  intro b162 f163
  refine⟨_,trivial,Zt8 t161 Zy9 _ [97,97,98] _ 0 _ e161 (r161.mono (Mem.le_add f163 _)) (Zrg [97,97,98] (by decide)),(λv _ _ ⟨_,_,h,_⟩=>by rw[h];rfl),?_⟩
  rintro a164 n164 c164 z164 m164 jX ⟨a164',c164',nO,qu⟩
  rw[ZA4]at nO qu
  simp only[Value.tuple.injEq,Array.mk.injEq,List.cons.injEq,Value.int.injEq,Value.slice.injEq,true_and,and_true]at nO
  obtain⟨⟨rfl,rfl,rfl⟩,rfl⟩:=nO
  refine⟨ZBy,?_⟩
  intro b165 f166
  refine⟨_,rfl,Zgj _ _ [t1,t1] [aE1,aE1] _ (Zct (l:=[t1,t1]) f166 (by simp only[List.mem_cons,List.not_mem_nil,or_false];rintro x (rfl|rfl);exact(r1.mono (mLt h2 (mLt h3 (mLt kD (mLt iI (mLt gV (mLt dQ (mLt iJ (mLt iK (mLt (Mem.le_add f157 _) (mLt iL (mLt (Mem.le_add f160 _) (mLt jW (mLt (Mem.le_add f163 _) jX))))))))))))));exact(r1.mono (mLt h2 (mLt h3 (mLt kD (mLt iI (mLt gV (mLt dQ (mLt iJ (mLt iK (mLt (Mem.le_add f157 _) (mLt iL (mLt (Mem.le_add f160 _) (mLt jW (mLt (Mem.le_add f163 _) jX))))))))))))))) (by simp)) (by simp only[List.map_cons,List.map_nil,e1] <;> rfl),ZaB (E:=Zyx),ZgI λt167 m167 xh r167 e167=>?_⟩
  intro b168 f169
  refine⟨_,rfl,ZdJ _ _ [t167,t1] [Zyx,aE1] _ (Zct (l:=[t167,t1]) f169 (by simp only[List.mem_cons,List.not_mem_nil,or_false];rintro x (rfl|rfl);exact r167;exact(r1.mono (mLt h2 (mLt h3 (mLt kD (mLt iI (mLt gV (mLt dQ (mLt iJ (mLt iK (mLt (Mem.le_add f157 _) (mLt iL (mLt (Mem.le_add f160 _) (mLt jW (mLt (Mem.le_add f163 _) (mLt jX (mLt (Mem.le_add f166 _) xh))))))))))))))))) (by simp)) (by simp only[List.map_cons,List.map_nil,e167,e1] <;> rfl),ZaB (E:=Zyy),ZgI λt170 m170 Bm r170 e170=>?_⟩
  refine⟨_,rfl,Zgk t170 Zyy (0) (-1) (by omega) (by omega) _ r170 e170,ZaB (E:=Zqe),ZgI λt171 m171 Bn r171 e171=>?_⟩
  intro b172 f173
  intro m174 Bo xi xj
  refine⟨_,rfl,Zrh t171 Zqe _ [97,97,97] _ _ e171 (r171.mono (xi)) ((Zrg [97,97,97] (by decide)).mono (xj)),(λv _ _ h=>by have h:v=.tuple #[.int .i64 ((ZtE Zqe [97,97,97]).1:Nat),.int .i64 (ZtE Zqe [97,97,97]).2]:=h;rw[h];rfl),?_⟩
  rintro z178 y178 m178 Bp jY
  have jY:Value.tuple #[.int .i64 z178,.int .i64 y178]=.tuple #[.int .i64 ((ZtE Zqe [97,97,97]).1:Nat),.int .i64 (ZtE Zqe [97,97,97]).2]:=jY
  rw[ZA5]at jY
  simp only[Value.tuple.injEq,Array.mk.injEq,List.cons.injEq,Value.int.injEq,true_and,and_true]at jY
  obtain⟨rfl,rfl⟩:=jY
  intro m179 lT Bq Br Bs Bt Bu Bv Bw
  refine⟨ZBz,?_⟩
  intro b188 f189
  refine⟨_,rfl,ZdJ _ _ [t1,t9] [aE1,aE9] _ (Zct (l:=[t1,t9]) f189 (by simp only[List.mem_cons,List.not_mem_nil,or_false];rintro x (rfl|rfl);exact(r1.mono (mLt h2 (mLt h3 (mLt kD (mLt iI (mLt gV (mLt dQ (mLt iJ (mLt iK (mLt (Mem.le_add f157 _) (mLt iL (mLt (Mem.le_add f160 _) (mLt jW (mLt (Mem.le_add f163 _) (mLt jX lT)))))))))))))));exact(r9.mono (mLt wS (mLt iI (mLt gV (mLt dQ (mLt iJ (mLt iK (mLt (Mem.le_add f157 _) (mLt iL (mLt (Mem.le_add f160 _) (mLt jW (mLt (Mem.le_add f163 _) (mLt jX lT)))))))))))))) (by simp)) (by simp only[List.map_cons,List.map_nil,e1,e9] <;> rfl),ZaB (E:=Zyz),ZgI λt190 m190 Bx r190 e190=>?_⟩
  refine⟨_,rfl,Zbe t190 Zyz _ r190 e190,ZaB (E:=ZyA),ZgI λt191 m191 By r191 e191=>?_⟩
  intro b192 f193
  intro m194 Bz xk xl
  refine⟨_,rfl,ZdJ _ _ [t3,t16] [aE3,Zy6] _ ((Zct (l:=[t3,t16]) f193 (by simp only[List.mem_cons,List.not_mem_nil,or_false];rintro x (rfl|rfl);exact(r3.mono (mLt kD (mLt iI (mLt gV (mLt dQ (mLt iJ (mLt iK (mLt (Mem.le_add f157 _) (mLt iL (mLt (Mem.le_add f160 _) (mLt jW (mLt (Mem.le_add f163 _) (mLt jX lT)))))))))))));exact(r16.mono (mLt wT (mLt iI (mLt gV (mLt dQ (mLt iJ (mLt iK (mLt (Mem.le_add f157 _) (mLt iL (mLt (Mem.le_add f160 _) (mLt jW (mLt (Mem.le_add f163 _) (mLt jX lT)))))))))))))) (by simp)).mono (xl)) (by simp only[List.map_cons,List.map_nil,e3,e16] <;> rfl),ZaB (E:=ZyB),ZgI λt198 m198 xm r198 e198=>?_⟩
  refine⟨_,rfl,Zbe t198 ZyB _ r198 e198,ZaB (E:=ZyC),ZgI λt199 m199 xn r199 e199=>?_⟩
  intro b200 f201
  refine⟨_,rfl,Zgj _ _ [t191,t199] [ZyA,ZyC] _ (Zct (l:=[t191,t199]) f201 (by simp only[List.mem_cons,List.not_mem_nil,or_false];rintro x (rfl|rfl);exact(r191.mono (mLt xk (mLt xm xn)));exact r199) (by simp)) (by simp only[List.map_cons,List.map_nil,e191,e199] <;> rfl),ZaB (E:=ZwT),ZgI λt202 m202 BA r202 e202=>?_⟩
  intro b203 f204
  intro m205 BB xo xp
  refine⟨_,rfl,Znw t202 ZwT _ [97,98,99] _ _ e202 (r202.mono (xo)) ((Zrg [97,98,99] (by decide)).mono (xp)) (by decide),(λv _ _ ⟨_,_,h,_⟩=>by rw[h];rfl),?_⟩
  rintro a209 n209 c209 z209 m209 BC ⟨a209',c209',nP,qv⟩
  rw[ZA6]at nP qv
  simp only[Value.tuple.injEq,Array.mk.injEq,List.cons.injEq,Value.int.injEq,Value.slice.injEq,true_and,and_true]at nP
  obtain⟨⟨rfl,rfl,rfl⟩,rfl⟩:=nP
  intro m210 tX BD BE BF BG BH BI BJ BK BL xq
  refine ZyJ rfl (ZyJ rfl λbx fx=>?_)
  refine⟨_,trivial,ZmD [2,1,0] [2,1,0] _ _ _ _ _ (qu.mono (mLt (mLt lT tX) (Mem.le_add fx _))) (.inr ⟨bx,0,rfl,λj v hj=>by rw[Nat.zero_add,Mem.add_same];exact hj⟩) (by decide),(λv _ _ h=>by unfold Ret at h;rw[h];rfl),?_⟩
  rintro q1 N1 yA iM
  obtain rfl:q1=true:=by simpa[Ret]using iM
  refine ZyJ rfl (ZyJ rfl λby_ fy=>?_)
  refine⟨_,trivial,Znx [[97,98,99],[97],[98,99]] _ _ _ _ _ (qv.mono (mLt (mLt (xq) (mLt (Mem.le_add fx _) yA)) (Mem.le_add fy _))) (.inr ⟨by_,0,rfl,λj v hj=>by rw[Nat.zero_add,Mem.add_same];exact hj⟩) (by decide),(λv _ _ h=>by unfold Ret at h;rw[h];rfl),?_⟩
  rintro q2 N2 BM kJ
  obtain rfl:q2=true:=by simpa[Ret]using kJ
  refine ZyJ rfl ⟨_,trivial,ZsB _,(λv _ _ h=>by rw[h];rfl),?_⟩
  rintro y1 y2 N3 xr hy
  obtain⟨rfl,rfl⟩:y1=-1/\y2=-1:=by simpa using hy
  exact⟨_,ZsH _ _ _ _,N3,mLt (mLt h1 (mLt h2 (mLt h3 (mLt kD (mLt iI (mLt gV (mLt dQ (mLt iJ (mLt iK (mLt (Mem.le_add f157 _) (mLt iL (mLt (Mem.le_add f160 _) (mLt jW (mLt (Mem.le_add f163 _) (mLt jX (mLt lT tX)))))))))))))))) (mLt (mLt (Mem.le_add fx _) yA) (mLt (mLt (Mem.le_add fy _) BM) xr)),Mem.le_refl _,rfl⟩
end Go.Proofs.YtgclajkldphoaaaGreat
namespace Go.Proofs.YtgclajkldphoaaaGreat
open Go Go.Eng Go.Proofs Go.RowKit
open Go.Value (int slice agg bool string tuple func)
open Go.IntKind (u8 u64 i64)
set_option maxRecDepth 100000
noncomputable def Zny:Env:={ EB with
 frzNew:=[1] }
def ZhH(aG aD aI aJ aK aE aH:Int)(aB:Option Addr)(aA aC:Nat)(m:Mem)(R:RT):Prop:=
 ∀(b:Nat)(m':Mem),Mem.le m m'->Mem.reads m' b 0 [int u8 aG,int u64 aD,int u64 aI,int u64 aJ,int u64 aK,int i64 aE,int i64 aH,slice aB aA aC]->∀(b:Nat),∃(R_1:RT),True/\CX
 Tryz.prog 32 (Array.mk [agg (Array.mk [int u8 aG,int u64 aD,int u64 aI,int u64 aJ,int u64 aK,int i64 aE,int i64 aH,slice aB aA aC])]) m' [] R_1/\Zaz Shape.bool R_1/\∀(b:Bool) (m'_1:
 Mem),Mem.le m' m'_1->R_1 (bool b) m'_1 []->br (!b) (∃(m'':Mem),Mem.le m m''/\Mem.le m'' m'_1/\R (agg (Array.mk [int u8 0,int u64 0,int u64 0,int u64 0,int u64 0,int i64 0,int i64 0,slice none 0 0])) m''
 []) (∃(R_2:RT),True/\CX Tryz.prog 52 (Array.mk [agg (Array.mk [int u8 aG,int u64 aD,int u64 aI,int u64 aJ,int u64 aK,int i64 aE,int i64 aH,slice aB aA aC])]) m'_1 [] R_2/\Zaz (shT)
 R_2/\∀(n n_1 n_2 n_3 n_4 n_5 n_6:Int)(a:Option Addr)(n_7 c:Nat)(m':Mem),Mem.le m'_1 m'->R_2 (agg (Array.mk [int u8 n,int u64 n_1,int u64 n_2,int u64 n_3,int u64 n_4,int i64 n_5,int i64 n_6,slice a
 n_7 c])) m' []->∃(m'':Mem),Mem.le m m''/\Mem.le m'' m'/\R (agg (Array.mk [int u8 n,int u64 n_1,int u64 n_2,int u64 n_3,int u64 n_4,int i64 n_5,int i64 n_6,slice a n_7 c])) m'' [])
theorem ZlH(aG aD aI aJ aK aE aH:Int)(aB:Option Addr)(aA aC:Nat)(m:Mem)(R:RT)(h:ZhH aG aD aI aJ aK aE aH aB aA aC m R):CX Tryz.prog 35 #[.agg #[.int .u8 aG,.int .u64 aD,.int .u64 aI,.int .u64 aJ,.int .u64 aK,.int .i64 aE,.int .i64 aH,.slice aB aA aC]] m [] R:=
 Zah (E:=Zny) Zay mix Tryz.func35 [.v (.agg #[.int .u8 aG,.int .u64 aD,.int .u64 aI,.int .u64 aJ,.int .u64 aK,.int .i64 aE,.int .i64 aH,.slice aB aA aC])] [] (by kernel_rfl) (Eq.mp (by kernel_rfl) h)
noncomputable def Zt9:Env:={ EB with
 loops:=(λi=>bif Nat.beq i 3 then⟨[(7,.slice),(12,.int .i64)],[],[(28,8)],false⟩ else⟨[],[],[],false⟩)
 tokOf:=(λi=>bif Nat.beq i 21 then 28 else bif Nat.beq i 28 then 28 else 0) }
def ZmE(p0 p1:Int)(p2a:Option Addr)(p2n p2c:Nat)(m:Mem)(R:RT):Prop:=
 ∃(I:IT),(∃(n:Nat),I [slice none 0 0,int i64 0] [] [slice none 0 0] m n)/\∀(a:Option Addr)(n c:Nat)(n_1:Int)(a_1:Option Addr)(n_2 c_1:Nat)(m':Mem)(n_3:Nat),Mem.le m m'->I [slice a n c,
 int i64 n_1] [] [slice a_1 n_2 c_1] m' n_3->br (decide (n_1 < (↑p2n:Int))) (∃(b:Nat),∃(o:Nat),p2a=some (Addr.mk b o none)/\Zag n_1 p2n/\∃(v:Value),∃(v_1:Value),∃(v_2:Value),∃(v_3:
 Value),∃(v_4:Value),∃(v_5:Value),∃(v_6:Value),∃(v_7:Value),Mem.reads m' b (o+Int.toNat n_1*8) [v,v_1,v_2,v_3,v_4,v_5,v_6,v_7]/\∀(b:Nat),chk (Value.oneCell' v&&(Value.oneCell' v_1 &&
 (Value.oneCell' v_2&&(Value.oneCell' v_3&&(Value.oneCell' v_4&&(Value.oneCell' v_5&&(Value.oneCell' v_6&&(Value.oneCell' v_7&&true)))))))) (chk (ZaS u8 v&&decide (u8=u8)) (br (RowKit.intOf v == p0)
 (chk (Zel v_7&&true) ((Tok.mk (slice a_1 n_2 c_1) 8=Tok.mk (slice a n c) 8\/slice a n c=slice none 0 0\/c < n+slN v_7)/\∃(xs:List Value),∃(ys:List Value),List.length xs=n*8/\List.length ys=slN
 v_7*8/\rowRd m' a xs/\rowRd m' (slA v_7) ys/\(∀(u:Value),u∈ys->Value.oneCell' u=true)/\(n+slN v_7)*80<=140737488355328/\n+slN v_7<=9223372036854775807/\∀(a':Option Addr)(c':Nat) (m'_1:
 Mem),Mem.le m' m'_1->rowRd m'_1 a' (List.append xs ys)->∃(n':Nat),n' < n_3/\I [slice a' (n+slN v_7) c',int i64 (IntKind.wrap i64 (n_1+(1:Int)))] [] [slice a' (n+slN v_7) c'] m'_1 n')) (chk (ZaS u8 v
 && decide (u8=u8)) (br (RowKit.intOf v == p1) (∃(n':Nat),n' < n_3/\I [slice a n c,int i64 (IntKind.wrap i64 (n_1+(1:Int)))] [] [slice a_1 n_2 c_1] m' n') (∀(b:Nat),Mem.free m' b->(Tok.mk (slice a_1 n_2
 c_1) 8=Tok.mk (slice a n c) 8\/slice a n c=slice none 0 0\/c < n+1)/\∃(xs:List Value),∃(ys:List Value),List.length xs=n*8/\List.length ys=1*8/\rowRd (Mem.add m' b [v,v_1,v_2,v_3,v_4,v_5,
 v_6,v_7]) a xs/\rowRd (Mem.add m' b [v,v_1,v_2,v_3,v_4,v_5,v_6,v_7]) (some (Addr.mk b 0 none)) ys/\(∀(u:Value),u∈ys->Value.oneCell' u=true)/\(n+1)*80<=140737488355328/\n+1 <=
 9223372036854775807/\∀(a':Option Addr)(c':Nat)(m'_1:Mem),Mem.le (Mem.add m' b [v,v_1,v_2,v_3,v_4,v_5,v_6,v_7]) m'_1->rowRd m'_1 a' (List.append xs ys)->∃(n':Nat),n' < n_3/\I [slice a' (n+1)
 c',int i64 (IntKind.wrap i64 (n_1+(1:Int)))] [] [slice a' (n+1) c'] m'_1 n')))))) (∃(m'':Mem),Mem.le m m''/\Mem.le m'' m'/\R (slice a n c) m'' [])
theorem Zrj(p0 p1:Int)(p2a:Option Addr)(p2n p2c:Nat)(m:Mem)(R:RT)(h:ZmE p0 p1 p2a p2n p2c m R):CX Tryz.prog 34 #[.int .u8 p0,.int .u8 p1,.slice p2a p2n p2c] m [] R:=
 Zah (E:=Zt9) Zay mix Tryz.func34 [.v (.int .u8 p0),.v (.int .u8 p1),.v (.slice p2a p2n p2c)] [] (by kernel_rfl) (Eq.mp (by kernel_rfl) h)
noncomputable def ZpV:Env:={ EB with
 frzNew:=[5] }
def ZiN(p0:Int)(p1a:Option Addr)(p1n p1c:Nat)(aY aZ bA bB bC bD bE:Int)(bS:Option Addr)(bT bU:Nat)(m:Mem)(R:RT):Prop:=
 ∀(b:Nat)(m':Mem),Mem.le m m'->Mem.reads m' b 0 [int u8 aY,int u64 aZ,int u64 bA,int u64 bB,int u64 bC,int i64 bD,int i64 bE,slice bS bT bU]->∀(b:Nat),br ((↑p1n:Int) == (0:
 Int)) (∃(m'':Mem),Mem.le m m''/\Mem.le m'' m'/\R (agg (Array.mk [int u8 aY,int u64 aZ,int u64 bA,int u64 bB,int u64 bC,int i64 bD,int i64 bE,slice bS bT bU])) m'' []) (br ((↑p1n:
 Int) == (1:Int)) (∃(b:Nat),∃(o:Nat),p1a=some (Addr.mk b o none)/\Zag (0:Int) p1n/\∃(v:Value),∃(v_1:Value),∃(v_2:Value),∃(v_3:Value),∃(v_4:Value),∃(v_5:Value),∃(v_6:Value),
 ∃(v_7:Value),Mem.reads m' b (o+0) [v,v_1,v_2,v_3,v_4,v_5,v_6,v_7]/\∃(R_1:RT),True/\CX Tryz.prog 35 (Array.mk [agg (Array.mk [v,v_1,v_2,v_3,v_4,v_5,v_6,v_7])]) m' [] R_1/\Zaz (shT) R_1/\∀(n
 n_1 n_2 n_3 n_4 n_5 n_6:Int) (a:Option Addr) (n_7 c:Nat) (m'_1:Mem),Mem.le m' m'_1->R_1 (agg (Array.mk [int u8 n,int u64 n_1,int u64 n_2,int u64 n_3,int u64 n_4,int i64 n_5,int i64 n_6,slice a n_7 c]))
 m'_1 []->∃(m'':Mem),Mem.le m m''/\Mem.le m'' m'_1/\R (agg (Array.mk [int u8 n,int u64 n_1,int u64 n_2,int u64 n_3,int u64 n_4,int i64 n_5,int i64 n_6,slice a n_7 c])) m'' []) (∃(R_1:RT),True/\CX
 Tryz.prog 35 (Array.mk [agg (Array.mk [int u8 p0,int u64 0,int u64 0,int u64 0,int u64 0,int i64 0,int i64 0,slice p1a p1n p1c])]) m' [] R_1/\Zaz (shT) R_1/\∀(n n_1 n_2 n_3 n_4 n_5 n_6:Int) (a:Option
 Addr) (n_7 c:Nat) (m'_1:Mem),Mem.le m' m'_1->R_1 (agg (Array.mk [int u8 n,int u64 n_1,int u64 n_2,int u64 n_3,int u64 n_4,int i64 n_5,int i64 n_6,slice a n_7 c])) m'_1 []->∃(m'':Mem),Mem.le m m''/\
 Mem.le m'' m'_1/\R (agg (Array.mk [int u8 n,int u64 n_1,int u64 n_2,int u64 n_3,int u64 n_4,int i64 n_5,int i64 n_6,slice a n_7 c])) m'' []))
theorem Znz(p0:Int)(p1a:Option Addr)(p1n p1c:Nat)(aY aZ bA bB bC bD bE:Int)(bS:Option Addr)(bT bU:Nat)(m:Mem)(R:RT)(h:ZiN p0 p1a p1n p1c aY aZ bA bB bC bD bE bS bT bU m R):CX Tryz.prog 33 #[.int .u8 p0,.slice p1a p1n p1c,.agg #[.int .u8 aY,.int .u64 aZ,.int .u64 bA,.int .u64 bB,.int .u64 bC,.int .i64 bD,.int .i64 bE,.slice bS bT bU]] m [] R:=
 Zah (E:=ZpV) Zay mix Tryz.func33 [.v (.int .u8 p0),.v (.slice p1a p1n p1c),.v (.agg #[.int .u8 aY,.int .u64 aZ,.int .u64 bA,.int .u64 bB,.int .u64 bC,.int .i64 bD,.int .i64 bE,.slice bS bT bU])] [] (by kernel_rfl) (Eq.mp (by kernel_rfl) h)
noncomputable def Zwv:Env:={ EB with
 loops:=(λi=>bif Nat.beq i 2 then⟨[(7,.int .i64)],[2],[],false⟩ else⟨[],[],[],false⟩)
 joins:=(λi=>bif Nat.beq i 4 then some [(18,.bool)]else none) }
def ZpW(p0a:Option Addr)(p0n p0c:Nat)(m:Mem)(R:RT):Prop:=
 ∀(b:Nat),∃(I:IT),(∃(n:Nat),I [int i64 0] [[int u8 0,int u64 0,int u64 0,int u64 0,int u64 0,int i64 0,int i64 0,slice none 0 0]] [] m n)/\∀(n:Int)(cs:List Value)(m':Mem)(ak:Nat),Mem.le m
 m'->I [int i64 n] [cs] [] m' ak->br (decide (n < (↑p0n:Int))) (∃(al:Nat),∃(o:Nat),p0a=some (Addr.mk al o none)/\Zag n p0n/\∃(v:Value),∃(aa:Value),∃(ab:Value),∃(ac:Value),∃(ad:
 Value),∃(ae:Value),∃(af:Value),∃(ag:Value),Mem.reads m' al (o+Int.toNat n*8) [v,aa,ab,ac,ad,ae,af,ag]/\∀(ai:Nat),chk (Value.oneCell' v&&(Value.oneCell' aa&&(Value.oneCell' ab &&
 (Value.oneCell' ac&&(Value.oneCell' ad&&(Value.oneCell' ae&&(Value.oneCell' af&&(Value.oneCell' ag&&true)))))))) (∃(aj:Bool),chk (ZaS u8 v&&decide (u8=u8)) (br (RowKit.intOf v == (0:Int)) ([some
 (Box.mk ai [v,aa,ab,ac,ad,ae,af,ag] 30 8 false true),some (Box.mk b cs 30 8 false true)]=[some (Box.mk ai [v,aa,ab,ac,ad,ae,af,ag] 30 8 false true),some (Box.mk b cs 30 8 false true)]/\[bool true] =
 [bool aj]) (∃(R:RT),True/\CX Tryz.prog 32 (Array.mk [agg (Array.mk [v,aa,ab,ac,ad,ae,af,ag])]) m' [] R/\Zaz Shape.bool R/\∀(am:Bool)(ah:Mem),Mem.le m' ah->R (bool am) ah []->[some (Box.mk ai [v,
 aa,ab,ac,ad,ae,af,ag] 30 8 false true),some (Box.mk b cs 30 8 false true)]=[some (Box.mk ai [v,aa,ab,ac,ad,ae,af,ag] 30 8 false true),some (Box.mk b cs 30 8 false true)]/\[bool !am]=[bool aj]))/\br
 aj (∃(m'':Mem),Mem.le m m''/\Mem.le m'' m'/\R (agg (Array.mk [int u8 0,int u64 0,int u64 0,int u64 0,int u64 0,int i64 0,int i64 0,slice none 0 0])) m'' []) ([some (Box.mk b [] 30 8 false true)]=[some
 (Box.mk b [] 30 8 false true)]/\∃(n':Nat),n' < ak/\I [int i64 (IntKind.wrap i64 (n+(1:Int)))] [cs] [] m' n'))) (∃(R_1:RT),True/\CX Tryz.prog 34 (Array.mk [int u8 3,int u8 1,slice p0a p0n p0c]) m' [] R_1
 /\ Zaz Shape.slice R_1/\∀(a:Option Addr)(n c:Nat)(ah:Mem),Mem.le m' ah->R_1 (slice a n c) ah []->∃(R_2:RT),True/\CX Tryz.prog 33 (Array.mk [int u8 3,slice a n c,agg (Array.mk [int u8 1,int u64 0,
 int u64 0,int u64 0,int u64 0,int i64 0,int i64 0,slice none 0 0])]) ah [] R_2/\Zaz (shT) R_2/\∀(n an ao ap aq ar au:Int)(a:Option Addr)(av c:Nat)(m':Mem),Mem.le ah m'->R_2 (agg (Array.mk [int u8
 n,int u64 an,int u64 ao,int u64 ap,int u64 aq,int i64 ar,int i64 au,slice a av c])) m' []->∃(m'':Mem),Mem.le m m''/\Mem.le m'' m'/\R (agg (Array.mk [int u8 n,int u64 an,int u64 ao,int u64 ap,int u64
 aq,int i64 ar,int i64 au,slice a av c])) m'' [])
theorem Zua(p0a:Option Addr)(p0n p0c:Nat)(m:Mem)(R:RT)(h:ZpW p0a p0n p0c m R):CX Tryz.prog 6 #[.slice p0a p0n p0c] m [] R:=
 Zah (E:=Zwv) Zay mix Tryz.func6 [.v (.slice p0a p0n p0c)] [] (by kernel_rfl) (Eq.mp (by kernel_rfl) h)
noncomputable def ZnA:Env:={ EB with
 frzNew:=[1] }
def ZhI(aG aD aI aJ aK aE aH:Int)(aB:Option Addr)(aA aC:Nat)(m:Mem)(R:RT):Prop:=
 ∀(b:Nat)(m':Mem),Mem.le m m'->Mem.reads m' b 0 [int u8 aG,int u64 aD,int u64 aI,int u64 aJ,int u64 aK,int i64 aE,int i64 aH,slice aB aA aC]->∀(b b:Nat),Mem.free m' b->∃(R_1:
 RT),True/\CX Tryz.prog 35 (Array.mk [agg (Array.mk [int u8 6,int u64 0,int u64 0,int u64 0,int u64 0,int i64 0,int i64 0,slice (some (Addr.mk b 0 none)) 1 1])]) (Mem.add m' b [int u8 aG,int u64 aD,int u64
 aI,int u64 aJ,int u64 aK,int i64 aE,int i64 aH,slice aB aA aC]) [] R_1/\Zaz (shT) R_1/\∀(n n_1 n_2 n_3 n_4 n_5 n_6:Int)(a:Option Addr)(n_7 c:Nat)(m'_1:Mem),Mem.le (Mem.add m' b
 [int u8 aG,int u64 aD,int u64 aI,int u64 aJ,int u64 aK,int i64 aE,int i64 aH,slice aB aA aC]) m'_1->R_1 (agg (Array.mk [int u8 n,int u64 n_1,int u64 n_2,int u64 n_3,int u64 n_4,int
 i64 n_5,int i64 n_6,slice a n_7 c])) m'_1 []->∃(m'':Mem),Mem.le m m''/\Mem.le m'' m'_1/\R (agg (Array.mk [int u8 n,int u64 n_1,int u64 n_2,int u64 n_3,int u64 n_4,int i64 n_5,int i64 n_6,slice a n_7 c]))
 m'' []
theorem ZlI(aG aD aI aJ aK aE aH:Int)(aB:Option Addr)(aA aC:Nat)(m:Mem)(R:RT)(h:ZhI aG aD aI aJ aK aE aH aB aA aC m R):CX Tryz.prog 7 #[.agg #[.int .u8 aG,.int .u64 aD,.int .u64 aI,.int .u64 aJ,.int .u64 aK,.int .i64 aE,.int .i64 aH,.slice aB aA aC]] m [] R:=
 Zah (E:=ZnA) Zay mix Tryz.func7 [.v (.agg #[.int .u8 aG,.int .u64 aD,.int .u64 aI,.int .u64 aJ,.int .u64 aK,.int .i64 aE,.int .i64 aH,.slice aB aA aC])] [] (by kernel_rfl) (Eq.mp (by kernel_rfl) h)
noncomputable def ZpX:Env:={ EB with
 loops:=(λi=>bif Nat.beq i 3 then⟨[(12,.int .i64)],[],[],false⟩ else⟨[],[],[],false⟩)
 dr:=(λi=>bif Nat.beq i 5 then[⟨0,[1],[],none,[],[]⟩,⟨1,[1],[],none,[0],[]⟩,⟨2,[],[],none,[],[]⟩,⟨3,[4],[],none,[],[]⟩,⟨4,[],[],none,[3],[]⟩,⟨5,[],[],none,[0,1,2,3,4],[]⟩]else[])
 thaw:=true
 stAt:=(λi=>bif Nat.beq i 22 then some 7 else none)
 last:=(λi=>bif Nat.beq i 5 then true else false)
 tokC:=(λi=>bif Nat.beq i 7 then some (7,8)else none) }
def ZiO(aG aD aI aJ aK aE aH:Int)(aB:Option Addr)(aA aC:Nat)(m:Mem)(R:RT):Prop:=
 ∀(b ak:Nat),∃(R_1:RT),CXT Tryz.prog 79 (Array.mk [slice aB aA aC]) m 8 R_1/\Zaz Shape.slice R_1/\∀(a:Option Addr)(n c:Nat)(m':Mem),Mem.le m m'->R_1 (slice a n c) m' []->∃(I:IT),(∃(n
 : Nat),I [int i64 0] [] [] m' n)/\∀(aa:Int)(m':Mem)(al:Nat),True->I [int i64 aa] [] [] m' al->br (decide (aa < (↑n:Int))) (∃(am:Nat),∃(o:Nat),a=some (Addr.mk am o none)/\Zag aa n/\∃(v:
 Value),∃(ab:Value),∃(ac:Value),∃(ad:Value),∃(ae:Value),∃(af:Value),∃(ag:Value),∃(ah:Value),Mem.reads m' am (o+Int.toNat aa*8) [v,ab,ac,ad,ae,af,ag,ah]/\∀(az:Nat),chk
 (Value.oneCell' v&&(Value.oneCell' ab&&(Value.oneCell' ac&&(Value.oneCell' ad&&(Value.oneCell' ae&&(Value.oneCell' af&&(Value.oneCell' ag&&(Value.oneCell' ah&&true)))))))) (∃(f:Fx),∃(R:RT),R=f
 4 [agg (Array.mk [v,ab,ac,ad,ae,af,ag,ah])] m'/\CX Tryz.prog 52 (Array.mk [agg (Array.mk [v,ab,ac,ad,ae,af,ag,ah])]) m' [] R/\Zaz (shT) R/\∀(an ao ap aq ar au av:Int)(aw:Option Addr) (ax ay:
 Nat) (ai:Mem),Mem.le m' ai->R (agg (Array.mk [int u8 an,int u64 ao,int u64 ap,int u64 aq,int u64 ar,int i64 au,int i64 av,slice aw ax ay])) ai []->∃(aj:Nat),∃(o:Nat),a=some (Addr.mk aj o none)/\
 Zag aa n/\∀(M:Mem),Mem.le m' M->Mem.le ai M->slice a n c=slice (some (Addr.mk aj 0 none)) n c/\o+Int.toNat aa*8+8<=n*8/\[some (Box.mk ak [int u8 0,int u64 0,int u64 0,int u64 0,int u64 0,int
 i64 0,int i64 0,slice none 0 0] 30 8 false true),some (Box.mk b [int u8 aG,int u64 aD,int u64 aI,int u64 aJ,int u64 aK,int i64 aE,int i64 aH,slice a n c] 30 8 false true)]=[some (Box.mk ak [int
 u8 0,int u64 0,int u64 0,int u64 0,int u64 0,int i64 0,int i64 0,slice none 0 0] 30 8 false true),some (Box.mk b [int u8 aG,int u64 aD,int u64 aI,int u64 aJ,int u64 aK,int i64 aE,int i64 aH,
 slice a n c] 30 8 false true)]/\[some (Tok.mk (slice a n c) 8)]=[some (Tok.mk (slice a n c) 8)]/\∃(n':Nat),n' < al/\I [int i64 (IntKind.wrap i64 (aa+(1:Int)))] [] [] (Mem.upd M aj (o+Int.toNat aa*8)
 [int u8 an,int u64 ao,int u64 ap,int u64 aq,int u64 ar,int i64 au,int i64 av,slice aw ax ay]) n')) (∃(m'':Mem),Mem.le m m''/\Mem.le m'' m'/\R (agg (Array.mk [int u8 aG,int u64 aD,int u64 aI,int u64
 aJ,int u64 aK,int i64 aE,int i64 aH,slice a n c])) m'' [])
theorem ZnB(aG aD aI aJ aK aE aH:Int)(aB:Option Addr)(aA aC:Nat)(m:Mem)(R:RT)(h:ZiO aG aD aI aJ aK aE aH aB aA aC m R):CX Tryz.prog 52 #[.agg #[.int .u8 aG,.int .u64 aD,.int .u64 aI,.int .u64 aJ,.int .u64 aK,.int .i64 aE,.int .i64 aH,.slice aB aA aC]] m [] R:=
 Zah (E:=ZpX) Zay mix Tryz.func52 [.v (.agg #[.int .u8 aG,.int .u64 aD,.int .u64 aI,.int .u64 aJ,.int .u64 aK,.int .i64 aE,.int .i64 aH,.slice aB aA aC])] [] (by kernel_rfl) (Eq.mp (by kernel_rfl) h)
noncomputable def Zb6:Env:={ EB with
 tokOf:=(λi=>bif Nat.beq i 2 then 7 else bif Nat.beq i 7 then 7 else 0)
 tokC:=(λi=>bif Nat.beq i 5 then some (7,8)else none)
 thaw:=true }
def Zbf(p0a:Option Addr)(p0n p0c:Nat)(m:Mem)(R:RT):Prop:=
 br (Option.isNone p0a) (slice none 0 0=slice none 0 0/\R (slice none 0 0) m []) (((0:Int)=(0:Int)/\(0:Int)<=(0:Int)/\(0:Int)*(↑(80:Nat):Int)<=(281474976710656:Int)/\(0:Int) <=
 (9223372036854775807:Int))/\∀(b:Nat),Mem.free m b->(Tok.mk (slice (some (Addr.mk b 0 none)) 0 (Int.toNat (0:Int))) 8=Tok.mk (slice (some (Addr.mk b 0 none)) 0 (Int.toNat (0:Int))) 8\/slice (some (Addr.mk
 b 0 none)) 0 (Int.toNat (0:Int))=slice none 0 0\/Int.toNat (0:Int) < 0+p0n)/\∃(xs:List Value),∃(ys:List Value),List.length xs=0*8/\List.length ys=p0n*8/\rowRd m (some (Addr.mk b 0 none)) xs/\
 rowRd m p0a ys/\(∀(u:Value),u∈ys->Value.oneCell' u=true)/\(0+p0n)*80<=140737488355328/\0+p0n<=9223372036854775807/\∀(a':Option Addr)(c':Nat)(m':Mem),Mem.le m m'->rowRd m' a' (List.append
 xs ys)->TokFact m (some (Addr.mk b 0 none)) a' (0+p0n) c'->some (Tok.mk (slice a' (0+p0n) c') 8)=some (Tok.mk (slice a' (0+p0n) c') 8)/\R (slice a' (0+p0n) c') m' [])
theorem ZbS(p0a:Option Addr)(p0n p0c:Nat)(m:Mem)(R:RT)(h:Zbf p0a p0n p0c m R):CXT Tryz.prog 79 #[.slice p0a p0n p0c] m 8 R:=
 Zmj (E:=Zb6) Zay mix Tryz.func79 [.v (.slice p0a p0n p0c)] (by kernel_rfl) (Eq.mp (by kernel_rfl) h)
end Go.Proofs.YtgclajkldphoaaaGreat
namespace Go.Proofs.YtgclajkldphoaaaGreat
open Go Go.Eng Go.Rx Go.Proofs Go.RowKit
set_option maxRecDepth 100000
theorem ZBj(l:List T):∀u∈Rx.Zcu l,u.oneCell'=true:=by
 intro u hu
 simp only[Rx.Zcu,List.mem_flatten,List.mem_map]at hu
 obtain⟨_,⟨t,_,rfl⟩,h⟩:=hu
 simp only[T.cs,T.sl,List.mem_cons,List.not_mem_nil,or_false]at h
 rcases h with rfl|rfl|rfl|rfl|rfl|rfl|rfl|rfl <;> rfl
theorem ZnC(a:Option Addr)(c:Nat)(l:List T)(m:Mem)(h:rowRd m a (Rx.Zcu l))(hl:l.length<=1000000000000):CXT Tryz.prog 79 #[.slice a l.length c] m 8 (λv m' _=>∃a' c',v=.slice a' l.length c'/\rowRd m' a' (Rx.Zcu l)/\l.length<=c'/\(l.length=0\/∃b,a'=some ⟨b,0,none⟩/\m.free b)):=by
 apply ZbS
 unfold Zbf
 have bO:=Zao l
 refine Zab (λha=>?_) (λha=>⟨⟨rfl,Int.le_refl _,by decide,by decide⟩,λb hf=>⟨.inl rfl,[],Rx.Zcu l,rfl,bO,.inl rfl,h,ZBj l,by omega,by omega,λa' c' m' hm bG xt=>⟨rfl,?_⟩⟩⟩)
 ·obtain rfl:a=none:=by simpa using ha
  have h0:l=[]:=by
   rcases h with h|⟨_,_,h,_⟩
   ·rw[h]at bO;exact List.eq_nil_of_length_eq_zero (by simp at bO;omega)
   ·cases h
  subst h0
  exact⟨rfl,none,0,rfl,.inl rfl,Nat.le_refl _,.inl rfl⟩
 ·simp only[Nat.zero_add]at xt ⊢
  refine⟨a',c',rfl,bG,xt.1,?_⟩
  rcases(xt.old (λ_ _ e=>by cases e;rfl)).2 with h1|⟨b',h1,h2|h2⟩
  ·subst h1
   left
   rcases bG with h3|⟨_,_,h3,_⟩
   ·have h4:(Rx.Zcu l).length=0:=congrArg List.length h3
    omega
   ·cases h3
  ·right;rw[<-h2];exact⟨b,rfl,hf⟩
  ·exact .inr ⟨b',h1,h2⟩
theorem Zww{m:Mem}{b:Nat}{ts r:List T}{x t:T}(h:rowRd m (some ⟨b,0,none⟩) (Rx.Zcu (ts++x::r))):rowRd (m.upd b (0+ts.length*8) t.cs) (some ⟨b,0,none⟩) (Rx.Zcu (ts++t::r)):=by
 rcases h with h|⟨b',o',ha,h⟩
 ·have hl:(Rx.Zcu (ts++x::r)).length=0:=by rw[h];rfl
  rw[Zao,List.length_append,List.length_cons]at hl
  omega
 cases ha
 have e:∀y:T,Rx.Zcu (ts++y::r)=Rx.Zcu ts++(y.cs++Rx.Zcu r):=λy=>by simp[Rx.Zcu]
 have h8:∀y:T,y.cs.length=8:=λ_=>rfl
 refine .inr ⟨b,0,rfl,λj v hj=>?_⟩
 rw[e]at hj
 unfold Mem.upd;try dsimp only
 rw[Nat.zero_add,Nat.zero_add,h8]
 rcases Nat.lt_or_ge j (ts.length*8)with bF|cR
 ·rw[if_neg (by omega)]
  rw[List.getElem?_append_left (by rw[Zao];exact bF)]at hj
  have:=h j v (by rw[e,List.getElem?_append_left (by rw[Zao];exact bF)];exact hj)
  rwa [Nat.zero_add]at this
 ·rw[List.getElem?_append_right (by rw[Zao];exact cR),Zao]at hj
  rcases Nat.lt_or_ge j (ts.length*8+8)with bF|wF
  ·rw[if_pos ⟨rfl,cR,bF⟩]
   rw[List.getElem?_append_left (by rw[h8];omega)]at hj
   exact hj
  ·rw[if_neg (by omega)]
   rw[List.getElem?_append_right (by rw[h8];omega),h8]at hj
   have:=h j v (by
    rw[e,List.getElem?_append_right (by rw[Zao];exact cR),Zao,List.getElem?_append_right (by rw[h8];omega),h8];exact hj)
   rwa [Nat.zero_add]at this
theorem Zwx{m m':Mem}(h:m.le m'){b:Nat}(hf:m'.free b):m.free b:=λo=>by
 cases he:m b o with
 | none=>rfl
 | some v=>have:=h _ _ _ he;rw[hf o]at this;cases this
def NewT(m:Mem)(t:T):Prop:=∀x∈t.nodes,x.subs=[]\/∃b,x.a=some ⟨b,0,none⟩/\m.free b
theorem NewT.less{m m':Mem}{t:T}(hn:NewT m' t)(h:m.le m'):NewT m t:=λx hx=>(hn x hx).imp id λ⟨b,e,hf⟩=>⟨b,e,Zwx h hf⟩
theorem Zub{m:Mem}{k s0 s1 s2 s3 mn mx:Int}{a:Option Addr}{c:Nat}{l:List T}(h:l=[]\/∃b,a=some ⟨b,0,none⟩/\m.free b)(hl:∀x∈l,NewT m x):NewT m (.node k s0 s1 s2 s3 mn mx a c l):=by
 intro x hx
 simp only[T.nodes,List.mem_cons]at hx
 rcases hx with rfl|hx
 ·exact h
 ·have:∀l:List T,(∀x∈l,NewT m x)->∀x∈Zal l,x.subs=[]\/∃b,x.a=some ⟨b,0,none⟩/\m.free b:=by
   intro l
   induction l with
   | nil=>intro _ x hx;simp[Zal]at hx
   | cons y l ih=>
    intro h x hx
    simp only[Zal,List.mem_append]at hx
    rcases hx with hx|hx
    ·exact h y (by simp) x hx
    ·exact ih (λz hz=>h z (by simp[hz])) x hx
  exact this l hl x hx
theorem ZsI{m:Mem}{t:T}(h:t.subs=[]):NewT m t:=by
 intro x hx
 rw[Zbh,h]at hx
 simp[Zal]at hx
 subst hx;exact .inl h
set_option maxHeartbeats 800000 in
theorem ZmF(t:T)(m:Mem)(hr:Rep m t)(hz:t.nodes.length<=10000):CX Tryz.prog 52 #[t.v] m [] (ZfG λt'=>t'.er=t.er/\(t'.caps/\NewT m t')):=by
 have bW:szL t.subs<=10000:=by rw[ZrP]at hz;omega
 have iC:t.subs.length<=10000:=Nat.le_trans (ZoZ _) bW
 apply ZnB
 unfold ZiO
 intro b b1
 refine⟨_,ZnC t.a t.c t.subs m (ZcH hr.subs) (by omega),(λv _ _ ⟨a,c,e,_⟩=>by rw[e];rfl),?_⟩
 rintro a n c m1 bH ⟨a',c',hv,bG,hU,bP⟩
 simp only[Value.slice.injEq]at hv
 obtain⟨rfl,rfl,rfl⟩:=hv
 have cB:∀x∈t.subs,Rep m x:=ZfI hr.subs
 refine⟨λxs css tvs m' q=>∃(k:Nat)(L:List T)(mb:Mem),k<=t.subs.length/\xs=[.int .i64 k]/\q=t.subs.length - k/\L.length=k/\L.map T.er=(t.subs.take k).map T.er/\m.le mb/\mb.le m'/\(t.subs.length=0\/∃b,a=some ⟨b,0,none⟩/\mb.free b)/\(∀x∈L,Rep mb x/\(x.caps/\NewT m x))/\(t.subs.length=0\/∃b,a=some ⟨b,0,none⟩/\m.free b)/\rowRd m' a (Rx.Zcu (L++t.subs.drop k)),⟨_,0,[],m,by omega,rfl,rfl,rfl,rfl,Mem.le_refl _,bH,bP,by simp,bP,bG⟩,?_⟩
 rintro z m2 q _ ⟨k,L,mb,hk,cJ,hq,uW,xu,iH,rG,eG,qr,cC,gP⟩
 obtain rfl:z=k:=by simpa using cJ
 refine Zab (λbF=>?_) (λcR=>?_)
 ·have bI:k < t.subs.length:=by have:=of_decide_eq_true bF;omega
  obtain⟨x,hx⟩:=Zea bI
  have eL:=cB x (List.mem_of_getElem? hx)
  have rh:x.nodes.length<=10000:=by
   obtain⟨h1,h2⟩:=List.getElem?_eq_some_iff.1 hx
   have:=congrArg List.length (Zep hx)
   unfold szL at bW
   simp only[List.length_append]at this
   omega
  have lA:t.subs.drop k=x::t.subs.drop (k+1):=by
   rw[List.drop_eq_getElem_cons bI,(List.getElem?_eq_some_iff.1 hx).2]
  rcases eG with eG|⟨bk,rfl,dD⟩
  ·omega
  obtain⟨b0,o0,rH,cP⟩:=ZdE gP (i:=k) (t:=x) (by rw[List.getElem?_append_right (by omega),uW,Nat.sub_self,lA];rfl)
  cases rH
  have hw:IntKind.i64.wrap ((k:Int)+1)=((k+1:Nat):Int):=by rw[ZaN (by omega) (by omega)];rfl
  simp only[hw,Int.toNat_natCast]
  have iP:CX Tryz.prog 52 #[x.v] m2 [] (Zqb mb m2 λt'=>t'.er=x.er/\(t'.caps/\NewT mb t')):=(ZmF x mb (Rep.mono iH x eL) rh).frame2 rG
  refine⟨bk,0,rfl,⟨by omega,by omega⟩,_,_,_,_,_,_,_,_,cP,λb3=>Zaa rfl ⟨λ_ _ _=>Zqb mb m2 λt'=>t'.er=x.er/\(t'.caps/\NewT mb t'),Zqb mb m2 λt'=>t'.er=x.er/\(t'.caps/\NewT mb t'),rfl,iP,Zeb,Zki λt' m0 m3 bX h0 lS eI hr' ht'=>⟨bk,0,rfl,⟨by omega,by omega⟩,λM dT iG=>⟨rfl,by omega,by trivial,by trivial,t.subs.length - (k+1),by omega,k+1,L++[t'],m0,by omega,rfl,rfl,by simp[uW],?_,mLt iH h0,?_,.inr ⟨bk,rfl,?_⟩,?_,cC,?_⟩⟩⟩⟩
  ·rw[List.map_append,xu,ZbZ hx,List.map_append]
   simp[ht'.1]
  ·refine Mem.le_upd (mLt lS iG) ?_ _ _
   intro o'
   have hc:m2 bk (0+k*8+0)=some (.int .u8 x.k):=cP 0 _ rfl
   rw[eI _ _ _ hc o'];exact dD o'
  ·intro o'
   have hc:m2 bk (0+k*8+0)=some (.int .u8 x.k):=cP 0 _ rfl
   rw[eI _ _ _ hc o'];exact dD o'
  ·intro y hy
   rcases List.mem_append.1 hy with hy|hy
   ·exact⟨Rep.mono h0 y (qr y hy).1,(qr y hy).2⟩
   ·simp at hy;subst hy;exact⟨hr',ht'.2.1,ht'.2.2.less iH⟩
  ·rw[lA]at gP
   have h5:=Zww (t:=t') (gP.mono dT)
   rw[uW]at h5
   rw[List.append_assoc]
   exact h5
 ·have dM:k=t.subs.length:=by have:=of_decide_eq_false cR;omega
  subst dM
  rw[List.drop_length,List.append_nil]at gP
  rw[List.take_length]at xu
  have bZ:=ZvH hr
  refine⟨m2,mLt iH rG,Mem.le_refl _,.node t.k t.s0 t.s1 t.s2 t.s3 t.mn t.mx a c L,?_,?_,?_⟩
  ·simp only[T.v,T.k,T.s0,T.s1,T.s2,T.s3,T.mn,T.mx,T.a,T.c,T.subs,uW]
  ·have:=Zmo gP (λx hx=>Rep.mono rG x (qr x hx).1) (by omega)
   exact Zzi this.1 this.2 bZ
  ·have:=ZxQ (k:=t.k) (s0:=t.s0) (s1:=t.s1) (s2:=t.s2) (s3:=t.s3) (mn:=t.mn) (mx:=t.mx) (a:=a) (a':=t.a) (c:=c) (c':=t.c) xu
   refine⟨this.trans ?_,Zpa (by omega) λx hx=>(qr x hx).2.1,Zub (cC.imp (λh=>List.eq_nil_of_length_eq_zero (by omega)) id) λx hx=>(qr x hx).2.2⟩
   cases t;rfl
termination_by SizeOf.sizeOf t
decreasing_by exact Zm8 (List.mem_of_getElem? hx)
theorem ZvO(m:Mem):Rep m T0:=Zbk (k:=0) (mn:=0) (mx:=0) (a:=none) (c:=0) (l:=[]) ⟨by simp,.inl rfl⟩ (by omega) (by omega) (by omega)
theorem ZtB(m:Mem):Rep m T1:=Zbk (k:=1) (mn:=0) (mx:=0) (a:=none) (c:=0) (l:=[]) ⟨by simp,.inl rfl⟩ (by omega) (by omega) (by omega)
theorem ZhJ(t:T)(m:Mem)(hr:Rep m t):CX Tryz.prog 35 #[t.v] m [] (ZfG λt'=>Zzq t t'/\NewT m t'):=by
 apply ZlH
 unfold ZhH
 intro b m1 bH _ b1
 refine Zax (ZnZ t m1 (hr.mono bH)) λm2 bL=>Zab (λh=>?_) (λh=>?_)
 ·exact⟨m2,mLt bH bL,Mem.le_refl _,T0,rfl,ZvO _,⟨.inr ⟨by simpa using h,rfl⟩,ZxR⟩,ZsI rfl⟩
 ·have hc:t.clean=true:=by simpa using h
  refine ZaJ (ZmF t m2 (hr.mono (mLt bH bL)) (Zj8 hc)) Zbw (ZfH λt' m3 bX hr' ht'=>?_)
  exact⟨m3,mLt bH (mLt bL bX),Mem.le_refl _,t',rfl,hr',⟨.inl ⟨hc,ht'.1⟩,ht'.2.1⟩,ht'.2.2.less (mLt bH bL)⟩
theorem ZyD(k w:Int)(L:List T)(a:Option Addr)(c:Nat)(m:Mem)(hL:RepL m a L)(hl:L.length<=1000)(hs:∀x∈L,x.subs.length<=10000):CX Tryz.prog 34 #[.int .u8 k,.int .u8 w,.slice a L.length c] m [] (λv m' _=>∃a' c',v=.slice a' (Zfj k w L).length c'/\RepL m' a' (Zfj k w L)):=by
 apply Zrj
 unfold ZmE
 have bG:=ZcH hL
 have cB:=ZfI hL
 have oB:∀i,(Zfj k w (L.take i)).length<=10001000:=λi=>by
  have:=Zlb k w (L.take i) λx hx=>hs x (List.mem_of_mem_take hx)
  have h2:(L.take i).length<=1000:=by rw[List.length_take];omega
  omega
 refine⟨λxs css tvs m' q=>∃(i:Nat)(a:Option Addr)(c:Nat),i<=L.length/\xs=[.slice a (Zfj k w (L.take i)).length c,.int .i64 i]/\tvs=[.slice a (Zfj k w (L.take i)).length c]/\rowRd m' a (Rx.Zcu (Zfj k w (L.take i)))/\q=L.length - i,⟨_,0,none,0,by omega,rfl,rfl,.inl rfl,rfl⟩,?_⟩
 rintro a1 n1 c1 z a2 n2 c2 m1 q bH ⟨i,a',c',hi,cJ,fI,gT,hq⟩
 simp only[List.cons.injEq,Value.slice.injEq,Value.int.injEq,true_and,and_true]at cJ fI
 obtain⟨⟨rfl,rfl,rfl⟩,rfl⟩:=cJ
 obtain⟨rfl,rfl,rfl⟩:=fI
 refine Zab (λbF=>?_) (λcR=>?_)
 ·have bI:i < L.length:=by have:=of_decide_eq_true bF;omega
  obtain⟨x,hx⟩:=Zea bI
  obtain⟨b0,o0,rH,cP⟩:=ZdE (bG.mono bH) hx
  have eL:=(cB x (List.mem_of_getElem? hx)).mono bH
  have cJ:=hs x (List.mem_of_getElem? hx)
  have hw:IntKind.i64.wrap ((i:Int)+1)=((i+1:Nat):Int):=by rw[ZaN (by omega) (by omega)];rfl
  have bY:=ZqU k w (L.take i) x
  rw[<-ZbZ hx]at bY
  have lW:=oB i
  simp only[hw,Int.toNat_natCast]
  refine⟨b0,o0,rH,⟨by omega,by omega⟩,_,_,_,_,_,_,_,_,cP,λb3=>Zaa rfl (Zaa rfl (Zab (λhk=>?_) (λhk=>Zaa rfl (Zab (λhw'=>?_) (λhw' b4 wR=>?_)))))⟩
  ·have hk':x.k=k:=by simpa[RowKit.intOf]using hk
   have kH:Zj7 k w x=x.subs:=by unfold Zj7;rw[if_pos hk']
   rw[kH]at bY
   refine Zaa rfl ⟨.inl trivial,Rx.Zcu (Zfj k w (L.take i)),Rx.Zcu x.subs,Zao _,Zao _,gT,ZcH eL.subs,ZBj _,?_,?_,λa5 c5 m5 c9 nQ=>⟨L.length - (i+1),by omega,i+1,a5,c5,by omega,?_,?_,?_,rfl⟩⟩
   ·simp only[T.sl,slN];omega
   ·simp only[T.sl,slN];omega
   ·rw[bY,List.length_append];rfl
   ·rw[bY,List.length_append];rfl
   ·rw[bY,ZaL];exact nQ
  ·have hk':¬x.k=k:=by simpa[RowKit.intOf]using hk
   have dS:x.k=w:=by simpa[RowKit.intOf]using hw'
   have kH:Zj7 k w x=[]:=by unfold Zj7;rw[if_neg hk',if_pos dS]
   rw[kH,List.append_nil]at bY
   exact⟨L.length - (i+1),by omega,i+1,a2,c2,by omega,by rw[bY],by rw[bY],by rw[bY];exact gT,rfl⟩
  ·have hk':¬x.k=k:=by simpa[RowKit.intOf]using hk
   have dS:¬x.k=w:=by simpa[RowKit.intOf]using hw'
   have kH:Zj7 k w x=[x]:=by unfold Zj7;rw[if_neg hk',if_neg dS]
   rw[kH]at bY
   refine⟨.inl trivial,Rx.Zcu (Zfj k w (L.take i)),x.cs,Zao _,rfl,gT.mono (Mem.le_add wR _),.inr ⟨b4,0,rfl,λj v hj=>by rw[Nat.zero_add,Mem.add_same];exact hj⟩,by have:=ZBj [x];simpa[Rx.Zcu]using this,by omega,by omega,λa5 c5 m5 c9 nQ=>⟨L.length - (i+1),by omega,i+1,a5,c5,by omega,?_,?_,?_,rfl⟩⟩
   ·rw[bY,List.length_append];rfl
   ·rw[bY,List.length_append];rfl
   ·rw[bY,ZoX];exact nQ
 ·have wh:i=L.length:=by have:=of_decide_eq_false cR;omega
  subst wh
  rw[List.take_length]at gT ⊢
  have lW:=oB L.length
  rw[List.take_length]at lW
  refine⟨m1,bH,Mem.le_refl _,a2,c2,rfl,Zmo gT (λt ht=>?_) (by omega)⟩
  simp only[Zfj,List.mem_flatten,List.mem_map]at ht
  obtain⟨_,⟨x,hx,rfl⟩,ht⟩:=ht
  have eL:=(cB x hx).mono bH
  unfold Zj7 at ht
  split at ht
  ·exact ZfI eL.subs t ht
  ·split at ht
   ·simp at ht
   ·simp at ht;subst ht;exact eL
theorem Zrk(k:Int)(hk:k=3\/k=4)(a:Option Addr)(c:Nat)(l:List T)(u:T)(m:Mem)(hl:RepL m a l)(hu:Rep m u)(gJ:l.length<=1000000000)(qN:u.subs=[]):CX Tryz.prog 33 #[.int .u8 k,.slice a l.length c,u.v] m [] (ZfG λt'=>ZAy k a c u l t'/\NewT m t'):=by
 apply Znz
 unfold ZiN
 intro b m1 bH _ b1
 have bG:=ZcH (hl.mono bH)
 match l,hl,gJ,bG with
 | [],hl,gJ,bG=>exact ZyJ rfl ⟨m1,bH,Mem.le_refl _,u,rfl,hu.mono bH,rfl,ZsI qN⟩
 | [x],hl,gJ,bG=>
  refine ZjA rfl (ZyJ rfl ?_)
  obtain⟨b0,o0,rH,cP⟩:=ZdE bG (i:=0) (t:=x) rfl
  refine⟨b0,o0,rH,⟨by omega,by simp⟩,_,_,_,_,_,_,_,_,cP,ZaJ (ZhJ x m1 ((ZfI hl x (by simp)).mono bH)) Zbw (ZfH λt' m2 bL hr' ht'=>?_)⟩
  exact⟨m2,mLt bH bL,Mem.le_refl _,t',rfl,hr',ht'.1,ht'.2.less bH⟩
 | x::y::l,hl,gJ,bG=>
  refine ZjA (by simp;omega) (ZjA (by simp;omega) ?_)
  have lJ:Rep m1 (Zas k 0 0 a c (x::y::l)):=Zbk (hl.mono bH) (by omega) (by omega) (by omega)
  refine ZaJ (ZhJ (Zas k 0 0 a c (x::y::l)) m1 lJ) Zbw (ZfH λt' m2 bL hr' ht'=>?_)
  exact⟨m2,mLt bH bL,Mem.le_refl _,t',rfl,hr',ht'.1,ht'.2.less bH⟩
theorem ZmG{t:T}(h:t.clean=true):t.subs.length<=10000:=by
 have h1:=Zj8 h
 rw[ZrP]at h1
 have:=ZoZ t.subs
 omega
theorem ZyE(L:List T)(a:Option Addr)(c:Nat)(m:Mem)(hL:RepL m a L)(hl:L.length<=1000)(hc:∀x∈L,x.clean=true):CX Tryz.prog 6 #[.slice a L.length c] m [] (ZfG λt'=>(∃a c,ZAy 3 a c T1 (Zfj 3 1 L) t')/\NewT m t'):=by
 apply Zua
 unfold ZpW
 intro b
 have bG:=ZcH hL
 have cB:=ZfI hL
 refine⟨λxs css tvs m' q=>∃i:Nat,i<=L.length/\xs=[.int .i64 i]/\q=L.length - i,⟨_,0,by omega,rfl,rfl⟩,?_⟩
 rintro z cs m1 q bH ⟨i,hi,cJ,hq⟩
 obtain rfl:z=i:=by simpa using cJ
 refine Zab (λbF=>?_) (λcR=>?_)
 ·have bI:i < L.length:=by have:=of_decide_eq_true bF;omega
  obtain⟨x,hx⟩:=Zea bI
  obtain⟨b0,o0,rH,cP⟩:=ZdE (bG.mono bH) hx
  have eL:=(cB x (List.mem_of_getElem? hx)).mono bH
  have yB:=hc x (List.mem_of_getElem? hx)
  have hk:=ZxS yB
  have eK:=ZnZ x m1 eL
  rw[yB]at eK
  have hw:IntKind.i64.wrap ((i:Int)+1)=((i+1:Nat):Int):=by rw[ZaN (by omega) (by omega)];rfl
  simp only[hw,Int.toNat_natCast]
  refine⟨b0,o0,rH,⟨by omega,by omega⟩,_,_,_,_,_,_,_,_,cP,λb3=>Zaa rfl ⟨false,?_,ZjA rfl ⟨by trivial,L.length - (i+1),by omega,i+1,by omega,rfl,rfl⟩⟩⟩
  refine Zaa rfl (ZjA (by simpa[RowKit.intOf]using hk) ?_)
  exact Zax eK λm2 bL=>⟨by trivial,rfl⟩
 ·refine ZaJ (ZyD 3 1 L a c m1 (hL.mono bH) hl λx hx=>ZmG (hc x hx)) (λv _ _ ⟨a,c,e,_⟩=>by rw[e];rfl) ?_
  rintro a2 n2 c2 m2 bL ⟨a',c',hv,hF⟩
  simp only[Value.slice.injEq]at hv
  obtain⟨rfl,rfl,rfl⟩:=hv
  have oB:=Zlb 3 1 L λx hx=>ZmG (hc x hx)
  refine ZaJ (Zrk 3 (.inl rfl) a2 c2 (Zfj 3 1 L) T1 m2 hF (ZtB _) (by omega) rfl) Zbw (ZfH λt' m3 bX hr' ht'=>?_)
  exact⟨m3,mLt bH (mLt bL bX),Mem.le_refl _,t',rfl,hr',⟨a2,c2,ht'.1⟩,ht'.2.less (mLt bH bL)⟩
theorem ZzE(L:List T)(a:Option Addr)(c:Nat)(m:Mem)(hL:RepL m a L)(hl:L.length<=1000)(hc:∀x∈L,x.clean=true):CX Tryz.prog 6 #[.slice a L.length c] m [] (ZfG λt'=>∃a c,ZAy 3 a c T1 (Zfj 3 1 L) t'):=
 (ZyE L a c m hL hl hc).mono λ_ _ _ _ ⟨t',e,hr',h⟩=>⟨t',e,hr',h.1⟩
theorem ZpY(t:T)(m:Mem)(hr:Rep m t):CX Tryz.prog 7 #[t.v] m [] (ZfG λt'=>(∃a c,Zzq (Zas 6 0 0 a c [t]) t')/\NewT m t'):=by
 apply ZlI
 unfold ZhI
 intro b m1 bH _ b1 b2 nB
 have cF:=mLt bH (Mem.le_add nB t.cs)
 have hL:RepL (m1.add b2 t.cs) (some ⟨b2,0,none⟩) [t]:=Zi9 (λj v hj=>by rw[Nat.zero_add,Mem.add_same];exact hj) (hr.mono cF)
 have lJ:Rep (m1.add b2 t.cs) (Zas 6 0 0 (some ⟨b2,0,none⟩) 1 [t]):=Zbk hL (by omega) (by omega) (by omega)
 refine ZaJ (ZhJ (Zas 6 0 0 (some ⟨b2,0,none⟩) 1 [t]) (m1.add b2 t.cs) lJ) Zbw (ZfH λt' m2 bL hr' ht'=>?_)
 exact⟨m2,mLt cF bL,Mem.le_refl _,t',rfl,hr',⟨_,_,ht'.1⟩,ht'.2.less cF⟩
theorem ZmH(t:T)(m:Mem)(hr:Rep m t):CX Tryz.prog 7 #[t.v] m [] (ZfG λt'=>∃a c,Zzq (Zas 6 0 0 a c [t]) t'):=
 (ZpY t m hr).mono λ_ _ _ _ ⟨t',e,hr',h⟩=>⟨t',e,hr',h.1⟩
theorem ZmI{m:Mem}{a:Option Addr}{s:List Nat}(h:Byt m a s)(n:Nat):Byt m a (s.take n):=by
 refine⟨?_,λc hc=>h.2 c (List.mem_of_mem_take hc)⟩
 rcases h.1 with hs|⟨b,o,h1,h2⟩
 ·subst hs;left;simp
 ·refine .inr ⟨b,o,h1,λj v hj=>?_⟩
  have bF:=(List.getElem?_eq_some_iff.1 hj).1
  simp only[List.length_map,List.length_take]at bF
  rw[List.getElem?_map,List.getElem?_take_of_lt (by omega),<-List.getElem?_map]at hj
  exact h2 j v hj
theorem Zfm{t:T}(hc:t.check=0){s:List Nat}(hs:s.length<=512):T.matches t s=true↔s.length∈t.e0 s 0:=by
 have hg:=(Zb1 hc).1
 have hw:t.wrong s.length 0=0:=by rw[Zft hc];unfold Zzs;rw[if_neg (by omega),if_neg (by omega)]
 rw[ZzZ s t hg 0 (by omega) s.length]
 unfold T.matches
 rw[hw,Bool.and_eq_true]
 have:=Zsb hg hs (i:=0) (j:=s.length) (by omega)
 constructor
 ·rintro⟨_,h⟩;exact this.1 h
 ·exact λh=>⟨rfl,this.2 h⟩
theorem Zuc{t:T}(hc:t.check=0)(a:Option Addr)(c:Nat):(Zas 6 0 0 a c [t]).clean=true:=by
 obtain⟨hg,hn⟩:=Zb1 hc
 have e:(Zas 6 0 0 a c [t]).nodes=Zas 6 0 0 a c [t]::t.nodes:=by rw[Zbh];simp[Zas,T.subs,Zal]
 unfold T.clean T.light
 rw[e,List.all_cons,Bool.and_eq_true,Bool.and_eq_true]
 refine⟨decide_eq_true (by simp only[List.length_cons];omega),?_,hg⟩
 simp[T.right,Zas,T.k,T.subs,T.mn,T.mx,T.setZ,T.s0,T.s1,T.s2,T.s3]
theorem ZzF{t G:T}(hc:t.check=0)(h:∃a c,Zzq (Zas 6 0 0 a c [t]) G):G.clean=true/\∃a c,G.er=(Zas 6 0 0 a c [t]).er:=by
 obtain⟨a,c,h,_⟩:=h
 rcases h with⟨h1,h2⟩|⟨h1,_⟩
 ·exact⟨by rw[ZvV h2];exact h1,a,c,h2⟩
 ·rw[Zuc hc]at h1;cases h1
theorem Zvl:∀P:PL,(plV P).length=P.length*2:=λP=>by
 unfold plV
 induction P with
 | nil=>rfl
 | cons p P ih=>simp only[List.flatMap_cons,List.length_append,List.length_cons,List.length_nil,ih];omega
def ZBk(t:T):T:=(Zas 6 0 0 none 0 [t]).er
def Zud(t G:T):Prop:=∃a c,Zzq (Zas 6 0 0 a c [t]) G
def Zwy(k w:Int)(u t1 t2 t':T):Prop:=∃G1 G2 a c,Zud t1 G1/\Zud t2 G2/\ZAy k a c u (Zfj k w [G1,G2]) t'
theorem ZlJ{t G:T}(hc:t.check=0)(h:Zud t G):G.clean=true/\G.er=ZBk t:=by
 obtain⟨h1,a,c,h2⟩:=ZzF hc h
 exact⟨h1,h2⟩
theorem Zue{k w:Int}{u t1 t2 t':T}(hk:k=3\/k=4)(hw:w≠6)(h1:t1.check=0)(h2:t2.check=0)(h:Zwy k w u t1 t2 t')(hc:t'.check=0):∃G1 G2,G1.er=ZBk t1/\G2.er=ZBk t2/\∃a c,t'.er=(Zas k 0 0 a c [G1,G2]).er:=by
 obtain⟨G1,G2,a,c,c1,c2,hj⟩:=h
 obtain⟨_,e1⟩:=ZlJ h1 c1
 obtain⟨_,e2⟩:=ZlJ h2 c2
 have k1:G1.k=6:=by rw[<-ZAr,e1];rfl
 have k2:G2.k=6:=by rw[<-ZAr,e2];rfl
 have hf:Zfj k w [G1,G2]=[G1,G2]:=by
  have f1:∀G:T,G.k=6->Zj7 k w G=[G]:=λG hG=>by
   unfold Zj7
   rw[hG,if_neg (by omega),if_neg (by omega)]
  simp[Zfj,f1 G1 k1,f1 G2 k2]
 rw[hf]at hj
 obtain⟨hj,_⟩:=hj
 refine⟨G1,G2,e1,e2,a,c,?_⟩
 rcases hj with⟨_,h⟩|⟨_,h⟩
 ·exact h
 ·rw[h]at hc;exact absurd hc (by decide)
theorem ZyF{G1 G2:T}{m M:Mem}{b:Nat}(hM:(m.add b (Rx.Zcu [G1,G2])).le M)(h1:Rep M G1)(h2:Rep M G2):RepL M (some ⟨b,0,none⟩) [G1,G2]:=
 Zmo (.inr ⟨b,0,rfl,λj v hj=>by rw[Nat.zero_add];exact hM.c _ _ _ (by rw[Mem.add_same];exact hj)⟩) (by
  intro x hx
  simp at hx
  rcases hx with rfl|rfl
  ·exact h1
  ·exact h2) (by simp)
def ZBl(E:T)(s:List Nat):RT:=λv m' _=>∃a c,v=.tuple #[.slice a (ZbG E s).1.length c,.int .i64 (ZbG E s).2]/\rowRd m' a (plV (ZbG E s).1)
theorem Zuf(t E:T)(sa:Option Addr)(s:List Nat)(sc:Nat)(m:Mem)(he:t.er=E)(hr:Rep m t)(hb:Byt m sa s):CX Tryz.prog 10 #[t.v,.slice sa s.length sc] m [] (ZBl E s):=
 (ZlG t E sa s sc m he hr hb).mono λv m' css _ ⟨a,c,h1,h2⟩=>⟨a,c,h1,ZlB h2⟩
theorem Zug{E:T}{s:List Nat}:∀(v:Value)(m':Mem) (css:List (List Value)),ZBl E s v m' css->Shape.fits (Shape.tup [Shape.slice,Shape.int .i64]) v=true:=λv _ _ ⟨_,_,h,_⟩=>by rw[h];rfl
theorem ZzG{E:T}{s:List Nat}{m:Mem}{K:Option Addr->Nat->Nat->Int->Mem->Prop}(k:∀(a:Option Addr)(c:Nat)(m':Mem),m.le m'->rowRd m' a (plV (ZbG E s).1)->K a (ZbG E s).1.length c (ZbG E s).2 m'):
  ∀(a:Option Addr)(n c:Nat)(e:Int)(m':Mem),m.le m'->ZBl E s (.tuple #[.slice a n c,.int .i64 e]) m' []->K a n c e m':=by
 rintro a n c e m' hm ⟨a',c',hv,hr⟩
 simp only[Value.tuple.injEq,Array.mk.injEq,List.cons.injEq,Value.int.injEq,Value.slice.injEq,true_and,and_true]at hv
 obtain⟨⟨rfl,rfl,rfl⟩,rfl⟩:=hv
 exact k a c m' hm hr
end Go.Proofs.YtgclajkldphoaaaGreat
namespace Go.Proofs.YtgclajkldphoaaaGreat
open Go Go.Eng Go.Rx Go.Proofs Go.RowKit Go.Shelf
set_option maxRecDepth 100000
def ZyG:Ren:=⟨fun|125=>50|128=>75|129=>76|189=>15|215=>101|216=>72|257=>49|294=>66|295=>67|296=>68|297=>69|298=>70|299=>71|300=>73|301=>74|328=>96|329=>97|330=>98|331=>99|332=>100|343=>105|n=>n,
 fun|0=>0|3=>3|4=>4|5=>5|9=>9|28=>44|46=>97|51=>130|53=>25|131=>118|182=>122|183=>123|218=>139|222=>143|228=>147|229=>148|n=>n,λn=>n⟩
theorem ZsJ:Lays.n189 Tryz.prog ZyG:=
 {mixed:=mix
  f125:=by kernel_rfl,f128:=by kernel_rfl,f129:=by kernel_rfl,f189:=by kernel_rfl,f215:=by kernel_rfl,f216:=by kernel_rfl,f257:=by kernel_rfl,f294:=by kernel_rfl,f295:=by kernel_rfl,f296:=by kernel_rfl,f297:=by kernel_rfl
  f298:=by kernel_rfl,f299:=by kernel_rfl,f300:=by kernel_rfl,f301:=by kernel_rfl,f328:=by kernel_rfl,f329:=by kernel_rfl,f330:=by kernel_rfl,f331:=by kernel_rfl,f332:=by kernel_rfl,f343:=by kernel_rfl
  t0:=by kernel_rfl,a0:=Tryz.isAgg0,z0:=Tryz.sizeOf0,v0:=Tryz.zeroValue0
  t3:=by kernel_rfl,a3:=Tryz.isAgg3,z3:=Tryz.sizeOf3,v3:=Tryz.zeroValue3
  t4:=by kernel_rfl,a4:=Tryz.isAgg4,z4:=Tryz.sizeOf4,v4:=Tryz.zeroValue4
  t5:=by kernel_rfl,a5:=Tryz.isAgg5,z5:=Tryz.sizeOf5,v5:=Tryz.zeroValue5
  t9:=by kernel_rfl,a9:=Tryz.isAgg9,z9:=Tryz.sizeOf9,v9:=Tryz.zeroValue9
  t28:=by kernel_rfl,a28:=Tryz.isAgg44,z28:=Tryz.sizeOf44,v28:=Tryz.zeroValue44
  t46:=by kernel_rfl,a46:=Tryz.isAgg97,z46:=Tryz.sizeOf97,v46:=Tryz.zeroValue97
  t51:=by kernel_rfl,a51:=Tryz.isAgg130,z51:=Tryz.sizeOf130,v51:=Tryz.zeroValue130
  t53:=by kernel_rfl,a53:=Tryz.isAgg25,z53:=Tryz.sizeOf25,v53:=Tryz.zeroValue25
  t131:=by kernel_rfl,a131:=Tryz.isAgg118,z131:=Tryz.sizeOf118,v131:=Tryz.zeroValue118
  t182:=by kernel_rfl,a182:=Tryz.isAgg122,z182:=Tryz.sizeOf122,v182:=Tryz.zeroValue122
  t183:=by kernel_rfl,a183:=Tryz.isAgg123,z183:=Tryz.sizeOf123,v183:=Tryz.zeroValue123
  t218:=by kernel_rfl,a218:=Tryz.isAgg139,z218:=Tryz.sizeOf139,v218:=Tryz.zeroValue139
  t222:=by kernel_rfl,a222:=Tryz.isAgg143,z222:=Tryz.sizeOf143,v222:=Tryz.zeroValue143
  t228:=by kernel_rfl,a228:=Tryz.isAgg147,z228:=Tryz.sizeOf147,v228:=Tryz.zeroValue147
  t229:=by kernel_rfl,a229:=Tryz.isAgg148,z229:=Tryz.sizeOf148,v229:=Tryz.zeroValue148 }
theorem ZpZ(w:World)(b:Nat)(f:Array Value->Array Value){cur:Array Value}{T:TypeId}{fr:Nat×Nat}(h:w.heap[b]?=some (.cells cur T fr)):(Go.Sort.mapBlock w b f).heap[b]?=some (.cells (f cur) T fr):=by
 unfold Go.Sort.mapBlock
 simp only[Array.getElem?_modify,if_true,h,Option.map_some]
 rfl
theorem ZnD(w:World)(b:Nat)(f:Array Value->Array Value){k:Nat}(h:k≠b):(Go.Sort.mapBlock w b f).heap[k]?=w.heap[k]?:=by
 unfold Go.Sort.mapBlock
 simp only[Array.getElem?_modify]
 rw[if_neg (λe=>h e.symm)]
def ZhK(l:List Int):List Value:=l.map (Value.int .i64)
def Zuh(l:List Int):List Int:=l.mergeSort λx y=>decide (x<=y)
theorem Zp0(l:List Int):(Zuh l).length=l.length:=List.length_mergeSort l
set_option maxHeartbeats 1600000 in
theorem ZnE(zs:List Int)(a:Option Addr)(c:Nat)(m:Mem)(hr:rowRd m a (ZhK zs))(hl:zs.length<=100000):
  CXY Tryz.prog 15 #[.slice a zs.length c] m (λk=>(Tok.mk (.slice a zs.length c) 1).blk=some k) [] [⟨.slice a zs.length c,1⟩]
   (λv m' css tvs=>v=.tuple #[]/\css=[]/\tvs=[.slice a zs.length c]/\rowRd m' a (ZhK (Zuh zs))):=by
 refine⟨Go.Eng.ZgL Tryz.func15 (by kernel_rfl) (by kernel_rfl),λw hs _ _ ht lU hY=>?_⟩
 obtain⟨bR,Cy⟩:=ht _ (List.mem_singleton.2 rfl)
 by_cases h0:zs=[]
 ·subst h0
  refine(Any.slices_Sort_int_none ZsJ a c w).mono ?_
  rintro e w' ⟨rfl,rfl⟩
  refine⟨_,m,[],[.slice a 0 c],rfl,Mem.off_le _ _,hs,NewM.refl _ _,Upd.refl _ _,rfl,λi x cs hi=>by simp at hi,rfl,λi t tv hi hv=>?_,lU,rfl,rfl,rfl,.inl (by simp[ZhK,Zuh])⟩
  cases i with
  | zero=>
   simp at hi hv;subst hi hv
   exact⟨rfl,bR,λb hb=>⟨.inl hb,by simp⟩⟩
  | succ i=>simp at hi
 ·have cT:(ZhK zs)≠[]:=by simp[ZhK,h0]
  rcases hr with hr|⟨b,o,rfl,cP⟩
  ·exact absurd hr cT
  rcases bR with h1|⟨b',o',n',c',cur,T,fr,hv,hU,hh,bW,eG,cM⟩
  ·cases h1
  simp only[Value.slice.injEq,Option.some.injEq,Addr.mk.injEq,and_true]at hv
  obtain⟨⟨rfl,rfl⟩,rfl,rfl⟩:=hv
  simp only[Nat.mul_one]at bW cM
  have mT:b < w.heap.size:=(Array.getElem?_eq_some_iff.1 hh).1
  have hH:Go.Sort.Holds (Value.int .i64) w b o zs.toArray:=λj hj=>by
   have hj':j < zs.length:=by simpa using hj
   have e:zs.toArray[j]! = zs[j]:=by rw[getElem!_pos _ j hj];simp
   refine⟨?_,?_⟩
   ·have:=hs _ _ _ (cP j (.int .i64 zs[j]) (by simp[ZhK,hj']))
    rw[this,e]
   ·have h2:=eG (o+j) (by omega)
    obtain⟨f1,f2⟩:=fr
    simp only[World.frozen?,hh,Bool.and_eq_false_iff,decide_eq_false_iff_not]
    simp only at h2
    omega
  refine(Any.slices_Sort_int ZsJ b o c zs w hH mT (by omega)).mono ?_
  rintro e w' ⟨rfl,n,os,hw'⟩
  have iC:=Zp0 zs
  have hw':w'=Go.Sort.grow (Go.Sort.putRow (Value.int .i64) (Go.Sort.ahead w n) b o (Zuh zs).toArray) os:=hw'
  generalize Zuh zs=ys at *
  have rI:(Go.Sort.putRow (Value.int .i64) (Go.Sort.ahead w n) b o ys.toArray).heap.size=w.heap.size:=by simp[Go.Sort.putRow,Go.Sort.mapBlock,Go.Sort.ahead]
  have gE:w'.heap[b]?=some (.cells (Go.Sort.putCells (Value.int .i64) o ys.toArray cur) T fr):=by
   rw[hw',Go.Sort.heap_grow_old _ _ (by rw[rI];exact mT)];exact ZpZ _ b _ hh
  have jV:∀k,k < w.heap.size->k≠b->w'.heap[k]?=w.heap[k]?:=λk bF hk=>by
   rw[hw',Go.Sort.heap_grow_old _ _ (by rw[rI];exact bF)];exact ZnD _ b _ hk
  have rJ:(Go.Sort.putCells (Value.int .i64) o ys.toArray cur).size=cur.size:=by simp[Go.Sort.putCells]
  have cL:∀k:Nat,(Go.Sort.putCells (Value.int .i64) o ys.toArray cur)[k]?=if o<=k/\k < o+zs.length then(ZhK ys)[k - o]? else cur[k]?:=λk=>by
   simp only[Go.Sort.putCells,Array.getElem?_mapIdx]
   by_cases hk:o<=k/\k < o+zs.length
   ·rw[if_pos hk,Array.getElem?_eq_getElem (by omega),Option.map_some,if_pos (by simp;omega)]
    have:k - o < ys.length:=by omega
    rw[getElem!_pos _ (k - o) (by simpa using this)]
    have e2:(ZhK ys)[k - o]?=some (.int .i64 (ys[k - o]'this)):=by
     unfold ZhK;rw[List.getElem?_map,List.getElem?_eq_getElem this];rfl
    rw[e2];simp
   ·rw[if_neg hk]
    cases cur[k]? with
    | none=>rfl
    | some y=>rw[Option.map_some,if_neg (by simp;omega)]
  have xv:∀k e,m.k k=some e->k≠b:=λk e he gC=>by
   obtain⟨es,cl,h8,_⟩:=hs.k k e he
   rw[gC,hh]at h8;cases h8
  refine⟨_,m.upd b o (ZhK ys),[],[.slice (some ⟨b,o,none⟩) zs.length c],rfl,⟨λb1 o1 v hv=>?_,λb1 e he=>Mem.off_le m _ |>.k b1 e he⟩,⟨λb1 o1 v hv=>?_,λb1 e he=>(hs.k b1 e he).same (jV b1 (hs.k b1 e he).lt (xv b1 e he))⟩,⟨λb1 o1 u hu=>?_,λ_ _ he=>.inl he⟩,⟨by rw[hw'];rfl,by rw[hw'];rfl,by rw[hw'];rfl,?_,λk hk hn=>?_,λk bF hk=>?_⟩,rfl,λi x cs hi=>by simp at hi,rfl,λi t tv hi hv=>?_,?_,rfl,rfl,rfl,.inr ⟨b,o,rfl,λj v hv=>?_⟩⟩
  ·have dW:b1≠b:=λe=>by
    subst e
    rw[Mem.off_free (by rfl)]at hv;cases hv
   rw[Mem.upd_other _ dW];exact(Mem.off_le _ _).c _ _ _ hv
  ·by_cases dW:b1=b
   ·subst dW
    simp only[World.cell?,gE,Option.isSome_none,Bool.false_eq_true,if_false]
    rw[cL]
    simp only[Mem.upd,true_and]at hv
    have bO:(ZhK ys).length=zs.length:=by simp[ZhK,iC]
    rw[bO]at hv
    split at hv
    ·rename_i eP
     rw[if_pos eP];exact hv
    ·rename_i eP
     rw[if_neg eP]
     have:=hs _ _ _ hv
     simpa only[World.cell?,hh,Option.isSome_none,Bool.false_eq_true,if_false]using this
   ·rw[Mem.upd_other _ dW]at hv
    rw[Zb7 (jV b1 (hs.lt hv) dW)];exact hs _ _ _ hv
  ·by_cases dW:b1=b
   ·subst dW;exact .inr (.inl rfl)
   ·rw[Mem.upd_other _ dW]at hu;exact .inl hu
  ·rw[hw']
   show w.heap.size<=(Go.Sort.grow _ os).heap.size
   have:(Go.Sort.grow (Go.Sort.putRow (Value.int .i64) (Go.Sort.ahead w n) b o ys.toArray) os).heap.size=(Go.Sort.putRow (Value.int .i64) (Go.Sort.ahead w n) b o ys.toArray).heap.size+os.size:=by simp[Go.Sort.grow]
   rw[this,rI];omega
  ·refine jV k hk λe=>hn (.inr ?_)
   rw[e];rfl
  ·by_cases gC:k=b
   ·subst gC
    intro c1 T1 fr1 qM i hi
    rw[gE]at qM
    simp only[Option.some.injEq,Obj.cells.injEq]at qM
    obtain⟨rfl,rfl,rfl⟩:=qM
    exact eG i (by rw[rJ]at hi;exact hi)
   ·exact hk.of_eq (jV k bF gC)
  ·cases i with
   | zero=>
    simp at hi hv;subst hi hv
    refine⟨rfl,.inr ⟨b,o,_,_,_,T,fr,rfl,hU,gE,by rw[rJ,Nat.mul_one];exact bW,λi hi=>eG i (by rw[rJ]at hi;exact hi),λk fP iB=>?_⟩,λb1 dW=>⟨.inl dW,by simp⟩⟩
    simp only[Nat.mul_one]at fP iB
    simp only[Mem.upd,true_and]
    rw[if_neg (by simp[ZhK];omega)]
    exact cM k fP iB
   | succ i=>simp at hi
  ·intro i j t t' b1 hi hj _ _
   have hi':=(List.getElem?_eq_some_iff.1 hi).1
   have hj':=(List.getElem?_eq_some_iff.1 hj).1
   simp at hi' hj'
   omega
  ·have As:=(List.getElem?_eq_some_iff.1 hv).1
   simp only[Mem.upd,true_and]
   rw[if_pos ⟨by omega,by omega⟩,Nat.add_sub_cancel_left];exact hv
theorem Zui{P:Program}{g:FuncId}{args:Array Value}{m:Mem}{esz:Nat}{R:RT}(h:CXT P g args m esz R):CXT P g args m esz (λv m' css=>R v m' css/\∀b,(Tok.mk v esz).blk=some b->m.free b/\m.k b=none):=by
 refine⟨h.1,λw hs=>(h.2 w hs).mono ?_⟩
 rintro e w' ⟨v,m',a1,a2,a3,a4,a5,a6,a7,a8⟩
 refine⟨v,m',a1,a2,a3,a4,a5,a6,a7,a8,λb hb=>⟨λo=>?_,?_⟩⟩
 ·cases he:m b o with
  | none=>rfl
  | some u=>have:=a7 b hb;have:=hs.lt he;omega
 ·cases he:m.k b with
  | none=>rfl
  | some u=>have:=a7 b hb;have:=(hs.k b u he).lt;omega
theorem ZnF(l:List Nat)(a:Option Addr)(c:Nat)(m:Mem)(h:rowRd m a (nsL l))(hl:l.length<=1000000):CXT Tryz.prog 14 #[.slice a l.length c] m 1 (λv m' _=>(∃a c,v=.slice a l.length c/\rowRd m' a (nsL l))/\∀b,(Tok.mk v 1).blk=some b->m.free b/\m.k b=none):=by
 refine Zui ?_
 apply Zb3
 unfold Zbt
 refine Zab (λhn=>?_) (λhn=>⟨⟨rfl,Int.le_refl _,by decide,by decide⟩,λb hb=>⟨.inl rfl,[],nsL l,rfl,by simp[nsL],.inl rfl,h,λu hu=>Zvj u hu,by omega,by omega,λa' c' m' hm' hr vV=>⟨rfl,a',c',by rw[Nat.zero_add],hr⟩⟩⟩)
 have:a=none:=by simpa using hn
 subst this
 have:=Zkn h
 obtain rfl:l=[]:=by simpa[nsL]using this
 exact⟨rfl,none,0,rfl,.inl rfl⟩
theorem Zuj{t:T}(hc:t.check=0){s:List Nat}(hs:s.length<=512){i:Nat}(hi:i<=s.length):Zuh ((t.e0 s i).map λn:Nat=>(n:Int))=(Zsc t s i).map λn:Nat=>(n:Int):=by
 have hg:=(Zb1 hc).1
 have dC:(t.e0 s i).Nodup:=by
  have:=Zsy (s:=s) (t:=t) (d:=0) (i:=i) (Zd9 hg).1 hi
  rw[Za3]at this
  rw[this]
  exact Zg0 List.nodup_nil
 have tY:(Zuh ((t.e0 s i).map λn:Nat=>(n:Int))).Perm ((Zsc t s i).map λn:Nat=>(n:Int)):=by
  refine(List.mergeSort_perm _ _).trans (List.Perm.map _ ?_)
  refine(List.perm_ext_iff_of_nodup dC ((Zu7 _).imp (λh=>by omega))).2 λx=>Zx3 hg hs hi x
 refine tY.eq_of_pairwise (le:=λx y:Int=>x<=y) ?_ ?_ ?_
 ·intro a b _ _ h1 h2;omega
 ·have:=List.pairwise_mergeSort (le:=λx y:Int=>decide (x<=y)) (λa b c h1 h2=>by simp at h1 h2 ⊢;omega) (λa b=>by simp;omega) ((t.e0 s i).map λn:Nat=>(n:Int))
  exact this.imp λh=>of_decide_eq_true h
 ·rw[List.pairwise_map]
  exact(Zu7 _).imp λh=>by omega
end Go.Proofs.YtgclajkldphoaaaGreat