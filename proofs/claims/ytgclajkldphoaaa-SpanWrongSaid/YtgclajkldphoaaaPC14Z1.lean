/- Part of the proof: conditions and contracts of functions of this program. No condition of its own. -/
import Derived.Test.YtgclajkldphoaaaPC14K
import Derived.Test.YtgclajkldphoaaaPVSJ
import Derived.Test.YtgclajkldphoaaaPEnv
import Derived.Test.YtgclajkldphoaaaMc
import Derived.Test.YtgclajkldphoaaaPVC
import Derived.Test.YtgclajkldphoaaaMr
import Derived.Test.YtgclajkldphoaaaPVSC
import Derived.Test.YtgclajkldphoaaaPC13S
set_option linter.unusedVariables false
set_option linter.unusedSimpArgs false
set_option linter.unusedSectionVars false
namespace Go.Proofs.Ytgclajkldphoaaa
open Go Go.Eng Go.Rx Go.Proofs Go.RowKit
set_option maxRecDepth 100000
theorem ZbV{m:Mem}{b:Nat}{l:List T}(hf:m.free b)(hr:∀t∈l,Rep m t)(hl:l.length<=1000000000000000):RepL (m.add b (Zcz l)) (some ⟨b,0,none⟩) l:=
 Zmq (.inr ⟨b,0,rfl,λj v hj=>by rw[Nat.zero_add,Mem.add_same];exact hj⟩) (λt ht=>(hr t ht).mono (Mem.le_add hf _)) hl
theorem Zok{m:Mem}{b:Nat}(s:List Nat)(h:∀c∈s,c < 256):Byt (m.add b (s.map λc:Nat=>Value.int .u8 c)) (some ⟨b,0,none⟩) s:=
 ⟨.inr ⟨b,0,rfl,λj v hj=>by rw[Nat.zero_add,Mem.add_same];exact hj⟩,h⟩
theorem Znc{s:ByteArray}{c:Nat}(h:c∈ZbI s):c < 256:=by
 unfold ZbI at h
 obtain⟨b,_,rfl⟩:=List.mem_map.1 h
 exact b.toNat_lt
theorem Zg8{m:Mem}{b:Nat}(W:PL)(h:W≠[]):PtAt (m.add b (plV W)) (some ⟨b,0,none⟩) W:=by
 have at2:∀(P:PL)(q:Nat)(p:Int×Int),P[q]?=some p->(plV P)[q*2]?=some (.int .i64 p.1)/\(plV P)[q*2+1]?=some (.int .i64 p.2):=λP=>by
  induction P with
  | nil=>intro q p hq;simp at hq
  | cons p0 P ih=>
   intro q p hq
   cases q with
   | zero=>simp at hq;subst hq;exact⟨rfl,rfl⟩
   | succ q=>
    have:=ih q p (by simpa using hq)
    rw[show(q+1)*2=q*2+2 by omega]
    exact this
 exact .inr ⟨b,rfl,λq p hq=>by rw[Mem.add_same,Mem.add_same];exact at2 W q p hq,h⟩
def Zwc(E:T)(s:List Nat):RT:=Ret (.tuple #[.int .i64 ((Znk E s).1:Nat),.int .i64 (Znk E s).2])
theorem Znd(t E:T)(sa:Option Addr)(s:List Nat)(sc:Nat)(m:Mem)(he:t.er=E)(hr:Rep m t)(hb:Byt m sa s):CX Try.prog 15 #[t.v,.slice sa s.length sc] m [] (Zwb E s):=by
 have:=ZlA t sa s sc m hr (λ_=>hb)
 unfold Zwb at *
 rwa [<-Zq2 t,he]at this
theorem Zqk(t E:T)(sa:Option Addr)(s:List Nat)(sc:Nat)(i:Int)(m:Mem)(he:t.er=E)(hr:Rep m t)(hb:Byt m sa s):CX Try.prog 14 #[t.v,.slice sa s.length sc,.int .i64 i] m [] (Zwa E s i):=by
 have:=Zlz t sa s sc i m hr (λ_ _=>hb)
 unfold Zwa at *
 rwa [<-Zti t,he]at this
theorem Zol(t E:T)(sa:Option Addr)(s:List Nat)(sc:Nat)(m:Mem)(he:t.er=E)(hr:Rep m t)(hb:Byt m sa s):CX Try.prog 17 #[t.v,.slice sa s.length sc] m [] (Zwc E s):=by
 have:=ZjB t sa s sc m hr (λ_ _=>hb)
 unfold Zwc at *
 rwa [<-Ztj t,he]at this
theorem Zle(t E:T)(sa:Option Addr)(s:List Nat)(sc:Nat)(m:Mem)(he:t.er=E)(hr:Rep m t)(hb:Byt m sa s)(sH:s.length<=sc):CX Try.prog 16 #[t.v,.slice sa s.length sc] m [] (Zvs E s):=by
 have:=Zix t sa s sc m hr (λ_=>hb) sH
 unfold Zvs at *
 rwa [<-Ztk t,he]at this
theorem Zom(x y:List Nat)(ax ay:Option Addr)(cx cy:Nat)(m:Mem)(hx:rowRd m ax (nsL x))(hy:rowRd m ay (nsL y))(aX:x.length<=1000000000000000):CX Try.prog 35 #[.slice ax x.length cx,.slice ay y.length cy] m [] (Ret (.bool (x == y))):=
 Zk4 x y ax ay cx cy m hx hy aX
theorem Zlf(x:List (List Nat))(ax ay:Option Addr)(cx cy:Nat)(m:Mem)(hx:rowRd m ax (x.map Zsj))(hy:rowRd m ay (x.map Zsj))(aX:x.length<=1000000):CX Try.prog 36 #[.slice ax x.length cx,.slice ay x.length cy] m [] (Ret (.bool true)):=by
 apply Zb0
 unfold Zbd
 refine Zsr (by simp) ⟨λxs _ _ _ q=>∃j:Nat,j<=x.length/\xs=[.int .i64 (j:Nat)]/\q=x.length - j,⟨_,0,by omega,rfl,rfl⟩,?_⟩
 rintro y m1 q aU ⟨j,hj,cH,rfl⟩
 obtain rfl:y=j:=by simpa using cH
 refine Zab (λaN=>?_) (λcP=>Zai aU rfl)
 have aT:j < x.length:=by have:=of_decide_eq_true aN;omega
 obtain⟨z,hz⟩:∃z,x[j]?=some z:=⟨_,List.getElem?_eq_getElem aT⟩
 have one:∀a:Option Addr,rowRd m a (x.map Zsj)->∃b o,a=some ⟨b,o,none⟩/\m1 b (o+j)=some (Zsj z):=λa h=>by
  rcases h with h|⟨b,o,h1,h2⟩
  ·have:x=[]:=by simpa using h
   rw[this]at aT;simp at aT
  ·exact⟨b,o,h1,aU.c _ _ _ (h2 j _ (by rw[List.getElem?_map,hz];rfl))⟩
 obtain⟨b1,o1,h1,h2⟩:=one ax hx
 obtain⟨b2,o2,h3,h4⟩:=one ay hy
 rw[wr1 (by omega)]
 refine⟨b1,o1,h1,⟨by omega,by omega⟩,_,by rw[Int.toNat_natCast,Nat.mul_one];exact h2,b2,o2,h3,⟨by omega,by omega⟩,_,by rw[Int.toNat_natCast,Nat.mul_one];exact h4,Zaa rfl (Zsr (by simp) ⟨x.length - (j+1),by omega,j+1,by omega,rfl,rfl⟩)⟩
def aE1:T:=Zcl 97
def aE2:T:=Zcl 98
def aE3:T:=Zcl 99
def aE9:T:=eN 3 0 0 [aE1,aE2]
def Zt9:T:=eN 3 0 0 [aE2,aE3]
def ZrY:T:=eN 5 (0) (-1) [aE1]
def Zvt:T:=eN 4 0 0 [aE1,aE9]
def Zvu:T:=eN 6 0 0 [Zvt]
def Zvv:T:=eN 4 0 0 [aE3,Zt9]
def Zvw:T:=eN 6 0 0 [Zvv]
def Zvx:T:=eN 3 0 0 [Zvu,Zvw]
def Zvy:T:=eN 4 0 0 [aE9,aE1]
def Zvz:T:=eN 6 0 0 [Zvy]
def ZvA:T:=eN 4 0 0 [Zt9,aE3]
def ZvB:T:=eN 6 0 0 [ZvA]
def ZvC:T:=eN 3 0 0 [Zvz,ZvB]
def ZvD:T:=eN 6 0 0 [ZrY]
def ZvE:T:=eN 6 0 0 [ZrY]
def ZvF:T:=eN 3 0 0 [ZvD,ZvE]
def ZvG:T:=eN 4 0 0 [aE1,aE2]
def ZvH:T:=eN 6 0 0 [ZvG]
def ZvI:T:=eN 5 (0) (-1) [ZvH]
def ZvJ:T:=eN 6 0 0 [ZrY]
def ZvK:T:=eN 5 (0) (-1) [ZvJ]
def ZvL:T:=eN 6 0 0 [ZrY]
def ZvM:T:=eN 5 (1) (2) [ZvL]
def ZvN:T:=eN 6 0 0 [aE1]
def ZvO:T:=eN 4 0 0 [ZvN,aE2]
def ZvP:T:=eN 6 0 0 [ZvO]
def ZvQ:T:=eN 5 (0) (-1) [ZvP]
theorem aR0:Zgj Zvx [97,98,99]=([(0,1),(1,3)],0):=by decide +kernel
theorem aR1:Zgj ZvC [97,98,99]=([(0,2),(2,3)],0):=by decide +kernel
theorem aR2:Zgj ZvF [97,97]=([(0,2),(2,2)],0):=by decide +kernel
theorem aR3:Zgj ZvI [97,98]=([(1,2)],0):=by decide +kernel
theorem aR4:Zgj ZvK []=([(-1,-1)],0):=by decide +kernel
theorem aR5:Zgj ZvM []=([(0,0)],0):=by decide +kernel
theorem aR6:Zgj ZvQ [97,98]=([(1,2),(0,1)],0):=by decide +kernel
def Zua:T:=eN 6 0 0 [ZrY]
def Zub:T:=eN 5 (0) (-1) [Zua]
def Zuc:T:=eN 4 0 0 [ZrY,aE2]
def ZtC:T:=eN 3 0 0 [aE1,aE1]
def ZtD:T:=eN 4 0 0 [ZtC,aE1]
def Znu:T:=eN 5 (0) (-1) [ZtD]
def ZtE:T:=eN 4 0 0 [aE1,aE9]
def ZtF:T:=eN 6 0 0 [ZtE]
def ZtG:T:=eN 4 0 0 [aE3,Zt9]
def ZtH:T:=eN 6 0 0 [ZtG]
def Zsk:T:=eN 3 0 0 [ZtF,ZtH]
def Zws:Fx:=λi _ _=>match i with
 | 3=>IsE aE9
 | 7=>IsE Zt9
 | _=>IsE (Zcl 0)
def Zwt:Fx:=λi _ _=>match i with
 | 3=>IsE Zvt
 | 4=>IsE Zvu
 | 8=>IsE Zvv
 | 9=>IsE Zvw
 | 11=>IsE Zvx
 | 19=>IsE Zvy
 | 20=>IsE Zvz
 | 24=>IsE ZvA
 | 25=>IsE ZvB
 | 27=>IsE ZvC
 | 33=>IsE ZvD
 | 35=>IsE ZvE
 | 37=>IsE ZvF
 | 45=>IsE ZvG
 | 46=>IsE ZvH
 | 47=>IsE ZvI
 | 52=>IsE ZvJ
 | 53=>IsE ZvK
 | 58=>IsE ZvL
 | 59=>IsE ZvM
 | 64=>IsE ZvN
 | 67=>IsE ZvO
 | 68=>IsE ZvP
 | 69=>IsE ZvQ
 | _=>IsE (Zcl 0)
def Zwu:Fx:=λi _ _=>match i with
 | 3=>IsE ZtC
 | 6=>IsE ZtD
 | 7=>IsE Znu
 | 10=>Zwc Znu [97,97,97]
 | _=>IsE (Zcl 0)
def Zwv:Fx:=λi _ _=>match i with
 | 3=>IsE ZtE
 | 4=>IsE ZtF
 | 8=>IsE ZtG
 | 9=>IsE ZtH
 | 11=>IsE Zsk
 | 14=>Zvs Zsk [97,98,99]
 | _=>IsE (Zcl 0)
theorem ZvR:Zgj Zub [98]=([],141):=by decide +kernel
theorem ZvS:Zp3 Zuc [97,97,98] 0=([2,1,0],0):=by decide +kernel
theorem ZvT:Znk Znu [97,97,97]=(2,0):=by decide +kernel
theorem ZvU:ZrF Zsk [97,98,99]=([[97,98,99],[97],[98,99]],0):=by decide +kernel
set_option maxHeartbeats 6400000 in
theorem Zon(m:Mem):CX Try.prog 8 #[] m [] (Ret (.bool true)):=by
 apply ZhX
 unfold Zfi
 refine⟨_,trivial,Zez 97 (by omega) _,Zas (E:=aE1),ZeC λt1 m1 h1 r1 e1=>?_⟩
 refine⟨_,trivial,Zez 98 (by omega) _,Zas (E:=aE2),ZeC λt2 m2 h2 r2 e2=>?_⟩
 refine⟨_,trivial,Zez 99 (by omega) _,Zas (E:=aE3),ZeC λt3 m3 h3 r3 e3=>?_⟩
 intro b4 b5 b6
 refine⟨Zws,?_⟩
 intro b7 f8
 refine⟨_,rfl,Zd6 _ _ [t1,t2] [aE1,aE2] _ (ZbV (l:=[t1,t2]) f8 (by simp only[List.mem_cons,List.not_mem_nil,or_false];rintro x (rfl|rfl);exact(r1.mono (mLt h2 h3));exact(r2.mono (h3))) (by simp)) (by simp only[List.map_cons,List.map_nil,e1,e2] <;> rfl),Zas (E:=aE9),ZeC λt9 m9 h9 r9 e9=>?_⟩
 intro b10 f11
 intro m12 u2 Ay yu
 refine⟨_,rfl,Zd6 _ _ [t2,t3] [aE2,aE3] _ ((ZbV (l:=[t2,t3]) f11 (by simp only[List.mem_cons,List.not_mem_nil,or_false];rintro x (rfl|rfl);exact(r2.mono (h3));exact r3) (by simp)).mono (yu)) (by simp only[List.map_cons,List.map_nil,e2,e3] <;> rfl),Zas (E:=Zt9),ZeC λt16 m16 Az r16 e16=>?_⟩
 intro b17 b18 m19 jD AA vo q7 vp
 refine⟨_,trivial,Zd7 t1 aE1 (0) (-1) (by omega) (by omega) _ (r1.mono (mLt h2 (mLt h3 jD))) e1,Zas (E:=ZrY),ZeC λt25 m25 fU r25 e25=>?_⟩
 intro b26
 refine⟨Zwt,?_⟩
 intro b27 f28
 refine⟨_,rfl,Zdc _ _ [t1,t9] [aE1,aE9] _ (ZbV (l:=[t1,t9]) f28 (by simp only[List.mem_cons,List.not_mem_nil,or_false];rintro x (rfl|rfl);exact(r1.mono (mLt h2 (mLt h3 (mLt jD fU))));exact(r9.mono (mLt vo fU))) (by simp)) (by simp only[List.map_cons,List.map_nil,e1,e9] <;> rfl),Zas (E:=Zvt),ZeC λt29 m29 AB r29 e29=>?_⟩
 refine⟨_,rfl,ZaY t29 Zvt _ r29 e29,Zas (E:=Zvu),ZeC λt30 m30 AC r30 e30=>?_⟩
 intro b31 f32
 intro m33 AD yv yw
 refine⟨_,rfl,Zdc _ _ [t3,t16] [aE3,Zt9] _ ((ZbV (l:=[t3,t16]) f32 (by simp only[List.mem_cons,List.not_mem_nil,or_false];rintro x (rfl|rfl);exact(r3.mono (mLt jD fU));exact(r16.mono (mLt vp fU))) (by simp)).mono (yw)) (by simp only[List.map_cons,List.map_nil,e3,e16] <;> rfl),Zas (E:=Zvv),ZeC λt37 m37 yx r37 e37=>?_⟩
 refine⟨_,rfl,ZaY t37 Zvv _ r37 e37,Zas (E:=Zvw),ZeC λt38 m38 yy r38 e38=>?_⟩
 intro b39 f40
 refine⟨_,rfl,Zd6 _ _ [t30,t38] [Zvu,Zvw] _ (ZbV (l:=[t30,t38]) f40 (by simp only[List.mem_cons,List.not_mem_nil,or_false];rintro x (rfl|rfl);exact(r30.mono (mLt yv (mLt yx yy)));exact r38) (by simp)) (by simp only[List.map_cons,List.map_nil,e30,e38] <;> rfl),Zas (E:=Zvx),ZeC λt41 m41 AE r41 e41=>?_⟩
 intro b42 f43
 intro b44 f45
 intro m46 AF AG yz
 refine⟨_,rfl,Zdc _ _ [t9,t1] [aE9,aE1] _ ((ZbV (l:=[t9,t1]) f45 (by simp only[List.mem_cons,List.not_mem_nil,or_false];rintro x (rfl|rfl);exact(r9.mono (mLt vo fU));exact(r1.mono (mLt h2 (mLt h3 (mLt jD fU))))) (by simp)).mono (yz)) (by simp only[List.map_cons,List.map_nil,e9,e1] <;> rfl),Zas (E:=Zvy),ZeC λt50 m50 AH r50 e50=>?_⟩
 refine⟨_,rfl,ZaY t50 Zvy _ r50 e50,Zas (E:=Zvz),ZeC λt51 m51 AI r51 e51=>?_⟩
 intro b52 f53
 intro m54 wK yA yB
 refine⟨_,rfl,Zdc _ _ [t16,t3] [Zt9,aE3] _ ((ZbV (l:=[t16,t3]) f53 (by simp only[List.mem_cons,List.not_mem_nil,or_false];rintro x (rfl|rfl);exact(r16.mono (mLt vp fU));exact(r3.mono (mLt jD fU))) (by simp)).mono (yB)) (by simp only[List.map_cons,List.map_nil,e16,e3] <;> rfl),Zas (E:=ZvA),ZeC λt58 m58 vq r58 e58=>?_⟩
 refine⟨_,rfl,ZaY t58 ZvA _ r58 e58,Zas (E:=ZvB),ZeC λt59 m59 vr r59 e59=>?_⟩
 intro b60 f61
 refine⟨_,rfl,Zd6 _ _ [t51,t59] [Zvz,ZvB] _ (ZbV (l:=[t51,t59]) f61 (by simp only[List.mem_cons,List.not_mem_nil,or_false];rintro x (rfl|rfl);exact(r51.mono (mLt yA (mLt vq vr)));exact r59) (by simp)) (by simp only[List.map_cons,List.map_nil,e51,e59] <;> rfl),Zas (E:=ZvC),ZeC λt62 m62 wL r62 e62=>?_⟩
 intro b63 f64
 refine⟨_,rfl,ZaY t25 ZrY _ (r25.mono (mLt wK (mLt vq (mLt vr (mLt (Mem.le_add f61 _) wL))))) e25,Zas (E:=ZvD),ZeC λt65 m65 yC r65 e65=>?_⟩
 refine⟨_,rfl,ZaY t25 ZrY _ (r25.mono (mLt wK (mLt vq (mLt vr (mLt (Mem.le_add f61 _) (mLt wL yC)))))) e25,Zas (E:=ZvE),ZeC λt66 m66 yD r66 e66=>?_⟩
 intro b67 f68
 refine⟨_,rfl,Zd6 _ _ [t65,t66] [ZvD,ZvE] _ (ZbV (l:=[t65,t66]) f68 (by simp only[List.mem_cons,List.not_mem_nil,or_false];rintro x (rfl|rfl);exact(r65.mono (yD));exact r66) (by simp)) (by simp only[List.map_cons,List.map_nil,e65,e66] <;> rfl),Zas (E:=ZvF),ZeC λt69 m69 AJ r69 e69=>?_⟩
 intro b70 f71
 intro b72 f73
 intro m74 tG AK yE
 refine⟨_,rfl,Zdc _ _ [t1,t2] [aE1,aE2] _ ((ZbV (l:=[t1,t2]) f73 (by simp only[List.mem_cons,List.not_mem_nil,or_false];rintro x (rfl|rfl);exact(r1.mono (mLt h2 (mLt h3 (mLt jD fU))));exact(r2.mono (mLt h3 (mLt jD fU)))) (by simp)).mono (yE)) (by simp only[List.map_cons,List.map_nil,e1,e2] <;> rfl),Zas (E:=ZvG),ZeC λt78 m78 tH r78 e78=>?_⟩
 refine⟨_,rfl,ZaY t78 ZvG _ r78 e78,Zas (E:=ZvH),ZeC λt79 m79 tI r79 e79=>?_⟩
 refine⟨_,rfl,Zd7 t79 ZvH (0) (-1) (by omega) (by omega) _ r79 e79,Zas (E:=ZvI),ZeC λt80 m80 tJ r80 e80=>?_⟩
 intro b81 f82
 refine⟨_,rfl,ZaY t25 ZrY _ (r25.mono (mLt tG (mLt tH (mLt tI tJ)))) e25,Zas (E:=ZvJ),ZeC λt83 m83 vt r83 e83=>?_⟩
 refine⟨_,rfl,Zd7 t83 ZvJ (0) (-1) (by omega) (by omega) _ r83 e83,Zas (E:=ZvK),ZeC λt84 m84 vu r84 e84=>?_⟩
 intro b85 f86
 refine⟨_,rfl,ZaY t25 ZrY _ (r25.mono (mLt tG (mLt tH (mLt tI (mLt tJ (mLt vt vu)))))) e25,Zas (E:=ZvL),ZeC λt87 m87 wM r87 e87=>?_⟩
 refine⟨_,rfl,Zd7 t87 ZvL (1) (2) (by omega) (by omega) _ r87 e87,Zas (E:=ZvM),ZeC λt88 m88 wN r88 e88=>?_⟩
 intro b89 f90
 refine⟨_,rfl,ZaY t1 aE1 _ (r1.mono (mLt h2 (mLt h3 (mLt jD (mLt fU (mLt tG (mLt tH (mLt tI (mLt tJ (mLt vt (mLt vu (mLt wM wN)))))))))))) e1,Zas (E:=ZvN),ZeC λt91 m91 yF r91 e91=>?_⟩
 intro b92 f93
 refine⟨_,rfl,Zdc _ _ [t91,t2] [ZvN,aE2] _ (ZbV (l:=[t91,t2]) f93 (by simp only[List.mem_cons,List.not_mem_nil,or_false];rintro x (rfl|rfl);exact r91;exact(r2.mono (mLt h3 (mLt jD (mLt fU (mLt tG (mLt tH (mLt tI (mLt tJ (mLt vt (mLt vu (mLt wM (mLt wN yF))))))))))))) (by simp)) (by simp only[List.map_cons,List.map_nil,e91,e2] <;> rfl),Zas (E:=ZvO),ZeC λt94 m94 AL r94 e94=>?_⟩
 refine⟨_,rfl,ZaY t94 ZvO _ r94 e94,Zas (E:=ZvP),ZeC λt95 m95 AM r95 e95=>?_⟩
 refine⟨_,rfl,Zd7 t95 ZvP (0) (-1) (by omega) (by omega) _ r95 e95,Zas (E:=ZvQ),ZeC λt96 m96 AN r96 e96=>?_⟩
 intro b97 f98
 intro m99 yG yH yI yJ yK yL yM yN yO
 intro b109 f110
 intro m111 fN yP yQ yR yS yU yV yW vv vA yX yZ y0 za zb zc zd vB vC ze zf zg vD vE zh zi zj vF vG zk vH vI zl vJ vK zm zn zo zp vL vM zq
 have aM:∀j:Nat,j < 7->∃(x X:T)(bs:ByteArray)(W:PL)(wb:Nat),List.take 10 (List.drop (Int.toNat (j:Int)*10) (ZaN t41.k t41.s0 t41.s1 t41.s2 t41.s3 t41.mn t41.mx t41.a t41.subs.length t41.c b42 t62.k t62.s0 t62.s1 t62.s2 t62.s3 t62.mn t62.mx t62.a t62.subs.length t62.c b63 t69.k t69.s0 t69.s1 t69.s2 t69.s3 t69.mn t69.mx t69.a t69.subs.length t69.c b70 t80.k t80.s0 t80.s1 t80.s2 t80.s3 t80.mn t80.mx t80.a t80.subs.length t80.c b81 t84.k t84.s0 t84.s1 t84.s2 t84.s3 t84.mn t84.mx t84.a t84.subs.length t84.c b85 t88.k t88.s0 t88.s1 t88.s2 t88.s3 t88.mn t88.mx t88.a t88.subs.length t88.c b89 t96.k t96.s0 t96.s1 t96.s2 t96.s3 t96.mn t96.mx t96.a t96.subs.length t96.c b97))=x.cs++[.string bs,.slice (some ⟨wb,0,none⟩) W.length W.length]/\Rep m111 x/\x.er=X/\Zgj X (ZbI bs)=(W,0)/\PtAt m111 (some ⟨wb,0,none⟩) W/\W.length<=100:=by
  intro j hj
  have hj:j=0\/j=1\/j=2\/j=3\/j=4\/j=5\/j=6:=by omega
  rcases hj with rfl|rfl|rfl|rfl|rfl|rfl|rfl
  ·exact⟨t41,Zvx,⟨#[97,98,99]⟩,[(0,1),(1,3)],b42,rfl,(r41.mono (vv)),e41,aR0,(Zg8 [(0,1),(1,3)] (by simp)).mono (vA),by decide⟩
  ·exact⟨t62,ZvC,⟨#[97,98,99]⟩,[(0,2),(2,3)],b63,rfl,(r62.mono (vB)),e62,aR1,(Zg8 [(0,2),(2,3)] (by simp)).mono (vC),by decide⟩
  ·exact⟨t69,ZvF,⟨#[97,97]⟩,[(0,2),(2,2)],b70,rfl,(r69.mono (vD)),e69,aR2,(Zg8 [(0,2),(2,2)] (by simp)).mono (vE),by decide⟩
  ·exact⟨t80,ZvI,⟨#[97,98]⟩,[(1,2)],b81,rfl,(r80.mono (vF)),e80,aR3,(Zg8 [(1,2)] (by simp)).mono (vG),by decide⟩
  ·exact⟨t84,ZvK,⟨#[]⟩,[(-1,-1)],b85,rfl,(r84.mono (vH)),e84,aR4,(Zg8 [(-1,-1)] (by simp)).mono (vI),by decide⟩
  ·exact⟨t88,ZvM,⟨#[]⟩,[(0,0)],b89,rfl,(r88.mono (vJ)),e88,aR5,(Zg8 [(0,0)] (by simp)).mono (vK),by decide⟩
  ·exact⟨t96,ZvQ,⟨#[97,98]⟩,[(1,2),(0,1)],b97,rfl,(r96.mono (vL)),e96,aR6,(Zg8 [(1,2),(0,1)] (by simp)).mono (vM),by decide⟩
 refine⟨λxs _ _ _ q=>∃j:Nat,j<=7/\xs=[.int .i64 (j:Nat)]/\q=7 - j,⟨7,0,by omega,rfl,rfl⟩,?_⟩
 rintro y M1 q iO ⟨j,hj,cH,rfl⟩
 obtain rfl:y=j:=by simpa using cH
 refine Zab (λaN=>?_) (λcP=>?_)
 ·have aT:j < 7:=by have:=of_decide_eq_true aN;omega
  obtain⟨x,X,bs,W,wb,cU,hx,hX,fT,mI,AO⟩:=aM j aT
  refine⟨⟨by omega,by omega⟩,Zaa (by rw[Nat.ble_eq,Int.toNat_natCast];omega) λb9=>?_⟩
  rw[cU]
  have bK:ByteArray.size (Zcd (.string bs))=(ZbI bs).length:=by rw[Zkq];rfl
  have cQ:Zaz (Zcd (.string bs))=(ZbI bs).map λc:Nat=>Value.int .u8 c:=Ziw bs
  refine Zaa rfl (Zaa rfl (Zao rfl (Zaa rfl λb8 c8 wO AP=>?_)))
  rw[cQ,bK]
  have fL:Byt (M1.add b8 ((ZbI bs).map λc:Nat=>Value.int .u8 c)) (some ⟨b8,0,none⟩) (ZbI bs):=Zok _ (λc hc=>Znc hc)
  refine⟨_,trivial,Znd x X _ (ZbI bs) _ _ hX (hx.mono (mLt iO (Mem.le_add wO _))) fL,(λv _ _ ⟨_,_,h,_⟩=>by rw[h];rfl),?_⟩
  rintro a n c z M2 iF ⟨a',c',hv,hp⟩
  rw[fT]at hv hp
  simp only[Value.tuple.injEq,Array.mk.injEq,List.cons.injEq,Value.int.injEq,Value.slice.injEq,true_and,and_true]at hv
  obtain⟨⟨rfl,rfl,rfl⟩,rfl⟩:=hv
  refine⟨false,Zsr rfl (Zao rfl ⟨_,trivial,ZjC W W a (some ⟨wb,0,none⟩) c W.length M2 (Zly hp) (Zly (mI.mono (mLt iO (mLt (Mem.le_add wO _) iF)))) (by omega),(λv _ _ h=>by unfold Ret at h;rw[h];rfl),?_⟩),Zsr rfl ⟨rfl,_,?_,j+1,by omega,by rw[wr1 (by omega)],rfl⟩⟩
  ·rintro b7 M3 qv zr
   obtain rfl:b7=true:=by simpa[Ret]using zr
   exact⟨rfl,rfl⟩
  ·omega
 ·clear aM cP
  refine⟨_,trivial,ZaY t25 ZrY _ (r25.mono (mLt fN iO)) e25,Zas (E:=Zua),ZeC λt154 m154 fV r154 e154=>?_⟩
  refine⟨_,trivial,Zd7 t154 Zua (0) (-1) (by omega) (by omega) _ r154 e154,Zas (E:=Zub),ZeC λt155 m155 fW r155 e155=>?_⟩
  intro b156 f157
  refine⟨_,trivial,Znd t155 Zub _ [98] _ _ e155 (r155.mono (Mem.le_add f157 _)) (Zok [98] (by decide)),(λv _ _ ⟨_,_,h,_⟩=>by rw[h];rfl),?_⟩
  rintro a158 n158 c158 z158 m158 fX ⟨a158',c158',mC,sK⟩
  rw[ZvR]at mC sK
  simp only[Value.tuple.injEq,Array.mk.injEq,List.cons.injEq,Value.int.injEq,Value.slice.injEq,true_and,and_true]at mC
  obtain⟨⟨rfl,rfl,rfl⟩,rfl⟩:=mC
  intro b159 f160
  refine⟨_,trivial,Zdc _ _ [t25,t2] [ZrY,aE2] _ (ZbV (l:=[t25,t2]) f160 (by simp only[List.mem_cons,List.not_mem_nil,or_false];rintro x (rfl|rfl);exact(r25.mono (mLt fN (mLt iO (mLt fV (mLt fW (mLt (Mem.le_add f157 _) fX))))));exact(r2.mono (mLt h3 (mLt jD (mLt fU (mLt fN (mLt iO (mLt fV (mLt fW (mLt (Mem.le_add f157 _) fX)))))))))) (by simp)) (by simp only[List.map_cons,List.map_nil,e25,e2] <;> rfl),Zas (E:=Zuc),ZeC λt161 m161 iR r161 e161=>?_⟩
  intro b162 f163
  refine⟨_,trivial,Zqk t161 Zuc _ [97,97,98] _ 0 _ e161 (r161.mono (Mem.le_add f163 _)) (Zok [97,97,98] (by decide)),(λv _ _ ⟨_,_,h,_⟩=>by rw[h];rfl),?_⟩
  rintro a164 n164 c164 z164 m164 iS ⟨a164',c164',mD,oV⟩
  rw[ZvS]at mD oV
  simp only[Value.tuple.injEq,Array.mk.injEq,List.cons.injEq,Value.int.injEq,Value.slice.injEq,true_and,and_true]at mD
  obtain⟨⟨rfl,rfl,rfl⟩,rfl⟩:=mD
  refine⟨Zwu,?_⟩
  intro b165 f166
  refine⟨_,rfl,Zd6 _ _ [t1,t1] [aE1,aE1] _ (ZbV (l:=[t1,t1]) f166 (by simp only[List.mem_cons,List.not_mem_nil,or_false];rintro x (rfl|rfl);exact(r1.mono (mLt h2 (mLt h3 (mLt jD (mLt fU (mLt fN (mLt iO (mLt fV (mLt fW (mLt (Mem.le_add f157 _) (mLt fX (mLt (Mem.le_add f160 _) (mLt iR (mLt (Mem.le_add f163 _) iS))))))))))))));exact(r1.mono (mLt h2 (mLt h3 (mLt jD (mLt fU (mLt fN (mLt iO (mLt fV (mLt fW (mLt (Mem.le_add f157 _) (mLt fX (mLt (Mem.le_add f160 _) (mLt iR (mLt (Mem.le_add f163 _) iS))))))))))))))) (by simp)) (by simp only[List.map_cons,List.map_nil,e1] <;> rfl),Zas (E:=ZtC),ZeC λt167 m167 vN r167 e167=>?_⟩
  intro b168 f169
  refine⟨_,rfl,Zdc _ _ [t167,t1] [ZtC,aE1] _ (ZbV (l:=[t167,t1]) f169 (by simp only[List.mem_cons,List.not_mem_nil,or_false];rintro x (rfl|rfl);exact r167;exact(r1.mono (mLt h2 (mLt h3 (mLt jD (mLt fU (mLt fN (mLt iO (mLt fV (mLt fW (mLt (Mem.le_add f157 _) (mLt fX (mLt (Mem.le_add f160 _) (mLt iR (mLt (Mem.le_add f163 _) (mLt iS (mLt (Mem.le_add f166 _) vN))))))))))))))))) (by simp)) (by simp only[List.map_cons,List.map_nil,e167,e1] <;> rfl),Zas (E:=ZtD),ZeC λt170 m170 zt r170 e170=>?_⟩
  refine⟨_,rfl,Zd7 t170 ZtD (0) (-1) (by omega) (by omega) _ r170 e170,Zas (E:=Znu),ZeC λt171 m171 zu r171 e171=>?_⟩
  intro b172 f173
  intro m174 zv vO vP
  refine⟨_,rfl,Zol t171 Znu _ [97,97,97] _ _ e171 (r171.mono (vO)) ((Zok [97,97,97] (by decide)).mono (vP)),(λv _ _ h=>by have h:v=.tuple #[.int .i64 ((Znk Znu [97,97,97]).1:Nat),.int .i64 (Znk Znu [97,97,97]).2]:=h;rw[h];rfl),?_⟩
  rintro z178 y178 m178 zw iT
  have iT:Value.tuple #[.int .i64 z178,.int .i64 y178]=.tuple #[.int .i64 ((Znk Znu [97,97,97]).1:Nat),.int .i64 (Znk Znu [97,97,97]).2]:=iT
  rw[ZvT]at iT
  simp only[Value.tuple.injEq,Array.mk.injEq,List.cons.injEq,Value.int.injEq,true_and,and_true]at iT
  obtain⟨rfl,rfl⟩:=iT
  intro m179 kP zx zy zA zB zC zD zE
  refine⟨Zwv,?_⟩
  intro b188 f189
  refine⟨_,rfl,Zdc _ _ [t1,t9] [aE1,aE9] _ (ZbV (l:=[t1,t9]) f189 (by simp only[List.mem_cons,List.not_mem_nil,or_false];rintro x (rfl|rfl);exact(r1.mono (mLt h2 (mLt h3 (mLt jD (mLt fU (mLt fN (mLt iO (mLt fV (mLt fW (mLt (Mem.le_add f157 _) (mLt fX (mLt (Mem.le_add f160 _) (mLt iR (mLt (Mem.le_add f163 _) (mLt iS kP)))))))))))))));exact(r9.mono (mLt vo (mLt fU (mLt fN (mLt iO (mLt fV (mLt fW (mLt (Mem.le_add f157 _) (mLt fX (mLt (Mem.le_add f160 _) (mLt iR (mLt (Mem.le_add f163 _) (mLt iS kP)))))))))))))) (by simp)) (by simp only[List.map_cons,List.map_nil,e1,e9] <;> rfl),Zas (E:=ZtE),ZeC λt190 m190 zF r190 e190=>?_⟩
  refine⟨_,rfl,ZaY t190 ZtE _ r190 e190,Zas (E:=ZtF),ZeC λt191 m191 zG r191 e191=>?_⟩
  intro b192 f193
  intro m194 zH vQ vR
  refine⟨_,rfl,Zdc _ _ [t3,t16] [aE3,Zt9] _ ((ZbV (l:=[t3,t16]) f193 (by simp only[List.mem_cons,List.not_mem_nil,or_false];rintro x (rfl|rfl);exact(r3.mono (mLt jD (mLt fU (mLt fN (mLt iO (mLt fV (mLt fW (mLt (Mem.le_add f157 _) (mLt fX (mLt (Mem.le_add f160 _) (mLt iR (mLt (Mem.le_add f163 _) (mLt iS kP)))))))))))));exact(r16.mono (mLt vp (mLt fU (mLt fN (mLt iO (mLt fV (mLt fW (mLt (Mem.le_add f157 _) (mLt fX (mLt (Mem.le_add f160 _) (mLt iR (mLt (Mem.le_add f163 _) (mLt iS kP)))))))))))))) (by simp)).mono (vR)) (by simp only[List.map_cons,List.map_nil,e3,e16] <;> rfl),Zas (E:=ZtG),ZeC λt198 m198 vS r198 e198=>?_⟩
  refine⟨_,rfl,ZaY t198 ZtG _ r198 e198,Zas (E:=ZtH),ZeC λt199 m199 vT r199 e199=>?_⟩
  intro b200 f201
  refine⟨_,rfl,Zd6 _ _ [t191,t199] [ZtF,ZtH] _ (ZbV (l:=[t191,t199]) f201 (by simp only[List.mem_cons,List.not_mem_nil,or_false];rintro x (rfl|rfl);exact(r191.mono (mLt vQ (mLt vS vT)));exact r199) (by simp)) (by simp only[List.map_cons,List.map_nil,e191,e199] <;> rfl),Zas (E:=Zsk),ZeC λt202 m202 zI r202 e202=>?_⟩
  intro b203 f204
  intro m205 zJ vU vV
  refine⟨_,rfl,Zle t202 Zsk _ [97,98,99] _ _ e202 (r202.mono (vU)) ((Zok [97,98,99] (by decide)).mono (vV)) (by decide),(λv _ _ ⟨_,_,h,_⟩=>by rw[h];rfl),?_⟩
  rintro a209 n209 c209 z209 m209 zK ⟨a209',c209',mE,oW⟩
  rw[ZvU]at mE oW
  simp only[Value.tuple.injEq,Array.mk.injEq,List.cons.injEq,Value.int.injEq,Value.slice.injEq,true_and,and_true]at mE
  obtain⟨⟨rfl,rfl,rfl⟩,rfl⟩:=mE
  intro m210 sL zL zM zN zO zP zQ zR zS zT vW
  refine ZtO rfl (ZtO rfl λbx fx=>?_)
  refine⟨_,trivial,Zom [2,1,0] [2,1,0] _ _ _ _ _ (oV.mono (mLt (mLt kP sL) (Mem.le_add fx _))) (.inr ⟨bx,0,rfl,λj v hj=>by rw[Nat.zero_add,Mem.add_same];exact hj⟩) (by decide),(λv _ _ h=>by unfold Ret at h;rw[h];rfl),?_⟩
  rintro q1 N1 wP fZ
  obtain rfl:q1=true:=by simpa[Ret]using fZ
  refine ZtO rfl (ZtO rfl λby_ fy=>?_)
  refine⟨_,trivial,Zlf [[97,98,99],[97],[98,99]] _ _ _ _ _ (oW.mono (mLt (mLt (vW) (mLt (Mem.le_add fx _) wP)) (Mem.le_add fy _))) (.inr ⟨by_,0,rfl,λj v hj=>by rw[Nat.zero_add,Mem.add_same];exact hj⟩) (by decide),(λv _ _ h=>by unfold Ret at h;rw[h];rfl),?_⟩
  rintro q2 N2 zU jG
  obtain rfl:q2=true:=by simpa[Ret]using jG
  refine ZtO rfl ⟨_,trivial,Zq6 _,(λv _ _ h=>by rw[h];rfl),?_⟩
  rintro y1 y2 N3 zV hy
  obtain⟨rfl,rfl⟩:y1=-1/\y2=-1:=by simpa using hy
  exact⟨_,Zq7 _ _ _ _,N3,mLt (mLt h1 (mLt h2 (mLt h3 (mLt jD (mLt fU (mLt fN (mLt iO (mLt fV (mLt fW (mLt (Mem.le_add f157 _) (mLt fX (mLt (Mem.le_add f160 _) (mLt iR (mLt (Mem.le_add f163 _) (mLt iS (mLt kP sL)))))))))))))))) (mLt (mLt (Mem.le_add fx _) wP) (mLt (mLt (Mem.le_add fy _) zU) zV)),Mem.le_refl _,rfl⟩
end Go.Proofs.Ytgclajkldphoaaa
set_option linter.unusedVariables false
namespace Go.Proofs.Ytgclajkldphoaaa
open Go Go.Eng Go.Proofs Go.RowKit
open Go.Value (int slice agg bool string tuple func)
open Go.IntKind (u8 u64 i64)
set_option maxRecDepth 100000
noncomputable def Zlg:Env:={ EB with
 frzNew:=[1] }
def Zga(aE aJ aH aI aK aD aG:Int)(aB:Option Addr)(aA aC:Nat)(m:Mem)(R:RT):Prop:=
 ∀(b:Nat)(m':Mem),Mem.le m m'->Mem.reads m' b 0 [int u8 aE,int u64 aJ,int u64 aH,int u64 aI,int u64 aK,int i64 aD,int i64 aG,slice aB aA aC]->∀(b:Nat),∃(R_1:RT),True/\CX
 Try.prog 48 (Array.mk [agg (Array.mk [int u8 aE,int u64 aJ,int u64 aH,int u64 aI,int u64 aK,int i64 aD,int i64 aG,slice aB aA aC])]) m' [] R_1/\ZaQ Shape.bool R_1/\∀(b:Bool) (m'_1:
 Mem),Mem.le m' m'_1->R_1 (bool b) m'_1 []->br (!b) (∃(m'':Mem),Mem.le m m''/\Mem.le m'' m'_1/\R (agg (Array.mk [int u8 0,int u64 0,int u64 0,int u64 0,int u64 0,int i64 0,int i64 0,slice none 0 0])) m''
 []) (∃(R_2:RT),True/\CX Try.prog 62 (Array.mk [agg (Array.mk [int u8 aE,int u64 aJ,int u64 aH,int u64 aI,int u64 aK,int i64 aD,int i64 aG,slice aB aA aC])]) m'_1 [] R_2/\ZaQ (shT)
 R_2/\∀(n n_1 n_2 n_3 n_4 n_5 n_6:Int)(a:Option Addr)(n_7 c:Nat)(m':Mem),Mem.le m'_1 m'->R_2 (agg (Array.mk [int u8 n,int u64 n_1,int u64 n_2,int u64 n_3,int u64 n_4,int i64 n_5,int i64 n_6,slice a
 n_7 c])) m' []->∃(m'':Mem),Mem.le m m''/\Mem.le m'' m'/\R (agg (Array.mk [int u8 n,int u64 n_1,int u64 n_2,int u64 n_3,int u64 n_4,int i64 n_5,int i64 n_6,slice a n_7 c])) m'' [])
theorem ZjE(aE aJ aH aI aK aD aG:Int)(aB:Option Addr)(aA aC:Nat)(m:Mem)(R:RT)(h:Zga aE aJ aH aI aK aD aG aB aA aC m R):CX Try.prog 47 #[.agg #[.int .u8 aE,.int .u64 aJ,.int .u64 aH,.int .u64 aI,.int .u64 aK,.int .i64 aD,.int .i64 aG,.slice aB aA aC]] m [] R:=
 Zak (E:=Zlg) ZaR mix Try.func47 [.v (.agg #[.int .u8 aE,.int .u64 aJ,.int .u64 aH,.int .u64 aI,.int .u64 aK,.int .i64 aD,.int .i64 aG,.slice aB aA aC])] [] (by kernel_rfl) (Eq.mp (by kernel_rfl) h)
noncomputable def Zlh:Env:={ EB with
 frzNew:=[1] }
def Zgb(aE aJ aH aI aK aD aG:Int)(aB:Option Addr)(aA aC:Nat)(m:Mem)(R:RT):Prop:=
 ∀(b:Nat)(m':Mem),Mem.le m m'->Mem.reads m' b 0 [int u8 aE,int u64 aJ,int u64 aH,int u64 aI,int u64 aK,int i64 aD,int i64 aG,slice aB aA aC]->∀(b b:Nat),Mem.free m' b->∃(R_1:
 RT),True/\CX Try.prog 47 (Array.mk [agg (Array.mk [int u8 6,int u64 0,int u64 0,int u64 0,int u64 0,int i64 0,int i64 0,slice (some (Addr.mk b 0 none)) 1 1])]) (Mem.add m' b [int u8 aE,int u64 aJ,int u64
 aH,int u64 aI,int u64 aK,int i64 aD,int i64 aG,slice aB aA aC]) [] R_1/\ZaQ (shT) R_1/\∀(n n_1 n_2 n_3 n_4 n_5 n_6:Int)(a:Option Addr)(n_7 c:Nat)(m'_1:Mem),Mem.le (Mem.add m' b
 [int u8 aE,int u64 aJ,int u64 aH,int u64 aI,int u64 aK,int i64 aD,int i64 aG,slice aB aA aC]) m'_1->R_1 (agg (Array.mk [int u8 n,int u64 n_1,int u64 n_2,int u64 n_3,int u64 n_4,int
 i64 n_5,int i64 n_6,slice a n_7 c])) m'_1 []->∃(m'':Mem),Mem.le m m''/\Mem.le m'' m'_1/\R (agg (Array.mk [int u8 n,int u64 n_1,int u64 n_2,int u64 n_3,int u64 n_4,int i64 n_5,int i64 n_6,slice a n_7 c]))
 m'' []
theorem ZjF(aE aJ aH aI aK aD aG:Int)(aB:Option Addr)(aA aC:Nat)(m:Mem)(R:RT)(h:Zgb aE aJ aH aI aK aD aG aB aA aC m R):CX Try.prog 18 #[.agg #[.int .u8 aE,.int .u64 aJ,.int .u64 aH,.int .u64 aI,.int .u64 aK,.int .i64 aD,.int .i64 aG,.slice aB aA aC]] m [] R:=
 Zak (E:=Zlh) ZaR mix Try.func18 [.v (.agg #[.int .u8 aE,.int .u64 aJ,.int .u64 aH,.int .u64 aI,.int .u64 aK,.int .i64 aD,.int .i64 aG,.slice aB aA aC])] [] (by kernel_rfl) (Eq.mp (by kernel_rfl) h)
end Go.Proofs.Ytgclajkldphoaaa
set_option linter.unusedVariables false
namespace Go.Proofs.Ytgclajkldphoaaa
open Go Go.Eng Go.Proofs Go.RowKit
open Go.Value (int slice agg bool string tuple func)
open Go.IntKind (u8 u64 i64)
set_option maxRecDepth 100000
noncomputable def Zne:Env:={ EB with
 loops:=(λi=>bif Nat.beq i 3 then⟨[(12,.int .i64)],[],[],false⟩ else⟨[],[],[],false⟩)
 dr:=(λi=>bif Nat.beq i 5 then[⟨0,[1],[],none,[],[]⟩,⟨1,[1],[],none,[0],[]⟩,⟨2,[],[],none,[],[]⟩,⟨3,[4],[],none,[],[]⟩,⟨4,[],[],none,[3],[]⟩,⟨5,[],[],none,[0,1,2,3,4],[]⟩]else[])
 thaw:=true
 stAt:=(λi=>bif Nat.beq i 22 then some 7 else none)
 last:=(λi=>bif Nat.beq i 5 then true else false)
 tokC:=(λi=>bif Nat.beq i 7 then some (7,8)else none) }
def Zg9(aE aJ aH aI aK aD aG:Int)(aB:Option Addr)(aA aC:Nat)(m:Mem)(R:RT):Prop:=
 ∀(b ak:Nat),∃(R_1:RT),CXT Try.prog 25 (Array.mk [slice aB aA aC]) m 8 R_1/\ZaQ Shape.slice R_1/\∀(a:Option Addr)(n c:Nat)(m':Mem),Mem.le m m'->R_1 (slice a n c) m' []->∃(I:IT),(∃(n:
 Nat),I [int i64 0] [] [] m' n)/\∀(aa:Int)(m':Mem)(al:Nat),True->I [int i64 aa] [] [] m' al->br (decide (aa < (↑n:Int))) (∃(am:Nat),∃(o:Nat),a=some (Addr.mk am o none)/\Zag aa n/\∃(v:
 Value),∃(ab:Value),∃(ac:Value),∃(ad:Value),∃(ae:Value),∃(af:Value),∃(ag:Value),∃(ah:Value),Mem.reads m' am (o+Int.toNat aa*8) [v,ab,ac,ad,ae,af,ag,ah]/\∀(az:Nat),chk
 (Value.oneCell' v&&(Value.oneCell' ab&&(Value.oneCell' ac&&(Value.oneCell' ad&&(Value.oneCell' ae&&(Value.oneCell' af&&(Value.oneCell' ag&&(Value.oneCell' ah&&true)))))))) (∃(f:Fx),∃(R:RT),R=f
 4 [agg (Array.mk [v,ab,ac,ad,ae,af,ag,ah])] m'/\CX Try.prog 62 (Array.mk [agg (Array.mk [v,ab,ac,ad,ae,af,ag,ah])]) m' [] R/\ZaQ (shT) R/\∀(an ao ap aq ar au av:Int)(aw:Option Addr)(ax ay:Nat)
 (ai:Mem),Mem.le m' ai->R (agg (Array.mk [int u8 an,int u64 ao,int u64 ap,int u64 aq,int u64 ar,int i64 au,int i64 av,slice aw ax ay])) ai []->∃(aj:Nat),∃(o:Nat),a=some (Addr.mk aj o none)/\Zag
 aa n/\∀(M:Mem),Mem.le m' M->Mem.le ai M->slice a n c=slice (some (Addr.mk aj 0 none)) n c/\o+Int.toNat aa*8+8<=n*8/\[some (Box.mk ak [int u8 0,int u64 0,int u64 0,int u64 0,int u64 0,int i64 0,
 int i64 0,slice none 0 0] 29 8 false true),some (Box.mk b [int u8 aE,int u64 aJ,int u64 aH,int u64 aI,int u64 aK,int i64 aD,int i64 aG,slice a n c] 29 8 false true)]=[some (Box.mk ak [int u8 0,
 int u64 0,int u64 0,int u64 0,int u64 0,int i64 0,int i64 0,slice none 0 0] 29 8 false true),some (Box.mk b [int u8 aE,int u64 aJ,int u64 aH,int u64 aI,int u64 aK,int i64 aD,int i64 aG,slice
 a n c] 29 8 false true)]/\[some (Tok.mk (slice a n c) 8)]=[some (Tok.mk (slice a n c) 8)]/\∃(n':Nat),n' < al/\I [int i64 (IntKind.wrap i64 (aa+(1:Int)))] [] [] (Mem.upd M aj (o+Int.toNat aa*8) [int u8
 an,int u64 ao,int u64 ap,int u64 aq,int u64 ar,int i64 au,int i64 av,slice aw ax ay]) n')) (∃(m'':Mem),Mem.le m m''/\Mem.le m'' m'/\R (agg (Array.mk [int u8 aE,int u64 aJ,int u64 aH,int u64 aI,
 int u64 aK,int i64 aD,int i64 aG,slice a n c])) m'' [])
theorem Zli(aE aJ aH aI aK aD aG:Int)(aB:Option Addr)(aA aC:Nat)(m:Mem)(R:RT)(h:Zg9 aE aJ aH aI aK aD aG aB aA aC m R):CX Try.prog 62 #[.agg #[.int .u8 aE,.int .u64 aJ,.int .u64 aH,.int .u64 aI,.int .u64 aK,.int .i64 aD,.int .i64 aG,.slice aB aA aC]] m [] R:=
 Zak (E:=Zne) ZaR mix Try.func62 [.v (.agg #[.int .u8 aE,.int .u64 aJ,.int .u64 aH,.int .u64 aI,.int .u64 aK,.int .i64 aD,.int .i64 aG,.slice aB aA aC])] [] (by kernel_rfl) (Eq.mp (by kernel_rfl) h)
noncomputable def ZbL:Env:={ EB with
 tokOf:=(λi=>bif Nat.beq i 2 then 7 else bif Nat.beq i 7 then 7 else 0)
 tokC:=(λi=>bif Nat.beq i 5 then some (7,8)else none)
 thaw:=true }
def Za4(p0a:Option Addr)(p0n p0c:Nat)(m:Mem)(R:RT):Prop:=
 br (Option.isNone p0a) (slice none 0 0=slice none 0 0/\R (slice none 0 0) m []) (((0:Int)=(0:Int)/\(0:Int)<=(0:Int)/\(0:Int)*(↑(80:Nat):Int)<=(281474976710656:Int)/\(0:Int) <=
 (9223372036854775807:Int))/\∀(b:Nat),Mem.free m b->(Tok.mk (slice (some (Addr.mk b 0 none)) 0 (Int.toNat (0:Int))) 8=Tok.mk (slice (some (Addr.mk b 0 none)) 0 (Int.toNat (0:Int))) 8\/slice (some (Addr.mk
 b 0 none)) 0 (Int.toNat (0:Int))=slice none 0 0\/Int.toNat (0:Int) < 0+p0n)/\∃(xs:List Value),∃(ys:List Value),List.length xs=0*8/\List.length ys=p0n*8/\rowRd m (some (Addr.mk b 0 none)) xs/\
 rowRd m p0a ys/\(∀(u:Value),u∈ys->Value.oneCell' u=true)/\(0+p0n)*80<=140737488355328/\0+p0n<=9223372036854775807/\∀(a':Option Addr)(c':Nat)(m':Mem),Mem.le m m'->rowRd m' a' (List.append
 xs ys)->TokFact m (some (Addr.mk b 0 none)) a' (0+p0n) c'->some (Tok.mk (slice a' (0+p0n) c') 8)=some (Tok.mk (slice a' (0+p0n) c') 8)/\R (slice a' (0+p0n) c') m' [])
theorem ZbC(p0a:Option Addr)(p0n p0c:Nat)(m:Mem)(R:RT)(h:Za4 p0a p0n p0c m R):CXT Try.prog 25 #[.slice p0a p0n p0c] m 8 R:=
 Zkf (E:=ZbL) ZaR mix Try.func25 [.v (.slice p0a p0n p0c)] (by kernel_rfl) (Eq.mp (by kernel_rfl) h)
end Go.Proofs.Ytgclajkldphoaaa
set_option linter.unusedVariables false
set_option linter.unusedSimpArgs false
set_option linter.unusedSectionVars false
namespace Go.Proofs.Ytgclajkldphoaaa
open Go Go.Eng Go.Rx Go.Proofs Go.RowKit
set_option maxRecDepth 100000
theorem Zww(l:List T):∀u∈Rx.Zcz l,u.oneCell'=true:=by
 intro u hu
 simp only[Rx.Zcz,List.mem_flatten,List.mem_map]at hu
 obtain⟨_,⟨t,_,rfl⟩,h⟩:=hu
 simp only[T.cs,T.sl,List.mem_cons,List.not_mem_nil,or_false]at h
 rcases h with rfl|rfl|rfl|rfl|rfl|rfl|rfl|rfl <;> rfl
theorem Zlj(a:Option Addr)(c:Nat)(l:List T)(m:Mem)(h:rowRd m a (Rx.Zcz l))(hl:l.length<=1000000000000):CXT Try.prog 25 #[.slice a l.length c] m 8 (λv m' _=>∃a' c',v=.slice a' l.length c'/\rowRd m' a' (Rx.Zcz l)/\l.length<=c'/\(l.length=0\/∃b,a'=some ⟨b,0,none⟩/\m.free b)):=by
 apply ZbC
 unfold Za4
 have aX:=Zap l
 refine Zab (λha=>?_) (λha=>⟨⟨rfl,Int.le_refl _,by decide,by decide⟩,λb hf=>⟨.inl rfl,[],Rx.Zcz l,rfl,aX,.inl rfl,h,Zww l,by omega,by omega,λa' c' m' hm aM vX=>⟨rfl,?_⟩⟩⟩)
 ·obtain rfl:a=none:=by simpa using ha
  have h0:l=[]:=by
   rcases h with h|⟨_,_,h,_⟩
   ·rw[h]at aX;exact List.eq_nil_of_length_eq_zero (by simp at aX;omega)
   ·cases h
  subst h0
  exact⟨rfl,none,0,rfl,.inl rfl,Nat.le_refl _,.inl rfl⟩
 ·simp only[Nat.zero_add]at vX ⊢
  refine⟨a',c',rfl,aM,vX.1,?_⟩
  rcases(vX.old (λ_ _ e=>by cases e;rfl)).2 with h1|⟨b',h1,h2|h2⟩
  ·subst h1
   left
   rcases aM with h3|⟨_,_,h3,_⟩
   ·have h4:(Rx.Zcz l).length=0:=congrArg List.length h3
    omega
   ·cases h3
  ·right;rw[<-h2];exact⟨b,rfl,hf⟩
  ·exact .inr ⟨b',h1,h2⟩
theorem ZrZ{m:Mem}{b:Nat}{ts r:List T}{x t:T}(h:rowRd m (some ⟨b,0,none⟩) (Rx.Zcz (ts++x::r))):rowRd (m.upd b (0+ts.length*8) t.cs) (some ⟨b,0,none⟩) (Rx.Zcz (ts++t::r)):=by
 rcases h with h|⟨b',o',ha,h⟩
 ·have hl:(Rx.Zcz (ts++x::r)).length=0:=by rw[h];rfl
  rw[Zap,List.length_append,List.length_cons]at hl
  omega
 cases ha
 have e:∀y:T,Rx.Zcz (ts++y::r)=Rx.Zcz ts++(y.cs++Rx.Zcz r):=λy=>by simp[Rx.Zcz]
 have h8:∀y:T,y.cs.length=8:=λ_=>rfl
 refine .inr ⟨b,0,rfl,λj v hj=>?_⟩
 rw[e]at hj
 unfold Mem.upd;try dsimp only
 rw[Nat.zero_add,Nat.zero_add,h8]
 rcases Nat.lt_or_ge j (ts.length*8)with aN|cP
 ·rw[if_neg (by omega)]
  rw[List.getElem?_append_left (by rw[Zap];exact aN)]at hj
  have:=h j v (by rw[e,List.getElem?_append_left (by rw[Zap];exact aN)];exact hj)
  rwa [Nat.zero_add]at this
 ·rw[List.getElem?_append_right (by rw[Zap];exact cP),Zap]at hj
  rcases Nat.lt_or_ge j (ts.length*8+8)with aN|uZ
  ·rw[if_pos ⟨rfl,cP,aN⟩]
   rw[List.getElem?_append_left (by rw[h8];omega)]at hj
   exact hj
  ·rw[if_neg (by omega)]
   rw[List.getElem?_append_right (by rw[h8];omega),h8]at hj
   have:=h j v (by
    rw[e,List.getElem?_append_right (by rw[Zap];exact cP),Zap,List.getElem?_append_right (by rw[h8];omega),h8];exact hj)
   rwa [Nat.zero_add]at this
theorem Zr0{m m':Mem}(h:m.le m'){b:Nat}(hf:m'.free b):m.free b:=λo=>by
 cases he:m b o with
 | none=>rfl
 | some v=>have:=h _ _ _ he;rw[hf o]at this;cases this
def NewT(m:Mem)(t:T):Prop:=∀x∈t.nodes,x.subs=[]\/∃b,x.a=some ⟨b,0,none⟩/\m.free b
theorem NewT.less{m m':Mem}{t:T}(hn:NewT m' t)(h:m.le m'):NewT m t:=λx hx=>(hn x hx).imp id λ⟨b,e,hf⟩=>⟨b,e,Zr0 h hf⟩
theorem Zql{m:Mem}{k s0 s1 s2 s3 mn mx:Int}{a:Option Addr}{c:Nat}{l:List T}(h:l=[]\/∃b,a=some ⟨b,0,none⟩/\m.free b)(hl:∀x∈l,NewT m x):NewT m (.node k s0 s1 s2 s3 mn mx a c l):=by
 intro x hx
 simp only[T.nodes,List.mem_cons]at hx
 rcases hx with rfl|hx
 ·exact h
 ·have:∀l:List T,(∀x∈l,NewT m x)->∀x∈Zaj l,x.subs=[]\/∃b,x.a=some ⟨b,0,none⟩/\m.free b:=by
   intro l
   induction l with
   | nil=>intro _ x hx;simp[Zaj]at hx
   | cons y l ih=>
    intro h x hx
    simp only[Zaj,List.mem_append]at hx
    rcases hx with hx|hx
    ·exact h y (by simp) x hx
    ·exact ih (λz hz=>h z (by simp[hz])) x hx
  exact this l hl x hx
theorem Zr1{m:Mem}{t:T}(h:t.subs=[]):NewT m t:=by
 intro x hx
 rw[Zbv,h]at hx
 simp[Zaj]at hx
 subst hx;exact .inl h
set_option maxHeartbeats 800000 in
theorem Zku(t:T)(m:Mem)(hr:Rep m t)(hz:t.nodes.length<=10000):CX Try.prog 62 #[t.v] m [] (Zi9 λt'=>t'.er=t.er/\(t'.caps/\NewT m t')):=by
 have bK:szL t.subs<=10000:=by rw[Zp0]at hz;omega
 have iE:t.subs.length<=10000:=Nat.le_trans (ZoP _) bK
 apply Zli
 unfold Zg9
 intro b b1
 refine⟨_,Zlj t.a t.c t.subs m (ZfZ hr.subs) (by omega),(λv _ _ ⟨a,c,e,_⟩=>by rw[e];rfl),?_⟩
 rintro a n c m1 aU ⟨a',c',hv,aM,gD,aW⟩
 simp only[Value.slice.injEq]at hv
 obtain⟨rfl,rfl,rfl⟩:=hv
 have cB:∀x∈t.subs,Rep m x:=Zmr hr.subs
 refine⟨λxs css tvs m' q=>∃(k:Nat)(L:List T)(mb:Mem),k<=t.subs.length/\xs=[.int .i64 k]/\q=t.subs.length - k/\L.length=k/\L.map T.er=(t.subs.take k).map T.er/\m.le mb/\mb.le m'/\(t.subs.length=0\/∃b,a=some ⟨b,0,none⟩/\mb.free b)/\(∀x∈L,Rep mb x/\(x.caps/\NewT m x))/\(t.subs.length=0\/∃b,a=some ⟨b,0,none⟩/\m.free b)/\rowRd m' a (Rx.Zcz (L++t.subs.drop k)),⟨_,0,[],m,by omega,rfl,rfl,rfl,rfl,Mem.le_refl _,aU,aW,by simp,aW,aM⟩,?_⟩
 rintro z m2 q _ ⟨k,L,mb,hk,cH,hq,tK,vY,gX,qJ,dU,kO,bM,iU⟩
 obtain rfl:z=k:=by simpa using cH
 refine Zab (λaN=>?_) (λcP=>?_)
 ·have aT:k < t.subs.length:=by have:=of_decide_eq_true aN;omega
  obtain⟨x,hx⟩:=Zit aT
  have eJ:=cB x (List.mem_of_getElem? hx)
  have qm:x.nodes.length<=10000:=by
   obtain⟨h1,h2⟩:=List.getElem?_eq_some_iff.1 hx
   have:=congrArg List.length (ZeP hx)
   unfold szL at bK
   simp only[List.length_append]at this
   omega
  have jW:t.subs.drop k=x::t.subs.drop (k+1):=by
   rw[List.drop_eq_getElem_cons aT,(List.getElem?_eq_some_iff.1 hx).2]
  rcases dU with dU|⟨bk,rfl,cV⟩
  ·omega
  obtain⟨b0,o0,zW,cO⟩:=Zes iU (i:=k) (t:=x) (by rw[List.getElem?_append_right (by omega),tK,Nat.sub_self,jW];rfl)
  cases zW
  have hw:IntKind.i64.wrap ((k:Int)+1)=((k+1:Nat):Int):=by rw[Zbl (by omega) (by omega)];rfl
  simp only[hw,Int.toNat_natCast]
  have hU:CX Try.prog 62 #[x.v] m2 [] (Znr mb m2 λt'=>t'.er=x.er/\(t'.caps/\NewT mb t')):=(Zku x mb (Rep.mono gX x eJ) qm).frame2 qJ
  refine⟨bk,0,rfl,⟨by omega,by omega⟩,_,_,_,_,_,_,_,_,cO,λb3=>Zaa rfl ⟨λ_ _ _=>Znr mb m2 λt'=>t'.er=x.er/\(t'.caps/\NewT mb t'),Znr mb m2 λt'=>t'.er=x.er/\(t'.caps/\NewT mb t'),rfl,hU,Zdu,Ziu λt' m0 m3 cJ h0 mO eD hr' ht'=>⟨bk,0,rfl,⟨by omega,by omega⟩,λM iF qv=>⟨rfl,by omega,by trivial,by trivial,t.subs.length - (k+1),by omega,k+1,L++[t'],m0,by omega,rfl,rfl,by simp[tK],?_,mLt gX h0,?_,.inr ⟨bk,rfl,?_⟩,?_,bM,?_⟩⟩⟩⟩
  ·rw[List.map_append,vY,Zck hx,List.map_append]
   simp[ht'.1]
  ·refine Mem.le_upd (mLt mO qv) ?_ _ _
   intro o'
   have hc:m2 bk (0+k*8+0)=some (.int .u8 x.k):=cO 0 _ rfl
   rw[eD _ _ _ hc o'];exact cV o'
  ·intro o'
   have hc:m2 bk (0+k*8+0)=some (.int .u8 x.k):=cO 0 _ rfl
   rw[eD _ _ _ hc o'];exact cV o'
  ·intro y hy
   rcases List.mem_append.1 hy with hy|hy
   ·exact⟨Rep.mono h0 y (kO y hy).1,(kO y hy).2⟩
   ·simp at hy;subst hy;exact⟨hr',ht'.2.1,ht'.2.2.less gX⟩
  ·rw[jW]at iU
   have h5:=ZrZ (t:=t') (iU.mono iF)
   rw[tK]at h5
   rw[List.append_assoc]
   exact h5
 ·have dF:k=t.subs.length:=by have:=of_decide_eq_false cP;omega
  subst dF
  rw[List.drop_length,List.append_nil]at iU
  rw[List.take_length]at vY
  have bL:=ZsV hr
  refine⟨m2,mLt gX qJ,Mem.le_refl _,.node t.k t.s0 t.s1 t.s2 t.s3 t.mn t.mx a c L,?_,?_,?_⟩
  ·simp only[T.v,T.k,T.s0,T.s1,T.s2,T.s3,T.mn,T.mx,T.a,T.c,T.subs,tK]
  ·have:=Zmq iU (λx hx=>Rep.mono qJ x (kO x hx).1) (by omega)
   exact Zul this.1 this.2 bL
  ·have:=Zte (k:=t.k) (s0:=t.s0) (s1:=t.s1) (s2:=t.s2) (s3:=t.s3) (mn:=t.mn) (mx:=t.mx) (a:=a) (a':=t.a) (c:=c) (c':=t.c) vY
   refine⟨this.trans ?_,ZmG (by omega) λx hx=>(kO x hx).2.1,Zql (bM.imp (λh=>List.eq_nil_of_length_eq_zero (by omega)) id) λx hx=>(kO x hx).2.2⟩
   cases t;rfl
termination_by SizeOf.sizeOf t
decreasing_by exact Zru (List.mem_of_getElem? hx)
end Go.Proofs.Ytgclajkldphoaaa
set_option linter.unusedVariables false
set_option linter.unusedSimpArgs false
set_option linter.unusedSectionVars false
namespace Go.Proofs.Ytgclajkldphoaaa
open Go Go.Eng Go.Rx Go.Proofs Go.RowKit
set_option maxRecDepth 100000
theorem Zry(m:Mem):Rep m T0:=Zba (k:=0) (mn:=0) (mx:=0) (a:=none) (c:=0) (l:=[]) ⟨by simp,.inl rfl⟩ (by omega) (by omega) (by omega)
theorem Zrz(m:Mem):Rep m T1:=Zba (k:=1) (mn:=0) (mx:=0) (a:=none) (c:=0) (l:=[]) ⟨by simp,.inl rfl⟩ (by omega) (by omega) (by omega)
theorem Znf(t:T)(m:Mem)(hr:Rep m t):CX Try.prog 47 #[t.v] m [] (Zi9 λt'=>Zv6 t t'/\NewT m t'):=by
 apply ZjE
 unfold Zga
 intro b m1 aU _ b1
 refine Za5 (Zo3 t m1 (hr.mono aU)) λm2 bC=>Zab (λh=>?_) (λh=>?_)
 ·exact⟨m2,mLt aU bC,Mem.le_refl _,T0,rfl,Zry _,⟨.inr ⟨by simpa using h,rfl⟩,Ztf⟩,Zr1 rfl⟩
 ·have hc:t.clean=true:=by simpa using h
  refine Za7 (Zku t m2 (hr.mono (mLt aU bC)) (ZmH hc)) ZcD (ZhN λt' m3 cJ hr' ht'=>?_)
  exact⟨m3,mLt aU (mLt bC cJ),Mem.le_refl _,t',rfl,hr',⟨.inl ⟨hc,ht'.1⟩,ht'.2.1⟩,ht'.2.2.less (mLt aU bC)⟩
theorem Zng(t:T)(m:Mem)(hr:Rep m t):CX Try.prog 18 #[t.v] m [] (Zi9 λt'=>(∃a c,Zv6 (ZaE 6 0 0 a c [t]) t')/\NewT m t'):=by
 apply ZjF
 unfold Zgb
 intro b m1 aU _ b1 b2 iP
 have bO:=mLt aU (Mem.le_add iP t.cs)
 have hL:RepL (m1.add b2 t.cs) (some ⟨b2,0,none⟩) [t]:=Zhu (λj v hj=>by rw[Nat.zero_add,Mem.add_same];exact hj) (hr.mono bO)
 have lC:Rep (m1.add b2 t.cs) (ZaE 6 0 0 (some ⟨b2,0,none⟩) 1 [t]):=Zba hL (by omega) (by omega) (by omega)
 refine Za7 (Znf (ZaE 6 0 0 (some ⟨b2,0,none⟩) 1 [t]) (m1.add b2 t.cs) lC) ZcD (ZhN λt' m2 bC hr' ht'=>?_)
 exact⟨m2,mLt bO bC,Mem.le_refl _,t',rfl,hr',⟨_,_,ht'.1⟩,ht'.2.less bO⟩
theorem Zkv(t:T)(m:Mem)(hr:Rep m t):CX Try.prog 18 #[t.v] m [] (Zi9 λt'=>∃a c,Zv6 (ZaE 6 0 0 a c [t]) t'):=
 (Zng t m hr).mono λ_ _ _ _ ⟨t',e,hr',h⟩=>⟨t',e,hr',h.1⟩
end Go.Proofs.Ytgclajkldphoaaa
set_option linter.unusedVariables false
set_option linter.unusedSimpArgs false
set_option linter.unusedSectionVars false
namespace Go.Proofs.Ytgclajkldphoaaa
open Go Go.Eng Go.Rx Go.Proofs Go.RowKit
set_option maxRecDepth 100000
def ZvV(x:T)(n:Nat):RT:=λv _ _=>∃a c,v=.tuple #[.slice a 0 c,.int .i64 (Zbg x n)]
theorem Zoo(x:T)(sa:Option Addr)(n sc:Nat)(i:Int)(m:Mem)(hr:Rep m x)(h:Zbg x n≠0):CX Try.prog 14 #[x.v,.slice sa n sc,.int .i64 i] m [] (ZvV x n):=by
 have:=Zlz x sa (List.replicate n 0) sc i m hr (λh'=>absurd (by simpa using h') h)
 rw[List.length_replicate]at this
 refine this.mono λv m' css _ ⟨a,c,hv,_⟩=>⟨a,c,?_⟩
 have e:Zp3 x (List.replicate n 0) i=([],Zbg x n):=by unfold Zp3;rw[List.length_replicate,if_pos h]
 rw[e]at hv;exact hv
theorem Zop(x:T)(sa:Option Addr)(n sc:Nat)(m:Mem)(hr:Rep m x)(h:Zbg x n≠0):CX Try.prog 15 #[x.v,.slice sa n sc] m [] (ZvV x n):=by
 have:=ZlA x sa (List.replicate n 0) sc m hr (λh'=>absurd (by simpa using h') h)
 rw[List.length_replicate]at this
 refine this.mono λv m' css _ ⟨a,c,hv,_⟩=>⟨a,c,?_⟩
 have e:Zgj x (List.replicate n 0)=([],Zbg x n):=by unfold Zgj;rw[List.length_replicate,if_pos h]
 rw[e]at hv;exact hv
theorem ZjG(x:T)(sa:Option Addr)(n sc:Nat)(m:Mem)(hr:Rep m x)(sH:n<=sc)(h:Zbg x n≠0):CX Try.prog 16 #[x.v,.slice sa n sc] m [] (ZvV x n):=by
 have:=Zix x sa (List.replicate n 0) sc m hr (λh'=>absurd (by simpa using h') h) (by simpa using sH)
 rw[List.length_replicate]at this
 refine this.mono λv m' css _ ⟨a,c,hv,_⟩=>⟨a,c,?_⟩
 have e:Zgj x (List.replicate n 0)=([],Zbg x n):=by unfold Zgj;rw[List.length_replicate,if_pos h]
 have e2:ZrF x (List.replicate n 0)=([],Zbg x n):=by unfold ZrF;rw[e,if_pos h]
 rw[e2]at hv;exact hv
theorem Znh(x:T)(sa:Option Addr)(n sc:Nat)(m:Mem)(hr:Rep m x)(h:Zbg x n≠0):CX Try.prog 17 #[x.v,.slice sa n sc] m [] (Ret (.tuple #[.int .i64 0,.int .i64 (Zbg x n)])):=by
 have:=ZjB x sa (List.replicate n 0) sc m hr (λh'=>absurd (by simpa using h') h)
 rw[List.length_replicate]at this
 have e:Znk x (List.replicate n 0)=(0,Zbg x n):=by unfold Znk;rw[List.length_replicate,if_pos h]
 rw[e]at this;exact this
theorem ZjH{x:T}{n:Nat}:∀(v:Value)(m':Mem) (css:List (List Value)),ZvV x n v m' css->Shape.fits (Shape.tup [Shape.slice,Shape.int .i64]) v=true:=λv _ _ ⟨_,_,h⟩=>by rw[h];rfl
theorem Zni{x:T}(h:x.right=false):x.check≠0:=λhc=>by
 have hg:=(Zhv hc).1
 unfold T.good at hg
 have:=List.all_eq_true.1 hg x (by rw[Zbv];simp)
 rw[h]at this;cases this
theorem ZvW{x:T}(h:x.check≠0)(n:Nat):Zbg x n=140:=by unfold Zbg;rw[if_pos h]
def grA:T:=eN 6 0 0 [aL]
def Zwk:T:=eN 3 0 0 (List.replicate 10 grA)
theorem ZtI:Zwk.check≠0:=by decide +kernel
theorem Zuy:T0.check≠0:=by decide +kernel
theorem ZtJ(E:T):(ZaE 3 0 0 none 0 [E]).check≠0:=Zni (by simp[T.right,ZaE,T.k,T.subs])
theorem ZtK(E:T):(ZaE 5 2 1 none 0 [E]).check≠0:=Zni (by simp[T.right,ZaE,T.k,T.subs,T.mn,T.mx,ZgI])
theorem Zr2{t E:T}(h:t.er=E)(hE:E.check≠0):t.check≠0:=by rw[<-Zjj,h];exact hE
set_option maxHeartbeats 6400000 in
theorem ZhY(l:List (Nat×Nat×Nat))(pa:Option Addr)(pc:Nat)(k:Nat)(hk:k < 256)(z:Int)(m:Mem)(hl:Sm m pa l)(zX:l.length<=pc):
  CX Try.prog 3 #[.slice pa l.length pc,.int .u8 (k:Nat),.int .i64 z] m [] (Ret (.bool true)):=by
 apply ZeX
 unfold Zc8
 refine Za5 (Zon m) λm1 aU=>Zsr rfl ?_
 refine Za7 (Zts l pa pc m1 (hl.mono aU) zX) ZcD (ZhN λt m2 bC hr ht b b1=>?_)
 have eZ:=mLt aU bC
 refine⟨λxs css tvs M q=>∃(j:Nat)(L:List T)(a:Option Addr)(c:Nat),j<=10/\L.length=j/\xs=[.int .i64 (j:Nat)]/\css=[[.int .u8 3,.int .u64 0,.int .u64 0,.int .u64 0,.int .u64 0,.int .i64 0,.int .i64 0,.slice a j c]]/\tvs=[.slice a j c]/\rowRd M a (Rx.Zcz L)/\(∀x∈L,Rep M x/\x.er=grA)/\q=10 - j,
  ⟨10,0,[],none,0,by omega,rfl,rfl,rfl,rfl,.inl rfl,by simp,rfl⟩,?_⟩
 rintro y cs a n c M q hM ⟨j,L,a',c',hj,qF,cH,cR,fI,aM,kO,rfl⟩
 obtain rfl:y=j:=by simpa using cH
 obtain rfl:cs=_:=List.singleton_inj.1 cR
 obtain⟨rfl,hn,rfl⟩:a=a'/\n=j/\c=c':=by simpa using fI
 obtain rfl:=hn.symm
 refine Zab (λaN=>?_) (λcP=>?_)
 ·have aT:j < 10:=by have:=of_decide_eq_true aN;omega
  refine⟨λi _ _=>if i=2 then IsE (Zcl 97)else IsE grA,Zao rfl ⟨_,rfl,Zez 97 (by omega) M,Zas (E:=Zcl 97),ZeC λu M1 iO hu eu=>⟨_,rfl,ZaY u (Zcl 97) M1 hu eu,Zas (E:=grA),ZeC λg M2 iF hg eg b2 iP=>?_⟩⟩⟩
  have bO:M.le (M2.add b2 g.cs):=mLt iO (mLt iF (Mem.le_add iP _))
  have h8:∀L:List T,(Rx.Zcz L).length=L.length*8:=λL=>by
   induction L with
   | nil=>rfl
   | cons x L ih=>
    have e:Rx.Zcz (x::L)=x.cs++Rx.Zcz L:=rfl
    rw[e,List.length_append,ih]
    show 8+_=_
    simp only[List.length_cons];omega
  refine Zaa rfl ⟨.inl rfl,Rx.Zcz L,g.cs,by rw[h8,qF];rfl,rfl,aM.mono bO,.inr ⟨b2,0,rfl,λi v hi=>by rw[Nat.zero_add];show Mem.add M2 b2 g.cs b2 i=_;rw[Mem.add_same];exact hi⟩,?_,by simp only[slN];omega,by simp only[slN];omega,λa4 c4 m4 cI bP=>Zaa rfl λM3 h1 h2 h3 h4 h5=>⟨by trivial,10 - (j+1),by omega,j+1,L++[g],a4,c4,by omega,by simp[qF],?_,rfl,rfl,?_,?_,rfl⟩⟩
  ·intro u hu
   rcases List.mem_append.1 (show u∈([.int .u8 g.k,.int .u64 g.s0,.int .u64 g.s1,.int .u64 g.s2,.int .u64 g.s3,.int .i64 g.mn,.int .i64 g.mx]++[g.sl]:List Value) from hu)with h|h
   ·simp at h;rcases h with rfl|rfl|rfl|rfl|rfl|rfl|rfl <;> rfl
   ·obtain rfl:u=g.sl:=by simpa using h
    rfl
  ·rw[wr1 (by omega)]
  ·have e:Rx.Zcz (L++[g])=Rx.Zcz L++g.cs:=by unfold Rx.Zcz;simp
   rw[e]
   exact rowRd.mono bP h5
  ·intro x hx
   rcases List.mem_append.1 hx with hx|hx
   ·exact⟨(kO x hx).1.mono h1,(kO x hx).2⟩
   ·obtain rfl:x=g:=by simpa using hx
    exact⟨hg.mono h3,eg⟩
 ·have:j=10:=by have:=of_decide_eq_false cP;omega
  subst this
  have qY:=hr.mono hM
  have vZ:Rep M (ZaE 3 0 0 a c L):=Zba (Zmq aM (λx hx=>(kO x hx).1) (by omega)) (by omega) (by omega) (by omega)
  have zY:(ZaE 3 0 0 a c L).er=Zwk:=ZhB (by
   have:∀L:List T,(∀x∈L,x.er=grA)->L.map T.er=List.replicate L.length grA:=λL=>by
    induction L with
    | nil=>intro _;rfl
    | cons x L ih=>
     intro h
     rw[List.map_cons,h x (by simp),ih λy hy=>h y (by simp[hy])];rfl
   rw[this L λx hx=>(kO x hx).2,qF])
  refine⟨λi _ _=>if i=3 then IsE (ZaE 3 0 0 none 0 [t.er])else IsE (ZaE 5 2 1 none 0 [t.er]),λb2 iP=>⟨_,rfl,Zd6 (some ⟨b2,0,none⟩) 1 [t] [t.er] _ (ZbV (l:=[t]) iP (by simp only[List.mem_cons,List.not_mem_nil,or_false];rintro x rfl;exact qY) (by simp)) rfl,Zas (E:=ZaE 3 0 0 none 0 [t.er]),ZeC λt2 M2 iF eW e2=>⟨_,rfl,Zd7 t t.er 2 1 (by omega) (by omega) M2 (qY.mono (mLt (Mem.le_add iP _) iF)) rfl,Zas (E:=ZaE 5 2 1 none 0 [t.er]),ZeC λt3 M3 qv p7 e3=>?_⟩⟩⟩
  have nM:Int.tmod (k:Int) 4=((k % 4:Nat):Int):=rfl
  refine Zaa rfl λb3 qu=>⟨by omega,⟨by rw[nM];omega,by rw[nM];omega⟩,Zaa (by rw[nM,Nat.ble_eq,Int.toNat_natCast];show _<=16+1+1+1+1+1+1+1+1;omega) λb4=>?_⟩
  obtain⟨bad,zZ,z4,v3⟩:∃bad:T,List.take 8 (List.drop (Int.toNat (Int.tmod (k:Int) 4)*8) (Value.int .u8 0::.int .u64 0::.int .u64 0::.int .u64 0::.int .u64 0::.int .i64 0::.int .i64 0::.slice none 0 0::.int .u8 t2.k::.int .u64 t2.s0::.int .u64 t2.s1::.int .u64 t2.s2::.int .u64 t2.s3::.int .i64 t2.mn::.int .i64 t2.mx::.slice t2.a t2.subs.length t2.c::List.append [.int .u8 3,.int .u64 0,.int .u64 0,.int .u64 0,.int .u64 0,.int .i64 0,.int .i64 0,.slice a 10 c] [.int .u8 t3.k,.int .u64 t3.s0,.int .u64 t3.s1,.int .u64 t3.s2,.int .u64 t3.s3,.int .i64 t3.mn,.int .i64 t3.mx,.slice t3.a t3.subs.length t3.c]))=bad.cs/\Rep M3 bad/\bad.check≠0:=by
   rw[nM,Int.toNat_natCast]
   have:k % 4=0\/k % 4=1\/k % 4=2\/k % 4=3:=by omega
   have v4:=mLt (Mem.le_add iP t.cs) (mLt iF qv)
   rcases this with h|h|h|h <;> rw[h]
   ·exact⟨T0,rfl,Zry _,Zuy⟩
   ·exact⟨t2,rfl,eW.mono qv,Zr2 e2 (ZtJ _)⟩
   ·refine⟨ZaE 3 0 0 a c L,?_,vZ.mono v4,Zr2 zY ZtI⟩
    show _=[_,_,_,_,_,_,_,Value.slice a L.length c]
    rw[qF];rfl
   ·exact⟨t3,rfl,p7,Zr2 e3 (ZtK _)⟩
  rw[zZ]
  refine Zaa rfl λM4 g1 g2 g3 g4 g5=>⟨⟨by decide,by decide,by decide,by decide⟩,λb5=>Zaa rfl (Zaa rfl (Zaa rfl λb6 nN=>?_))⟩
  have oX:=ZvW v3 513
  have tC:Zbg t 513=3:=by unfold Zbg;rw[if_neg (by simp[ht]),if_pos (by omega)]
  refine⟨λxs _ _ _ q=>∃j:Nat,j<=2/\xs=[.int .i64 (j:Nat)]/\q=2 - j,⟨2,0,by omega,rfl,rfl⟩,?_⟩
  rintro y2 cs1 M5 q2 Aa ⟨j,hj,jL,rfl⟩
  obtain rfl:y2=j:=by simpa using jL
  have qH:=mLt (Mem.le_add nN _) Aa
  refine Zab (λaN=>?_) (λcP=>?_)
  ·have aT:j < 2:=by have:=of_decide_eq_true aN;omega
   obtain⟨x,Ab,eJ,tL⟩:∃x:T,List.take 9 (List.drop (Int.toNat (j:Int)*9) (List.append (Zah (Zah [Value.int .u8 0,.int .u64 0,.int .u64 0,.int .u64 0,.int .u64 0,.int .i64 0,.int .i64 0,.slice none 0 0,.int .i64 0] 0 bad.cs) 8 [.int .i64 140]) [.int .u8 t.k,.int .u64 t.s0,.int .u64 t.s1,.int .u64 t.s2,.int .u64 t.s3,.int .i64 t.mn,.int .i64 t.mx,.slice t.a t.subs.length t.c,.int .i64 3]))=x.cs++[.int .i64 (Zbg x 513)]/\Rep M5 x/\Zbg x 513≠0:=by
    have:j=0\/j=1:=by omega
    rcases this with rfl|rfl
    ·refine⟨bad,?_,z4.mono (mLt g4 qH),by rw[oX];decide⟩
     rw[oX];rfl
    ·refine⟨t,?_,qY.mono (mLt g1 qH),by rw[tC];decide⟩
     rw[tC];rfl
   refine⟨λ_ _ _ _=>True,⟨⟨by omega,by omega⟩,Zaa (by rw[Nat.ble_eq,Int.toNat_natCast];show _<=18;omega) λb7=>?_⟩,?_⟩
   ·rw[Ab]
    refine Zaa rfl (Zaa rfl ⟨_,trivial,Zoo x _ 513 _ _ M5 eJ tL,ZjH,?_⟩)
    rintro a5 n5 c5 z5 M6 sM ⟨a5',c5',sN⟩
    simp only[Value.tuple.injEq,Array.mk.injEq,List.cons.injEq,Value.int.injEq,Value.slice.injEq,true_and,and_true]at sN
    obtain⟨⟨rfl,rfl,rfl⟩,rfl⟩:=sN
    refine Zaa rfl ⟨_,trivial,Zop x _ 513 _ M6 (eJ.mono sM) tL,ZjH,?_⟩
    rintro a6 n6 c6 z6 M7 wQ ⟨a6',c6',sO⟩
    simp only[Value.tuple.injEq,Array.mk.injEq,List.cons.injEq,Value.int.injEq,Value.slice.injEq,true_and,and_true]at sO
    obtain⟨⟨rfl,rfl,rfl⟩,rfl⟩:=sO
    refine Zaa rfl ⟨_,trivial,ZjG x _ 513 _ M7 (eJ.mono (mLt sM wQ)) (by decide) tL,ZjH,?_⟩
    rintro a7 n7 c7 z7 M8 wR ⟨a7',c7',sP⟩
    simp only[Value.tuple.injEq,Array.mk.injEq,List.cons.injEq,Value.int.injEq,Value.slice.injEq,true_and,and_true]at sP
    obtain⟨⟨rfl,rfl,rfl⟩,rfl⟩:=sP
    refine Zaa rfl ⟨_,trivial,Znh x _ 513 _ M8 (eJ.mono (mLt sM (mLt wQ wR))) tL,(λv _ _ h=>by unfold Ret at h;rw[h];rfl),?_⟩
    rintro z8 z9 M9 AQ wS
    simp only[Ret,Value.tuple.injEq,Array.mk.injEq,List.cons.injEq,Value.int.injEq,true_and,and_true]at wS
    obtain⟨rfl,rfl⟩:=wS
    have heq:(!(Zbg x 513 == RowKit.intOf (.int .i64 (Zbg x 513))))=false:=by simp[RowKit.intOf]
    exact⟨false,Zao rfl (Zaa rfl (Zsr heq (Zao rfl (Zaa rfl (Zsr heq (Zao rfl (Zaa rfl (Zsr heq (Zao rfl (Zaa rfl (Zsr heq ⟨by trivial,rfl,rfl⟩))))))))))),Zsr rfl ⟨by trivial,rfl,trivial⟩⟩
   ·intro M6 sM _
    exact⟨by trivial,rfl,2 - (j+1),by omega,j+1,by omega,by rw[wr1 (by omega)],rfl⟩
  ·have wT:=qY.mono (mLt g1 qH)
   have Ac:Zbg t 3=0:=Zkn ht (by omega)
   have sQ:∀(i:Int)(M':Mem)(sa:Option Addr)(sc:Nat),Rep M' t->(i < 0\/i > 3)->CX Try.prog 14 #[t.v,.slice sa 3 sc,.int .i64 i] M' [] (λv _ _=>∃a c,v=.tuple #[.slice a 0 c,.int .i64 2]):=λi M' sa sc jY hi=>by
    have:=Zlz t sa (List.replicate 3 0) sc i M' jY (λ_ h=>by simp at h;omega)
    rw[List.length_replicate]at this
    refine this.mono λv m' css _ ⟨a,c,hv,_⟩=>⟨a,c,?_⟩
    have e:Zp3 t (List.replicate 3 0) i=([],2):=by unfold Zp3;rw[List.length_replicate,if_neg (by simp[Ac]),if_pos (by simpa using hi)]
    rw[e]at hv;exact hv
   refine⟨λ_ _ _=>λv _ _=>∃a c,v=.tuple #[.slice a 0 c,.int .i64 2],⟨by omega,by decide⟩,_,rfl,sQ _ M5 _ _ wT (by left;split <;> omega),(λv _ _ ⟨_,_,h⟩=>by rw[h];rfl),?_⟩
   rintro a5 n5 c5 z5 M6 sM ⟨a5',c5',sN⟩ M7 sR Ad
   simp only[Value.tuple.injEq,Array.mk.injEq,List.cons.injEq,Value.int.injEq,Value.slice.injEq,true_and,and_true]at sN
   obtain⟨⟨rfl,rfl,rfl⟩,rfl⟩:=sN
   have wU:=wT.mono sR
   refine⟨λ_ _ _=>λv _ _=>∃a c,v=.tuple #[.slice a 0 c,.int .i64 2],⟨by omega,by decide⟩,_,rfl,sQ _ M7 _ _ wU (by right;split <;> omega),(λv _ _ ⟨_,_,h⟩=>by rw[h];rfl),?_⟩
   rintro a6 n6 c6 z6 M8 wR ⟨a6',c6',sO⟩ M9 sS Ae
   simp only[Value.tuple.injEq,Array.mk.injEq,List.cons.injEq,Value.int.injEq,Value.slice.injEq,true_and,and_true]at sO
   obtain⟨⟨rfl,rfl,rfl⟩,rfl⟩:=sO
   have wV:=wU.mono sS
   refine Za7 (Zkv t M9 wV) ZcD (ZhN λt4 M10 sT lI Af=>?_)
   obtain⟨a4,c4,sY,_⟩:=Af
   have dA:(Znk t4 []).1=0/\(t4.check=0->(Znk t4 []).2=2):=by
    unfold Znk
    by_cases hw:Zbg t4 ([]:List Nat).length=0
    ·rw[if_neg (λh=>h hw)]
     have lZ:t4.k≠5:=by
      rcases sY with⟨_,h⟩|⟨_,h⟩
      ·rw[<-Zv5,h];show(6:Int)≠5;decide
      ·rw[h];decide
     rw[if_pos lZ];exact⟨rfl,λ_=>rfl⟩
    ·rw[if_pos hw]
     refine⟨rfl,λh=>absurd (Zkn h (by simp)) hw⟩
   refine Za7 (ZjB t4 none [] 0 M10 lI (λ_ _=>⟨.inl rfl,by simp⟩)) (λv _ _ h=>by unfold Ret at h;rw[h];rfl) ?_
   rintro z7 z8 M11 sU sP
   simp only[Ret,Value.tuple.injEq,Array.mk.injEq,List.cons.injEq,Value.int.injEq,true_and,and_true]at sP
   obtain⟨rfl,rfl⟩:=sP
   refine Za7 (Zkv t M11 (wV.mono (mLt sT sU))) ZcD (ZhN λt5 M12 v5 v6 Ag=>?_)
   obtain⟨a5,c5',Ah,_⟩:=Ag
   refine Za7 (Zo4 false false t5 M12 v6) (λv _ _ h=>by unfold Ret at h;rw[h];rfl) ?_
   rintro z9 M13 v7 Ai
   obtain rfl:z9=t5.check:=by simpa[Ret]using Ai
   have eD:t4.check=t5.check:=by
    have dT:∀(a a':Option Addr)(c c':Nat),(ZaE 6 0 0 a c [t]).clean=(ZaE 6 0 0 a' c' [t]).clean:=λa a' c c'=>ZrI (by simp only[ZaE,T.er])
    rcases sY with⟨h1,h2⟩|⟨h1,h2⟩ <;> rcases Ah with⟨h3,h4⟩|⟨h3,h4⟩
    ·exact ZrH (by rw[h2,h4];simp only[ZaE,T.er])
    ·rw[dT a4 a5 c4 c5']at h1;rw[h1]at h3;cases h3
    ·rw[dT a4 a5 c4 c5']at h1;rw[h1]at h3;cases h3
    ·rw[h2,h4]
   have bS:m.le M13:=mLt eZ (mLt hM (mLt g1 (mLt qH (mLt sR (mLt sS (mLt sT (mLt sU (mLt v5 v7))))))))
   refine Zab (λhq=>⟨true,ZtO rfl (ZtO rfl ⟨by trivial,rfl,rfl⟩),M13,bS,Mem.le_refl _,rfl⟩) (λhq=>⟨true,ZtO rfl (ZtO rfl ⟨by trivial,rfl,?_⟩),M13,bS,Mem.le_refl _,rfl⟩)
   have hq:t5.check=0:=by simpa using hq
   rw[dA.2 (eD.trans hq)];rfl
end Go.Proofs.Ytgclajkldphoaaa
set_option linter.unusedVariables false
set_option linter.unusedSimpArgs false
namespace Go.Proofs.Ytgclajkldphoaaa
open Go Go.Eng Go.Rx Go.Proofs Go.RowKit Go.ChangeShapes Go.WideShapes Go.ChangeAt
set_option maxRecDepth 100000
theorem Zgi(H:Type)(enc:TypeId×Value->H)(W:World)(base:Nat)(args:Array Value)(ds gs:List (DataW H))(before:List MemPlace)
  (fT:∀(j:Nat) t v,Try.f3.params[j]?=some t->args[j]?=some v->Value.okWide Try.prog W .any base t v)
  (hW:DataW.Whole enc Try.prog Try.f3.params.toList Rows.spanWrongSpec.vars false W args.toList ds gs before):
  Calls Try.prog 3 args W λe W'=>∃v,e=.returned v/\Rows.spanWrongSpec.post enc Try.prog Try.f3 false true false false W args v W':=by
 have hW':=hW
 obtain⟨p,q,Aj,hV,rfl,hC,cZ⟩:=hW
 have hA:DataW.TrodAll enc Try.prog W 0 (λ_=>true) true Try.f3.params.toList args.toList ds p:=Aj
 rw[Try.params3]at hA fT
 obtain⟨v0,v1,v2,d0,d1,d2,p0,p1,p2,rfl,rfl,rfl,h0,h1,h2⟩:=trodAll_three hA
 obtain⟨rfl,rfl⟩:=trodVars_none hV
 obtain⟨l,a,c,rfl,hl,hc⟩:=ZmX (fT 0 _ v0 rfl rfl) h0
 obtain⟨n1,rfl,rfl,rfl,w1⟩:=open_int Try.underlying5 (fT 1 _ v1 rfl rfl) h1
 obtain⟨n2,rfl,rfl,rfl,w2⟩:=open_int Try.underlying3 (fT 2 _ v2 rfl rfl) h2
 have b1:=Ztu w1
 have b2:=Zus w2
 obtain⟨k1,rfl⟩:∃k:Nat,n1=k:=⟨n1.toNat,by omega⟩
 exact ZpU (tb:=4) Ztt (by rw[Try.params3];intro t ht;simp at ht;rcases ht with rfl|rfl|rfl <;> exact⟨by kernel_rfl,of_decide_eq_true (by kernel_rfl)⟩) hW' rfl rfl rfl rfl rfl Try.underlying4 (ZhY l a c k1 (by omega) n2 (ZsU W) hl hc)
theorem ZhZ(os:Os)(started:os.Started)(H:Type)(enc:TypeId×Value->H):
  ReturnsInHanded {} Try.checked os 3 .any (Rows.spanWrongSpec.pre6 enc Try.prog Try.f3 Rows.spanWrongRow.domain false) (Rows.spanWrongSpec.post enc Try.prog Try.f3 false true false false):=by
 refine returnsInHanded_of_change (C:=Try.checked) Zur started (by kernel_rfl) Try.func3
  (ChangeSpec.witness6 (enc:=enc) (C:=Try.checked) false ⟨#[],#[.slice none 0 0,.int .u8 0,.int .i64 0],[]⟩ 8 (by kernel_rfl) (by kernel_rfl) (by kernel_rfl) (by kernel_rfl)) ?_
 intro W base args ds gs before fT hW _ _
 exact Zgi H enc W base args ds gs before fT hW
theorem spwrong_holds:Rows.SpanWrongSaid:=
 OpenClaim.holds_of_wide 3 Try.f3 rfl rfl rfl rfl rfl rfl rfl ⟨rfl,rfl,rfl,rfl,rfl⟩ rfl rfl rfl rfl rfl (by kernel_rfl) Try.func3 (by kernel_rfl)
  (of_decide_eq_true (by kernel_rfl)) (by unfold Func.isWrapper;first|(rw[if_pos (by decide +kernel)];kernel_rfl)|(rw[if_neg (by decide +kernel)];exact⟨rfl,rfl⟩))
  (λos started H enc _=>ZhZ os started H enc)
#print axioms spwrong_holds
end Go.Proofs.Ytgclajkldphoaaa
