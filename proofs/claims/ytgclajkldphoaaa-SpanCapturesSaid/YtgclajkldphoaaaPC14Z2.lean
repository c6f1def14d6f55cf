/- Part of the proof: conditions and contracts of functions of this program. No condition of its own. -/
import Derived.Test.YtgclajkldphoaaaPC14K
import Derived.Test.YtgclajkldphoaaaPVSJ
import Derived.Test.YtgclajkldphoaaaPEnv
import Derived.Test.YtgclajkldphoaaaMc
import Derived.Test.YtgclajkldphoaaaPVC
import Derived.Test.YtgclajkldphoaaaMr
import Derived.Test.YtgclajkldphoaaaPVSE
set_option linter.unusedVariables false
set_option linter.unusedSimpArgs false
set_option linter.unusedSectionVars false
namespace Go.Proofs.Ytgclajkldphoaaa
open Go Go.Eng Go.Rx Go.Proofs Go.RowKit
set_option maxRecDepth 100000
theorem Zb0{m:Mem}{b:Nat}{l:List T}(hf:m.free b)(hr:∀t∈l,Rep m t)(hl:l.length<=1000000000000000):RepL (m.add b (Zcr l)) (some ⟨b,0,none⟩) l:=
 ZoI (.inr ⟨b,0,rfl,λj v hj=>by rw[Nat.zero_add,Mem.add_same];exact hj⟩) (λt ht=>(hr t ht).mono (Mem.le_add hf _)) hl
theorem Zoe{m:Mem}{b:Nat}(s:List Nat)(h:∀c∈s,c < 256):Byt (m.add b (s.map λc:Nat=>Value.int .u8 c)) (some ⟨b,0,none⟩) s:=
 ⟨.inr ⟨b,0,rfl,λj v hj=>by rw[Nat.zero_add,Mem.add_same];exact hj⟩,h⟩
theorem Zm4{s:ByteArray}{c:Nat}(h:c∈ZbE s):c < 256:=by
 unfold ZbE at h
 obtain⟨b,_,rfl⟩:=List.mem_map.1 h
 exact b.toNat_lt
theorem Zf9{m:Mem}{b:Nat}(W:PL)(h:W≠[]):PtAt (m.add b (plV W)) (some ⟨b,0,none⟩) W:=by
 have at2:∀(P:PL)(q:Nat)(p:Int×Int),P[q]?=some p->(plV P)[q*2]?=some (.int .i64 p.1)/\(plV P)[q*2+1]?=some (.int .i64 p.2):=λP=>by
  induction P with
  | nil=>intro q p hq;simp at hq
  | cons p0 P ih=>
   intro q p hq
   cases q with
   | zero=>simp at hq;subst hq;exact⟨rfl,rfl⟩
   | succ q=>
    have:=ih q p (by simpa using hq)
    rw[show(q+1)*2=q*2+2 by omega]
    exact this
 exact .inr ⟨b,rfl,λq p hq=>by rw[Mem.add_same,Mem.add_same];exact at2 W q p hq,h⟩
def Zv0(E:T)(s:List Nat):RT:=Ret (.tuple #[.int .i64 ((Zp2 E s).1:Nat),.int .i64 (Zp2 E s).2])
theorem Zm5(t E:T)(sa:Option Addr)(s:List Nat)(sc:Nat)(m:Mem)(he:t.er=E)(hr:Rep m t)(hb:Byt m sa s):CX Try.prog 15 #[t.v,.slice sa s.length sc] m [] (ZvZ E s):=by
 have:=Zjx t sa s sc m hr (λ_=>hb)
 unfold ZvZ at *
 rwa [<-Zq0 t,he]at this
theorem Zqj(t E:T)(sa:Option Addr)(s:List Nat)(sc:Nat)(i:Int)(m:Mem)(he:t.er=E)(hr:Rep m t)(hb:Byt m sa s):CX Try.prog 14 #[t.v,.slice sa s.length sc,.int .i64 i] m [] (ZvY E s i):=by
 have:=ZrV t sa s sc i m hr (λ_ _=>hb)
 unfold ZvY at *
 rwa [<-Ztd t,he]at this
theorem Zof(t E:T)(sa:Option Addr)(s:List Nat)(sc:Nat)(m:Mem)(he:t.er=E)(hr:Rep m t)(hb:Byt m sa s):CX Try.prog 17 #[t.v,.slice sa s.length sc] m [] (Zv0 E s):=by
 have:=Zqi t sa s sc m hr (λ_ _=>hb)
 unfold Zv0 at *
 rwa [<-Zte t,he]at this
theorem Zk7(t E:T)(sa:Option Addr)(s:List Nat)(sc:Nat)(m:Mem)(he:t.er=E)(hr:Rep m t)(hb:Byt m sa s)(rm:s.length<=sc):CX Try.prog 16 #[t.v,.slice sa s.length sc] m [] (Zvj E s):=by
 have:=Zir t sa s sc m hr (λ_=>hb) rm
 unfold Zvj at *
 rwa [<-Ztf t,he]at this
theorem Zog(x y:List Nat)(ax ay:Option Addr)(cx cy:Nat)(m:Mem)(hx:rowRd m ax (nsL x))(hy:rowRd m ay (nsL y))(aW:x.length<=1000000000000000):CX Try.prog 35 #[.slice ax x.length cx,.slice ay y.length cy] m [] (Ret (.bool (x == y))):=
 ZkX x y ax ay cx cy m hx hy aW
theorem Zk8(x:List (List Nat))(ax ay:Option Addr)(cx cy:Nat)(m:Mem)(hx:rowRd m ax (x.map Zod))(hy:rowRd m ay (x.map Zod))(aW:x.length<=1000000):CX Try.prog 36 #[.slice ax x.length cx,.slice ay x.length cy] m [] (Ret (.bool true)):=by
 apply ZbU
 unfold Za9
 refine Znh (by simp) ⟨λxs _ _ _ q=>∃j:Nat,j<=x.length/\xs=[.int .i64 (j:Nat)]/\q=x.length - j,⟨_,0,by omega,rfl,rfl⟩,?_⟩
 rintro y m1 q aT ⟨j,hj,cI,rfl⟩
 obtain rfl:y=j:=by simpa using cI
 refine Zab (λaM=>?_) (λcQ=>Zah aT rfl)
 have aQ:j < x.length:=by have:=of_decide_eq_true aM;omega
 obtain⟨z,hz⟩:∃z,x[j]?=some z:=⟨_,List.getElem?_eq_getElem aQ⟩
 have one:∀a:Option Addr,rowRd m a (x.map Zod)->∃b o,a=some ⟨b,o,none⟩/\m1 b (o+j)=some (Zod z):=λa h=>by
  rcases h with h|⟨b,o,h1,h2⟩
  ·have:x=[]:=by simpa using h
   rw[this]at aQ;simp at aQ
  ·exact⟨b,o,h1,aT.c _ _ _ (h2 j _ (by rw[List.getElem?_map,hz];rfl))⟩
 obtain⟨b1,o1,h1,h2⟩:=one ax hx
 obtain⟨b2,o2,h3,h4⟩:=one ay hy
 rw[wr1 (by omega)]
 refine⟨b1,o1,h1,⟨by omega,by omega⟩,_,by rw[Int.toNat_natCast,Nat.mul_one];exact h2,b2,o2,h3,⟨by omega,by omega⟩,_,by rw[Int.toNat_natCast,Nat.mul_one];exact h4,Zaa rfl (Znh (by simp) ⟨x.length - (j+1),by omega,j+1,by omega,rfl,rfl⟩)⟩
def aE1:T:=Zdj 97
def aE2:T:=Zdj 98
def aE3:T:=Zdj 99
def aE9:T:=eN 3 0 0 [aE1,aE2]
def Zt1:T:=eN 3 0 0 [aE2,aE3]
def ZrW:T:=eN 5 (0) (-1) [aE1]
def Zvk:T:=eN 4 0 0 [aE1,aE9]
def Zvl:T:=eN 6 0 0 [Zvk]
def Zvm:T:=eN 4 0 0 [aE3,Zt1]
def Zvn:T:=eN 6 0 0 [Zvm]
def Zvo:T:=eN 3 0 0 [Zvl,Zvn]
def Zvp:T:=eN 4 0 0 [aE9,aE1]
def Zvq:T:=eN 6 0 0 [Zvp]
def Zvr:T:=eN 4 0 0 [Zt1,aE3]
def Zvs:T:=eN 6 0 0 [Zvr]
def Zvt:T:=eN 3 0 0 [Zvq,Zvs]
def Zvu:T:=eN 6 0 0 [ZrW]
def Zvv:T:=eN 6 0 0 [ZrW]
def Zvw:T:=eN 3 0 0 [Zvu,Zvv]
def Zvx:T:=eN 4 0 0 [aE1,aE2]
def Zvy:T:=eN 6 0 0 [Zvx]
def Zvz:T:=eN 5 (0) (-1) [Zvy]
def ZvA:T:=eN 6 0 0 [ZrW]
def ZvB:T:=eN 5 (0) (-1) [ZvA]
def ZvC:T:=eN 6 0 0 [ZrW]
def ZvD:T:=eN 5 (1) (2) [ZvC]
def ZvE:T:=eN 6 0 0 [aE1]
def ZvF:T:=eN 4 0 0 [ZvE,aE2]
def ZvG:T:=eN 6 0 0 [ZvF]
def ZvH:T:=eN 5 (0) (-1) [ZvG]
theorem aR0:ZdX Zvo [97,98,99]=([(0,1),(1,3)],0):=by decide +kernel
theorem aR1:ZdX Zvt [97,98,99]=([(0,2),(2,3)],0):=by decide +kernel
theorem aR2:ZdX Zvw [97,97]=([(0,2),(2,2)],0):=by decide +kernel
theorem aR3:ZdX Zvz [97,98]=([(1,2)],0):=by decide +kernel
theorem aR4:ZdX ZvB []=([(-1,-1)],0):=by decide +kernel
theorem aR5:ZdX ZvD []=([(0,0)],0):=by decide +kernel
theorem aR6:ZdX ZvH [97,98]=([(1,2),(0,1)],0):=by decide +kernel
def Zt2:T:=eN 6 0 0 [ZrW]
def Zt3:T:=eN 5 (0) (-1) [Zt2]
def Zt4:T:=eN 4 0 0 [ZrW,aE2]
def Zty:T:=eN 3 0 0 [aE1,aE1]
def Ztz:T:=eN 4 0 0 [Zty,aE1]
def Znl:T:=eN 5 (0) (-1) [Ztz]
def ZtA:T:=eN 4 0 0 [aE1,aE9]
def ZtB:T:=eN 6 0 0 [ZtA]
def ZtC:T:=eN 4 0 0 [aE3,Zt1]
def ZtD:T:=eN 6 0 0 [ZtC]
def Zsj:T:=eN 3 0 0 [ZtB,ZtD]
def Zwg:Fx:=λi _ _=>match i with
 | 3=>IsE aE9
 | 7=>IsE Zt1
 | _=>IsE (Zdj 0)
def Zwh:Fx:=λi _ _=>match i with
 | 3=>IsE Zvk
 | 4=>IsE Zvl
 | 8=>IsE Zvm
 | 9=>IsE Zvn
 | 11=>IsE Zvo
 | 19=>IsE Zvp
 | 20=>IsE Zvq
 | 24=>IsE Zvr
 | 25=>IsE Zvs
 | 27=>IsE Zvt
 | 33=>IsE Zvu
 | 35=>IsE Zvv
 | 37=>IsE Zvw
 | 45=>IsE Zvx
 | 46=>IsE Zvy
 | 47=>IsE Zvz
 | 52=>IsE ZvA
 | 53=>IsE ZvB
 | 58=>IsE ZvC
 | 59=>IsE ZvD
 | 64=>IsE ZvE
 | 67=>IsE ZvF
 | 68=>IsE ZvG
 | 69=>IsE ZvH
 | _=>IsE (Zdj 0)
def Zwi:Fx:=λi _ _=>match i with
 | 3=>IsE Zty
 | 6=>IsE Ztz
 | 7=>IsE Znl
 | 10=>Zv0 Znl [97,97,97]
 | _=>IsE (Zdj 0)
def Zwj:Fx:=λi _ _=>match i with
 | 3=>IsE ZtA
 | 4=>IsE ZtB
 | 8=>IsE ZtC
 | 9=>IsE ZtD
 | 11=>IsE Zsj
 | 14=>Zvj Zsj [97,98,99]
 | _=>IsE (Zdj 0)
theorem ZvI:ZdX Zt3 [98]=([],141):=by decide +kernel
theorem ZvJ:Zsf Zt4 [97,97,98] 0=([2,1,0],0):=by decide +kernel
theorem ZvK:Zp2 Znl [97,97,97]=(2,0):=by decide +kernel
theorem ZvL:Zqp Zsj [97,98,99]=([[97,98,99],[97],[98,99]],0):=by decide +kernel
set_option maxHeartbeats 6400000 in
theorem Zoh(m:Mem):CX Try.prog 8 #[] m [] (Ret (.bool true)):=by
 apply ZhS
 unfold Ze9
 refine⟨_,trivial,Zf8 97 (by omega) _,Zau (E:=aE1),Zfa λt1 m1 h1 r1 e1=>?_⟩
 refine⟨_,trivial,Zf8 98 (by omega) _,Zau (E:=aE2),Zfa λt2 m2 h2 r2 e2=>?_⟩
 refine⟨_,trivial,Zf8 99 (by omega) _,Zau (E:=aE3),Zfa λt3 m3 h3 r3 e3=>?_⟩
 intro b4 b5 b6
 refine⟨Zwg,?_⟩
 intro b7 f8
 refine⟨_,rfl,ZeO _ _ [t1,t2] [aE1,aE2] _ (Zb0 (l:=[t1,t2]) f8 (by simp only[List.mem_cons,List.not_mem_nil,or_false];rintro x (rfl|rfl);exact(r1.mono (mLt h2 h3));exact(r2.mono (h3))) (by simp)) (by simp only[List.map_cons,List.map_nil,e1,e2] <;> rfl),Zau (E:=aE9),Zfa λt9 m9 h9 r9 e9=>?_⟩
 intro b10 f11
 intro m12 uZ Av yB
 refine⟨_,rfl,ZeO _ _ [t2,t3] [aE2,aE3] _ ((Zb0 (l:=[t2,t3]) f11 (by simp only[List.mem_cons,List.not_mem_nil,or_false];rintro x (rfl|rfl);exact(r2.mono (h3));exact r3) (by simp)).mono (yB)) (by simp only[List.map_cons,List.map_nil,e2,e3] <;> rfl),Zau (E:=Zt1),Zfa λt16 m16 Aw r16 e16=>?_⟩
 intro b17 b18 m19 jB Ax vh rl vj
 refine⟨_,trivial,ZeP t1 aE1 (0) (-1) (by omega) (by omega) _ (r1.mono (mLt h2 (mLt h3 jB))) e1,Zau (E:=ZrW),Zfa λt25 m25 fX r25 e25=>?_⟩
 intro b26
 refine⟨Zwh,?_⟩
 intro b27 f28
 refine⟨_,rfl,Zc2 _ _ [t1,t9] [aE1,aE9] _ (Zb0 (l:=[t1,t9]) f28 (by simp only[List.mem_cons,List.not_mem_nil,or_false];rintro x (rfl|rfl);exact(r1.mono (mLt h2 (mLt h3 (mLt jB fX))));exact(r9.mono (mLt vh fX))) (by simp)) (by simp only[List.map_cons,List.map_nil,e1,e9] <;> rfl),Zau (E:=Zvk),Zfa λt29 m29 Ay r29 e29=>?_⟩
 refine⟨_,rfl,Za0 t29 Zvk _ r29 e29,Zau (E:=Zvl),Zfa λt30 m30 Az r30 e30=>?_⟩
 intro b31 f32
 intro m33 AA yC yD
 refine⟨_,rfl,Zc2 _ _ [t3,t16] [aE3,Zt1] _ ((Zb0 (l:=[t3,t16]) f32 (by simp only[List.mem_cons,List.not_mem_nil,or_false];rintro x (rfl|rfl);exact(r3.mono (mLt jB fX));exact(r16.mono (mLt vj fX))) (by simp)).mono (yD)) (by simp only[List.map_cons,List.map_nil,e3,e16] <;> rfl),Zau (E:=Zvm),Zfa λt37 m37 yE r37 e37=>?_⟩
 refine⟨_,rfl,Za0 t37 Zvm _ r37 e37,Zau (E:=Zvn),Zfa λt38 m38 yF r38 e38=>?_⟩
 intro b39 f40
 refine⟨_,rfl,ZeO _ _ [t30,t38] [Zvl,Zvn] _ (Zb0 (l:=[t30,t38]) f40 (by simp only[List.mem_cons,List.not_mem_nil,or_false];rintro x (rfl|rfl);exact(r30.mono (mLt yC (mLt yE yF)));exact r38) (by simp)) (by simp only[List.map_cons,List.map_nil,e30,e38] <;> rfl),Zau (E:=Zvo),Zfa λt41 m41 AB r41 e41=>?_⟩
 intro b42 f43
 intro b44 f45
 intro m46 AC AD yG
 refine⟨_,rfl,Zc2 _ _ [t9,t1] [aE9,aE1] _ ((Zb0 (l:=[t9,t1]) f45 (by simp only[List.mem_cons,List.not_mem_nil,or_false];rintro x (rfl|rfl);exact(r9.mono (mLt vh fX));exact(r1.mono (mLt h2 (mLt h3 (mLt jB fX))))) (by simp)).mono (yG)) (by simp only[List.map_cons,List.map_nil,e9,e1] <;> rfl),Zau (E:=Zvp),Zfa λt50 m50 AE r50 e50=>?_⟩
 refine⟨_,rfl,Za0 t50 Zvp _ r50 e50,Zau (E:=Zvq),Zfa λt51 m51 AF r51 e51=>?_⟩
 intro b52 f53
 intro m54 wM yH yI
 refine⟨_,rfl,Zc2 _ _ [t16,t3] [Zt1,aE3] _ ((Zb0 (l:=[t16,t3]) f53 (by simp only[List.mem_cons,List.not_mem_nil,or_false];rintro x (rfl|rfl);exact(r16.mono (mLt vj fX));exact(r3.mono (mLt jB fX))) (by simp)).mono (yI)) (by simp only[List.map_cons,List.map_nil,e16,e3] <;> rfl),Zau (E:=Zvr),Zfa λt58 m58 vn r58 e58=>?_⟩
 refine⟨_,rfl,Za0 t58 Zvr _ r58 e58,Zau (E:=Zvs),Zfa λt59 m59 vo r59 e59=>?_⟩
 intro b60 f61
 refine⟨_,rfl,ZeO _ _ [t51,t59] [Zvq,Zvs] _ (Zb0 (l:=[t51,t59]) f61 (by simp only[List.mem_cons,List.not_mem_nil,or_false];rintro x (rfl|rfl);exact(r51.mono (mLt yH (mLt vn vo)));exact r59) (by simp)) (by simp only[List.map_cons,List.map_nil,e51,e59] <;> rfl),Zau (E:=Zvt),Zfa λt62 m62 wN r62 e62=>?_⟩
 intro b63 f64
 refine⟨_,rfl,Za0 t25 ZrW _ (r25.mono (mLt wM (mLt vn (mLt vo (mLt (Mem.le_add f61 _) wN))))) e25,Zau (E:=Zvu),Zfa λt65 m65 yJ r65 e65=>?_⟩
 refine⟨_,rfl,Za0 t25 ZrW _ (r25.mono (mLt wM (mLt vn (mLt vo (mLt (Mem.le_add f61 _) (mLt wN yJ)))))) e25,Zau (E:=Zvv),Zfa λt66 m66 yK r66 e66=>?_⟩
 intro b67 f68
 refine⟨_,rfl,ZeO _ _ [t65,t66] [Zvu,Zvv] _ (Zb0 (l:=[t65,t66]) f68 (by simp only[List.mem_cons,List.not_mem_nil,or_false];rintro x (rfl|rfl);exact(r65.mono (yK));exact r66) (by simp)) (by simp only[List.map_cons,List.map_nil,e65,e66] <;> rfl),Zau (E:=Zvw),Zfa λt69 m69 tH r69 e69=>?_⟩
 intro b70 f71
 intro b72 f73
 intro m74 tI AG yL
 refine⟨_,rfl,Zc2 _ _ [t1,t2] [aE1,aE2] _ ((Zb0 (l:=[t1,t2]) f73 (by simp only[List.mem_cons,List.not_mem_nil,or_false];rintro x (rfl|rfl);exact(r1.mono (mLt h2 (mLt h3 (mLt jB fX))));exact(r2.mono (mLt h3 (mLt jB fX)))) (by simp)).mono (yL)) (by simp only[List.map_cons,List.map_nil,e1,e2] <;> rfl),Zau (E:=Zvx),Zfa λt78 m78 tJ r78 e78=>?_⟩
 refine⟨_,rfl,Za0 t78 Zvx _ r78 e78,Zau (E:=Zvy),Zfa λt79 m79 tK r79 e79=>?_⟩
 refine⟨_,rfl,ZeP t79 Zvy (0) (-1) (by omega) (by omega) _ r79 e79,Zau (E:=Zvz),Zfa λt80 m80 tL r80 e80=>?_⟩
 intro b81 f82
 refine⟨_,rfl,Za0 t25 ZrW _ (r25.mono (mLt tI (mLt tJ (mLt tK tL)))) e25,Zau (E:=ZvA),Zfa λt83 m83 vp r83 e83=>?_⟩
 refine⟨_,rfl,ZeP t83 ZvA (0) (-1) (by omega) (by omega) _ r83 e83,Zau (E:=ZvB),Zfa λt84 m84 vq r84 e84=>?_⟩
 intro b85 f86
 refine⟨_,rfl,Za0 t25 ZrW _ (r25.mono (mLt tI (mLt tJ (mLt tK (mLt tL (mLt vp vq)))))) e25,Zau (E:=ZvC),Zfa λt87 m87 wO r87 e87=>?_⟩
 refine⟨_,rfl,ZeP t87 ZvC (1) (2) (by omega) (by omega) _ r87 e87,Zau (E:=ZvD),Zfa λt88 m88 wP r88 e88=>?_⟩
 intro b89 f90
 refine⟨_,rfl,Za0 t1 aE1 _ (r1.mono (mLt h2 (mLt h3 (mLt jB (mLt fX (mLt tI (mLt tJ (mLt tK (mLt tL (mLt vp (mLt vq (mLt wO wP)))))))))))) e1,Zau (E:=ZvE),Zfa λt91 m91 yM r91 e91=>?_⟩
 intro b92 f93
 refine⟨_,rfl,Zc2 _ _ [t91,t2] [ZvE,aE2] _ (Zb0 (l:=[t91,t2]) f93 (by simp only[List.mem_cons,List.not_mem_nil,or_false];rintro x (rfl|rfl);exact r91;exact(r2.mono (mLt h3 (mLt jB (mLt fX (mLt tI (mLt tJ (mLt tK (mLt tL (mLt vp (mLt vq (mLt wO (mLt wP yM))))))))))))) (by simp)) (by simp only[List.map_cons,List.map_nil,e91,e2] <;> rfl),Zau (E:=ZvF),Zfa λt94 m94 AH r94 e94=>?_⟩
 refine⟨_,rfl,Za0 t94 ZvF _ r94 e94,Zau (E:=ZvG),Zfa λt95 m95 AI r95 e95=>?_⟩
 refine⟨_,rfl,ZeP t95 ZvG (0) (-1) (by omega) (by omega) _ r95 e95,Zau (E:=ZvH),Zfa λt96 m96 AJ r96 e96=>?_⟩
 intro b97 f98
 intro m99 yN yO yP yQ yR yS yU yV yW
 intro b109 f110
 intro m111 fP yX yZ y0 za zb zd ze vr vt zf zh zi zj zk zl zm vu vv zn zo zp vA vB zq zr zt vC vD qR vE vF zu vG vH zv zw zx zy vI vJ zA
 have aL:∀j:Nat,j < 7->∃(x X:T)(bs:ByteArray)(W:PL)(wb:Nat),List.take 10 (List.drop (Int.toNat (j:Int)*10) (ZaK t41.k t41.s0 t41.s1 t41.s2 t41.s3 t41.mn t41.mx t41.a t41.subs.length t41.c b42 t62.k t62.s0 t62.s1 t62.s2 t62.s3 t62.mn t62.mx t62.a t62.subs.length t62.c b63 t69.k t69.s0 t69.s1 t69.s2 t69.s3 t69.mn t69.mx t69.a t69.subs.length t69.c b70 t80.k t80.s0 t80.s1 t80.s2 t80.s3 t80.mn t80.mx t80.a t80.subs.length t80.c b81 t84.k t84.s0 t84.s1 t84.s2 t84.s3 t84.mn t84.mx t84.a t84.subs.length t84.c b85 t88.k t88.s0 t88.s1 t88.s2 t88.s3 t88.mn t88.mx t88.a t88.subs.length t88.c b89 t96.k t96.s0 t96.s1 t96.s2 t96.s3 t96.mn t96.mx t96.a t96.subs.length t96.c b97))=x.cs++[.string bs,.slice (some ⟨wb,0,none⟩) W.length W.length]/\Rep m111 x/\x.er=X/\ZdX X (ZbE bs)=(W,0)/\PtAt m111 (some ⟨wb,0,none⟩) W/\W.length<=100:=by
  intro j hj
  have hj:j=0\/j=1\/j=2\/j=3\/j=4\/j=5\/j=6:=by omega
  rcases hj with rfl|rfl|rfl|rfl|rfl|rfl|rfl
  ·exact⟨t41,Zvo,⟨#[97,98,99]⟩,[(0,1),(1,3)],b42,rfl,(r41.mono (vr)),e41,aR0,(Zf9 [(0,1),(1,3)] (by simp)).mono (vt),by decide⟩
  ·exact⟨t62,Zvt,⟨#[97,98,99]⟩,[(0,2),(2,3)],b63,rfl,(r62.mono (vu)),e62,aR1,(Zf9 [(0,2),(2,3)] (by simp)).mono (vv),by decide⟩
  ·exact⟨t69,Zvw,⟨#[97,97]⟩,[(0,2),(2,2)],b70,rfl,(r69.mono (vA)),e69,aR2,(Zf9 [(0,2),(2,2)] (by simp)).mono (vB),by decide⟩
  ·exact⟨t80,Zvz,⟨#[97,98]⟩,[(1,2)],b81,rfl,(r80.mono (vC)),e80,aR3,(Zf9 [(1,2)] (by simp)).mono (vD),by decide⟩
  ·exact⟨t84,ZvB,⟨#[]⟩,[(-1,-1)],b85,rfl,(r84.mono (vE)),e84,aR4,(Zf9 [(-1,-1)] (by simp)).mono (vF),by decide⟩
  ·exact⟨t88,ZvD,⟨#[]⟩,[(0,0)],b89,rfl,(r88.mono (vG)),e88,aR5,(Zf9 [(0,0)] (by simp)).mono (vH),by decide⟩
  ·exact⟨t96,ZvH,⟨#[97,98]⟩,[(1,2),(0,1)],b97,rfl,(r96.mono (vI)),e96,aR6,(Zf9 [(1,2),(0,1)] (by simp)).mono (vJ),by decide⟩
 refine⟨λxs _ _ _ q=>∃j:Nat,j<=7/\xs=[.int .i64 (j:Nat)]/\q=7 - j,⟨7,0,by omega,rfl,rfl⟩,?_⟩
 rintro y M1 q gS ⟨j,hj,cI,rfl⟩
 obtain rfl:y=j:=by simpa using cI
 refine Zab (λaM=>?_) (λcQ=>?_)
 ·have aQ:j < 7:=by have:=of_decide_eq_true aM;omega
  obtain⟨x,X,bs,W,wb,cT,hx,hX,fL,mI,AK⟩:=aL j aQ
  refine⟨⟨by omega,by omega⟩,Zaa (by rw[Nat.ble_eq,Int.toNat_natCast];omega) λb9=>?_⟩
  rw[cT]
  have bJ:ByteArray.size (ZaU (.string bs))=(ZbE bs).length:=by rw[Zkj];rfl
  have cP:Zak (ZaU (.string bs))=(ZbE bs).map λc:Nat=>Value.int .u8 c:=Zf2 bs
  refine Zaa rfl (Zaa rfl (Zas rfl (Zaa rfl λb8 c8 sU zB=>?_)))
  rw[cP,bJ]
  have eX:Byt (M1.add b8 ((ZbE bs).map λc:Nat=>Value.int .u8 c)) (some ⟨b8,0,none⟩) (ZbE bs):=Zoe _ (λc hc=>Zm4 hc)
  refine⟨_,trivial,Zm5 x X _ (ZbE bs) _ _ hX (hx.mono (mLt gS (Mem.le_add sU _))) eX,(λv _ _ ⟨_,_,h,_⟩=>by rw[h];rfl),?_⟩
  rintro a n c z M2 kM ⟨a',c',hv,hp⟩
  rw[fL]at hv hp
  simp only[Value.tuple.injEq,Array.mk.injEq,List.cons.injEq,Value.int.injEq,Value.slice.injEq,true_and,and_true]at hv
  obtain⟨⟨rfl,rfl,rfl⟩,rfl⟩:=hv
  refine⟨false,Znh rfl (Zas rfl ⟨_,trivial,Zd0 W W a (some ⟨wb,0,none⟩) c W.length M2 (ZeM hp) (ZeM (mI.mono (mLt gS (mLt (Mem.le_add sU _) kM)))) (by omega),(λv _ _ h=>by unfold Ret at h;rw[h];rfl),?_⟩),Znh rfl ⟨rfl,_,?_,j+1,by omega,by rw[wr1 (by omega)],rfl⟩⟩
  ·rintro b7 M3 tq zC
   obtain rfl:b7=true:=by simpa[Ret]using zC
   exact⟨rfl,rfl⟩
  ·omega
 ·clear aL cQ
  refine⟨_,trivial,Za0 t25 ZrW _ (r25.mono (mLt fP gS)) e25,Zau (E:=Zt2),Zfa λt154 m154 fY r154 e154=>?_⟩
  refine⟨_,trivial,ZeP t154 Zt2 (0) (-1) (by omega) (by omega) _ r154 e154,Zau (E:=Zt3),Zfa λt155 m155 fZ r155 e155=>?_⟩
  intro b156 f157
  refine⟨_,trivial,Zm5 t155 Zt3 _ [98] _ _ e155 (r155.mono (Mem.le_add f157 _)) (Zoe [98] (by decide)),(λv _ _ ⟨_,_,h,_⟩=>by rw[h];rfl),?_⟩
  rintro a158 n158 c158 z158 m158 gA ⟨a158',c158',mA,sV⟩
  rw[ZvI]at mA sV
  simp only[Value.tuple.injEq,Array.mk.injEq,List.cons.injEq,Value.int.injEq,Value.slice.injEq,true_and,and_true]at mA
  obtain⟨⟨rfl,rfl,rfl⟩,rfl⟩:=mA
  intro b159 f160
  refine⟨_,trivial,Zc2 _ _ [t25,t2] [ZrW,aE2] _ (Zb0 (l:=[t25,t2]) f160 (by simp only[List.mem_cons,List.not_mem_nil,or_false];rintro x (rfl|rfl);exact(r25.mono (mLt fP (mLt gS (mLt fY (mLt fZ (mLt (Mem.le_add f157 _) gA))))));exact(r2.mono (mLt h3 (mLt jB (mLt fX (mLt fP (mLt gS (mLt fY (mLt fZ (mLt (Mem.le_add f157 _) gA)))))))))) (by simp)) (by simp only[List.map_cons,List.map_nil,e25,e2] <;> rfl),Zau (E:=Zt4),Zfa λt161 m161 iP r161 e161=>?_⟩
  intro b162 f163
  refine⟨_,trivial,Zqj t161 Zt4 _ [97,97,98] _ 0 _ e161 (r161.mono (Mem.le_add f163 _)) (Zoe [97,97,98] (by decide)),(λv _ _ ⟨_,_,h,_⟩=>by rw[h];rfl),?_⟩
  rintro a164 n164 c164 z164 m164 iQ ⟨a164',c164',mB,pB⟩
  rw[ZvJ]at mB pB
  simp only[Value.tuple.injEq,Array.mk.injEq,List.cons.injEq,Value.int.injEq,Value.slice.injEq,true_and,and_true]at mB
  obtain⟨⟨rfl,rfl,rfl⟩,rfl⟩:=mB
  refine⟨Zwi,?_⟩
  intro b165 f166
  refine⟨_,rfl,ZeO _ _ [t1,t1] [aE1,aE1] _ (Zb0 (l:=[t1,t1]) f166 (by simp only[List.mem_cons,List.not_mem_nil,or_false];rintro x (rfl|rfl);exact(r1.mono (mLt h2 (mLt h3 (mLt jB (mLt fX (mLt fP (mLt gS (mLt fY (mLt fZ (mLt (Mem.le_add f157 _) (mLt gA (mLt (Mem.le_add f160 _) (mLt iP (mLt (Mem.le_add f163 _) iQ))))))))))))));exact(r1.mono (mLt h2 (mLt h3 (mLt jB (mLt fX (mLt fP (mLt gS (mLt fY (mLt fZ (mLt (Mem.le_add f157 _) (mLt gA (mLt (Mem.le_add f160 _) (mLt iP (mLt (Mem.le_add f163 _) iQ))))))))))))))) (by simp)) (by simp only[List.map_cons,List.map_nil,e1] <;> rfl),Zau (E:=Zty),Zfa λt167 m167 vK r167 e167=>?_⟩
  intro b168 f169
  refine⟨_,rfl,Zc2 _ _ [t167,t1] [Zty,aE1] _ (Zb0 (l:=[t167,t1]) f169 (by simp only[List.mem_cons,List.not_mem_nil,or_false];rintro x (rfl|rfl);exact r167;exact(r1.mono (mLt h2 (mLt h3 (mLt jB (mLt fX (mLt fP (mLt gS (mLt fY (mLt fZ (mLt (Mem.le_add f157 _) (mLt gA (mLt (Mem.le_add f160 _) (mLt iP (mLt (Mem.le_add f163 _) (mLt iQ (mLt (Mem.le_add f166 _) vK))))))))))))))))) (by simp)) (by simp only[List.map_cons,List.map_nil,e167,e1] <;> rfl),Zau (E:=Ztz),Zfa λt170 m170 zD r170 e170=>?_⟩
  refine⟨_,rfl,ZeP t170 Ztz (0) (-1) (by omega) (by omega) _ r170 e170,Zau (E:=Znl),Zfa λt171 m171 zE r171 e171=>?_⟩
  intro b172 f173
  intro m174 zF vL vM
  refine⟨_,rfl,Zof t171 Znl _ [97,97,97] _ _ e171 (r171.mono (vL)) ((Zoe [97,97,97] (by decide)).mono (vM)),(λv _ _ h=>by have h:v=.tuple #[.int .i64 ((Zp2 Znl [97,97,97]).1:Nat),.int .i64 (Zp2 Znl [97,97,97]).2]:=h;rw[h];rfl),?_⟩
  rintro z178 y178 m178 zG iR
  have iR:Value.tuple #[.int .i64 z178,.int .i64 y178]=.tuple #[.int .i64 ((Zp2 Znl [97,97,97]).1:Nat),.int .i64 (Zp2 Znl [97,97,97]).2]:=iR
  rw[ZvK]at iR
  simp only[Value.tuple.injEq,Array.mk.injEq,List.cons.injEq,Value.int.injEq,true_and,and_true]at iR
  obtain⟨rfl,rfl⟩:=iR
  intro m179 kL zH zI zJ zK zL zM zN
  refine⟨Zwj,?_⟩
  intro b188 f189
  refine⟨_,rfl,Zc2 _ _ [t1,t9] [aE1,aE9] _ (Zb0 (l:=[t1,t9]) f189 (by simp only[List.mem_cons,List.not_mem_nil,or_false];rintro x (rfl|rfl);exact(r1.mono (mLt h2 (mLt h3 (mLt jB (mLt fX (mLt fP (mLt gS (mLt fY (mLt fZ (mLt (Mem.le_add f157 _) (mLt gA (mLt (Mem.le_add f160 _) (mLt iP (mLt (Mem.le_add f163 _) (mLt iQ kL)))))))))))))));exact(r9.mono (mLt vh (mLt fX (mLt fP (mLt gS (mLt fY (mLt fZ (mLt (Mem.le_add f157 _) (mLt gA (mLt (Mem.le_add f160 _) (mLt iP (mLt (Mem.le_add f163 _) (mLt iQ kL)))))))))))))) (by simp)) (by simp only[List.map_cons,List.map_nil,e1,e9] <;> rfl),Zau (E:=ZtA),Zfa λt190 m190 zO r190 e190=>?_⟩
  refine⟨_,rfl,Za0 t190 ZtA _ r190 e190,Zau (E:=ZtB),Zfa λt191 m191 zP r191 e191=>?_⟩
  intro b192 f193
  intro m194 zQ vN vO
  refine⟨_,rfl,Zc2 _ _ [t3,t16] [aE3,Zt1] _ ((Zb0 (l:=[t3,t16]) f193 (by simp only[List.mem_cons,List.not_mem_nil,or_false];rintro x (rfl|rfl);exact(r3.mono (mLt jB (mLt fX (mLt fP (mLt gS (mLt fY (mLt fZ (mLt (Mem.le_add f157 _) (mLt gA (mLt (Mem.le_add f160 _) (mLt iP (mLt (Mem.le_add f163 _) (mLt iQ kL)))))))))))));exact(r16.mono (mLt vj (mLt fX (mLt fP (mLt gS (mLt fY (mLt fZ (mLt (Mem.le_add f157 _) (mLt gA (mLt (Mem.le_add f160 _) (mLt iP (mLt (Mem.le_add f163 _) (mLt iQ kL)))))))))))))) (by simp)).mono (vO)) (by simp only[List.map_cons,List.map_nil,e3,e16] <;> rfl),Zau (E:=ZtC),Zfa λt198 m198 vP r198 e198=>?_⟩
  refine⟨_,rfl,Za0 t198 ZtC _ r198 e198,Zau (E:=ZtD),Zfa λt199 m199 vQ r199 e199=>?_⟩
  intro b200 f201
  refine⟨_,rfl,ZeO _ _ [t191,t199] [ZtB,ZtD] _ (Zb0 (l:=[t191,t199]) f201 (by simp only[List.mem_cons,List.not_mem_nil,or_false];rintro x (rfl|rfl);exact(r191.mono (mLt vN (mLt vP vQ)));exact r199) (by simp)) (by simp only[List.map_cons,List.map_nil,e191,e199] <;> rfl),Zau (E:=Zsj),Zfa λt202 m202 zR r202 e202=>?_⟩
  intro b203 f204
  intro m205 zS vR vS
  refine⟨_,rfl,Zk7 t202 Zsj _ [97,98,99] _ _ e202 (r202.mono (vR)) ((Zoe [97,98,99] (by decide)).mono (vS)) (by decide),(λv _ _ ⟨_,_,h,_⟩=>by rw[h];rfl),?_⟩
  rintro a209 n209 c209 z209 m209 zT ⟨a209',c209',mC,pC⟩
  rw[ZvL]at mC pC
  simp only[Value.tuple.injEq,Array.mk.injEq,List.cons.injEq,Value.int.injEq,Value.slice.injEq,true_and,and_true]at mC
  obtain⟨⟨rfl,rfl,rfl⟩,rfl⟩:=mC
  intro m210 sW zU zV zW zX zY zZ z4 z5 z6 vT
  refine ZtY rfl (ZtY rfl λbx fx=>?_)
  refine⟨_,trivial,Zog [2,1,0] [2,1,0] _ _ _ _ _ (pB.mono (mLt (mLt kL sW) (Mem.le_add fx _))) (.inr ⟨bx,0,rfl,λj v hj=>by rw[Nat.zero_add,Mem.add_same];exact hj⟩) (by decide),(λv _ _ h=>by unfold Ret at h;rw[h];rfl),?_⟩
  rintro q1 N1 wQ gC
  obtain rfl:q1=true:=by simpa[Ret]using gC
  refine ZtY rfl (ZtY rfl λby_ fy=>?_)
  refine⟨_,trivial,Zk8 [[97,98,99],[97],[98,99]] _ _ _ _ _ (pC.mono (mLt (mLt (vT) (mLt (Mem.le_add fx _) wQ)) (Mem.le_add fy _))) (.inr ⟨by_,0,rfl,λj v hj=>by rw[Nat.zero_add,Mem.add_same];exact hj⟩) (by decide),(λv _ _ h=>by unfold Ret at h;rw[h];rfl),?_⟩
  rintro q2 N2 z7 jE
  obtain rfl:q2=true:=by simpa[Ret]using jE
  refine ZtY rfl ⟨_,trivial,Zo8 _,(λv _ _ h=>by rw[h];rfl),?_⟩
  rintro y1 y2 N3 vU hy
  obtain⟨rfl,rfl⟩:y1=-1/\y2=-1:=by simpa using hy
  exact⟨_,Zpa _ _ _ _,N3,mLt (mLt h1 (mLt h2 (mLt h3 (mLt jB (mLt fX (mLt fP (mLt gS (mLt fY (mLt fZ (mLt (Mem.le_add f157 _) (mLt gA (mLt (Mem.le_add f160 _) (mLt iP (mLt (Mem.le_add f163 _) (mLt iQ (mLt kL sW)))))))))))))))) (mLt (mLt (Mem.le_add fx _) wQ) (mLt (mLt (Mem.le_add fy _) z7) vU)),Mem.le_refl _,rfl⟩
end Go.Proofs.Ytgclajkldphoaaa
set_option linter.unusedVariables false
namespace Go.Proofs.Ytgclajkldphoaaa
open Go Go.Eng Go.Proofs Go.RowKit
open Go.Value (int slice agg bool string tuple func)
open Go.IntKind (u8 u64 i64)
set_option maxRecDepth 100000
noncomputable def Zk9:Env:={ EB with
 frzNew:=[1] }
def Zga(aE aJ aH aI aK aD aG:Int)(aB:Option Addr)(aA aC:Nat)(m:Mem)(R:RT):Prop:=
 ∀(b:Nat)(m':Mem),Mem.le m m'->Mem.reads m' b 0 [int u8 aE,int u64 aJ,int u64 aH,int u64 aI,int u64 aK,int i64 aD,int i64 aG,slice aB aA aC]->∀(b:Nat),∃(R_1:RT),True/\CX
 Try.prog 48 (Array.mk [agg (Array.mk [int u8 aE,int u64 aJ,int u64 aH,int u64 aI,int u64 aK,int i64 aD,int i64 aG,slice aB aA aC])]) m' [] R_1/\ZaO Shape.bool R_1/\∀(b:Bool) (m'_1:
 Mem),Mem.le m' m'_1->R_1 (bool b) m'_1 []->br (!b) (∃(m'':Mem),Mem.le m m''/\Mem.le m'' m'_1/\R (agg (Array.mk [int u8 0,int u64 0,int u64 0,int u64 0,int u64 0,int i64 0,int i64 0,slice none 0 0])) m''
 []) (∃(R_2:RT),True/\CX Try.prog 62 (Array.mk [agg (Array.mk [int u8 aE,int u64 aJ,int u64 aH,int u64 aI,int u64 aK,int i64 aD,int i64 aG,slice aB aA aC])]) m'_1 [] R_2/\ZaO (shT)
 R_2/\∀(n n_1 n_2 n_3 n_4 n_5 n_6:Int)(a:Option Addr)(n_7 c:Nat)(m':Mem),Mem.le m'_1 m'->R_2 (agg (Array.mk [int u8 n,int u64 n_1,int u64 n_2,int u64 n_3,int u64 n_4,int i64 n_5,int i64 n_6,slice a
 n_7 c])) m' []->∃(m'':Mem),Mem.le m m''/\Mem.le m'' m'/\R (agg (Array.mk [int u8 n,int u64 n_1,int u64 n_2,int u64 n_3,int u64 n_4,int i64 n_5,int i64 n_6,slice a n_7 c])) m'' [])
theorem ZjA(aE aJ aH aI aK aD aG:Int)(aB:Option Addr)(aA aC:Nat)(m:Mem)(R:RT)(h:Zga aE aJ aH aI aK aD aG aB aA aC m R):CX Try.prog 47 #[.agg #[.int .u8 aE,.int .u64 aJ,.int .u64 aH,.int .u64 aI,.int .u64 aK,.int .i64 aD,.int .i64 aG,.slice aB aA aC]] m [] R:=
 Zaj (E:=Zk9) ZaP mix Try.func47 [.v (.agg #[.int .u8 aE,.int .u64 aJ,.int .u64 aH,.int .u64 aI,.int .u64 aK,.int .i64 aD,.int .i64 aG,.slice aB aA aC])] [] (by kernel_rfl) (Eq.mp (by kernel_rfl) h)
noncomputable def Zla:Env:={ EB with
 frzNew:=[1] }
def Zgb(aE aJ aH aI aK aD aG:Int)(aB:Option Addr)(aA aC:Nat)(m:Mem)(R:RT):Prop:=
 ∀(b:Nat)(m':Mem),Mem.le m m'->Mem.reads m' b 0 [int u8 aE,int u64 aJ,int u64 aH,int u64 aI,int u64 aK,int i64 aD,int i64 aG,slice aB aA aC]->∀(b b:Nat),Mem.free m' b->∃(R_1:
 RT),True/\CX Try.prog 47 (Array.mk [agg (Array.mk [int u8 6,int u64 0,int u64 0,int u64 0,int u64 0,int i64 0,int i64 0,slice (some (Addr.mk b 0 none)) 1 1])]) (Mem.add m' b [int u8 aE,int u64 aJ,int u64
 aH,int u64 aI,int u64 aK,int i64 aD,int i64 aG,slice aB aA aC]) [] R_1/\ZaO (shT) R_1/\∀(n n_1 n_2 n_3 n_4 n_5 n_6:Int)(a:Option Addr)(n_7 c:Nat)(m'_1:Mem),Mem.le (Mem.add m' b
 [int u8 aE,int u64 aJ,int u64 aH,int u64 aI,int u64 aK,int i64 aD,int i64 aG,slice aB aA aC]) m'_1->R_1 (agg (Array.mk [int u8 n,int u64 n_1,int u64 n_2,int u64 n_3,int u64 n_4,int
 i64 n_5,int i64 n_6,slice a n_7 c])) m'_1 []->∃(m'':Mem),Mem.le m m''/\Mem.le m'' m'_1/\R (agg (Array.mk [int u8 n,int u64 n_1,int u64 n_2,int u64 n_3,int u64 n_4,int i64 n_5,int i64 n_6,slice a n_7 c]))
 m'' []
theorem ZjB(aE aJ aH aI aK aD aG:Int)(aB:Option Addr)(aA aC:Nat)(m:Mem)(R:RT)(h:Zgb aE aJ aH aI aK aD aG aB aA aC m R):CX Try.prog 18 #[.agg #[.int .u8 aE,.int .u64 aJ,.int .u64 aH,.int .u64 aI,.int .u64 aK,.int .i64 aD,.int .i64 aG,.slice aB aA aC]] m [] R:=
 Zaj (E:=Zla) ZaP mix Try.func18 [.v (.agg #[.int .u8 aE,.int .u64 aJ,.int .u64 aH,.int .u64 aI,.int .u64 aK,.int .i64 aD,.int .i64 aG,.slice aB aA aC])] [] (by kernel_rfl) (Eq.mp (by kernel_rfl) h)
end Go.Proofs.Ytgclajkldphoaaa
set_option linter.unusedVariables false
namespace Go.Proofs.Ytgclajkldphoaaa
open Go Go.Eng Go.Proofs Go.RowKit
open Go.Value (int slice agg bool string tuple func)
open Go.IntKind (u8 u64 i64)
set_option maxRecDepth 100000
noncomputable def Zm6:Env:={ EB with
 loops:=(λi=>bif Nat.beq i 3 then⟨[(12,.int .i64)],[],[],false⟩ else⟨[],[],[],false⟩)
 dr:=(λi=>bif Nat.beq i 5 then[⟨0,[1],[],none,[],[]⟩,⟨1,[1],[],none,[0],[]⟩,⟨2,[],[],none,[],[]⟩,⟨3,[4],[],none,[],[]⟩,⟨4,[],[],none,[3],[]⟩,⟨5,[],[],none,[0,1,2,3,4],[]⟩]else[])
 thaw:=true
 stAt:=(λi=>bif Nat.beq i 22 then some 7 else none)
 last:=(λi=>bif Nat.beq i 5 then true else false)
 tokC:=(λi=>bif Nat.beq i 7 then some (7,8)else none) }
def Zg3(aE aJ aH aI aK aD aG:Int)(aB:Option Addr)(aA aC:Nat)(m:Mem)(R:RT):Prop:=
 ∀(b ak:Nat),∃(R_1:RT),CXT Try.prog 25 (Array.mk [slice aB aA aC]) m 8 R_1/\ZaO Shape.slice R_1/\∀(a:Option Addr)(n c:Nat)(m':Mem),Mem.le m m'->R_1 (slice a n c) m' []->∃(I:IT),(∃(n:
 Nat),I [int i64 0] [] [] m' n)/\∀(aa:Int)(m':Mem)(al:Nat),True->I [int i64 aa] [] [] m' al->br (decide (aa < (↑n:Int))) (∃(am:Nat),∃(o:Nat),a=some (Addr.mk am o none)/\Zag aa n/\∃(v:
 Value),∃(ab:Value),∃(ac:Value),∃(ad:Value),∃(ae:Value),∃(af:Value),∃(ag:Value),∃(ah:Value),Mem.reads m' am (o+Int.toNat aa*8) [v,ab,ac,ad,ae,af,ag,ah]/\∀(az:Nat),chk
 (Value.oneCell' v&&(Value.oneCell' ab&&(Value.oneCell' ac&&(Value.oneCell' ad&&(Value.oneCell' ae&&(Value.oneCell' af&&(Value.oneCell' ag&&(Value.oneCell' ah&&true)))))))) (∃(f:Fx),∃(R:RT),R=f
 4 [agg (Array.mk [v,ab,ac,ad,ae,af,ag,ah])] m'/\CX Try.prog 62 (Array.mk [agg (Array.mk [v,ab,ac,ad,ae,af,ag,ah])]) m' [] R/\ZaO (shT) R/\∀(an ao ap aq ar au av:Int)(aw:Option Addr)(ax ay:Nat)
 (ai:Mem),Mem.le m' ai->R (agg (Array.mk [int u8 an,int u64 ao,int u64 ap,int u64 aq,int u64 ar,int i64 au,int i64 av,slice aw ax ay])) ai []->∃(aj:Nat),∃(o:Nat),a=some (Addr.mk aj o none)/\Zag
 aa n/\∀(M:Mem),Mem.le m' M->Mem.le ai M->slice a n c=slice (some (Addr.mk aj 0 none)) n c/\o+Int.toNat aa*8+8<=n*8/\[some (Box.mk ak [int u8 0,int u64 0,int u64 0,int u64 0,int u64 0,int i64 0,
 int i64 0,slice none 0 0] 29 8 false true),some (Box.mk b [int u8 aE,int u64 aJ,int u64 aH,int u64 aI,int u64 aK,int i64 aD,int i64 aG,slice a n c] 29 8 false true)]=[some (Box.mk ak [int u8 0,
 int u64 0,int u64 0,int u64 0,int u64 0,int i64 0,int i64 0,slice none 0 0] 29 8 false true),some (Box.mk b [int u8 aE,int u64 aJ,int u64 aH,int u64 aI,int u64 aK,int i64 aD,int i64 aG,slice
 a n c] 29 8 false true)]/\[some (Tok.mk (slice a n c) 8)]=[some (Tok.mk (slice a n c) 8)]/\∃(n':Nat),n' < al/\I [int i64 (IntKind.wrap i64 (aa+(1:Int)))] [] [] (Mem.upd M aj (o+Int.toNat aa*8) [int u8
 an,int u64 ao,int u64 ap,int u64 aq,int u64 ar,int i64 au,int i64 av,slice aw ax ay]) n')) (∃(m'':Mem),Mem.le m m''/\Mem.le m'' m'/\R (agg (Array.mk [int u8 aE,int u64 aJ,int u64 aH,int u64 aI,
 int u64 aK,int i64 aD,int i64 aG,slice a n c])) m'' [])
theorem Zlb(aE aJ aH aI aK aD aG:Int)(aB:Option Addr)(aA aC:Nat)(m:Mem)(R:RT)(h:Zg3 aE aJ aH aI aK aD aG aB aA aC m R):CX Try.prog 62 #[.agg #[.int .u8 aE,.int .u64 aJ,.int .u64 aH,.int .u64 aI,.int .u64 aK,.int .i64 aD,.int .i64 aG,.slice aB aA aC]] m [] R:=
 Zaj (E:=Zm6) ZaP mix Try.func62 [.v (.agg #[.int .u8 aE,.int .u64 aJ,.int .u64 aH,.int .u64 aI,.int .u64 aK,.int .i64 aD,.int .i64 aG,.slice aB aA aC])] [] (by kernel_rfl) (Eq.mp (by kernel_rfl) h)
noncomputable def ZbH:Env:={ EB with
 tokOf:=(λi=>bif Nat.beq i 2 then 7 else bif Nat.beq i 7 then 7 else 0)
 tokC:=(λi=>bif Nat.beq i 5 then some (7,8)else none)
 thaw:=true }
def Za1(p0a:Option Addr)(p0n p0c:Nat)(m:Mem)(R:RT):Prop:=
 br (Option.isNone p0a) (slice none 0 0=slice none 0 0/\R (slice none 0 0) m []) (((0:Int)=(0:Int)/\(0:Int)<=(0:Int)/\(0:Int)*(↑(80:Nat):Int)<=(281474976710656:Int)/\(0:Int) <=
 (9223372036854775807:Int))/\∀(b:Nat),Mem.free m b->(Tok.mk (slice (some (Addr.mk b 0 none)) 0 (Int.toNat (0:Int))) 8=Tok.mk (slice (some (Addr.mk b 0 none)) 0 (Int.toNat (0:Int))) 8\/slice (some (Addr.mk
 b 0 none)) 0 (Int.toNat (0:Int))=slice none 0 0\/Int.toNat (0:Int) < 0+p0n)/\∃(xs:List Value),∃(ys:List Value),List.length xs=0*8/\List.length ys=p0n*8/\rowRd m (some (Addr.mk b 0 none)) xs/\
 rowRd m p0a ys/\(∀(u:Value),u∈ys->Value.oneCell' u=true)/\(0+p0n)*80<=140737488355328/\0+p0n<=9223372036854775807/\∀(a':Option Addr)(c':Nat)(m':Mem),Mem.le m m'->rowRd m' a' (List.append
 xs ys)->TokFact m (some (Addr.mk b 0 none)) a' (0+p0n) c'->some (Tok.mk (slice a' (0+p0n) c') 8)=some (Tok.mk (slice a' (0+p0n) c') 8)/\R (slice a' (0+p0n) c') m' [])
theorem Zbw(p0a:Option Addr)(p0n p0c:Nat)(m:Mem)(R:RT)(h:Za1 p0a p0n p0c m R):CXT Try.prog 25 #[.slice p0a p0n p0c] m 8 R:=
 Zj8 (E:=ZbH) ZaP mix Try.func25 [.v (.slice p0a p0n p0c)] (by kernel_rfl) (Eq.mp (by kernel_rfl) h)
end Go.Proofs.Ytgclajkldphoaaa
set_option linter.unusedVariables false
set_option linter.unusedSimpArgs false
set_option linter.unusedSectionVars false
namespace Go.Proofs.Ytgclajkldphoaaa
open Go Go.Eng Go.Rx Go.Proofs Go.RowKit
set_option maxRecDepth 100000
theorem Zwk(l:List T):∀u∈Rx.Zcr l,u.oneCell'=true:=by
 intro u hu
 simp only[Rx.Zcr,List.mem_flatten,List.mem_map]at hu
 obtain⟨_,⟨t,_,rfl⟩,h⟩:=hu
 simp only[T.cs,T.sl,List.mem_cons,List.not_mem_nil,or_false]at h
 rcases h with rfl|rfl|rfl|rfl|rfl|rfl|rfl|rfl <;> rfl
theorem Zlc(a:Option Addr)(c:Nat)(l:List T)(m:Mem)(h:rowRd m a (Rx.Zcr l))(hl:l.length<=1000000000000):CXT Try.prog 25 #[.slice a l.length c] m 8 (λv m' _=>∃a' c',v=.slice a' l.length c'/\rowRd m' a' (Rx.Zcr l)/\l.length<=c'/\(l.length=0\/∃b,a'=some ⟨b,0,none⟩/\m.free b)):=by
 apply Zbw
 unfold Za1
 have aW:=Zao l
 refine Zab (λha=>?_) (λha=>⟨⟨rfl,Int.le_refl _,by decide,by decide⟩,λb hf=>⟨.inl rfl,[],Rx.Zcr l,rfl,aW,.inl rfl,h,Zwk l,by omega,by omega,λa' c' m' hm aL vV=>⟨rfl,?_⟩⟩⟩)
 ·obtain rfl:a=none:=by simpa using ha
  have h0:l=[]:=by
   rcases h with h|⟨_,_,h,_⟩
   ·rw[h]at aW;exact List.eq_nil_of_length_eq_zero (by simp at aW;omega)
   ·cases h
  subst h0
  exact⟨rfl,none,0,rfl,.inl rfl,Nat.le_refl _,.inl rfl⟩
 ·simp only[Nat.zero_add]at vV ⊢
  refine⟨a',c',rfl,aL,vV.1,?_⟩
  rcases(vV.old (λ_ _ e=>by cases e;rfl)).2 with h1|⟨b',h1,h2|h2⟩
  ·subst h1
   left
   rcases aL with h3|⟨_,_,h3,_⟩
   ·have h4:(Rx.Zcr l).length=0:=congrArg List.length h3
    omega
   ·cases h3
  ·right;rw[<-h2];exact⟨b,rfl,hf⟩
  ·exact .inr ⟨b',h1,h2⟩
theorem ZrX{m:Mem}{b:Nat}{ts r:List T}{x t:T}(h:rowRd m (some ⟨b,0,none⟩) (Rx.Zcr (ts++x::r))):rowRd (m.upd b (0+ts.length*8) t.cs) (some ⟨b,0,none⟩) (Rx.Zcr (ts++t::r)):=by
 rcases h with h|⟨b',o',ha,h⟩
 ·have hl:(Rx.Zcr (ts++x::r)).length=0:=by rw[h];rfl
  rw[Zao,List.length_append,List.length_cons]at hl
  omega
 cases ha
 have e:∀y:T,Rx.Zcr (ts++y::r)=Rx.Zcr ts++(y.cs++Rx.Zcr r):=λy=>by simp[Rx.Zcr]
 have h8:∀y:T,y.cs.length=8:=λ_=>rfl
 refine .inr ⟨b,0,rfl,λj v hj=>?_⟩
 rw[e]at hj
 unfold Mem.upd;try dsimp only
 rw[Nat.zero_add,Nat.zero_add,h8]
 rcases Nat.lt_or_ge j (ts.length*8)with aM|cQ
 ·rw[if_neg (by omega)]
  rw[List.getElem?_append_left (by rw[Zao];exact aM)]at hj
  have:=h j v (by rw[e,List.getElem?_append_left (by rw[Zao];exact aM)];exact hj)
  rwa [Nat.zero_add]at this
 ·rw[List.getElem?_append_right (by rw[Zao];exact cQ),Zao]at hj
  rcases Nat.lt_or_ge j (ts.length*8+8)with aM|uX
  ·rw[if_pos ⟨rfl,cQ,aM⟩]
   rw[List.getElem?_append_left (by rw[h8];omega)]at hj
   exact hj
  ·rw[if_neg (by omega)]
   rw[List.getElem?_append_right (by rw[h8];omega),h8]at hj
   have:=h j v (by
    rw[e,List.getElem?_append_right (by rw[Zao];exact cQ),Zao,List.getElem?_append_right (by rw[h8];omega),h8];exact hj)
   rwa [Nat.zero_add]at this
theorem ZrY{m m':Mem}(h:m.le m'){b:Nat}(hf:m'.free b):m.free b:=λo=>by
 cases he:m b o with
 | none=>rfl
 | some v=>have:=h _ _ _ he;rw[hf o]at this;cases this
def NewT(m:Mem)(t:T):Prop:=∀x∈t.nodes,x.subs=[]\/∃b,x.a=some ⟨b,0,none⟩/\m.free b
theorem NewT.less{m m':Mem}{t:T}(hn:NewT m' t)(h:m.le m'):NewT m t:=λx hx=>(hn x hx).imp id λ⟨b,e,hf⟩=>⟨b,e,ZrY h hf⟩
theorem Zqk{m:Mem}{k s0 s1 s2 s3 mn mx:Int}{a:Option Addr}{c:Nat}{l:List T}(h:l=[]\/∃b,a=some ⟨b,0,none⟩/\m.free b)(hl:∀x∈l,NewT m x):NewT m (.node k s0 s1 s2 s3 mn mx a c l):=by
 intro x hx
 simp only[T.nodes,List.mem_cons]at hx
 rcases hx with rfl|hx
 ·exact h
 ·have:∀l:List T,(∀x∈l,NewT m x)->∀x∈Zai l,x.subs=[]\/∃b,x.a=some ⟨b,0,none⟩/\m.free b:=by
   intro l
   induction l with
   | nil=>intro _ x hx;simp[Zai]at hx
   | cons y l ih=>
    intro h x hx
    simp only[Zai,List.mem_append]at hx
    rcases hx with hx|hx
    ·exact h y (by simp) x hx
    ·exact ih (λz hz=>h z (by simp[hz])) x hx
  exact this l hl x hx
theorem ZrZ{m:Mem}{t:T}(h:t.subs=[]):NewT m t:=by
 intro x hx
 rw[Zbz,h]at hx
 simp[Zai]at hx
 subst hx;exact .inl h
set_option maxHeartbeats 800000 in
theorem Zko(t:T)(m:Mem)(hr:Rep m t)(hz:t.nodes.length<=10000):CX Try.prog 62 #[t.v] m [] (Zi3 λt'=>t'.er=t.er/\(t'.caps/\NewT m t')):=by
 have bJ:szL t.subs<=10000:=by rw[ZpZ]at hz;omega
 have gK:t.subs.length<=10000:=Nat.le_trans (ZoK _) bJ
 apply Zlb
 unfold Zg3
 intro b b1
 refine⟨_,Zlc t.a t.c t.subs m (ZfU hr.subs) (by omega),(λv _ _ ⟨a,c,e,_⟩=>by rw[e];rfl),?_⟩
 rintro a n c m1 aT ⟨a',c',hv,aL,gH,aV⟩
 simp only[Value.slice.injEq]at hv
 obtain⟨rfl,rfl,rfl⟩:=hv
 have cA:∀x∈t.subs,Rep m x:=Zmg hr.subs
 refine⟨λxs css tvs m' q=>∃(k:Nat)(L:List T)(mb:Mem),k<=t.subs.length/\xs=[.int .i64 k]/\q=t.subs.length - k/\L.length=k/\L.map T.er=(t.subs.take k).map T.er/\m.le mb/\mb.le m'/\(t.subs.length=0\/∃b,a=some ⟨b,0,none⟩/\mb.free b)/\(∀x∈L,Rep mb x/\(x.caps/\NewT m x))/\(t.subs.length=0\/∃b,a=some ⟨b,0,none⟩/\m.free b)/\rowRd m' a (Rx.Zcr (L++t.subs.drop k)),⟨_,0,[],m,by omega,rfl,rfl,rfl,rfl,Mem.le_refl _,aT,aV,by simp,aV,aL⟩,?_⟩
 rintro z m2 q _ ⟨k,L,mb,hk,cI,hq,tM,vW,hG,qS,dT,o7,bL,iS⟩
 obtain rfl:z=k:=by simpa using cI
 refine Zab (λaM=>?_) (λcQ=>?_)
 ·have aQ:k < t.subs.length:=by have:=of_decide_eq_true aM;omega
  obtain⟨x,hx⟩:=Zin aQ
  have eZ:=cA x (List.mem_of_getElem? hx)
  have qt:x.nodes.length<=10000:=by
   obtain⟨h1,h2⟩:=List.getElem?_eq_some_iff.1 hx
   have:=congrArg List.length (ZeF hx)
   unfold szL at bJ
   simp only[List.length_append]at this
   omega
  have jU:t.subs.drop k=x::t.subs.drop (k+1):=by
   rw[List.drop_eq_getElem_cons aQ,(List.getElem?_eq_some_iff.1 hx).2]
  rcases dT with dT|⟨bk,rfl,cU⟩
  ·omega
  obtain⟨b0,o0,z8,cN⟩:=Zel iS (i:=k) (t:=x) (by rw[List.getElem?_append_right (by omega),tM,Nat.sub_self,jU];rfl)
  cases z8
  have hw:IntKind.i64.wrap ((k:Int)+1)=((k+1:Nat):Int):=by rw[Zbg (by omega) (by omega)];rfl
  simp only[hw,Int.toNat_natCast]
  have iC:CX Try.prog 62 #[x.v] m2 [] (Zni mb m2 λt'=>t'.er=x.er/\(t'.caps/\NewT mb t')):=(Zko x mb (Rep.mono hG x eZ) qt).frame2 qS
  refine⟨bk,0,rfl,⟨by omega,by omega⟩,_,_,_,_,_,_,_,_,cN,λb3=>Zaa rfl ⟨λ_ _ _=>Zni mb m2 λt'=>t'.er=x.er/\(t'.caps/\NewT mb t'),Zni mb m2 λt'=>t'.er=x.er/\(t'.caps/\NewT mb t'),rfl,iC,Zdl,Zio λt' m0 m3 cE h0 mP fF hr' ht'=>⟨bk,0,rfl,⟨by omega,by omega⟩,λM kM tq=>⟨rfl,by omega,by trivial,by trivial,t.subs.length - (k+1),by omega,k+1,L++[t'],m0,by omega,rfl,rfl,by simp[tM],?_,mLt hG h0,?_,.inr ⟨bk,rfl,?_⟩,?_,bL,?_⟩⟩⟩⟩
  ·rw[List.map_append,vW,Zcb hx,List.map_append]
   simp[ht'.1]
  ·refine Mem.le_upd (mLt mP tq) ?_ _ _
   intro o'
   have hc:m2 bk (0+k*8+0)=some (.int .u8 x.k):=cN 0 _ rfl
   rw[fF _ _ _ hc o'];exact cU o'
  ·intro o'
   have hc:m2 bk (0+k*8+0)=some (.int .u8 x.k):=cN 0 _ rfl
   rw[fF _ _ _ hc o'];exact cU o'
  ·intro y hy
   rcases List.mem_append.1 hy with hy|hy
   ·exact⟨Rep.mono h0 y (o7 y hy).1,(o7 y hy).2⟩
   ·simp at hy;subst hy;exact⟨hr',ht'.2.1,ht'.2.2.less hG⟩
  ·rw[jU]at iS
   have h5:=ZrX (t:=t') (iS.mono kM)
   rw[tM]at h5
   rw[List.append_assoc]
   exact h5
 ·have dD:k=t.subs.length:=by have:=of_decide_eq_false cQ;omega
  subst dD
  rw[List.drop_length,List.append_nil]at iS
  rw[List.take_length]at vW
  have bK:=ZsQ hr
  refine⟨m2,mLt hG qS,Mem.le_refl _,.node t.k t.s0 t.s1 t.s2 t.s3 t.mn t.mx a c L,?_,?_,?_⟩
  ·simp only[T.v,T.k,T.s0,T.s1,T.s2,T.s3,T.mn,T.mx,T.a,T.c,T.subs,tM]
  ·have:=ZoI iS (λx hx=>Rep.mono qS x (o7 x hx).1) (by omega)
   exact Zud this.1 this.2 bK
  ·have:=Zs9 (k:=t.k) (s0:=t.s0) (s1:=t.s1) (s2:=t.s2) (s3:=t.s3) (mn:=t.mn) (mx:=t.mx) (a:=a) (a':=t.a) (c:=c) (c':=t.c) vW
   refine⟨this.trans ?_,Zmv (by omega) λx hx=>(o7 x hx).2.1,Zqk (bL.imp (λh=>List.eq_nil_of_length_eq_zero (by omega)) id) λx hx=>(o7 x hx).2.2⟩
   cases t;rfl
termination_by SizeOf.sizeOf t
decreasing_by exact Zrs (List.mem_of_getElem? hx)
end Go.Proofs.Ytgclajkldphoaaa
set_option linter.unusedVariables false
set_option linter.unusedSimpArgs false
set_option linter.unusedSectionVars false
namespace Go.Proofs.Ytgclajkldphoaaa
open Go Go.Eng Go.Rx Go.Proofs Go.RowKit
set_option maxRecDepth 100000
theorem ZsT(m:Mem):Rep m T0:=Zbh (k:=0) (mn:=0) (mx:=0) (a:=none) (c:=0) (l:=[]) ⟨by simp,.inl rfl⟩ (by omega) (by omega) (by omega)
theorem Zrw(m:Mem):Rep m T1:=Zbh (k:=1) (mn:=0) (mx:=0) (a:=none) (c:=0) (l:=[]) ⟨by simp,.inl rfl⟩ (by omega) (by omega) (by omega)
theorem Zm7(t:T)(m:Mem)(hr:Rep m t):CX Try.prog 47 #[t.v] m [] (Zi3 λt'=>ZvU t t'/\NewT m t'):=by
 apply ZjA
 unfold Zga
 intro b m1 aT _ b1
 refine Za3 (Zo2 t m1 (hr.mono aT)) λm2 bB=>Zab (λh=>?_) (λh=>?_)
 ·exact⟨m2,mLt aT bB,Mem.le_refl _,T0,rfl,ZsT _,⟨.inr ⟨by simpa using h,rfl⟩,Zta⟩,ZrZ rfl⟩
 ·have hc:t.clean=true:=by simpa using h
  refine Za2 (Zko t m2 (hr.mono (mLt aT bB)) (Zmw hc)) ZcW (Zi4 λt' m3 cE hr' ht'=>?_)
  exact⟨m3,mLt aT (mLt bB cE),Mem.le_refl _,t',rfl,hr',⟨.inl ⟨hc,ht'.1⟩,ht'.2.1⟩,ht'.2.2.less (mLt aT bB)⟩
theorem Zm8(t:T)(m:Mem)(hr:Rep m t):CX Try.prog 18 #[t.v] m [] (Zi3 λt'=>(∃a c,ZvU (ZaN 6 0 0 a c [t]) t')/\NewT m t'):=by
 apply ZjB
 unfold Zgb
 intro b m1 aT _ b1 b2 lQ
 have bN:=mLt aT (Mem.le_add lQ t.cs)
 have hL:RepL (m1.add b2 t.cs) (some ⟨b2,0,none⟩) [t]:=Zhp (λj v hj=>by rw[Nat.zero_add,Mem.add_same];exact hj) (hr.mono bN)
 have lB:Rep (m1.add b2 t.cs) (ZaN 6 0 0 (some ⟨b2,0,none⟩) 1 [t]):=Zbh hL (by omega) (by omega) (by omega)
 refine Za2 (Zm7 (ZaN 6 0 0 (some ⟨b2,0,none⟩) 1 [t]) (m1.add b2 t.cs) lB) ZcW (Zi4 λt' m2 bB hr' ht'=>?_)
 exact⟨m2,mLt bN bB,Mem.le_refl _,t',rfl,hr',⟨_,_,ht'.1⟩,ht'.2.less bN⟩
theorem Zoi(t:T)(m:Mem)(hr:Rep m t):CX Try.prog 18 #[t.v] m [] (Zi3 λt'=>∃a c,ZvU (ZaN 6 0 0 a c [t]) t'):=
 (Zm8 t m hr).mono λ_ _ _ _ ⟨t',e,hr',h⟩=>⟨t',e,hr',h.1⟩
end Go.Proofs.Ytgclajkldphoaaa
set_option linter.unusedVariables false
set_option linter.unusedSimpArgs false
set_option linter.unusedSectionVars false
namespace Go.Proofs.Ytgclajkldphoaaa
open Go Go.Eng Go.Rx Go.Proofs Go.RowKit
set_option maxRecDepth 100000
theorem Zoj{m:Mem}{a:Option Addr}{s:List Nat}(h:Byt m a s)(n:Nat):Byt m a (s.take n):=by
 refine⟨?_,λc hc=>h.2 c (List.mem_of_mem_take hc)⟩
 rcases h.1 with hs|⟨b,o,h1,h2⟩
 ·subst hs;left;simp
 ·refine .inr ⟨b,o,h1,λj v hj=>?_⟩
  have aM:=(List.getElem?_eq_some_iff.1 hj).1
  simp only[List.length_map,List.length_take]at aM
  rw[List.getElem?_map,List.getElem?_take_of_lt (by omega),<-List.getElem?_map]at hj
  exact h2 j v hj
theorem Zld(bs:List Nat)(a b:Option Addr)(c d:Nat)(m:Mem)(hl:Byt m a bs)(hr:Byt m b bs):CX Try.prog 23 #[.slice a bs.length c,.slice b bs.length d] m [] (Ret (.bool true)):=by
 apply ZhO
 unfold Ze3
 refine⟨mkS bs,ZeN bs,Zf7 hl,mkS bs,ZeN bs,Zf7 hr,Zah (Mem.le_refl _) ?_⟩
 unfold Ret;simp
theorem Zr0{S:List Nat}(hS:∀c∈S,c < 256){m:Mem}{b:Nat}:ByteArray.size (ZaU (Zod S))=S.length/\Byt (m.add b (Zak (ZaU (Zod S)))) (some ⟨b,0,none⟩) S:=by
 refine⟨ZeN S,.inr ⟨b,0,rfl,λj v hj=>?_⟩,hS⟩
 rw[Nat.zero_add,Mem.add_same]
 show(Zak (mkS S))[j]?=some v
 rw[Zf2,Zkn hS];exact hj
set_option maxHeartbeats 1600000 in
theorem Zfp(L:List (Nat×Nat×Nat))(pa:Option Addr)(pc:Nat)(s:List Nat)(sa:Option Addr)(sc:Nat)(m:Mem)(hL:Sm m pa L)(vX:L.length<=pc)(hs:Byt m sa s)(rm:s.length<=sc):
  CX Try.prog 4 #[.slice pa L.length pc,.slice sa s.length sc] m [] (Ret (.bool true)):=by
 apply Zdw
 unfold Zcc
 refine Za3 (Zoh m) λm1 aT=>Znh rfl ?_
 refine Za2 (Zto L pa pc m1 (hL.mono aT) vX) ZcW (Zi4 λt m2 bB hr ht b=>?_)
 have vU:(if(14:Int) < (s.length:Int)then(14:Int)else(s.length:Int))=((min 14 s.length:Nat):Int):=by split <;> omega
 simp only[vU,Int.toNat_natCast,Nat.sub_zero]
 have eT:=mLt aT bB
 have e3:(s.take 14).length=min 14 s.length:=by simp
 have hS:=(Zoj hs 14).mono eT
 rw[<-e3]
 generalize s.take 14=S at *
 have AL:S.length<=14:=by omega
 have wR:S.length<=sc:=by omega
 have gK:ZaW sa 0 sc 1=sa:=rfl
 simp only[gK]
 have hw:Zcm t S.length=0:=Zkg ht (by omega)
 obtain⟨P,hP⟩:∃P,P=ZdX t S:=⟨_,rfl⟩
 have yx:P.1.length<=1000:=by
  rcases Zq1 hw with⟨_,_,h⟩|⟨h,_⟩
  ·rw[hP,h,Zjc]
   have:=(Zhq ht).2
   have:t.ngr<=t.nodes.length:=by rw[Zfn];exact List.countP_le_length
   omega
  ·rw[hP,h];simp
 refine⟨⟨by omega,by omega⟩,Za2 (Zjx t sa S sc m2 hr (λ_=>hS)) (λv _ _ ⟨_,_,h,_⟩=>by rw[h];rfl) ?_⟩
 rintro a1 n1 c1 e1 m3 cE ⟨a1',c1',vY,fN⟩
 rw[<-hP]at vY fN
 simp only[Value.tuple.injEq,Array.mk.injEq,List.cons.injEq,Value.int.injEq,Value.slice.injEq,true_and,and_true]at vY
 obtain⟨⟨rfl,rfl,rfl⟩,rfl⟩:=vY
 refine Za2 (Zir t sa S sc m3 (hr.mono cE) (λ_=>hS.mono cE) wR) (λv _ _ ⟨_,_,h,_⟩=>by rw[h];rfl) ?_
 rintro a2 n2 c2 e2 m4 cF ⟨a2',c2',wS,wT⟩
 simp only[Value.tuple.injEq,Array.mk.injEq,List.cons.injEq,Value.int.injEq,Value.slice.injEq,true_and,and_true]at wS
 obtain⟨⟨rfl,rfl,rfl⟩,rfl⟩:=wS
 have mD:=mLt cE cF
 have pA:=mLt eT mD
 rcases Zq1 hw with⟨hz,gW,vZ⟩|⟨qR,z9⟩
 rotate_left
 ·have Aa:P=([],141):=hP.trans qR
  have hC:Zqp t S=([],141):=by unfold Zqp;rw[qR];simp
  rw[Aa,hC]
  refine⟨true,Znh (by simp) ⟨by trivial,rfl⟩,ZtY rfl ⟨true,ZtY rfl (ZtY rfl ⟨by trivial,rfl⟩),m4,pA,Mem.le_refl _,rfl⟩⟩
 ·have wU:P.2=0:=by rw[hP];exact hz
  have hC:Zqp t S=(S::P.1.map (Zna S),0):=by unfold Zqp;rw[<-hP,if_neg (by simp[wU])]
  have mL:P.1.length=t.ngr:=by rw[hP,vZ,Zjc]
  have qQ:∀p∈P.1,Zdv S.length p:=by rw[hP];exact ZqT
  rw[hC]at wT ⊢
  have eH:IntKind.i64.wrap ((P.1.length:Int)+1)=((P.1.length+1:Nat):Int):=wr1 (by omega)
  rw[wU]
  obtain⟨cb,co,kO,qx⟩:∃b o,a2=some ⟨b,o,none⟩/\m4.reads b o ((S::P.1.map (Zna S)).map Zod):=by
   rcases wT with h|h
   ·simp at h
   ·exact h
  have nJ:m4 cb (co+0)=some (Zod S):=qx 0 _ rfl
  refine⟨false,Znh rfl ⟨by trivial,rfl⟩,Znh rfl ⟨λ_ _ _=>Ret (.int .i64 t.groups),?_⟩⟩
  rw[eH]
  refine Znh (by simp) ⟨cb,co,kO,⟨by omega,by simp⟩,Zod S,nJ,mkS S,ZeN S,Zf7 (hS.mono mD),Zaa rfl (Znh (by show(!(mkS S).toList == (mkS S).toList)=false;simp) ⟨_,rfl,ZmJ t m4 (hr.mono mD),(λv _ _ h=>by unfold Ret at h;rw[h];rfl),?_⟩)⟩
  rintro zg m5 eO Ab
  obtain rfl:zg=t.groups:=by simpa[Ret]using Ab
  intro M qD AM
  have Ac:=qD
  rw[Zn0 ht,<-mL]
  refine Znh (by simp) ⟨λxs _ _ _ q=>∃j:Nat,j<=P.1.length/\xs=[.int .i64 (j:Nat)]/\q=P.1.length - j,⟨_,0,by omega,rfl,rfl⟩,?_⟩
  rintro y m6 q qL ⟨j,hj,cI,rfl⟩
  obtain rfl:y=j:=by simpa using cI
  have pD:=mLt Ac qL
  refine Zab (λaM=>?_) (λcQ=>?_)
  ·have aQ:j < P.1.length:=by have:=of_decide_eq_true aM;omega
   obtain⟨p,hp⟩:∃p,P.1[j]?=some p:=⟨_,List.getElem?_eq_getElem aQ⟩
   have nZ:=qQ p (List.mem_of_getElem? hp)
   rcases(fN.mono (mLt cF pD))with⟨h,_⟩|⟨pb,h1,h2,_⟩
   ·rw[h]at aQ;simp at aQ
   obtain⟨h3,h4⟩:=h2 j p hp
   have Ad:IntKind.i64.wrap ((j:Int)+1)=((j+1:Nat):Int):=wr1 (by omega)
   rw[Ad]
   have wV:∀M':Mem,m4.le M'->M' cb (co+Int.toNat ((j+1:Nat):Int)*1)=some (Zod (Zna S p)):=λM' hM'=>by
    rw[Int.toNat_natCast,Nat.mul_one]
    refine hM'.c _ _ _ (qx (j+1) _ ?_)
    simp[hp]
   refine⟨pb,0,h1,⟨by omega,by omega⟩,.int .i64 p.1,.int .i64 p.2,?_,λb3=>Zaa rfl ⟨λ_ _ _=>λv _ _=>v=.agg #[.int .i64 (-1),.int .i64 (-1)],_,rfl,Zo8 m6,(λv _ _ h=>by rw[h];rfl),?_⟩⟩
   ·intro i v hi
    have aM:i < 2:=(List.getElem?_eq_some_iff.1 hi).1
    rw[Nat.zero_add,Int.toNat_natCast]
    have:i=0\/i=1:=by omega
    rcases this with rfl|rfl <;> (cases hi;assumption)
   rintro y1 y2 m7 rj hy
   obtain⟨rfl,rfl⟩:y1=-1/\y2=-1:=by simpa using hy
   refine⟨_,Zpa _ _ _ _,λM2 v3 AN=>Zab (λfK=>?_) (λfK=>?_)⟩
   ·have re:p=(-1,-1):=by
     have:p.1=-1/\p.2=-1:=by simpa using fK
     exact Prod.ext this.1 this.2
    have jG:Zna S p=[]:=by rw[re];unfold Zna;simp
    refine⟨cb,co,kO,⟨by omega,by simp only[List.length_cons,List.length_map];omega⟩,_,wV M2 (mLt pD v3),Zaa rfl (Znh ?_ ⟨by trivial,P.1.length - (j+1),by omega,j+1,by omega,rfl,rfl⟩)⟩
    rw[jG]
    show(!(ByteArray.mk #[]).toList == (ByteArray.mk #[]).toList)=false
    simp
   ·have gE:0<=p.1/\p.1<=p.2/\p.2<=S.length:=by
     rcases nZ with h|h
     ·rw[h]at fK;simp at fK
     ·exact h
    refine Zaa rfl (Znh (decide_eq_false (by show ¬p.1 < 0;omega)) (Zaa rfl (Znh (decide_eq_false (by show ¬p.1 > p.2;omega)) (Zaa rfl (Znh (decide_eq_false (by show ¬p.2 > (S.length:Int);omega)) ⟨cb,co,kO,⟨by omega,by simp only[List.length_cons,List.length_map];omega⟩,_,wV M2 (mLt pD v3),Zaa rfl ⟨⟨by show(0:Int)<=p.2;omega,by show p.2<=(sc:Int);omega⟩,Zaa rfl ⟨⟨by show(0:Int)<=p.1;omega,by show p.1<=((p.2.toNat:Nat):Int);omega⟩,mkS (Zna S p),?_,?_,Zaa rfl (Znh (by show(!(mkS (Zna S p)).toList == (mkS (Zna S p)).toList)=false;simp) ⟨by trivial,P.1.length - (j+1),by omega,j+1,by omega,rfl,rfl⟩)⟩⟩⟩)))))
    ·rw[ZeN];unfold Zna;rw[List.length_drop,List.length_take];simp only[RowKit.intOf];omega
    ·exact Zf7 (Zq5 (hS.mono (mLt mD (mLt pD v3))) p.1.toNat p.2.toNat sc wR (by omega) (by omega))
  ·have AO:j=P.1.length:=by have:=of_decide_eq_false cQ;omega
   have wW:=mLt mD pD
   have wX:=hS.mono wW
   have qT:∀(M1:Mem),m6.le M1->∃(b:Nat),∃(o:Nat),a2=some ⟨b,o,none⟩/\Zag (0:Int) (S::P.1.map (Zna S)).length/\∃(v:Value),M1 b (o+0)=some v/\chk (Zfb v) (∀(b c:Nat),Mem.free M1 b->ByteArray.size (ZaU v)<=c->∃(R_8:Value->Mem->List (List Value)->Prop),True/\CX Try.prog 23 #[.slice sa S.length sc,.slice (some ⟨b,0,none⟩) (ByteArray.size (ZaU v)) c] (M1.add b (Zak (ZaU v))) [] R_8/\ZaO Shape.bool R_8/\∀(z:Bool)(m':Mem),Mem.le (M1.add b (Zak (ZaU v))) m'->R_8 (.bool z) m' []->∃(m'':Mem),Mem.le m m''/\Mem.le m'' m'/\Ret (.bool true) (.bool z) m'' []):=λM1 gS=>by
    refine⟨cb,co,kO,⟨by omega,by simp only[List.length_cons];omega⟩,Zod S,(mLt pD gS).c _ _ _ nJ,Zaa rfl λb8 c8 sU zB=>?_⟩
    obtain⟨bJ,eX⟩:=Zr0 (m:=M1) (b:=b8) hS.2
    rw[bJ]
    refine⟨_,trivial,Zld S sa _ sc c8 _ ((wX.mono gS).mono (Mem.le_add sU _)) eX,(λv _ _ h=>by unfold Ret at h;rw[h];rfl),?_⟩
    rintro z m9 v4 hz
    exact⟨m9,mLt pA (mLt pD (mLt gS (mLt (Mem.le_add sU _) v4))),Mem.le_refl _,hz⟩
   refine Za2 (Zoi t m6 (hr.mono wW)) ZcW (Zi4 λt' m7 rj hr' ht' b7=>?_)
   refine Za2 (Zo3 false false t' m7 hr') (λv _ _ h=>by unfold Ret at h;rw[h];rfl) ?_
   rintro zc m8 tN rJ
   obtain rfl:zc=t'.check:=by simpa[Ret]using rJ
   refine Zab (λrn=>?_) (λrn=>qT m8 (mLt rj tN))
   have rn:t'.check=0:=by simpa using rn
   have Ae:=wX.mono (mLt rj tN)
   obtain⟨ga,gc,fI,_⟩:=ht'
   have Af:t'.er=(ZaN 6 0 0 ga gc [t]).er:=by
    rcases fI with⟨_,h⟩|⟨_,h⟩
    ·exact h
    ·rw[h]at rn;exact absurd rn (by decide)
   have wY:=Zp5 Af rn (show(ZdX t S).2=0 from hz)
   rw[<-hP]at wY
   refine Za2 (Zjx t' sa S sc m8 (hr'.mono tN) (λ_=>Ae)) (λv _ _ ⟨_,_,h,_⟩=>by rw[h];rfl) ?_
   rintro a9 n9 c9 e9 m9 v4 ⟨a9',c9',v5,n8⟩
   rw[wY]at v5 n8
   simp only[Value.tuple.injEq,Array.mk.injEq,List.cons.injEq,Value.int.injEq,Value.slice.injEq,true_and,and_true]at v5
   obtain⟨⟨rfl,rfl,rfl⟩,rfl⟩:=v5
   have tH:=mLt rj (mLt tN v4)
   refine Znh rfl λb10 mE=>Zab (λoJ=>?_) (λoJ=>?_)
   ·have wZ:P.1=[]:=List.eq_nil_of_length_eq_zero (Nat.eq_of_beq_eq_true oJ)
    rw[wZ]at n8 ⊢
    refine⟨_,trivial,Zd0 [((0:Int),(S.length:Int))] [((0:Int),(S.length:Int))] a9 (some ⟨b10,0,none⟩) c9 1 (m9.add b10 [.int .i64 0,.int .i64 (S.length:Nat)]) (ZeM (n8.mono (Mem.le_add mE _))) (ZeM (Zf9 [((0:Int),(S.length:Int))] (by simp))) (by simp),(λv _ _ h=>by unfold Ret at h;rw[h];rfl),?_⟩
    rintro z1 m10 v6 nF
    obtain rfl:z1=true:=by simpa[Ret]using nF
    refine Znh rfl ?_
    have:=qT m10 (mLt tH (mLt (Mem.le_add mE _) v6))
    rw[wZ]at this
    exact this
   ·have cK:P.1.length≠0:=λe=>by rw[e]at oJ;cases oJ
    refine⟨.inr (by omega),plV [((0:Int),(S.length:Int))],plV P.1,rfl,?_,.inr ⟨b10,0,rfl,λj v hj=>by rw[Nat.zero_add,Mem.add_same];exact hj⟩,(ZeM fN).mono (mLt cF (mLt pD (mLt tH (Mem.le_add mE _)))),?_,by omega,by omega,λa11 c11 m11 sX qU=>?_⟩
    ·unfold plV
     have:∀P:PL,(P.flatMap λp=>[Value.int .i64 p.1,.int .i64 p.2]).length=P.length*2:=λP=>by
      induction P with
      | nil=>rfl
      | cons p P ih=>simp only[List.flatMap_cons,List.length_append,List.length_cons,List.length_nil,ih];omega
     exact this P.1
    ·intro u hu
     unfold plV at hu
     obtain⟨p,_,hu⟩:=List.mem_flatMap.1 hu
     have:u=.int .i64 p.1\/u=.int .i64 p.2:=by simpa using hu
     rcases this with rfl|rfl <;> rfl
    have v7:rowRd m11 a11 (plV (((0:Int),(S.length:Int))::P.1)):=qU
    refine⟨Ret (.bool true),trivial,?_,(λv _ _ h=>by unfold Ret at h;rw[h];rfl),?_⟩
    ·have:=Zd0 (((0:Int),(S.length:Int))::P.1) (((0:Int),(S.length:Int))::P.1) a9 a11 c9 c11 m11 (ZeM (n8.mono (mLt (Mem.le_add mE _) sX))) v7 (by simp;omega)
     rw[beq_self_eq_true,show(((0:Int),(S.length:Int))::P.1).length=1+P.1.length by simp;omega]at this
     rw[show(((0:Int),(S.length:Int))::P.1).length=1+P.1.length by simp;omega]
     exact this
    ·rintro z1 m12 fV nF
     obtain rfl:z1=true:=by simpa[Ret]using nF
     exact Znh rfl (qT m12 (mLt tH (mLt (Mem.le_add mE _) (mLt sX fV))))
end Go.Proofs.Ytgclajkldphoaaa
set_option linter.unusedVariables false
set_option linter.unusedSimpArgs false
namespace Go.Proofs.Ytgclajkldphoaaa
open Go Go.Eng Go.Rx Go.Proofs Go.RowKit Go.ChangeShapes Go.WideShapes Go.ChangeAt
set_option maxRecDepth 100000
theorem Zfq(H:Type)(enc:TypeId×Value->H)(W:World)(base:Nat)(args:Array Value)(ds gs:List (DataW H))(before:List MemPlace)
  (fL:∀(j:Nat) t v,Try.f4.params[j]?=some t->args[j]?=some v->Value.okWide Try.prog W .any base t v)
  (hW:DataW.Whole enc Try.prog Try.f4.params.toList Rows.spanCapturesSpec.vars false W args.toList ds gs before):
  Calls Try.prog 4 args W λe W'=>∃v,e=.returned v/\Rows.spanCapturesSpec.post enc Try.prog Try.f4 false true false false W args v W':=by
 have hW':=hW
 obtain⟨p,q,Ag,hV,rfl,hU,cY⟩:=hW
 have hA:DataW.TrodAll enc Try.prog W 0 (λ_=>true) true Try.f4.params.toList args.toList ds p:=Ag
 rw[Try.params4]at hA fL
 obtain⟨v0,v1,d0,d1,p0,p1,rfl,rfl,rfl,h0,h1⟩:=trodAll_two hA
 obtain⟨rfl,rfl⟩:=trodVars_none hV
 obtain⟨L,pa,pc,rfl,hL,vX⟩:=ZmP (fL 0 _ v0 rfl rfl) h0
 obtain⟨s,sa,sc,rfl,hs,rm,Ah⟩:=Ztr (fL 1 _ v1 rfl rfl) h1
 exact ZpT (tb:=4) Ztp (by rw[Try.params4];intro t ht;simp at ht;rcases ht with rfl|rfl <;> exact⟨by kernel_rfl,of_decide_eq_true (by kernel_rfl)⟩) hW' rfl rfl rfl rfl rfl Try.underlying4 (Zfp L pa pc s sa sc (Zsd W) hL vX hs rm)
theorem Zg4(os:Os)(started:os.Started)(H:Type)(enc:TypeId×Value->H):
  ReturnsInHanded {} Try.checked os 4 .any (Rows.spanCapturesSpec.pre6 enc Try.prog Try.f4 Rows.spanCapturesRow.domain false) (Rows.spanCapturesSpec.post enc Try.prog Try.f4 false true false false):=by
 refine returnsInHanded_of_change (C:=Try.checked) Zuj started (by kernel_rfl) Try.func4
  (ChangeSpec.witness6 (enc:=enc) (C:=Try.checked) false ⟨#[],#[.slice none 0 0,.slice none 0 0],[]⟩ 8 (by kernel_rfl) (by kernel_rfl) (by kernel_rfl) (by kernel_rfl)) ?_
 intro W base args ds gs before fL hW _ _
 exact Zfq H enc W base args ds gs before fL hW
theorem captures_holds:Rows.SpanCapturesSaid:=
 OpenClaim.holds_of_wide 4 Try.f4 rfl rfl rfl rfl rfl rfl rfl ⟨rfl,rfl,rfl,rfl,rfl⟩ rfl rfl rfl rfl rfl (by kernel_rfl) Try.func4 (by kernel_rfl)
  (of_decide_eq_true (by kernel_rfl)) (by unfold Func.isWrapper;first|(rw[if_pos (by decide +kernel)];kernel_rfl)|(rw[if_neg (by decide +kernel)];exact⟨rfl,rfl⟩))
  (λos started H enc _=>Zg4 os started H enc)
#print axioms captures_holds
end Go.Proofs.Ytgclajkldphoaaa
