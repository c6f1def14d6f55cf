/- Part of the proof: functions of the program. No condition. -/
import Derived.Test.YtojlhhphofhaoaaGreatDoorPC40F
import Derived.Test.YtojlhhphofhaoaaGreatDoorMr
import Derived.Test.YtojlhhphofhaoaaGreatDoorPVM
import Derived.Test.YtojlhhphofhaoaaGreatDoorPEnv
import Derived.Test.YtojlhhphofhaoaaGreatDoorPC25D
set_option linter.unusedVariables false
set_option linter.unusedSimpArgs false
set_option linter.unusedSectionVars false
noncomputable section
namespace Go.Proofs.YtojlhhphofhaoaaGreatDoor
open Go Go.Eng Go.Rx Go.Proofs Go.RowKit
set_option maxRecDepth 100000
theorem Zy8(s:Sc)(i k:Int)(m:Mem)(hr:RepC m s):CX Tryz.prog 78 #[s.v,.int .i64 i,.int .i64 k] m [] (Ret (.bool (Zi8 s i k))):=by
 apply Zor
 intro b m1 aB _
 refine⟨Zi8 s i k,Zae (ZcH s m1 (hr.mono aB)) λm2 aM=>?_,Zac aB rfl⟩
 refine Zab (λh1=>Zab (λh2=>Zab (λh3=>Zab (λh4=>?_) (λh4=>⟨rfl,?_⟩)) (λh3=>⟨rfl,?_⟩)) (λh2=>⟨rfl,?_⟩)) (λh1=>⟨rfl,?_⟩)
 ·have h2':0<=i:=zA6 h2
  have h3':i < s.states.length:=zA6 h3
  obtain⟨x,hx⟩:=Zas (l:=s.states) (k:=i.toNat) (by omega)
  obtain⟨bs,o,ha,cK⟩:=Zaj Sta.len (hr.mono (mLt aB aM)).row hx (by omega)
  refine⟨bs,o,ha,⟨h2',h3'⟩,_,cK 1 _ rfl,Zaa rfl ⟨rfl,?_⟩⟩
  simp only[Zi8,h1,h2,h3,h4,hx,Bool.true_and]
  rfl
 ·simp only[Zi8,h1,h2,h3,h4,Bool.true_and,Bool.false_and]
 ·simp only[Zi8,h1,h2,h3,Bool.true_and,Bool.false_and]
 ·simp only[Zi8,h1,h2,Bool.true_and,Bool.false_and]
 ·simp only[Zi8,h1,Bool.false_and]
def ZDe(s:Sc)(i k:Nat):Value->Mem->List (List Value)->Prop:=λv m' _=>∃s':Sc,v=.tuple #[s'.v,.int .i64 0]/\s'.er=(ZoE s i k).er/\RepC m' s'
theorem Zwr{s:Sc}{i k:Nat}:∀(v:Value)(m':Mem) (css:List (List Value)),ZDe s i k v m' css->Shape.fits (.tup [.agg [.int .i64,.slice,.slice],.int .i64]) v=true:=λv _ _ ⟨t,e,_⟩=>by rw[e];rfl
theorem Zy9{s:Sc}{n:Int}{a a1:Option Addr}{p c p1 c1:Nat}(h:Value.agg #[.int .i64 n,.slice a p c,.slice a1 p1 c1]=s.v):n=s.n/\a=s.va/\p=s.vars.length/\c=s.vc/\a1=s.sa/\p1=s.states.length/\c1=s.sc:=by
 simpa[Sc.v,and_assoc]using h
theorem ZBa(s:Sc)(i k:Nat)(m:Mem)(hr:RepC m s)(hl:s.light=true){x:Sta}(hx:s.states[i]?=some x)(hk:k < x.rules.length):CX Tryz.prog 45 #[s.v,.int .i64 i,.int .i64 k] m [] (ZDe s i k):=by
 have hi:=(zA0 hx).1
 have fZ:s.states.length<=100000:=hr.len
 have j0:x.rules.length<=100000:=(hr.all x (zA2 hx)).len
 have iB:Zi8 s i k=true:=by
  simp only[Zi8,hl,zA8,hx,Bool.true_and,zA7,decide_eq_true_eq]
  omega
 apply Zrp
 intro b m1 aB tw iU xE ip b1
 have hc:=Zy8 s i k m1 (hr.mono aB)
 rw[iB]at hc
 refine Zae hc λm2 aM=>ZdQ rfl ?_
 have bY:=mLt aB aM
 refine Zai (Zxw s m2 (hr.mono bY) hl) Zui ?_
 rintro n a p c a1 p1 c1 m3 aY ⟨s',hv,jY,dO,fN⟩ b3
 obtain⟨rfl,rfl,rfl,rfl,rfl,rfl,rfl⟩:=Zy9 hv
 obtain⟨x',hx',pP⟩:=ZAo jY hx
 obtain⟨cQ,dI,sC⟩:=ZiR pP
 have hk':k < x'.rules.length:=by omega
 have hi':=(zA0 hx').1
 rcases fN with h0|⟨bS,μ,fN⟩
 ·rw[h0]at hi';simp at hi'
 obtain⟨py,⟨wW,oz⟩,bW,qN⟩:=fN.all i x' hx'
 rcases oz with h0|⟨bR,og,tx,wX,sw⟩
 ·rw[h0]at hk';simp at hk'
 have aN:(μ i).reads bR 0 (x'.rules.map Ru.cs).flatten:=by
  rcases py.row with h|⟨b',o',ha,h⟩
  ·have:=congrArg List.length h
   rw[Za1 Ru.len]at this;simp at this;omega
  ·rw[og]at ha;cases ha;exact h
 have mB:(x'.rules.map Ru.cs).flatten.length=x'.rules.length*16:=Za1 Ru.len _
 have kp:¬(μ i).free bR:=λhf=>by
  have:=aN 0 _ (zA3 (by omega))
  rw[hf]at this;cases this
 have sy:bS≠bR:=λe=>kp (e ▸ qN)
 have eR:¬m2.free b:=λhf=>by
  have:=aM _ _ _ (tw 0 _ rfl)
  rw[hf]at this;cases this
 have ie:=mLt bW (ZoD m2 m3)
 obtain⟨bs0,o0,nK,dF⟩:=Zaj Sta.len dO.row hx' (by omega)
 rw[fN.sa]at nK
 simp only[Option.some.injEq,Addr.mk.injEq,and_true]at nK
 obtain⟨rfl,rfl⟩:=nK
 have cF:∀M:Mem,(m3.off λq=>q=bR).le M->M bS (0+i*2+1)=some (.slice x'.ra x'.rules.length x'.rc):=λM hM=>hM _ _ _ (by
  rw[Mem.off_at (Y:=λq=>q=bR) sy];exact(ZoD m2 m3) _ _ _ (dF 1 _ rfl))
 have qI:m.le (m3.off λq=>q=bR):=Zx3 (mLt bY aY) λq e=>⟨e ▸ ZcF bY tx,e ▸ Zi7 bY wX⟩
 have hw:IntKind.i64.wrap ((k:Int)+1)=((k+1:Nat):Int):=by rw[Zan (by omega) (by omega)];rfl
 refine⟨bR,(x'.rules.map Ru.cs).flatten,λe=>?_,aN.mono ie,ZcF bY tx,⟨λe=>eR (e ▸ tx),trivial⟩,λT cap=>?_⟩
 ·rw[e]at mB;simp at mB;omega
 rw[hw]
 have hd:=ZA9 x'.rules bR x'.rc k T cap (m3.off λq=>q=bR) hk' wW (by omega)
 rw[<-og]at hd
 refine⟨λ_ _ _=>_,bS,0,fN.sa,⟨by omega,by omega⟩,_,cF _ (Mem.le_refl _),_,rfl,hd,(λv _ _ h=>by rw[h.1];rfl),?_⟩
 rintro a4 n4 c4 m4 bP cs4 ⟨ou,sL⟩ M hM ji
 simp only[Value.slice.injEq]at ou
 obtain⟨rfl,rfl,rfl⟩:=ou
 simp only[List.cons.injEq,and_true]at sL
 subst sL
 refine⟨bS,0,fN.sa,⟨by omega,by omega⟩,⟨[.slice x'.ra x'.rules.length x'.rc],rfl,λj v hj=>?_⟩,ZcF bY fN.free.1,rfl,λe=>eR (e ▸ fN.free.1),λuJ _=>⟨_,mLt (Mem.le_upd (mLt qI hM) (ZcF bY fN.free.1) _ _) (Mem.le_add uJ _),Mem.le_refl _,⟨s'.n,s'.va,s'.vc,s'.vars,s'.sa,s'.sc,s'.states.set i (ZhL x' k)⟩,?_,?_,Zx7 dO fN hx' og hk' sw hM uJ⟩⟩
 ·cases j with
  | zero=>simp at hj;subst hj;exact cF M hM
  | succ j=>simp at hj
 ·simp only[Sc.v,List.length_set]
 ·have h1:=ZtF jY
  have h2:ZoE s i k=⟨s.n,s.va,s.vc,s.vars,s.sa,s.sc,s.states.set i (ZhL x k)⟩:=by unfold ZoE;rw[hx]
  rw[h2]
  exact ZtG h1.1 h1.2 (by rw[List.map_set,List.map_set,ZfQ jY,ZtH pP])
theorem Zza(L:List Dd)(a:Option Addr)(c:Nat)(m:Mem):CX Tryz.prog 44 #[.slice a L.length c] m [] (λv m' _=>∃b,v=.func (.func 77) #[] #[.pointer (some ⟨b,0,none⟩)]/\m' b 0=some (.slice a L.length c)):=by
 apply Zbd
 intro b m' hm hb
 exact⟨m',hm,Mem.le_refl _,b,rfl,hb 0 _ rfl⟩
def Zuj(L:List Dd):List (List Value):=(List.range L.length).map λj=>[.int .i64 ((L.length - 1 - j:Nat):Int),dV (L.getD (L.length - 1 - j) (0,0))]
theorem Zuk{L:List Dd}{j:Nat}(h:j < L.length):∃d,L[L.length - 1 - j]?=some d/\L.reverse[j]?=some d/\(Zuj L)[j]?=some [.int .i64 ((L.length - 1 - j:Nat):Int),dV d]:=by
 have h1:L.length - 1 - j < L.length:=by omega
 refine⟨L[L.length - 1 - j],zA3 h1,?_,?_⟩
 ·rw[List.getElem?_reverse h];exact zA3 h1
 ·unfold Zuj
  rw[List.getElem?_map,List.getElem?_range h]
  simp only[Option.map_some,List.getD_eq_getElem?_getD,zA3 h1,Option.getD_some]
theorem Zmd(L:List Dd):(Zuj L).length=L.length:=by simp[Zuj]
theorem Zzb(L:List Dd)(a:Option Addr)(c:Nat)(m:Mem)(cb:Nat)(hl:L.length<=1000000000000)(aN:rowRd m a (L.map dC).flatten)(hc:m cb 0=some (.slice a L.length c)):IX Tryz.prog 77 [] [.pointer (some ⟨cb,0,none⟩)] m (Zuj L):=by
 apply Za6 0 [] [] cb 0
 intro l
 have wY:IntKind.i64.wrap ((L.length:Int) - 1)=(L.length:Int) - 1:=Zan (by omega) (by omega)
 refine⟨_,hc,Zaa rfl ⟨λxs _ _ m' q=>∃j:Nat,j<=L.length/\xs=[.int .i64 j,.int .i64 ((L.length:Int) - 1 - j)]/\q=L.length - j,⟨L.length,0,by omega,?_,rfl⟩,?_⟩⟩
 ·show[_,Value.int .i64 (IntKind.i64.wrap ((L.length:Int) - 1))]=_
  rw[wY];simp
 rintro y n m1 q aB ⟨j,hj,hx,rfl⟩
 simp only[List.cons.injEq,Value.int.injEq,true_and,and_true]at hx
 obtain⟨rfl,rfl⟩:=hx
 refine Zab (λh=>?_) (λh=>.inl ?_)
 ·have h:(L.length:Int) - 1 - j ≥ 0:=zA6 h
  have aO:j < L.length:=by omega
  obtain⟨d,hd,_,hb⟩:=Zuk aO
  have hn:(L.length:Int) - 1 - j=((L.length - 1 - j:Nat):Int):=by omega
  obtain⟨b1,o1,gD,cK⟩:=Zaj Zl6 (aN.mono aB) hd (by omega)
  have hw:IntKind.i64.wrap ((L.length:Int) - 1 - j - 1)=(L.length:Int) - 1 - ((j+1:Nat):Int):=by rw[Zan (by omega) (by omega)];omega
  rw[hw]
  refine⟨_,aB _ _ _ hc,Zaa rfl ⟨b1,o1,gD,⟨by omega,by show(L.length:Int) - 1 - j < (L.length:Nat);omega⟩,.int .i64 d.1,.int .i64 d.2,?_,⟨rfl,by omega,?_⟩,⟨L.length - (j+1),by omega,j+1,by omega,rfl,rfl⟩,.inr rfl⟩⟩
  ·rw[hn];exact cK
  ·rw[hn];exact hb
 ·have h:¬(L.length:Int) - 1 - j ≥ 0:=of_decide_eq_false h
  rw[Zmd];omega
def ZDf(s:Sc):Value->Mem->List (List Value)->Prop:=λv m' _=>∃(s':Sc)(a:Option Addr)(c:Nat),v=.tuple #[s'.v,.slice a (Za0 s).length c,.int .i64 0]/\s'.er=(ZtJ s).er/\RepC m' s'/\rowRd m' a ((Za0 s).map dC).flatten
theorem Zna{s:Sc}:∀(v:Value)(m':Mem) (css:List (List Value)),ZDf s v m' css->Shape.fits (.tup [.agg [.int .i64,.slice,.slice],.slice,.int .i64]) v=true:=λv _ _ ⟨_,_,_,e,_⟩=>by rw[e];rfl
theorem Zxx(s:Sc)(m:Mem)(hr:RepC m s)(cE:okS s=true)(hl:s.light=true):CX Tryz.prog 15 #[s.v] m [] (ZDf s):=by
 apply Zlo
 intro b m1 aB _ b1
 refine Zai (ZoZ s m1 (hr.mono aB)) ZiX λa n c e m2 aM hv=>?_
 have hv:=Zl7 hv
 rw[if_pos cE]at hv
 obtain⟨rfl,rfl,dE,aN⟩:=hv
 have bA:=Zl5 hr
 have bY:=mLt aB aM
 refine ZdQ rfl (Zai (Zxw s m2 (hr.mono bY) hl) Zui ?_)
 rintro n1 a1 p1 c1 a2 p2 c2 m3 aY ⟨s',hv,jY,dO,_⟩ b2
 obtain⟨rfl,rfl,rfl,rfl,rfl,rfl,rfl⟩:=Zy9 hv
 refine⟨_,trivial,Zza (Za0 s) a c m3,(λv _ _ ⟨_,h,_⟩=>by rw[h];rfl),?_⟩
 rintro g fi ca m4 bP ⟨bb,ou,cF⟩
 obtain⟨rfl,rfl,rfl⟩:=ZbZ ou
 have oa:=mLt aY bP
 obtain⟨wZ,_⟩:=Zkn s
 refine⟨Zuj (Za0 s),Zzb (Za0 s) a c m4 bb (by omega) (aN.mono oa) cF,λy hy=>?_,λ_ css _ m' q=>∃cur:Sc,css=[cur.cs]/\cur.er=(Zkm s ((Za0 s).reverse.take q)).er/\RepC m' cur/\m4.le m',⟨s',rfl,jY,(dO.mono (ZoD _ _)).mono bP,Mem.le_refl _⟩,?_,?_⟩
 ·obtain⟨j,_,rfl⟩:=List.mem_map.1 hy;rfl
 ·rintro n d1 d2 cs m5 j cL hj ⟨cur,cD,lF,tz,q9⟩ b3
  obtain rfl:cs=cur.cs:=by simpa using cD
  have oh:j < (Za0 s).length:=by
   have:=(zA0 (show(Zuj (Za0 s))[j]?=some _ from hj)).1
   rwa [Zmd]at this
  obtain⟨d,_,mf,hb⟩:=Zuk oh
  have hj:(Zuj (Za0 s))[j]?=some [.int .i64 n,.agg #[.int .i64 d1,.int .i64 d2]]:=hj
  rw[hb]at hj
  obtain⟨rfl,rfl⟩:d.1=d1/\d.2=d2:=by
   have:dV d=.agg #[.int .i64 d1,.int .i64 d2]:=by simpa using And.right (by simpa using(Option.some.inj hj))
   unfold dV at this;simpa using this
  obtain⟨i,k,x,rfl,hx,hk⟩:=Zqc wZ mf
  obtain⟨x',hx',pP⟩:=ZAo lF hx
  obtain⟨_,_,j0⟩:=ZiR pP
  have w4:cur.light=true:=(Zlb lF).trans (Zsp hl _)
  refine Zai (ZBa cur i k m5 tz w4 hx' (by omega)) Zwr ?_
  rintro n5 a5 p5 c5 a6 p6 c6 e6 m6 fR ⟨s2,p8,w5,w6⟩
  obtain⟨qa,rfl⟩:Value.agg #[.int .i64 n5,.slice a5 p5 c5,.slice a6 p6 c6]=s2.v/\e6=0:=by simpa using p8
  obtain⟨rfl,rfl,rfl,rfl,rfl,rfl,rfl⟩:=Zy9 qa
  refine⟨rfl,s2,rfl,?_,w6,mLt q9 fR⟩
  rw[Zvu mf,w5]
  exact ZAr lF i k
 ·rintro cs m5 cL ⟨cur,cD,lF,tz,q9⟩
  obtain rfl:cs=cur.cs:=by simpa using cD
  rw[Zmd,List.take_of_length_le (by rw[List.length_reverse];exact Nat.le_refl _)]at lF
  exact Zaa rfl ⟨m5,mLt bY (mLt oa q9),Mem.le_refl _,cur,a,c,rfl,lF,tz,aN.mono (mLt oa q9)⟩
end Go.Proofs.YtojlhhphofhaoaaGreatDoor
namespace Go.Proofs.YtojlhhphofhaoaaGreatDoor
open Go Go.Eng Go.Proofs Go.RowKit
open Go.Value (int slice agg bool string tuple func)
open Go.IntKind (u8 u64 i64)
set_option maxRecDepth 100000
def ZaR:Env:={ EB with
 loops:=(λi=>bif Nat.beq i 4 then⟨[(17,.int .i64)],[],[],false⟩ else⟨[],[],[],false⟩) }
theorem ZaP(p0a:Option Addr)(p0n p0c:Nat)(p1a:Option Addr)(p1n p1c p2g:Nat)(p2fi p2ca:List Value)(m:Mem)(R:RT)(h:
 br (!(↑p0n:Int) == (↑p1n:Int)) (rtM m m R (bool false)) (∃(I:IT),inI I [int i64 0] [] [] m/\∀(n:Int)(m':Mem)(n_1:Nat),m.le m'->I [int i64 n] [] [] m' n_1->br (decide (n < (↑p0n:Int))) (atA p0a
 λb o=>Zaf n p0n/\∃v v_1 v_2 v_3:Value,m'.reads b (o+Int.toNat n*4) [v,v_1,v_2,v_3]/\∀(b:Nat),chk (v.oneCell'&&(v_1.oneCell' &&
 (v_2.oneCell'&&(v_3.oneCell'&&true)))) (atA p1a λb o=>Zaf n p1n/\∃v_4 v_5 v_6 v_7:Value,m'.reads b (o+Int.toNat n*4) [v_4,v_5,v_6,v_7]/\
 ∀(b:Nat),chk (v_4.oneCell'&&(v_5.oneCell'&&(v_6.oneCell'&&(v_7.oneCell'&&true)))) (kB Tryz.prog p2g (List.append (List.append p2fi [agg (Array.mk [v,v_1,v_2,v_3]),agg (Array.mk
 [v_4,v_5,v_6,v_7])]) p2ca) m' λb m'=>br (!b) (rtM m m' R (bool false)) (nxI n_1 I [int i64 (i64.wrap (n+(1:Int)))] [] [] m')))) (rtM m m' R (bool true)))):CX Tryz.prog 89 #[.slice p0a p0n p0c,.slice p1a p1n p1c,.func (.func p2g) p2fi.toArray p2ca.toArray] m [] R:=
 Zal (E:=ZaR) Zak mix Tryz.func89 (by kernel_rfl) (Eq.mp (by kernel_rfl) h)
def ZaG:Env:={ EB with
 loops:=(λi=>bif Nat.beq i 4 then⟨[(17,.int .i64)],[],[],false⟩ else⟨[],[],[],false⟩) }
theorem ZaD(p0a:Option Addr)(p0n p0c:Nat)(p1a:Option Addr)(p1n p1c p2g:Nat)(p2fi p2ca:List Value)(m:Mem)(R:RT)(h:
 br (!(↑p0n:Int) == (↑p1n:Int)) (rtM m m R (bool false)) (∃(I:IT),inI I [int i64 0] [] [] m/\∀(n:Int)(m':Mem)(n_1:Nat),m.le m'->I [int i64 n] [] [] m' n_1->br (decide (n < (↑p0n:Int))) (atA p0a
 λb o=>Zaf n p0n/\∃v v_1:Value,m'.reads b (o+Int.toNat n*2) [v,v_1]/\∀(b:Nat),chk (v.oneCell'&&(v_1.oneCell'&&true)) (atA p1a λb o=>Zaf n p1n/\∃v_2 v_3:Value,m'.reads b (o+Int.toNat n*2) [v_2,v_3]/\∀(b:Nat),chk (v_2.oneCell'&&(v_3.oneCell'&&true)) (kB Tryz.prog p2g (List.append (List.append p2fi [agg (Array.mk [v,v_1]),
 agg (Array.mk [v_2,v_3])]) p2ca) m' λb m'=>br (!b) (rtM m m' R (bool false)) (nxI n_1 I [int i64 (i64.wrap (n+(1:Int)))] [] [] m')))) (rtM m m' R (bool true)))):CX Tryz.prog 91 #[.slice p0a p0n p0c,.slice p1a p1n p1c,.func (.func p2g) p2fi.toArray p2ca.toArray] m [] R:=
 Zal (E:=ZaG) Zak mix Tryz.func91 (by kernel_rfl) (Eq.mp (by kernel_rfl) h)
def ZaL:Env:={ EB with
 loops:=(λi=>bif Nat.beq i 4 then⟨[(17,.int .i64)],[],[],false⟩ else⟨[],[],[],false⟩) }
theorem ZaJ(p0a:Option Addr)(p0n p0c:Nat)(p1a:Option Addr)(p1n p1c p2g:Nat)(p2fi p2ca:List Value)(m:Mem)(R:RT)(h:
 br (!(↑p0n:Int) == (↑p1n:Int)) (rtM m m R (bool false)) (∃(I:IT),inI I [int i64 0] [] [] m/\∀(n:Int)(m':Mem)(n_1:Nat),m.le m'->I [int i64 n] [] [] m' n_1->br (decide (n < (↑p0n:Int))) (atA p0a
 λb o=>Zaf n p0n/\∃v v_1 v_2 v_3 v_4 v_5 v_6 v_7 v_8 v_9 v_10 v_11 v_12 v_13 v_14 v_15:Value,lV [v,v_1,v_2,v_3,v_4,v_5,v_6,v_7,v_8,v_9,v_10,v_11,v_12,v_13,v_14,v_15] λxL=>m'.reads b (o+Int.toNat n *
 16) xL/\∀(b:Nat),chk (v.oneCell'&&(v_1.oneCell'&&(v_2.oneCell'&&(v_3.oneCell'&&(v_4.oneCell'&&(v_5.oneCell'&&(v_6.oneCell'&&(v_7.oneCell' &&
 (v_8.oneCell'&&(v_9.oneCell'&&(v_10.oneCell'&&(v_11.oneCell'&&(v_12.oneCell'&&(v_13.oneCell'&&(v_14.oneCell'&&(v_15.oneCell'&&true)))))))))))))))) (atA p1a
 λb o=>Zaf n p1n/\∃v v_16 v_17 v_18 v_19 v_20 v_21 v_22 v_23 v_24 v_25 v_26 v_27 v_28 v_29 v_30:Value,lV [v,v_16,v_17,v_18,v_19,v_20,v_21,v_22,v_23,v_24,v_25,v_26,v_27,v_28,v_29,v_30] λxL_1=>m'.reads  b (o+Int.toNat n*16) xL_1/\∀(b:Nat),chk (v.oneCell'&&(v_16.oneCell'&&(v_17.oneCell'&&(v_18.oneCell'&&(v_19.oneCell'&&(v_20.oneCell'&&(v_21.oneCell' &&
 (v_22.oneCell'&&(v_23.oneCell'&&(v_24.oneCell'&&(v_25.oneCell'&&(v_26.oneCell'&&(v_27.oneCell'&&(v_28.oneCell'&&(v_29.oneCell'&&(v_30.oneCell' &&
 true)))))))))))))))) (kB Tryz.prog p2g (List.append (List.append p2fi [agg (Array.mk xL),agg (Array.mk xL_1)]) p2ca) m' λb m'=>br (!b) (rtM m m' R (bool false)) (nxI n_1 I [int i64 (i64.wrap (n+(1:
 Int)))] [] [] m')))) (rtM m m' R (bool true)))):CX Tryz.prog 92 #[.slice p0a p0n p0c,.slice p1a p1n p1c,.func (.func p2g) p2fi.toArray p2ca.toArray] m [] R:=
 Zal (E:=ZaL) Zak mix Tryz.func92 (by kernel_rfl) (Eq.mp (by kernel_rfl) h)
def ZeU:Env:=EB
theorem Zd6(p0a:Option Addr)(p0n p0c:Nat)(p1a:Option Addr)(p1n p1c p2g:Nat)(p2fi p2ca:List Value)(m:Mem)(R:RT)(h:
 kB Tryz.prog 89 [slice p0a p0n p0c,slice p1a p1n p1c,func (Fn.func p2g) (Array.mk p2fi) (Array.mk p2ca)] m λb m'=>rtM m m' R (bool b)):CX Tryz.prog 52 #[.slice p0a p0n p0c,.slice p1a p1n p1c,.func (.func p2g) p2fi.toArray p2ca.toArray] m [] R:=
 Zal (E:=ZeU) Zak mix Tryz.func52 (by kernel_rfl) (Eq.mp (by kernel_rfl) h)
def ZdS:Env:=EB
theorem Zdw(p0a:Option Addr)(p0n p0c:Nat)(p1a:Option Addr)(p1n p1c p2g:Nat)(p2fi p2ca:List Value)(m:Mem)(R:RT)(h:
 kB Tryz.prog 91 [slice p0a p0n p0c,slice p1a p1n p1c,func (Fn.func p2g) (Array.mk p2fi) (Array.mk p2ca)] m λb m'=>rtM m m' R (bool b)):CX Tryz.prog 55 #[.slice p0a p0n p0c,.slice p1a p1n p1c,.func (.func p2g) p2fi.toArray p2ca.toArray] m [] R:=
 Zal (E:=ZdS) Zak mix Tryz.func55 (by kernel_rfl) (Eq.mp (by kernel_rfl) h)
def Zd7:Env:=EB
theorem ZdT(p0a:Option Addr)(p0n p0c:Nat)(p1a:Option Addr)(p1n p1c p2g:Nat)(p2fi p2ca:List Value)(m:Mem)(R:RT)(h:
 kB Tryz.prog 92 [slice p0a p0n p0c,slice p1a p1n p1c,func (Fn.func p2g) (Array.mk p2fi) (Array.mk p2ca)] m λb m'=>rtM m m' R (bool b)):CX Tryz.prog 57 #[.slice p0a p0n p0c,.slice p1a p1n p1c,.func (.func p2g) p2fi.toArray p2ca.toArray] m [] R:=
 Zal (E:=Zd7) Zak mix Tryz.func57 (by kernel_rfl) (Eq.mp (by kernel_rfl) h)
def Ziw:Env:={ EB with
 joins:=(λi=>bif Nat.beq i 1 then some [(4,.bool)]else none)
 frzNew:=[2,3] }
theorem Zg6(aA:Bool)(aC:ByteArray)(aD:Value)(bB:Bool)(bD:ByteArray)(bG:Value)(m:Mem)(R:RT)(h:
 lV [bool bB,string bD,bG] λxL=>lV [bool aA,string aC,aD] λxL_1=>fzM m xL_1 λb m'=>lE [some (Box.mk b xL_1 89 3 true true)] λxL_2=>fzM m' xL λb m'=>∃(b_1:Bool),lE (some
 (Box.mk b xL 89 3 true true)::xL_2) λxL=>br (aA == bB) (br (ByteArray.toList aC == ByteArray.toList bD) (kB Tryz.prog 90 [aD,bG] m' λb m'=>Zad xL/\[bool b]=[bool b_1]) (Zad xL/\[bool
 false]=[bool b_1])) (Zad xL/\[bool false]=[bool b_1])/\rtM m m' R (bool b_1)):CX Tryz.prog 54 #[.agg #[.bool aA,.string aC,aD],.agg #[.bool bB,.string bD,bG]] m [] R:=
 Zal (E:=Ziw) Zak mix Tryz.func54 (by kernel_rfl) (Eq.mp (by kernel_rfl) h)
def Zos:Env:={ EB with
 joins:=(λi=>bif Nat.beq i 1 then some [(4,.bool)]else none)
 frzNew:=[2,3] }
theorem Zme(aA:ByteArray)(aC:Bool)(aD:ByteArray)(aE:Value)(bB:ByteArray)(bD:Bool)(bG:ByteArray)(bK:Value)(m:Mem)(R:RT)(h:
 lV [bool aC,string aD,aE] λxL=>lV [bool bD,string bG,bK] λxL_1=>fzM m (string aA::xL) λb m'=>lE [some (Box.mk b (string aA::xL) 91 4 true true)] λxL_2=>fzM m' (string bB ::
 xL_1) λb m'=>∃(b_1:Bool),lE (some (Box.mk b (string bB::xL_1) 91 4 true true)::xL_2) λxL_3=>br (ByteArray.toList aA == ByteArray.toList bB) (kB Tryz.prog 54 [agg (Array.mk xL),agg (Array.mk
 xL_1)] m' λb m'=>Zad xL_3/\[bool b]=[bool b_1]) (Zad xL_3/\[bool false]=[bool b_1])/\rtM m m' R (bool b_1)):CX Tryz.prog 53 #[.agg #[.string aA,.bool aC,.string aD,aE],.agg #[.string bB,.bool bD,.string bG,bK]] m [] R:=
 Zal (E:=Zos) Zak mix Tryz.func53 (by kernel_rfl) (Eq.mp (by kernel_rfl) h)
def Zot:Env:={ EB with
 joins:=(λi=>bif Nat.beq i 1 then some [(4,.bool)]else none)
 frzNew:=[2,3] }
theorem Zmf(aA:ByteArray)(aH:Option Addr)(aG aI:Nat)(bB:ByteArray)(ii:Option Addr)(ij ik:Nat)(m:Mem)(R:RT)(h:
 lV [string aA,slice aH aG aI] λxL=>lV [string bB,slice ii ij ik] λxL_1=>fzM m xL λb m'=>lE [some (Box.mk b xL 42 2 true true)] λxL=>fzM m' xL_1 λb m'=>∃(b_1:Bool),lE
 (some (Box.mk b xL_1 42 2 true true)::xL) λxL=>br (ByteArray.toList aA == ByteArray.toList bB) (kB Tryz.prog 57 [slice aH aG aI,slice ii ij ik,func (Fn.func 47) (Array.mk []) (Array.mk
 [])] m' λb m'=>Zad xL/\[bool b]=[bool b_1]) (Zad xL/\[bool false]=[bool b_1])/\rtM m m' R (bool b_1)):CX Tryz.prog 56 #[.agg #[.string aA,.slice aH aG aI],.agg #[.string bB,.slice ii ij ik]] m [] R:=
 Zal (E:=Zot) Zak mix Tryz.func56 (by kernel_rfl) (Eq.mp (by kernel_rfl) h)
def ZsW:Env:={ EB with
 joins:=(λi=>bif Nat.beq i 1 then some [(4,.bool)]else none)
 frzNew:=[2,3] }
theorem Zrq(aA:Int)(aH:Option Addr)(aG aI:Nat)(aJ:Option Addr)(aF aK:Nat)(bB:Int)(ii:Option Addr)(ij ik:Nat)(il:Option Addr)(im io:Nat)(m:Mem)(R:RT)(h:
 lV [int i64 bB,slice ii ij ik,slice il im io] λxL=>lV [int i64 aA,slice aH aG aI,slice aJ aF aK] λxL_1=>fzM m xL_1 λb m'=>lE [some (Box.mk b xL_1 30 3 true
 true)] λxL_2=>fzM m' xL λb m'=>∃(b_1:Bool),lV [bool b_1] λxL_3=>lE (some (Box.mk b xL 30 3 true true)::xL_2) λxL_4=>(kB Tryz.prog 38 [agg (Array.mk xL_1)] m' λb m'=>br b (kB Tryz.prog 38
 [agg (Array.mk xL)] m' λb m'=>br b (br (aA == bB) (kB Tryz.prog 52 [slice aH aG aI,slice ii ij ik,func (Fn.func 53) (Array.mk []) (Array.mk [])] m' λb m'=>br b (kB Tryz.prog 55 [slice
 aJ aF aK,slice il im io,func (Fn.func 56) (Array.mk []) (Array.mk [])] m' λb m'=>Zad xL_4/\[bool b]=xL_3) (Zad xL_4/\[bool false]=xL_3)) (Zad xL_4/\[bool false]=xL_3)) (Zad
 xL_4/\[bool false]=xL_3)) (Zad xL_4/\[bool false]=xL_3))/\rtM m m' R (bool b_1)):CX Tryz.prog 23 #[.agg #[.int .i64 aA,.slice aH aG aI,.slice aJ aF aK],.agg #[.int .i64 bB,.slice ii ij ik,.slice il im io]] m [] R:=
 Zal (E:=ZsW) Zak mix Tryz.func23 (by kernel_rfl) (Eq.mp (by kernel_rfl) h)
def Zzc:Env:={ EB with
 frzNew:=[1] }
theorem Zws(aA:Int)(aC aD:Bool)(aE aU aR aS cS cT dJ:Int)(bL:Option Addr)(bM bN:Nat)(bZ:ByteArray)(bX:Int)(bQ:Option Addr)(bT bU:Nat)(cB:ByteArray)(cC:Int)(m:Mem)(R:RT)(h:
 lV [int u8 aA,bool aC,bool aD,int u8 aE,int u64 aU,int u64 aR,int u64 aS,int u64 cS,int i64 cT,int i64 dJ,slice bL bM bN,string bZ,int i64 bX,slice bQ bT
 bU,string cB,int i64 cC] λxL=>fzM m xL λb m'=>∀(b b:Nat),m'.free b->∀(b_1:Nat),Mem.free (m'.add b xL) b_1->rtM m (Mem.add (m'.add b xL) b_1 [string bE0,slice (some (Addr.mk b 0 none)) 1 1]) R (agg (Array.mk [int i64 0,slice none 0 0,slice (some (Addr.mk b_1 0 none)) 1 1]))):CX Tryz.prog 46 #[.agg #[.int .u8 aA,.bool aC,.bool aD,.int .u8 aE,.int .u64 aU,.int .u64 aR,.int .u64 aS,.int .u64 cS,.int .i64 cT,.int .i64 dJ,.slice bL bM bN,.string bZ,.int .i64 bX,.slice bQ bT bU,.string cB,.int .i64 cC]] m [] R:=
 Zal (E:=Zzc) Zak mix Tryz.func46 (by kernel_rfl) (Eq.mp (by kernel_rfl) h)
def ZjS:Env:={ EB with
 joins:=(λi=>bif Nat.beq i 1 then some [(4,.bool)]else none)
 frzNew:=[2,3] }
theorem Zix(aA:Int)(aC:ByteArray)(aD aE:Int)(aU:Value)(aR:ByteArray)(aS:Int)(aQ:Option Addr)(aP aT:Nat)(bB:Int)(bD:ByteArray)(bG bK:Int)(cH:Value)(cI:ByteArray)(cV:Int)(dR:Option Addr)(dS dT:Nat)(m:Mem)(R:RT)(h:
 lV [int u8 aE,aU,string aR,int i64 aS,slice aQ aP aT] λxL=>lV [int u8 bK,cH,string cI,int i64 cV,slice dR dS dT] λxL_1=>lV (int u8 bB::string bD::int i64 bG
 :: xL_1) λxL_2=>lV (int u8 aA::string aC::int i64 aD::xL) λxL_3=>fzM m xL_3 λb m'=>lE [some (Box.mk b xL_3 143 8 true true)] λxL_4=>fzM m' xL_2 λb m'=>∃(b_1:Bool),lV [bool b_1]
 λxL_5=>lE (some (Box.mk b xL_2 143 8 true true)::xL_4) λxL_6=>br (aA == bB) (br (ByteArray.toList aC == ByteArray.toList bD) (br (aD == bG) (kB Tryz.prog 115 [agg (Array.mk xL),agg (Array.mk
 xL_1)] m' λb m'=>Zad xL_6/\[bool b]=xL_5) (Zad xL_6/\[bool false]=xL_5)) (Zad xL_6/\[bool false]=xL_5)) (Zad xL_6/\[bool false]=xL_5)/\rtM m m' R (bool b_1)):CX Tryz.prog 114 #[.agg #[.int .u8 aA,.string aC,.int .i64 aD,.int .u8 aE,aU,.string aR,.int .i64 aS,.slice aQ aP aT],.agg #[.int .u8 bB,.string bD,.int .i64 bG,.int .u8 bK,cH,.string cI,.int .i64 cV,.slice dR dS dT]] m [] R:=
 Zal (E:=ZjS) Zak mix Tryz.func114 (by kernel_rfl) (Eq.mp (by kernel_rfl) h)
def ZaM:Env:={ EB with
 loops:=(λi=>bif Nat.beq i 4 then⟨[(17,.int .i64)],[],[],false⟩ else⟨[],[],[],false⟩) }
theorem ZaK(p0a:Option Addr)(p0n p0c:Nat)(p1a:Option Addr)(p1n p1c p2g:Nat)(p2fi p2ca:List Value)(m:Mem)(R:RT)(h:
 br (!(↑p0n:Int) == (↑p1n:Int)) (rtM m m R (bool false)) (∃(I:IT),inI I [int i64 0] [] [] m/\∀(n:Int)(m':Mem)(n_1:Nat),m.le m'->I [int i64 n] [] [] m' n_1->br (decide (n < (↑p0n:Int))) (atA p0a
 λb o=>Zaf n p0n/\∃v v_1 v_2 v_3 v_4 v_5 v_6 v_7:Value,lV [v,v_1,v_2,v_3,v_4,v_5,v_6,v_7] λxL=>
 m'.reads b (o+Int.toNat n*8) xL/\∀(b:Nat),chk (v.oneCell'&&(v_1.oneCell'&&(v_2.oneCell'&&(v_3.oneCell'&&(v_4.oneCell'&&(v_5.oneCell'&&(v_6.oneCell' &&
 (v_7.oneCell'&&true)))))))) (atA p1a λb o=>Zaf n p1n/\∃v v_8 v_9 v_10 v_11 v_12 v_13 v_14:Value,lV [v,
 v_8,v_9,v_10,v_11,v_12,v_13,v_14] λxL_1=>m'.reads b (o+Int.toNat n*8) xL_1/\∀(b:Nat),chk (v.oneCell'&&(v_8.oneCell'&&(v_9.oneCell'&&(v_10.oneCell'&&(v_11.oneCell'&&(v_12.oneCell'&&(v_13.oneCell'&&(v_14.oneCell'&&true)))))))) (kB Tryz.prog p2g (List.append (List.append p2fi [agg (Array.mk xL),agg (Array.mk xL_1)]) p2ca) m' λb m'=>br (!b) (rtM m
 m' R (bool false)) (nxI n_1 I [int i64 (i64.wrap (n+(1:Int)))] [] [] m')))) (rtM m m' R (bool true)))):CX Tryz.prog 134 #[.slice p0a p0n p0c,.slice p1a p1n p1c,.func (.func p2g) p2fi.toArray p2ca.toArray] m [] R:=
 Zal (E:=ZaM) Zak mix Tryz.func134 (by kernel_rfl) (Eq.mp (by kernel_rfl) h)
def Zd8:Env:=EB
theorem ZdU(p0a:Option Addr)(p0n p0c:Nat)(p1a:Option Addr)(p1n p1c p2g:Nat)(p2fi p2ca:List Value)(m:Mem)(R:RT)(h:
 kB Tryz.prog 134 [slice p0a p0n p0c,slice p1a p1n p1c,func (Fn.func p2g) (Array.mk p2fi) (Array.mk p2ca)] m λb m'=>rtM m m' R (bool b)):CX Tryz.prog 113 #[.slice p0a p0n p0c,.slice p1a p1n p1c,.func (.func p2g) p2fi.toArray p2ca.toArray] m [] R:=
 Zal (E:=Zd8) Zak mix Tryz.func113 (by kernel_rfl) (Eq.mp (by kernel_rfl) h)
def Zg7:Env:={ EB with
 joins:=(λi=>bif Nat.beq i 1 then some [(4,.bool)]else none)
 frzNew:=[2,3] }
theorem Zf7(aA:Int)(aC:ByteArray)(aJ:Option Addr)(aF aK:Nat)(aE:Int)(aU:Value)(aR:ByteArray)(aS:Int)(aQ:Option Addr)(aP aT:Nat)(bB:Int)(bD:ByteArray)(il:Option Addr)(im io:Nat)(bK:Int)(cH:Value)(cI:ByteArray)(cV:Int)(dR:Option Addr)(dS dT:Nat)(m:Mem)(R:RT)(h:
 lV [int u8 aE,aU,string aR,int i64 aS,slice aQ aP aT] λxL=>lV [int u8 bK,cH,string cI,int i64 cV,slice dR dS dT] λxL_1=>lV (int u8 aA::string aC::slice aJ
 aF aK::xL) λxL_2=>lV (int u8 bB::string bD::slice il im io::xL_1) λxL_3=>fzM m xL_2 λb m'=>lE [some (Box.mk b xL_2 141 8 true true)] λxL_4=>fzM m' xL_3 λb m'=>∃(b_1:
 Bool),lV [bool b_1] λxL_5=>lE (some (Box.mk b xL_3 141 8 true true)::xL_4) λxL_6=>br (aA == bB) (br (ByteArray.toList aC == ByteArray.toList bD) (kB Tryz.prog 113 [slice aJ aF aK,slice
 il im io,func (Fn.func 114) (Array.mk []) (Array.mk [])] m' λb m'=>br b (kB Tryz.prog 115 [agg (Array.mk xL),agg (Array.mk xL_1)] m' λb m'=>Zad xL_6/\[bool b]=xL_5) (Zad xL_6/\[bool false]
 = xL_5)) (Zad xL_6/\[bool false]=xL_5)) (Zad xL_6/\[bool false]=xL_5)/\rtM m m' R (bool b_1)):CX Tryz.prog 82 #[.agg #[.int .u8 aA,.string aC,.slice aJ aF aK,.int .u8 aE,aU,.string aR,.int .i64 aS,.slice aQ aP aT],.agg #[.int .u8 bB,.string bD,.slice il im io,.int .u8 bK,cH,.string cI,.int .i64 cV,.slice dR dS dT]] m [] R:=
 Zal (E:=Zg7) Zak mix Tryz.func82 (by kernel_rfl) (Eq.mp (by kernel_rfl) h)
def Zaz:Env:={ EB with
 loops:=(λi=>bif Nat.beq i 4 then⟨[(17,.int .i64)],[],[],false⟩ else⟨[],[],[],false⟩) }
theorem Zay(p0a:Option Addr)(p0n p0c:Nat)(p1a:Option Addr)(p1n p1c p2g:Nat)(p2fi p2ca:List Value)(m:Mem)(R:RT)(h:
 br (!(↑p0n:Int) == (↑p1n:Int)) (rtM m m R (bool false)) (∃(I:IT),inI I [int i64 0] [] [] m/\∀(n:Int)(m':Mem)(n_1:Nat),m.le m'->I [int i64 n] [] [] m' n_1->br (decide (n < (↑p0n:Int))) (atA p0a
 λb o=>Zaf n p0n/\∃v v_1 v_2 v_3 v_4 v_5 v_6 v_7:Value,lV [v,v_1,v_2,v_3,v_4,v_5,v_6,v_7] λxL=>
 m'.reads b (o+Int.toNat n*8) xL/\∀(b:Nat),chk (v.oneCell'&&(v_1.oneCell'&&(v_2.oneCell'&&(v_3.oneCell'&&(v_4.oneCell'&&(v_5.oneCell'&&(v_6.oneCell' &&
 (v_7.oneCell'&&true)))))))) (atA p1a λb o=>Zaf n p1n/\∃v v_8 v_9 v_10 v_11 v_12 v_13 v_14:Value,lV [v,
 v_8,v_9,v_10,v_11,v_12,v_13,v_14] λxL_1=>m'.reads b (o+Int.toNat n*8) xL_1/\∀(b:Nat),chk (v.oneCell'&&(v_8.oneCell'&&(v_9.oneCell'&&(v_10.oneCell'&&(v_11.oneCell'&&(v_12.oneCell'&&(v_13.oneCell'&&(v_14.oneCell'&&true)))))))) (kB Tryz.prog p2g (List.append (List.append p2fi [agg (Array.mk xL),agg (Array.mk xL_1)]) p2ca) m' λb m'=>br (!b) (rtM m
 m' R (bool false)) (nxI n_1 I [int i64 (i64.wrap (n+(1:Int)))] [] [] m')))) (rtM m m' R (bool true)))):CX Tryz.prog 112 #[.slice p0a p0n p0c,.slice p1a p1n p1c,.func (.func p2g) p2fi.toArray p2ca.toArray] m [] R:=
 Zal (E:=Zaz) Zak mix Tryz.func112 (by kernel_rfl) (Eq.mp (by kernel_rfl) h)
def Zdx:Env:=EB
theorem Zds(p0a:Option Addr)(p0n p0c:Nat)(p1a:Option Addr)(p1n p1c p2g:Nat)(p2fi p2ca:List Value)(m:Mem)(R:RT)(h:
 kB Tryz.prog 112 [slice p0a p0n p0c,slice p1a p1n p1c,func (Fn.func p2g) (Array.mk p2fi) (Array.mk p2ca)] m λb m'=>rtM m m' R (bool b)):CX Tryz.prog 81 #[.slice p0a p0n p0c,.slice p1a p1n p1c,.func (.func p2g) p2fi.toArray p2ca.toArray] m [] R:=
 Zal (E:=Zdx) Zak mix Tryz.func81 (by kernel_rfl) (Eq.mp (by kernel_rfl) h)
def ZjT:Env:={ EB with
 joins:=(λi=>bif Nat.beq i 1 then some [(4,.bool)]else none)
 frzNew:=[2,3] }
theorem Ziy(aA:Int)(aC aD:Bool)(aE aU aR aS cS cT dJ:Int)(bL:Option Addr)(bM bN:Nat)(bZ:ByteArray)(bX:Int)(bQ:Option Addr)(bT bU:Nat)(cB:ByteArray)(cC bB:Int)(bD bG:Bool)(bK cH cI cV fF fG fH:Int)(cX:Option Addr)(cY cZ:Nat)(eA:ByteArray)(eB:Int)(dA:Option Addr)(dB dD:Nat)(eC:ByteArray)(eF:Int)(m:Mem)(R:RT)(h:
 lV [int u8 bB,bool bD,bool bG,int u8 bK,int u64 cH,int u64 cI,int u64 cV,int u64 fF,int i64 fG,int i64 fH,slice cX cY cZ,string eA,int i64 eB,slice dA dB
 dD,string eC,int i64 eF] λxL=>lV [int u8 aA,bool aC,bool aD,int u8 aE,int u64 aU,int u64 aR,int u64 aS,int u64 cS,int i64 cT,int i64 dJ,slice bL bM bN,string
 bZ,int i64 bX,slice bQ bT bU,string cB,int i64 cC] λxL_1=>fzM m xL_1 λb m'=>lE [some (Box.mk b xL_1 57 16 true true)] λxL_2=>fzM m' xL λb m'=>∃(b_1:Bool),lV [bool b_1]
 λxL_3=>lE (some (Box.mk b xL 57 16 true true)::xL_2) λxL=>br (aA == bB) (br (aC == bD) (br (aD == bG) (kB Tryz.prog 80 [agg (Array.mk [int u8 aE,int u64 aU,int u64 aR,int u64 aS,int
 u64 cS,int i64 cT,int i64 dJ,slice bL bM bN]),agg (Array.mk [int u8 bK,int u64 cH,int u64 cI,int u64 cV,int u64 fF,int i64 fG,int i64 fH,slice cX cY cZ])] m' λb
 m'=>br b (br (ByteArray.toList bZ == ByteArray.toList eA) (br (bX == eB) (kB Tryz.prog 81 [slice bQ bT bU,slice dA dB dD,func (Fn.func 82) (Array.mk []) (Array.mk [])] m' λb m'
 => br b (br (ByteArray.toList cB == ByteArray.toList eC) (Zad xL/\[bool (cC == eF)]=xL_3) (Zad xL/\[bool false]=xL_3)) (Zad xL/\[bool false]=xL_3)) (Zad xL/\[bool false]=xL_3))
 (Zad xL/\[bool false]=xL_3)) (Zad xL/\[bool false]=xL_3)) (Zad xL/\[bool false]=xL_3)) (Zad xL/\[bool false]=xL_3)) (Zad xL/\[bool false]=xL_3)/\rtM m m' R (bool b_1)):CX Tryz.prog 47 #[.agg #[.int .u8 aA,.bool aC,.bool aD,.int .u8 aE,.int .u64 aU,.int .u64 aR,.int .u64 aS,.int .u64 cS,.int .i64 cT,.int .i64 dJ,.slice bL bM bN,.string bZ,.int .i64 bX,.slice bQ bT bU,.string cB,.int .i64 cC],.agg #[.int .u8 bB,.bool bD,.bool bG,.int .u8 bK,.int .u64 cH,.int .u64 cI,.int .u64 cV,.int .u64 fF,.int .i64 fG,.int .i64 fH,.slice cX cY cZ,.string eA,.int .i64 eB,.slice dA dB dD,.string eC,.int .i64 eF]] m [] R:=
 Zal (E:=ZjT) Zak mix Tryz.func47 (by kernel_rfl) (Eq.mp (by kernel_rfl) h)
def ZjU:Env:={ EB with
 joins:=(λi=>bif Nat.beq i 1 then some [(4,.bool)]else none)
 frzNew:=[2,3] }
theorem Ziz(aA:Int)(aC aD:Bool)(aE aU aR aS cS cT dJ:Int)(bL:Option Addr)(bM bN:Nat)(bZ:ByteArray)(bX:Int)(bQ:Option Addr)(bT bU:Nat)(cB:ByteArray)(cC bB:Int)(bD bG:Bool)(bK cH cI cV fF fG fH:Int)(cX:Option Addr)(cY cZ:Nat)(eA:ByteArray)(eB:Int)(dA:Option Addr)(dB dD:Nat)(eC:ByteArray)(eF:Int)(m:Mem)(R:RT)(h:
 lV [int u8 aA,bool aC,bool aD,int u8 aE,int u64 aU,int u64 aR,int u64 aS,int u64 cS,int i64 cT,int i64 dJ,slice bL bM bN,string bZ,int i64 bX,slice bQ bT
 bU,string cB,int i64 cC] λxL=>lV [int u8 bB,bool bD,bool bG,int u8 bK,int u64 cH,int u64 cI,int u64 cV,int u64 fF,int i64 fG,int i64 fH,slice cX cY cZ,string
 eA,int i64 eB,slice dA dB dD,string eC,int i64 eF] λxL_1=>fzM m xL λb m'=>lE [some (Box.mk b xL 57 16 true true)] λxL_2=>fzM m' xL_1 λb m'=>∃(b_1:Bool),lE (some
 (Box.mk b xL_1 57 16 true true)::xL_2) λxL_3=>(∃(R:RT),True/\CX Tryz.prog 46 (Array.mk [agg (Array.mk xL)]) m' [] R/\ZaZ (Shape.agg [Shape.int i64,Shape.slice,Shape.slice]) R/\∀(n:Int) (a:Option
 Addr) (n_1 c:Nat) (a_1:Option Addr) (n_2 c_1:Nat) (m'_1:Mem),lX (agg (Array.mk [int i64 n,slice a n_1 c,slice a_1 n_2 c_1])) λyL=>m'.le m'_1->R yL m'_1 []->kB Tryz.prog 38 [yL] m'_1 λb m'=>br
 b (∃(R:RT),True/\CX Tryz.prog 46 (Array.mk [agg (Array.mk xL_1)]) m' [] R/\ZaZ (Shape.agg [Shape.int i64,Shape.slice,Shape.slice]) R/\∀(n:Int)(a:Option Addr)(n_3 c:Nat)(a_2:Option Addr) (n_4 c_2:
 Nat) (m'_2:Mem),lX (agg (Array.mk [int i64 n,slice a n_3 c,slice a_2 n_4 c_2])) λyL=>m'.le m'_2->R yL m'_2 []->kB Tryz.prog 38 [yL] m'_2 λb m'=>br b (kB Tryz.prog 47 [agg (Array.mk xL),agg
 (Array.mk xL_1)] m' λb m'=>Zad xL_3/\[bool b]=[bool b_1]) (Zad xL_3/\[bool false]=[bool b_1])) (Zad xL_3/\[bool false]=[bool b_1]))/\rtM m m' R (bool b_1)):CX Tryz.prog 17 #[.agg #[.int .u8 aA,.bool aC,.bool aD,.int .u8 aE,.int .u64 aU,.int .u64 aR,.int .u64 aS,.int .u64 cS,.int .i64 cT,.int .i64 dJ,.slice bL bM bN,.string bZ,.int .i64 bX,.slice bQ bT bU,.string cB,.int .i64 cC],.agg #[.int .u8 bB,.bool bD,.bool bG,.int .u8 bK,.int .u64 cH,.int .u64 cI,.int .u64 cV,.int .u64 fF,.int .i64 fG,.int .i64 fH,.slice cX cY cZ,.string eA,.int .i64 eB,.slice dA dB dD,.string eC,.int .i64 eF]] m [] R:=
 Zal (E:=ZjU) Zak mix Tryz.func17 (by kernel_rfl) (Eq.mp (by kernel_rfl) h)
end Go.Proofs.YtojlhhphofhaoaaGreatDoor
namespace Go.Proofs.YtojlhhphofhaoaaGreatDoor
open Go Go.Eng Go.Rx Go.Proofs Go.RowKit
set_option maxRecDepth 100000
theorem ZBb(r:Ru)(m:Mem)(hr:RepR m r):CX Tryz.prog 46 #[.agg r.cs.toArray] m [] (λv m' _=>∃s:Sc,v=s.v/\RepC m' s/\s.light=ZhM r):=by
 apply Zws
 intro b m1 aB _ b1 b2 pw b3 iT
 have h2:m1.le (m1.add b2 r.cs):=Mem.le_add pw _
 have h3:(m1.add b2 r.cs).le ((m1.add b2 r.cs).add b3 [.string ⟨#[]⟩,.slice (some ⟨b2,0,none⟩) 1 1]):=Mem.le_add iT _
 have uK:=mLt aB (mLt h2 h3)
 refine⟨_,uK,Mem.le_refl _,⟨0,none,0,[],some ⟨b3,0,none⟩,1,[⟨⟨#[]⟩,some ⟨b2,0,none⟩,1,[r]⟩]⟩,rfl,⟨by show I64 0;unfold I64;omega,by show 0<=few;omega,.inl rfl,by simp,by show 1<=few;unfold few;omega,ZbF,λx hx=>?_,Nat.le_refl _,Nat.le_refl _⟩,?_⟩
 ·simp only[List.mem_singleton]at hx
  subst hx
  have aN:rowRd (m1.add b2 r.cs) (some ⟨b2,0,none⟩) ([r].map Ru.cs).flatten:=by simpa using(ZbF (m:=m1) (b:=b2) (cs:=r.cs))
  exact⟨by show(ByteArray.mk #[]).size<=_;decide,by show 1<=few;unfold few;omega,aN.mono h3,λp hp=>by
   simp only[List.mem_singleton]at hp;subst hp;exact hr.mono uK⟩
 ·unfold Sc.light Sc.weight ZhM
  simp only[List.length_nil,List.length_singleton,List.map_cons,List.map_nil,ZaU,wS]
  congr 1
  refine propext ?_
  constructor <;> intro h <;> simp only[Int.add_zero]at h ⊢ <;> omega
theorem Zul{r:Ru}:∀(v:Value)(m':Mem) (css:List (List Value)),(∃s:Sc,v=s.v/\RepC m' s/\s.light=ZhM r)->Shape.fits (.agg [.int .i64,.slice,.slice]) v=true:=λv _ _ ⟨t,e,_⟩=>by rw[e];rfl
theorem ZBc(cb:Nat)(f:Pt->Pt->Bool)(L R:List Pt)(a b:Option Addr)(c d:Nat)(m:Mem)(h1:rowRd m a (L.map Pt.cs).flatten)(h2:rowRd m b (R.map Pt.cs).flatten)(hl:L.length<=few)(ja:∀x∈L,∀y∈R,∀m2,m.le m2->CX Tryz.prog cb #[.agg x.cs.toArray,.agg y.cs.toArray] m2 [] (Ret (.bool (f x y)))):
  CX Tryz.prog 113 #[.slice a L.length c,.slice b R.length d,.func (.func cb) #[] #[]] m [] (Ret (.bool (eqL f L R))):=by
 have hl:L.length<=100000:=hl
 apply ZdU (p2fi:=[]) (p2ca:=[])
 refine Zae (x:=eqL f L R) ?_ λm1 aB=>Zac aB rfl
 apply ZaK (p2fi:=[]) (p2ca:=[])
 refine Zab (λdH=>Zac (Mem.le_refl m) ?_) (λheq=>?_)
 ·have:¬L.length=R.length:=λe=>by simp[e]at dH
  show Value.bool _=Value.bool _
  rw[Zko this]
 have heq:L.length=R.length:=by
  have:(L.length:Int)=R.length:=by simpa using heq
  omega
 refine⟨λxs css tvs m' q=>∃k:Nat,k<=L.length/\xs=[.int .i64 k]/\q=L.length - k/\m.le m'/\eqL f (L.take k) (R.take k)=true,⟨_,0,by omega,rfl,rfl,Mem.le_refl m,by simp[eqL]⟩,?_⟩
 rintro z m1 q _ ⟨k,hk,cQ,hq,aB,ht⟩
 obtain rfl:z=k:=by simpa using cQ
 refine Zab (λaO=>?_) (λbO=>?_)
 ·have aW:k < L.length:=by have:=zA6 aO;omega
  obtain⟨x,hx⟩:=Zas aW
  obtain⟨y,hy⟩:=Zas (l:=R) (k:=k) (by omega)
  obtain⟨b1,o1,gD,eM⟩:=Zaj Pt.len h1 hx (by omega)
  obtain⟨b2,o2,iI,eX⟩:=Zaj Pt.len h2 hy (by omega)
  have hw:IntKind.i64.wrap ((k:Int)+1)=((k+1:Nat):Int):=by rw[Zan (by omega) (by omega)];rfl
  refine⟨b1,o1,gD,⟨by omega,by omega⟩,_,_,_,_,_,_,_,_,eM.mono aB,λb3=>Zaa rfl ⟨b2,o2,iI,⟨by omega,by omega⟩,_,_,_,_,_,_,_,_,eX.mono aB,λb4=>Zaa rfl (Zae (ja x (zA2 hx) y (zA2 hy) m1 aB) λm2 aM=>Zab (λhf=>Zac (mLt aB aM) ?_) (λhf=>?_))⟩⟩
  ·have:f x y=false:=by simpa using hf
   show Value.bool _=Value.bool _
   rw[Zqf hx hy this]
  ·exact⟨L.length - (k+1),by omega,k+1,by omega,by rw[hw],rfl,mLt aB aM,Zgz hx hy ht (by simpa using hf)⟩
 ·have dK:k=L.length:=by have:=of_decide_eq_false bO;omega
  refine Zac aB ?_
  rw[dK,List.take_length,heq,List.take_length]at ht
  show Value.bool _=Value.bool _
  rw[ht]
theorem ZBd(cb:Nat)(f:Ac->Ac->Bool)(L R:List Ac)(a b:Option Addr)(c d:Nat)(m:Mem)(h1:rowRd m a (L.map Ac.cs).flatten)(h2:rowRd m b (R.map Ac.cs).flatten)(hl:L.length<=few)(ja:∀x∈L,∀y∈R,∀m2,m.le m2->CX Tryz.prog cb #[.agg x.cs.toArray,.agg y.cs.toArray] m2 [] (Ret (.bool (f x y)))):
  CX Tryz.prog 81 #[.slice a L.length c,.slice b R.length d,.func (.func cb) #[] #[]] m [] (Ret (.bool (eqL f L R))):=by
 have hl:L.length<=100000:=hl
 apply Zds (p2fi:=[]) (p2ca:=[])
 refine Zae (x:=eqL f L R) ?_ λm1 aB=>Zac aB rfl
 apply Zay (p2fi:=[]) (p2ca:=[])
 refine Zab (λdH=>Zac (Mem.le_refl m) ?_) (λheq=>?_)
 ·have:¬L.length=R.length:=λe=>by simp[e]at dH
  show Value.bool _=Value.bool _
  rw[Zko this]
 have heq:L.length=R.length:=by
  have:(L.length:Int)=R.length:=by simpa using heq
  omega
 refine⟨λxs css tvs m' q=>∃k:Nat,k<=L.length/\xs=[.int .i64 k]/\q=L.length - k/\m.le m'/\eqL f (L.take k) (R.take k)=true,⟨_,0,by omega,rfl,rfl,Mem.le_refl m,by simp[eqL]⟩,?_⟩
 rintro z m1 q _ ⟨k,hk,cQ,hq,aB,ht⟩
 obtain rfl:z=k:=by simpa using cQ
 refine Zab (λaO=>?_) (λbO=>?_)
 ·have aW:k < L.length:=by have:=zA6 aO;omega
  obtain⟨x,hx⟩:=Zas aW
  obtain⟨y,hy⟩:=Zas (l:=R) (k:=k) (by omega)
  obtain⟨b1,o1,gD,eM⟩:=Zaj Ac.len h1 hx (by omega)
  obtain⟨b2,o2,iI,eX⟩:=Zaj Ac.len h2 hy (by omega)
  have hw:IntKind.i64.wrap ((k:Int)+1)=((k+1:Nat):Int):=by rw[Zan (by omega) (by omega)];rfl
  refine⟨b1,o1,gD,⟨by omega,by omega⟩,_,_,_,_,_,_,_,_,eM.mono aB,λb3=>Zaa rfl ⟨b2,o2,iI,⟨by omega,by omega⟩,_,_,_,_,_,_,_,_,eX.mono aB,λb4=>Zaa rfl (Zae (ja x (zA2 hx) y (zA2 hy) m1 aB) λm2 aM=>Zab (λhf=>Zac (mLt aB aM) ?_) (λhf=>?_))⟩⟩
  ·have:f x y=false:=by simpa using hf
   show Value.bool _=Value.bool _
   rw[Zqf hx hy this]
  ·exact⟨L.length - (k+1),by omega,k+1,by omega,by rw[hw],rfl,mLt aB aM,Zgz hx hy ht (by simpa using hf)⟩
 ·have dK:k=L.length:=by have:=of_decide_eq_false bO;omega
  refine Zac aB ?_
  rw[dK,List.take_length,heq,List.take_length]at ht
  show Value.bool _=Value.bool _
  rw[ht]
theorem Zzd(p q:Pt)(m:Mem)(hp:RepP m p)(hq:RepP m q):CX Tryz.prog 114 #[.agg p.cs.toArray,.agg q.cs.toArray] m [] (Ret (.bool (Zqg p q))):=by
 apply Zix
 intro b m1 aB _ b1 m2 aM _
 have bY:=mLt aB aM
 refine⟨Zqg p q,Zab (λh1=>Zab (λh2=>Zab (λh3=>?_) (λh3=>⟨rfl,?_⟩)) (λh2=>⟨rfl,?_⟩)) (λh1=>⟨rfl,?_⟩),Zac bY rfl⟩
 ·refine Zae (ZlL p.e q.e m2 (hp.e.mono' bY) (hq.e.mono' bY)) λm3 aY=>⟨rfl,?_⟩
  simp only[Zqg,eqS,h1,h2,h3,Bool.true_and]
 ·simp only[Zqg,eqS,h1,h2,h3,Bool.true_and,Bool.false_and]
 ·simp only[Zqg,eqS,h1,h2,Bool.true_and,Bool.false_and]
 ·simp only[Zqg,eqS,h1,Bool.false_and]
theorem Zze(p q:Ac)(m:Mem)(hp:RepA m p)(hq:RepA m q):CX Tryz.prog 82 #[.agg p.cs.toArray,.agg q.cs.toArray] m [] (Ret (.bool (Zqh p q))):=by
 apply Zf7
 intro b m1 aB _ b1 m2 aM _
 have bY:=mLt aB aM
 refine⟨Zqh p q,Zab (λh1=>Zab (λh2=>?_) (λh2=>⟨rfl,?_⟩)) (λh1=>⟨rfl,?_⟩),Zac bY rfl⟩
 ·refine Zae (ZBc 114 Zqg p.parts q.parts p.pa q.pa p.pc q.pc m2 (hp.row.mono bY) (hq.row.mono bY) hp.n λx hx y hy m' hm'=>Zzd x y m' ((hp.all x hx).mono (mLt bY hm')) ((hq.all y hy).mono (mLt bY hm'))) λm3 aY=>Zab (λh3=>?_) (λh3=>⟨rfl,?_⟩)
  ·refine Zae (ZlL p.e q.e m3 (hp.e.mono' (mLt bY aY)) (hq.e.mono' (mLt bY aY))) λm4 bP=>⟨rfl,?_⟩
   simp only[Zqh,eqS,h1,h2,h3,Bool.true_and]
  ·simp only[Zqh,eqS,h1,h2,h3,Bool.true_and,Bool.false_and]
 ·simp only[Zqh,eqS,h1,h2,Bool.true_and,Bool.false_and]
 ·simp only[Zqh,eqS,h1,Bool.false_and]
theorem Zum(p q:Ru)(m:Mem)(hp:RepR m p)(hq:RepR m q):CX Tryz.prog 47 #[.agg p.cs.toArray,.agg q.cs.toArray] m [] (Ret (.bool (ZgA p q))):=by
 apply Ziy
 intro b m1 aB _ b1 m2 aM _
 have bY:=mLt aB aM
 refine⟨ZgA p q,Zab (λh1=>Zab (λh2=>Zab (λh3=>?_) (λh3=>⟨rfl,?_⟩)) (λh2=>⟨rfl,?_⟩)) (λh1=>⟨rfl,?_⟩),Zac bY rfl⟩
 ·refine Zae (Zxi p.t q.t m2 (hp.t.mono bY) (hq.t.mono bY)) λm3 aY=>Zab (λh4=>Zab (λh5=>Zab (λh6=>?_) (λh6=>⟨rfl,?_⟩)) (λh5=>⟨rfl,?_⟩)) (λh4=>⟨rfl,?_⟩)
  ·have dM:=mLt bY aY
   refine Zae (ZBd 82 Zqh p.acts q.acts p.aa q.aa p.ac q.ac m3 (hp.row.mono dM) (hq.row.mono dM) hp.len λx hx y hy m' hm'=>Zze x y m' ((hp.all x hx).mono (mLt dM hm')) ((hq.all y hy).mono (mLt dM hm'))) λm4 bP=>Zab (λh7=>Zab (λh8=>⟨rfl,?_⟩) (λh8=>⟨rfl,?_⟩)) (λh7=>⟨rfl,?_⟩)
   ·simp only[ZgA,eqS,h1,h2,h3,h4,h5,h6,h7,h8,Bool.true_and]
   ·simp only[ZgA,eqS,h1,h2,h3,h4,h5,h6,h7,h8,Bool.true_and,Bool.false_and]
   ·simp only[ZgA,eqS,h1,h2,h3,h4,h5,h6,h7,Bool.true_and,Bool.false_and]
  ·simp only[ZgA,eqS,h1,h2,h3,h4,h5,h6,Bool.true_and,Bool.false_and]
  ·simp only[ZgA,eqS,h1,h2,h3,h4,h5,Bool.true_and,Bool.false_and]
  ·simp only[ZgA,eqS,h1,h2,h3,h4,Bool.true_and,Bool.false_and]
 ·simp only[ZgA,eqS,h1,h2,h3,Bool.true_and,Bool.false_and]
 ·simp only[ZgA,eqS,h1,h2,Bool.true_and,Bool.false_and]
 ·simp only[ZgA,eqS,h1,Bool.false_and]
theorem Zrr(p q:Ru)(m:Mem)(hp:RepR m p)(hq:RepR m q):CX Tryz.prog 17 #[.agg p.cs.toArray,.agg q.cs.toArray] m [] (Ret (.bool (ZhM p&&(ZhM q&&ZgA p q)))):=by
 apply Ziz
 intro b m1 aB _ b1 m2 aM _
 have bY:=mLt aB aM
 refine⟨ZhM p&&(ZhM q&&ZgA p q),Zai (ZBb p m2 (hp.mono bY)) Zul ?_,Zac bY rfl⟩
 rintro n a k c a1 k1 c1 m3 aY ⟨s,hv,hs,hl⟩
 obtain⟨rfl,rfl,rfl,rfl,rfl,rfl,rfl⟩:=by simpa[Sc.v,and_assoc]using hv
 have hL:=ZcH s m3 hs
 rw[hl]at hL
 refine Zae hL λm4 bP=>Zab (λh1=>?_) (λh1=>⟨rfl,by simp only[h1,Bool.false_and]⟩)
 have ib:=mLt bY (mLt aY bP)
 refine Zai (ZBb q m4 (hq.mono ib)) Zul ?_
 rintro n a k c a1 k1 c1 m5 cL ⟨s2,kV,kA,nY⟩
 obtain⟨rfl,rfl,rfl,rfl,rfl,rfl,rfl⟩:=by simpa[Sc.v,and_assoc]using kV
 have pG:=ZcH s2 m5 kA
 rw[nY]at pG
 refine Zae pG λm6 fR=>Zab (λh2=>?_) (λh2=>⟨rfl,by simp only[h1,h2,Bool.true_and,Bool.false_and]⟩)
 have iJ:=mLt ib (mLt cL fR)
 exact Zae (Zum p q m6 (hp.mono iJ) (hq.mono iJ)) λm7 i6=>⟨rfl,by simp only[h1,h2,Bool.true_and]⟩
theorem ZBe(cb:Nat)(f:Va->Va->Bool)(L R:List Va)(a b:Option Addr)(c d:Nat)(m:Mem)(h1:rowRd m a (L.map Va.cs).flatten)(h2:rowRd m b (R.map Va.cs).flatten)(hl:L.length<=few)(ja:∀x∈L,∀y∈R,∀m2,m.le m2->CX Tryz.prog cb #[.agg x.cs.toArray,.agg y.cs.toArray] m2 [] (Ret (.bool (f x y)))):
  CX Tryz.prog 52 #[.slice a L.length c,.slice b R.length d,.func (.func cb) #[] #[]] m [] (Ret (.bool (eqL f L R))):=by
 have hl:L.length<=100000:=hl
 apply Zd6 (p2fi:=[]) (p2ca:=[])
 refine Zae (x:=eqL f L R) ?_ λm1 aB=>Zac aB rfl
 apply ZaP (p2fi:=[]) (p2ca:=[])
 refine Zab (λdH=>Zac (Mem.le_refl m) ?_) (λheq=>?_)
 ·have:¬L.length=R.length:=λe=>by simp[e]at dH
  show Value.bool _=Value.bool _
  rw[Zko this]
 have heq:L.length=R.length:=by
  have:(L.length:Int)=R.length:=by simpa using heq
  omega
 refine⟨λxs css tvs m' q=>∃k:Nat,k<=L.length/\xs=[.int .i64 k]/\q=L.length - k/\m.le m'/\eqL f (L.take k) (R.take k)=true,⟨_,0,by omega,rfl,rfl,Mem.le_refl m,by simp[eqL]⟩,?_⟩
 rintro z m1 q _ ⟨k,hk,cQ,hq,aB,ht⟩
 obtain rfl:z=k:=by simpa using cQ
 refine Zab (λaO=>?_) (λbO=>?_)
 ·have aW:k < L.length:=by have:=zA6 aO;omega
  obtain⟨x,hx⟩:=Zas aW
  obtain⟨y,hy⟩:=Zas (l:=R) (k:=k) (by omega)
  obtain⟨b1,o1,gD,eM⟩:=Zaj Va.len h1 hx (by omega)
  obtain⟨b2,o2,iI,eX⟩:=Zaj Va.len h2 hy (by omega)
  have hw:IntKind.i64.wrap ((k:Int)+1)=((k+1:Nat):Int):=by rw[Zan (by omega) (by omega)];rfl
  refine⟨b1,o1,gD,⟨by omega,by omega⟩,_,_,_,_,eM.mono aB,λb3=>Zaa rfl ⟨b2,o2,iI,⟨by omega,by omega⟩,_,_,_,_,eX.mono aB,λb4=>Zaa rfl (Zae (ja x (zA2 hx) y (zA2 hy) m1 aB) λm2 aM=>Zab (λhf=>Zac (mLt aB aM) ?_) (λhf=>?_))⟩⟩
  ·have:f x y=false:=by simpa using hf
   show Value.bool _=Value.bool _
   rw[Zqf hx hy this]
  ·exact⟨L.length - (k+1),by omega,k+1,by omega,by rw[hw],rfl,mLt aB aM,Zgz hx hy ht (by simpa using hf)⟩
 ·have dK:k=L.length:=by have:=of_decide_eq_false bO;omega
  refine Zac aB ?_
  rw[dK,List.take_length,heq,List.take_length]at ht
  show Value.bool _=Value.bool _
  rw[ht]
theorem ZBf(cb:Nat)(f:Ru->Ru->Bool)(L R:List Ru)(a b:Option Addr)(c d:Nat)(m:Mem)(h1:rowRd m a (L.map Ru.cs).flatten)(h2:rowRd m b (R.map Ru.cs).flatten)(hl:L.length<=few)(ja:∀x∈L,∀y∈R,∀m2,m.le m2->CX Tryz.prog cb #[.agg x.cs.toArray,.agg y.cs.toArray] m2 [] (Ret (.bool (f x y)))):
  CX Tryz.prog 57 #[.slice a L.length c,.slice b R.length d,.func (.func cb) #[] #[]] m [] (Ret (.bool (eqL f L R))):=by
 have hl:L.length<=100000:=hl
 apply ZdT (p2fi:=[]) (p2ca:=[])
 refine Zae (x:=eqL f L R) ?_ λm1 aB=>Zac aB rfl
 apply ZaJ (p2fi:=[]) (p2ca:=[])
 refine Zab (λdH=>Zac (Mem.le_refl m) ?_) (λheq=>?_)
 ·have:¬L.length=R.length:=λe=>by simp[e]at dH
  show Value.bool _=Value.bool _
  rw[Zko this]
 have heq:L.length=R.length:=by
  have:(L.length:Int)=R.length:=by simpa using heq
  omega
 refine⟨λxs css tvs m' q=>∃k:Nat,k<=L.length/\xs=[.int .i64 k]/\q=L.length - k/\m.le m'/\eqL f (L.take k) (R.take k)=true,⟨_,0,by omega,rfl,rfl,Mem.le_refl m,by simp[eqL]⟩,?_⟩
 rintro z m1 q _ ⟨k,hk,cQ,hq,aB,ht⟩
 obtain rfl:z=k:=by simpa using cQ
 refine Zab (λaO=>?_) (λbO=>?_)
 ·have aW:k < L.length:=by have:=zA6 aO;omega
  obtain⟨x,hx⟩:=Zas aW
  obtain⟨y,hy⟩:=Zas (l:=R) (k:=k) (by omega)
  obtain⟨b1,o1,gD,eM⟩:=Zaj Ru.len h1 hx (by omega)
  obtain⟨b2,o2,iI,eX⟩:=Zaj Ru.len h2 hy (by omega)
  have hw:IntKind.i64.wrap ((k:Int)+1)=((k+1:Nat):Int):=by rw[Zan (by omega) (by omega)];rfl
  refine⟨b1,o1,gD,⟨by omega,by omega⟩,_,_,_,_,_,_,_,_,_,_,_,_,_,_,_,_,eM.mono aB,λb3=>Zaa rfl ⟨b2,o2,iI,⟨by omega,by omega⟩,_,_,_,_,_,_,_,_,_,_,_,_,_,_,_,_,eX.mono aB,λb4=>Zaa rfl (Zae (ja x (zA2 hx) y (zA2 hy) m1 aB) λm2 aM=>Zab (λhf=>Zac (mLt aB aM) ?_) (λhf=>?_))⟩⟩
  ·have:f x y=false:=by simpa using hf
   show Value.bool _=Value.bool _
   rw[Zqf hx hy this]
  ·exact⟨L.length - (k+1),by omega,k+1,by omega,by rw[hw],rfl,mLt aB aM,Zgz hx hy ht (by simpa using hf)⟩
 ·have dK:k=L.length:=by have:=of_decide_eq_false bO;omega
  refine Zac aB ?_
  rw[dK,List.take_length,heq,List.take_length]at ht
  show Value.bool _=Value.bool _
  rw[ht]
theorem ZBg(cb:Nat)(f:Sta->Sta->Bool)(L R:List Sta)(a b:Option Addr)(c d:Nat)(m:Mem)(h1:rowRd m a (L.map Sta.cs).flatten)(h2:rowRd m b (R.map Sta.cs).flatten)(hl:L.length<=few)(ja:∀x∈L,∀y∈R,∀m2,m.le m2->CX Tryz.prog cb #[.agg x.cs.toArray,.agg y.cs.toArray] m2 [] (Ret (.bool (f x y)))):
  CX Tryz.prog 55 #[.slice a L.length c,.slice b R.length d,.func (.func cb) #[] #[]] m [] (Ret (.bool (eqL f L R))):=by
 have hl:L.length<=100000:=hl
 apply Zdw (p2fi:=[]) (p2ca:=[])
 refine Zae (x:=eqL f L R) ?_ λm1 aB=>Zac aB rfl
 apply ZaD (p2fi:=[]) (p2ca:=[])
 refine Zab (λdH=>Zac (Mem.le_refl m) ?_) (λheq=>?_)
 ·have:¬L.length=R.length:=λe=>by simp[e]at dH
  show Value.bool _=Value.bool _
  rw[Zko this]
 have heq:L.length=R.length:=by
  have:(L.length:Int)=R.length:=by simpa using heq
  omega
 refine⟨λxs css tvs m' q=>∃k:Nat,k<=L.length/\xs=[.int .i64 k]/\q=L.length - k/\m.le m'/\eqL f (L.take k) (R.take k)=true,⟨_,0,by omega,rfl,rfl,Mem.le_refl m,by simp[eqL]⟩,?_⟩
 rintro z m1 q _ ⟨k,hk,cQ,hq,aB,ht⟩
 obtain rfl:z=k:=by simpa using cQ
 refine Zab (λaO=>?_) (λbO=>?_)
 ·have aW:k < L.length:=by have:=zA6 aO;omega
  obtain⟨x,hx⟩:=Zas aW
  obtain⟨y,hy⟩:=Zas (l:=R) (k:=k) (by omega)
  obtain⟨b1,o1,gD,eM⟩:=Zaj Sta.len h1 hx (by omega)
  obtain⟨b2,o2,iI,eX⟩:=Zaj Sta.len h2 hy (by omega)
  have hw:IntKind.i64.wrap ((k:Int)+1)=((k+1:Nat):Int):=by rw[Zan (by omega) (by omega)];rfl
  refine⟨b1,o1,gD,⟨by omega,by omega⟩,_,_,eM.mono aB,λb3=>Zaa rfl ⟨b2,o2,iI,⟨by omega,by omega⟩,_,_,eX.mono aB,λb4=>Zaa rfl (Zae (ja x (zA2 hx) y (zA2 hy) m1 aB) λm2 aM=>Zab (λhf=>Zac (mLt aB aM) ?_) (λhf=>?_))⟩⟩
  ·have:f x y=false:=by simpa using hf
   show Value.bool _=Value.bool _
   rw[Zqf hx hy this]
  ·exact⟨L.length - (k+1),by omega,k+1,by omega,by rw[hw],rfl,mLt aB aM,Zgz hx hy ht (by simpa using hf)⟩
 ·have dK:k=L.length:=by have:=of_decide_eq_false bO;omega
  refine Zac aB ?_
  rw[dK,List.take_length,heq,List.take_length]at ht
  show Value.bool _=Value.bool _
  rw[ht]
theorem Zzf(p q:Va)(m:Mem):CX Tryz.prog 53 #[.agg p.cs.toArray,.agg q.cs.toArray] m [] (Ret (.bool (Zle p q))):=by
 have hV:∀m,CX Tryz.prog 54 #[.agg #[.bool p.b,.string p.t,.float .f64 p.x],.agg #[.bool q.b,.string q.t,.float .f64 q.x]] m [] (Ret (.bool (p.b == q.b&&(eqS p.t q.t&&ZmO p.x q.x)))):=by
  intro m
  apply Zg6
  intro b m1 aB _ b1 m2 aM _
  have bY:=mLt aB aM
  refine⟨p.b == q.b&&(eqS p.t q.t&&ZmO p.x q.x),Zab (λh1=>Zab (λh2=>?_) (λh2=>⟨rfl,?_⟩)) (λh1=>⟨rfl,?_⟩),Zac bY rfl⟩
  ·refine Zae (ZoU p.x q.x m2) λm3 aY=>⟨rfl,?_⟩
   simp only[eqS,h1,h2,Bool.true_and]
  ·simp only[eqS,h1,h2,Bool.true_and,Bool.false_and]
  ·simp only[h1,Bool.false_and]
 apply Zme
 intro b m1 aB _ b1 m2 aM _
 have bY:=mLt aB aM
 refine⟨Zle p q,Zab (λh1=>?_) (λh1=>⟨rfl,?_⟩),Zac bY rfl⟩
 ·refine Zae (hV m2) λm3 aY=>⟨rfl,?_⟩
  simp only[Zle,eqS,h1,Bool.true_and]
 ·simp only[Zle,eqS,h1,Bool.false_and]
theorem Zzg(p q:Sta)(m:Mem)(hp:RepS m p)(hq:RepS m q):CX Tryz.prog 56 #[.agg p.cs.toArray,.agg q.cs.toArray] m [] (Ret (.bool (Zlf p q))):=by
 apply Zmf
 intro b m1 aB _ b1 m2 aM _
 have bY:=mLt aB aM
 refine⟨Zlf p q,Zab (λh1=>?_) (λh1=>⟨rfl,?_⟩),Zac bY rfl⟩
 ·refine Zae (ZBf 47 ZgA p.rules q.rules p.ra q.ra p.rc q.rc m2 (hp.row.mono bY) (hq.row.mono bY) hp.len λx hx y hy m' hm'=>Zum x y m' ((hp.all x hx).mono (mLt bY hm')) ((hq.all y hy).mono (mLt bY hm'))) λm3 aY=>⟨rfl,?_⟩
  simp only[Zlf,eqS,h1,Bool.true_and]
 ·simp only[Zlf,eqS,h1,Bool.false_and]
theorem Zrs(p q:Sc)(m:Mem)(hp:RepC m p)(hq:RepC m q):CX Tryz.prog 23 #[p.v,q.v] m [] (Ret (.bool (Zi9 p q))):=by
 apply Zrq
 intro b m1 aB _ b1 m2 aM _
 have bY:=mLt aB aM
 refine⟨Zi9 p q,Zae (ZcH p m2 (hp.mono bY)) λm3 aY=>Zab (λh1=>?_) (λh1=>⟨rfl,by simp only[Zi9,h1,Bool.false_and]⟩),Zac bY rfl⟩
 refine Zae (ZcH q m3 (hq.mono (mLt bY aY))) λm4 bP=>Zab (λh2=>Zab (λh3=>?_) (λh3=>⟨rfl,by simp only[Zi9,h1,h2,h3,Bool.true_and,Bool.false_and]⟩)) (λh2=>⟨rfl,by simp only[Zi9,h1,h2,Bool.true_and,Bool.false_and]⟩)
 have ib:=mLt bY (mLt aY bP)
 refine Zae (ZBe 53 Zle p.vars q.vars p.va q.va p.vc q.vc m4 (hp.mono ib).vrow (hq.mono ib).vrow hp.vlen λx _ y _ m' _=>Zzf x y m') λm5 cL=>Zab (λh4=>?_) (λh4=>⟨rfl,by simp only[Zi9,h1,h2,h3,h4,Bool.true_and,Bool.false_and]⟩)
 have ko:=mLt ib cL
 refine Zae (ZBg 56 Zlf p.states q.states p.sa q.sa p.sc q.sc m5 (hp.mono ko).row (hq.mono ko).row hp.len λx hx y hy m' hm'=>Zzg x y m' ((hp.all x hx).mono (mLt ko hm')) ((hq.all y hy).mono (mLt ko hm'))) λm6 fR=>⟨rfl,?_⟩
 simp only[Zi9,h1,h2,h3,h4,Bool.true_and]
end Go.Proofs.YtojlhhphofhaoaaGreatDoor
end
