/- Part of the proof: functions of the program. No condition. -/
import Derived.Test.YtpjepnkiiojgfaaGreatPEnv
import Derived.Test.YtpjepnkiiojgfaaGreatMr
import Derived.Test.YtpjepnkiiojgfaaGreatMc
import Derived.Laws.StructEq
import Derived.Laws.Tables
import Derived.Laws.Cover2
import Derived.Test.YtpjepnkiiojgfaaGreatPVEA
import Derived.Laws.Externs
set_option linter.unusedVariables false
set_option linter.unusedSimpArgs false
set_option linter.unusedSectionVars false
noncomputable section
namespace Go.Proofs.YtpjepnkiiojgfaaGreat
open Go Go.Eng Go.Proofs Go.RowKit
open Go.Value (int slice agg bool string tuple func)
open Go.IntKind (u8 u64 i64)
set_option maxRecDepth 100000
def ZpS:Env:={ EB with
 frzNew:=[1] }
theorem Zop(aA aD aF aE bA bB bC:Int)(aX:Option Addr)(aU bK:Nat)(m:Mem)(R:RT)(h:
 fzM m [int u8 aA,int u64 aD,int u64 aF,int u64 aE,int u64 bA,int i64 bB,int i64 bC,slice aX aU bK] λb m'=>rtM m m' R (func (Fn.func 133) (Array.mk []) (Array.mk [Value.pointer (some (Addr.mk b 0
 none))]))):CX Tryz.prog 93 #[.agg #[.int .u8 aA,.int .u64 aD,.int .u64 aF,.int .u64 aE,.int .u64 bA,.int .i64 bB,.int .i64 bC,.slice aX aU bK]] m [] R:=
 Zad (E:=ZpS) Zap mix Tryz.func93 (by kernel_rfl) (Eq.mp (by kernel_rfl) h)
def ZlN:Env:={ EB with
 loops:=swI nLa [(3,⟨[(13,.int .i64)],[],[],true⟩),(7,⟨[(19,.agg [.int .u8,.int .u64,.int .u64,.int .u64,.int .u64,.int .i64,.int .i64,.slice])],[],[],true⟩)]
 frzNew:=[2] }
theorem ZjF(p0g:Nat)(p0fi p0ca:List Value)(c0b c0o:Nat)(m:Mem)(xs:List (List Value))(h:
 ∀(l:Nat),lE (↑(xs.length):Int) λyL=>lV [func (Fn.yield l) (Array.mk []) (Array.mk [])] λxL=>fzM m xL λb m'=>∃v v_1 v_2 v_3 v_4 v_5 v_6 v_7:Value,lV [v,v_1,v_2,v_3,v_4,v_5,v_6,v_7] λxL_1=>lE
 [some (Box.mk b xL 127 1 true true)] λxL=>m'.reads c0b c0o xL_1/\(l=l/\(0:Int)<=0/\List.get?Internal xs (Int.toNat (0:Int))=some [agg (.mk xL_1)])/\(∃(v:Value),m' c0b (c0o+7)=some v/\chk (ZbQ v) (∃I,
 inI I [int i64 ((0:Int)+1),int i64 0] [] [] m'/\∀y n m'_1 (n_1:Nat),m'.le m'_1->I [int i64 y,int i64 n] [] [] m'_1 n_1->br (decide (n < (↑(slN v):Int))) (chk (ZbQ v) (atA (slA v) λb o=>Zae n (slN v)/\∃v
 v_8 v_9 v_10 v_11 v_12 v_13 v_14:Value,lV [v,v_8,v_9,v_10,v_11,v_12,v_13,v_14] λxL_2=>m'_1.reads b (o+Int.toNat n*8) xL_2/\∀b,lE (some (Box.mk b xL_2 42 8 false true)::xL) λxL_3=>chk (v.oneCell' &&
 (v_8.oneCell'&&(v_9.oneCell'&&(v_10.oneCell'&&(v_11.oneCell'&&(v_12.oneCell'&&(v_13.oneCell'&&(v_14.oneCell'&&true)))))))) (kF pG 93 [agg (.mk xL_2)] m'_1 λg fi ca m'=>∃(xs_1:List (List Value)),IX pG g fi ca
 m' xs_1/\(∀(x:List Value),x∈xs_1->Shape.fitsL [shT] x=true)/\∃(I_1:IT),I_1 [int i64 y] [] [] m' 0/\(∀y n n_2 n_3 n_4 n_5 n_6 n_7 a n_8 c m'_2 (n_9:Nat),lE (some [agg (.mk [int u8 n,int u64 n_2,int u64 n_3,
 int u64 n_4,int u64 n_5,int i64 n_6,int i64 n_7,slice a n_8 c])]) λyL_1=>m'.le m'_2->List.get?Internal xs_1 n_9=yL_1->I_1 [int i64 y] [] [] m'_2 n_9->∀(b:Nat),(l=l/\(0:Int)<=y/\List.get?Internal xs
 (Int.toNat y)=yL_1)/\(Zac xL_3/\I_1 [int i64 (y+1)] [] [] m'_2 (n_9+1))/\Zac xL_3/\((-1:Int)=yL\/(-1:Int)=(-1:Int)))/\∀y m'_2,m'.le m'_2->I_1 [int i64 y] [] [] m'_2 (xs_1.length)->Zac xL/\nxI
 n_1 I [int i64 y,int i64 (i64.wrap (n+1))] [] [] m'_2))) (y=yL\/y=(-1:Int))))/\((-1:Int)=yL\/(-1:Int)=(-1:Int))):IX Tryz.prog 133 [] [.pointer (some ⟨c0b,c0o,none⟩)] m xs:=
 Zi9 (E:=ZlN) Zap mix Tryz.func133 _ _ _ (by kernel_rfl) (Eq.mp (by kernel_rfl) h)
def ZpT:Env:={ EB with
 loops:=swI nLa [(3,⟨[(6,.agg [.int .u8,.int .u64,.int .u64,.int .u64,.int .u64,.int .i64,.int .i64,.slice])],[3],[],false⟩)]
 frzNew:=[1] }
theorem Zoq(aA aD aF aE bA bB bC:Int)(aX:Option Addr)(aU bK:Nat)(m:Mem)(R:RT)(h:
 lV [int u8 aA,int u64 aD,int u64 aF,int u64 aE,int u64 bA,int i64 bB,int i64 bC,slice aX aU bK] λxL=>fzM m xL λb m'=>∀b_1,lE [some (Box.mk b_1 [] 3 1 false true),some (Box.mk b xL 42 8
 true true)] λxL_1=>kF pG 93 [agg (.mk xL)] m' λg fi ca m'=>∃(xs:List (List Value)),IX pG g fi ca m' xs/\(∀(x:List Value),x∈xs->Shape.fitsL [shT] x=true)/\∃(I:IT),I [] [[int i64 0]] [] m' 0/\(∀n n_1
 n_2 n_3 n_4 n_5 n_6 a n_7 c (cs:List Value) m'_1 (n_8:Nat),m'.le m'_1->List.get?Internal xs n_8=some [agg (.mk [int u8 n,int u64 n_1,int u64 n_2,int u64 n_3,int u64 n_4,int i64 n_5,int i64 n_6,slice a n_7 c])]->I
 [] [cs] [] m'_1 n_8->Eng.Ztz cs 0 λv=>lE (i64.wrap (RowKit.intOf v+1)) λyL=>chk (Zbb i64 v&&decide (i64=i64)) (br (decide (yL > 10000)) (Zac xL_1/\rtM m m'_1 R (bool (decide (yL<=10000)))) (Zac xL_1/\I
 [] [[int i64 yL]] [] m'_1 (n_8+1))))/\∀(cs:List Value) m'_1,m'.le m'_1->I [] [cs] [] m'_1 (xs.length)->Eng.Ztz cs 0 λv=>chk (Zbb i64 v&&decide (i64=i64)) (rtM m m'_1 R (bool (decide (RowKit.intOf v<=10000))))):CX Tryz.prog 59 #[.agg #[.int .u8 aA,.int .u64 aD,.int .u64 aF,.int .u64 aE,.int .u64 bA,.int .i64 bB,.int .i64 bC,.slice aX aU bK]] m [] R:=
 Zad (E:=ZpT) Zap mix Tryz.func59 (by kernel_rfl) (Eq.mp (by kernel_rfl) h)
def Zs1:Env:={ EB with
 loops:=swI nLa [(5,⟨[(9,.agg [.int .u8,.int .u64,.int .u64,.int .u64,.int .u64,.int .i64,.int .i64,.slice])],[3],[],false⟩)]
 frzNew:=[1] }
theorem ZpU(aA aD aF aE bA bB bC:Int)(aX:Option Addr)(aU bK:Nat)(m:Mem)(R:RT)(h:
 lV [int u8 aA,int u64 aD,int u64 aF,int u64 aE,int u64 bA,int i64 bB,int i64 bC,slice aX aU bK] λxL=>fzM m xL λb m'=>kB pG 59 [agg (.mk xL)] m' λb_1 m'=>br (!b_1) (rtM m m' R (int i64
 10001)) (∀b_2,kF pG 93 [agg (.mk xL)] m' λg fi ca m'=>∃(xs:List (List Value)),IX pG g fi ca m' xs/\(∀(x:List Value),x∈xs->Shape.fitsL [shT] x=true)/\∃(I:IT),I [] [[int i64 0]] [] m' 0/\(∀n n_1 n_2 n_3
 n_4 n_5 n_6 a n_7 c (cs:List Value) m'_1 (n_8:Nat),m'.le m'_1->List.get?Internal xs n_8=some [agg (.mk [int u8 n,int u64 n_1,int u64 n_2,int u64 n_3,int u64 n_4,int i64 n_5,int i64 n_6,slice a n_7 c])]->I [] [cs]
 [] m'_1 n_8->Eng.Ztz cs 0 λv=>chk (Zbb i64 v&&decide (i64=i64)) (Zac [some (Box.mk b_2 [] 3 1 false true),some (Box.mk b xL 42 8 true true)]/\I [] [[int i64 (i64.wrap (RowKit.intOf v+1))]] [] m'_1 (n_8+1)))/\
 ∀(cs:List Value) m'_1,m'.le m'_1->I [] [cs] [] m'_1 (xs.length)->Eng.Ztz cs 0 λv=>rtM m m'_1 R v)):CX Tryz.prog 58 #[.agg #[.int .u8 aA,.int .u64 aD,.int .u64 aF,.int .u64 aE,.int .u64 bA,.int .i64 bB,.int .i64 bC,.slice aX aU bK]] m [] R:=
 Zad (E:=Zs1) Zap mix Tryz.func58 (by kernel_rfl) (Eq.mp (by kernel_rfl) h)
def ZaR:Env:={ EB with
 loops:=swI nLa [(4,⟨[(17,.int .i64)],[],[],false⟩)] }
theorem ZaO(p0a:Option Addr)(p0n p0c:Nat)(p1a:Option Addr)(p1n p1c p2g:Nat)(p2fi p2ca:List Value)(m:Mem)(R:RT)(h:
 br (!(↑p0n:Int) == (↑p1n:Int)) (rtM m m R (bool false)) (∃I,inI I [int i64 0] [] [] m/\∀n m' (n_1:Nat),m.le m'->I [int i64 n] [] [] m' n_1->br (decide (n < (↑p0n:Int))) (atA p0a λb o=>Zae n p0n/\∃v v_1
 v_2 v_3 v_4 v_5 v_6 v_7:Value,lV [v,v_1,v_2,v_3,v_4,v_5,v_6,v_7] λxL=>m'.reads b (o+Int.toNat n*8) xL/\∀(b:Nat),chk (v.oneCell'&&(v_1.oneCell'&&(v_2.oneCell'&&(v_3.oneCell'&&(v_4.oneCell' &&
 (v_5.oneCell'&&(v_6.oneCell'&&(v_7.oneCell'&&true)))))))) (atA p1a λb o=>Zae n p1n/\∃v v_8 v_9 v_10 v_11 v_12 v_13 v_14:Value,lV [v,v_8,v_9,v_10,v_11,v_12,v_13,v_14] λxL_1=>m'.reads b (o+Int.toNat
 n*8) xL_1/\∀(b:Nat),chk (v.oneCell'&&(v_8.oneCell'&&(v_9.oneCell'&&(v_10.oneCell'&&(v_11.oneCell'&&(v_12.oneCell'&&(v_13.oneCell'&&(v_14.oneCell'&&true)))))))) (kB pG p2g (List.append (List.append p2fi [agg
 (.mk xL),agg (.mk xL_1)]) p2ca) m' λb m'=>br (!b) (rtM m m' R (bool false)) (nxI n_1 I [int i64 (i64.wrap (n+1))] [] [] m')))) (rtM m m' R (bool true)))):CX Tryz.prog 158 #[.slice p0a p0n p0c,.slice p1a p1n p1c,.func (.func p2g) p2fi.toArray p2ca.toArray] m [] R:=
 Zad (E:=ZaR) Zap mix Tryz.func158 (by kernel_rfl) (Eq.mp (by kernel_rfl) h)
def Zs2:Env:={ EB with
 joins:=swI none [(1,some [(4,.bool)])]
 frzNew:=[2,3] }
theorem ZpV(aA aD aF aE bA bB bC:Int)(aX:Option Addr)(aU bK:Nat)(bM cA cD cF dK dM dN:Int)(du:Option Addr)(dv dw:Nat)(m:Mem)(R:RT)(h:
 lV [int u8 aA,int u64 aD,int u64 aF,int u64 aE,int u64 bA,int i64 bB,int i64 bC,slice aX aU bK] λxL=>lV [int u8 bM,int u64 cA,int u64 cD,int u64 cF,int u64 dK,int i64 dM,int i64
 dN,slice du dv dw] λxL_1=>fzM m xL λb m'=>lE [some (Box.mk b xL 42 8 true true)] λxL=>fzM m' xL_1 λb m'=>∃(b_1:Bool),lV [bool b_1] λxL_2=>lE (some (Box.mk b xL_1 42 8 true true)::xL) fun
 xL=>br (aA == bM) (∃(b:Bool),EqIs pG 39 (agg (.mk [int u64 aD,int u64 aF,int u64 aE,int u64 bA])) (agg (.mk [int u64 cA,int u64 cD,int u64 cF,int u64 dK])) b/\br b (br (bB == dM) (br (bC ==
 dN) (kB pG 158 [slice aX aU bK,slice du dv dw,func (Fn.func 136) (Array.mk []) (Array.mk [])] m' λb m'=>Zac xL/\[bool b]=xL_2) (Zac xL/\[bool false]=xL_2)) (Zac xL/\[bool false]=xL_2))
 (Zac xL/\[bool false]=xL_2)) (Zac xL/\[bool false]=xL_2)/\rtM m m' R (bool b_1)):CX Tryz.prog 136 #[.agg #[.int .u8 aA,.int .u64 aD,.int .u64 aF,.int .u64 aE,.int .u64 bA,.int .i64 bB,.int .i64 bC,.slice aX aU bK],.agg #[.int .u8 bM,.int .u64 cA,.int .u64 cD,.int .u64 cF,.int .u64 dK,.int .i64 dM,.int .i64 dN,.slice du dv dw]] m [] R:=
 Zad (E:=Zs2) Zap mix Tryz.func136 (by kernel_rfl) (Eq.mp (by kernel_rfl) h)
def Zs3:Env:={ EB with
 joins:=swI none [(1,some [(4,.bool)])]
 frzNew:=[2,3] }
theorem ZpW(aA aD aF aE bA bB bC:Int)(aX:Option Addr)(aU bK:Nat)(bM cA cD cF dK dM dN:Int)(du:Option Addr)(dv dw:Nat)(m:Mem)(R:RT)(h:
 lV [int u8 aA,int u64 aD,int u64 aF,int u64 aE,int u64 bA,int i64 bB,int i64 bC,slice aX aU bK] λxL=>lV [int u8 bM,int u64 cA,int u64 cD,int u64 cF,int u64 dK,int i64 dM,int i64
 dN,slice du dv dw] λxL_1=>fzM m xL λb m'=>lE [some (Box.mk b xL 42 8 true true)] λxL_2=>fzM m' xL_1 λb m'=>∃(b_1:Bool),lE (some (Box.mk b xL_1 42 8 true true)::xL_2) λxL_3=>(kB pG 59 [agg
 (.mk xL)] m' λb m'=>br b (kB pG 59 [agg (.mk xL_1)] m' λb m'=>br b (kB pG 136 [agg (.mk xL),agg (.mk xL_1)] m' λb m'=>Zac xL_3/\[bool b]=[bool b_1]) (Zac xL_3/\[bool false]=[bool b_1])) (Zac xL_3/\
 [bool false]=[bool b_1]))/\rtM m m' R (bool b_1)):CX Tryz.prog 100 #[.agg #[.int .u8 aA,.int .u64 aD,.int .u64 aF,.int .u64 aE,.int .u64 bA,.int .i64 bB,.int .i64 bC,.slice aX aU bK],.agg #[.int .u8 bM,.int .u64 cA,.int .u64 cD,.int .u64 cF,.int .u64 dK,.int .i64 dM,.int .i64 dN,.slice du dv dw]] m [] R:=
 Zad (E:=Zs3) Zap mix Tryz.func100 (by kernel_rfl) (Eq.mp (by kernel_rfl) h)
end Go.Proofs.YtpjepnkiiojgfaaGreat
namespace Go.Proofs.YtpjepnkiiojgfaaGreat
open Go Go.Eng Go.Rx Go.Proofs Go.RowKit
set_option maxRecDepth 100000
theorem ZmE(t:T)(m:Mem):CX Tryz.prog 93 #[t.v] m [] (λv m' _=>∃b,v=.func (.func 133) #[] #[.pointer (some ⟨b,0,none⟩)]/\m'.reads b 0 t.cs):=by
 apply Zop
 intro b m' hm hb
 exact⟨m',hm,Mem.le_refl _,b,rfl,hb⟩
theorem ZjG(t:T)(m:Mem)(c0b:Nat)(cz:m.reads c0b 0 t.cs)(dp:Rep m t):IX Tryz.prog 133 [] [.pointer (some ⟨c0b,0,none⟩)] m (t.nodes.map λx=>[x.v]):=by
 apply ZjF 0 [] [] c0b 0
 intro l b m' hm hb
 have fI:=cz.mono hm
 refine⟨_,_,_,_,_,_,_,_,fI,⟨rfl,by omega,?_⟩,?_,.inr rfl⟩
 ·rw[Zcv];rfl
 refine⟨t.sl,fI 7 _ rfl,Zaa rfl ?_⟩
 refine⟨λxs _ _ m'' q=>∃i:Nat,i<=t.subs.length/\xs=[.int .i64 ((1+(ZaI (t.subs.take i)).length:Nat):Int),.int .i64 i]/\m'.le m''/\q=t.subs.length - i,⟨t.subs.length,0,by omega,?_,Mem.le_refl _,by omega⟩,?_⟩
 ·simp[ZaI]
 rintro y n m2 q aK ⟨i,hi,cC,eu,hq⟩
 simp only[List.cons.injEq,Value.int.injEq,true_and,and_true]at cC
 obtain⟨rfl,rfl⟩:=cC
 have aH:slN t.sl=t.subs.length:=rfl
 rw[aH]
 refine Zab (λaB=>?_) (λbO=>?_)
 ·have aJ:i < t.subs.length:=by simpa using aB
  obtain⟨x,hx⟩:∃x,t.subs[i]?=some x:=⟨_,zA3 aJ⟩
  have cJ:x∈t.subs:=zA2 hx
  have bJ:=Zso cJ
  obtain⟨mO,h0|⟨b1,o1,ha,dU⟩⟩:=Ziu dp
  ·rw[h0]at aJ;simp at aJ
  obtain⟨dd,dz⟩:=(dU.mono ((mLt hm eu))).get hx
  refine Zaa rfl ⟨b1,o1,ha,⟨by omega,by omega⟩,_,_,_,_,_,_,_,_,dd,λb2=>Zaa rfl ?_⟩
  refine⟨_,trivial,ZmE x m2,λv m' css h=>?_,?_⟩
  ·obtain⟨b3,rfl,_⟩:=h;rfl
  rintro g fi ca m3 aR ⟨b3,hv,eZ⟩
  obtain⟨rfl,rfl,rfl⟩:=Zcu hv
  refine⟨_,ZjG x m3 b3 eZ (dz.mono aR),λy hy=>?_,?_⟩
  ·obtain⟨z,_,rfl⟩:=List.mem_map.1 hy;exact ZuZ z
  refine⟨λxs _ _ m'' q=>q<=x.nodes.length/\xs=[.int .i64 ((1+(ZaI (t.subs.take i)).length+q:Nat):Int)]/\m3.le m'',⟨Nat.zero_le _,rfl,Mem.le_refl _⟩,?_,?_⟩
  ·rintro y n0 n1 n2 n3 n4 n5 n6 a n7 c m4 q cE hq ⟨gB,hy,_⟩ b4
   simp only[List.cons.injEq,Value.int.injEq,true_and,and_true]at hy
   subst hy
   have hq':(List.map (λz:T=>[z.v]) x.nodes)[(q:Nat)]?=some [Value.agg #[.int .u8 n0,.int .u64 n1,.int .u64 n2,.int .u64 n3,.int .u64 n4,.int .i64 n5,.int .i64 n6,.slice a n7 c]]:=hq
   rw[List.getElem?_map]at hq'
   obtain⟨z,hz,gF⟩:=Option.map_eq_some_iff.1 hq'
   have pb:q < x.nodes.length:=(zA0 hz).1
   refine⟨⟨rfl,by omega,?_⟩,⟨rfl,by omega,?_,cE⟩,rfl,.inr rfl⟩
   ·rw[zA8]
    show(t.nodes.map λx=>[x.v])[1+(ZaI (t.subs.take i)).length+q]?=_
    rw[List.getElem?_map,ZuY hx hz,<-gF];rfl
   ·congr 2
  ·rintro y m4 cE ⟨gB,hy,_⟩
   simp only[List.cons.injEq,Value.int.injEq,true_and,and_true]at hy
   subst hy
   refine⟨rfl,t.subs.length - (i+1),by omega,i+1,by omega,?_,mLt eu (mLt aR cE),rfl⟩
   rw[Zal (by omega) (by omega),ZnC hx,zA1]
   simp[T.v,Nat.add_assoc]
 ·have hi':i=t.subs.length:=by
   have:¬((i:Int) < (t.subs.length:Int)):=by simpa using bO
   omega
  subst hi'
  left
  rw[List.take_length,Zcv]
  simp
  omega
termination_by SizeOf.sizeOf t
decreasing_by exact bJ
theorem ZhB(t:T)(m:Mem)(hr:Rep m t):CX Tryz.prog 59 #[t.v] m [] (Ret (.bool t.light)):=by
 apply Zoq
 intro b m1 aG _ b2
 refine Zan (ZmE t m1) (λv m' css h=>by obtain⟨_,rfl,_⟩:=h;rfl) ?_
 rintro g fi ca m2 aK ⟨b3,hv,eZ⟩
 obtain⟨rfl,rfl,rfl⟩:=Zcu hv
 have cy:=mLt aG aK
 refine⟨_,ZjG t m2 b3 eZ (hr.mono cy),λy hy=>?_,λ_ css _ m' q=>css=[[.int .i64 q]]/\q<=10000/\q<=t.nodes.length,⟨rfl,by omega,by omega⟩,?_,?_⟩
 ·obtain⟨z,_,rfl⟩:=List.mem_map.1 hy;exact ZuZ z
 ·rintro n0 n1 n2 n3 n4 n5 n6 a n7 c cs m3 q aR hq ⟨bX,gB,_⟩
  obtain rfl:cs=[.int .i64 q]:=by simpa using bX
  have aB:q < t.nodes.length:=by
   have:=(zA0 (show(List.map (λz:T=>[z.v]) t.nodes)[(q:Nat)]?=some _ from hq)).1
   simpa using this
  refine Zam rfl (Zaa rfl ?_)
  have hw:IntKind.i64.wrap (RowKit.intOf (Value.int .i64 (q:Int))+1)=(q:Int)+1:=Zal (n:=(q:Int)+1) (by omega) (by omega)
  simp only[hw]
  refine Zab (λh=>⟨by trivial,Zaf (mLt cy aR) ?_⟩) (λh=>⟨by trivial,?_,?_,by omega⟩)
  ·have:((q:Int)+1 > 10000):=by simpa using h
   simp[Ret,T.light];omega
  ·simp
  ·have:¬((q:Int)+1 > 10000):=by simpa using h
   omega
 ·rintro cs m3 aR ⟨bX,gB,_⟩
  obtain rfl:cs=[.int .i64 t.nodes.length]:=by simpa using bX
  refine Zam rfl (Zaa rfl (Zaf (mLt cy aR) ?_))
  show Value.bool (decide ((t.nodes.length:Int)<=10000))=Value.bool t.light
  congr 1
  rw[T.light,decide_eq_decide];omega
end Go.Proofs.YtpjepnkiiojgfaaGreat
namespace Go.Proofs.YtpjepnkiiojgfaaGreat
open Go Go.Eng Go.Proofs Go.RowKit
theorem ZeD{P:Program}{T:TypeId}(hg:P.eqGuardType P.depth T=false)(op:BinOp)(ox oy:Operand)(xs ys:Array Value)(w:World):(eqGuard op T ox oy (.agg xs) (.agg ys)).run P w=.ok () w:=by
 unfold eqGuard
 have h1:(P.eqGuardType P.depth T)=true->False:=λh=>by rw[hg]at h;cases h
 split
 ·simp[go_sem];exact λh=>(h1 h).elim
 ·simp[go_sem];exact λh=>(h1 h).elim
 ·simp
theorem ZzY(a b c d a' b' c' d':Int):EqIs Tryz.prog 39 (.agg #[.int .u64 a,.int .u64 b,.int .u64 c,.int .u64 d]) (.agg #[.int .u64 a',.int .u64 b',.int .u64 c',.int .u64 d']) (a == a'&&b == b'&&c == c'&&d == d'):=by
 refine⟨λw=>?_,λop ox oy w=>ZeD (by kernel_rfl) op ox oy _ _ w⟩
 have u3:=Tryz.underlying37
 have a3:=Tryz.isAgg37
 have z3:=Tryz.sizeOf37
 rw[Op.equal,Op.maxDepth,show(10000:Nat)=9999+1 from rfl,Op.equalIn]
 simp only[Sem.run_bind,run_underlying Tryz.underlying39,Result.andThen_ok]
 simp only[Std.Legacy.Range.forIn_eq_forIn_range',Std.Legacy.Range.size,Nat.sub_zero,Nat.add_sub_cancel,Nat.div_one,List.range'_succ,List.range'_zero,List.forIn_cons,List.forIn_nil]
 go_simp
 by_cases h1:a=a' <;> by_cases h2:b=b' <;> by_cases h3:c=c' <;> by_cases h4:d=d' <;> simp[h1,h2,h3,h4]
end Go.Proofs.YtpjepnkiiojgfaaGreat
namespace Go.Proofs.YtpjepnkiiojgfaaGreat
open Go Go.Eng Go.Rx Go.Proofs Go.RowKit
set_option maxRecDepth 100000
theorem Zuo(t:T)(m:Mem)(hr:Rep m t):CX Tryz.prog 58 #[t.v] m [] (Ret (.int .i64 t.size)):=by
 apply ZpU
 intro b m1 aG _
 refine Zah (ZhB t m1 (hr.mono aG)) λm2 aK=>Zab (λh=>Zaf (mLt aG aK) ?_) (λh=>?_)
 ·have:t.light=false:=by simpa using h
  simp[Ret,T.size,this]
 have hl:t.light=true:=by simpa using h
 have su:t.nodes.length<=10000:=zA6 hl
 intro b2
 refine Zan (ZmE t m2) (λv m' css h=>by obtain⟨_,rfl,_⟩:=h;rfl) ?_
 rintro g fi ca m3 aR ⟨b3,hv,eZ⟩
 obtain⟨rfl,rfl,rfl⟩:=Zcu hv
 have cy:=mLt aG (mLt aK aR)
 refine⟨_,ZjG t m3 b3 eZ (hr.mono cy),λy hy=>?_,λ_ css _ m' q=>css=[[.int .i64 q]]/\q<=t.nodes.length,⟨rfl,by omega⟩,?_,?_⟩
 ·obtain⟨z,_,rfl⟩:=List.mem_map.1 hy;exact ZuZ z
 ·rintro n0 n1 n2 n3 n4 n5 n6 a n7 c cs m4 q cE hq ⟨bX,_⟩
  obtain rfl:cs=[.int .i64 q]:=by simpa using bX
  have aB:q < t.nodes.length:=by
   have:=(zA0 (show(List.map (λz:T=>[z.v]) t.nodes)[(q:Nat)]?=some _ from hq)).1
   simpa using this
  have hw:IntKind.i64.wrap (RowKit.intOf (Value.int .i64 (q:Int))+1)=(q:Int)+1:=Zal (n:=(q:Int)+1) (by omega) (by omega)
  refine Zam rfl (Zaa rfl ?_)
  simp only[hw]
  exact⟨by trivial,by simp,by omega⟩
 ·rintro cs m4 cE ⟨bX,gB⟩
  obtain rfl:cs=[.int .i64 t.nodes.length]:=by simpa using bX
  refine Zam rfl (Zaf (mLt cy cE) ?_)
  simp[Ret,T.size,hl]
theorem ZlO(l l':List T)(a a':Option Addr)(c c':Nat)(m:Mem)(hl:l.length<=1000000000000000)(hr:l=[]\/∃b o,a=some ⟨b,o,none⟩/\RepAt m b o l)(hr':l'=[]\/∃b o,a'=some ⟨b,o,none⟩/\RepAt m b o l')
  (hp:∀x∈l,∀y∈l',∀m',m.le m'->Rep m' x->Rep m' y->CX Tryz.prog 136 #[x.v,y.v] m' [] (Ret (.bool (x.same y)))):
  CX Tryz.prog 158 #[.slice a l.length c,.slice a' l'.length c',.func (.func 136) #[] #[]] m [] (Ret (.bool (Zdu l l'))):=by
 apply ZaO a l.length c a' l'.length c' _ [] []
 refine Zab (λh=>Zaf (Mem.le_refl _) ?_) (λh=>?_)
 ·have:¬l.length=l'.length:=by
   intro e;rw[e]at h;simp at h
  show Value.bool false=_
  rw[ZnD this]
 have fV:l.length=l'.length:=by
  have h2:((l.length:Int) == (l'.length:Int))=true:=by simpa using h
  have:=zA6 h2;omega
 refine⟨λxs _ _ m'' q=>∃i:Nat,i<=l.length/\xs=[.int .i64 i]/\Zdu (l.take i) (l'.take i)=true/\m.le m''/\q=l.length - i,⟨l.length,0,by omega,rfl,by simp[Zdu],Mem.le_refl _,by omega⟩,?_⟩
 rintro n m' q hm ⟨i,hi,hn,df,cy,hq⟩
 obtain rfl:n=i:=by simpa using hn
 refine Zab (λaB=>?_) (λbO=>?_)
 ·have aJ:i < l.length:=by simpa using aB
  obtain⟨x,hx⟩:∃x,l[i]?=some x:=⟨_,zA3 aJ⟩
  obtain⟨y,hy⟩:∃y,l'[i]?=some y:=⟨_,zA3 (by omega)⟩
  have ld:x∈l:=zA2 hx
  have sw:y∈l':=zA2 hy
  rcases hr with h0|⟨b1,o1,ha,dU⟩
  ·rw[h0]at aJ;simp at aJ
  rcases hr' with h0|⟨b2,o2,ha',mP⟩
  ·rw[h0]at fV;simp at fV;rw[fV]at aJ;simp at aJ
  obtain⟨dd,dz⟩:=(dU.mono hm).get hx
  obtain⟨gk,jF⟩:=(mP.mono hm).get hy
  refine⟨b1,o1,ha,⟨by omega,by omega⟩,_,_,_,_,_,_,_,_,dd,λb3=>Zaa rfl ⟨b2,o2,ha',⟨by omega,by omega⟩,_,_,_,_,_,_,_,_,gk,λb4=>Zaa rfl ?_⟩⟩
  refine Zah (hp x ld y sw m' hm dz jF) λm1 aG=>Zab (λjf=>?_) (λjf=>?_)
  ·have hf:x.same y=false:=by simpa using jf
   refine Zaf (mLt hm aG) ?_
   show Value.bool false=_
   rw[ZqB hx hy hf]
  ·have hf:x.same y=true:=by simpa using jf
   refine⟨l.length - (i+1),by omega,i+1,by omega,by rw[Zal (by omega) (by omega)];rfl,ZkB hx hy df hf trivial,mLt hm aG,rfl⟩
 ·have hi':i=l.length:=by
   have:¬((i:Int) < (l.length:Int)):=by simpa using bO
   omega
  subst hi'
  refine Zaf hm ?_
  rw[List.take_length,fV,List.take_length]at df
  show Value.bool true=_
  rw[df]
theorem Zup(t u:T)(m:Mem)(hr:Rep m t)(hu:Rep m u):CX Tryz.prog 136 #[t.v,u.v] m [] (Ret (.bool (t.same u))):=by
 apply ZpV
 intro b m1 aG _ b' m2 aK _
 have hm:=mLt aG aK
 refine⟨t.same u,?_,Zaf hm rfl⟩
 rw[ZtP]
 refine Zab (λh1=>⟨_,ZzY _ _ _ _ _ _ _ _,Zab (λh2=>Zab (λh3=>Zab (λh4=>?_) (λh4=>⟨rfl,Zaq ?_⟩)) (λh3=>⟨rfl,Zaq ?_⟩)) (λh2=>⟨rfl,Zaq ?_⟩)⟩) (λh1=>⟨rfl,Zaq ?_⟩)
 ·have hr':=Ziu (hr.mono hm)
  have hu':=Ziu (hu.mono hm)
  refine Zah (ZlO t.subs u.subs t.a u.a t.c u.c m2 hr'.1 hr'.2 hu'.2 λx hx y hy m' _ dd gk=>?_) λm3 aR=>⟨rfl,Zaq ?_⟩
  ·have bJ:=Zso hx
   exact Zup x y m' dd gk
  ·rw[h1,h2,h3,h4];rfl
 ·rw[h1,h2,h3,h4];rfl
 ·rw[h1,h2,h3];rfl
 ·rw[h1,h2];rfl
 ·rw[h1];rfl
termination_by SizeOf.sizeOf t
decreasing_by exact bJ
theorem ZxV(t u:T)(m:Mem)(hr:Rep m t)(hu:Rep m u):CX Tryz.prog 100 #[t.v,u.v] m [] (Ret (.bool (t.light&&(u.light&&t.same u)))):=by
 apply ZpW
 intro b m1 aG _ b' m2 aK _
 have hm:=mLt aG aK
 refine⟨t.light&&(u.light&&t.same u),?_,Zaf hm rfl⟩
 refine Zah (ZhB t m2 (hr.mono hm)) λm3 aR=>Zab (λh1=>?_) (λh1=>⟨rfl,Zaq ?_⟩)
 ·refine Zah (ZhB u m3 (hu.mono (mLt hm aR))) λm4 cE=>Zab (λh2=>?_) (λh2=>?_)
  ·have cP:=mLt (mLt hm aR) cE
   refine Zah (Zup t u m4 (hr.mono cP) (hu.mono cP)) λm6 ef=>⟨rfl,Zaq ?_⟩
   rw[h1,h2];rfl
  ·refine⟨rfl,Zaq ?_⟩
   rw[h1,h2];rfl
 ·rw[h1];rfl
end Go.Proofs.YtpjepnkiiojgfaaGreat
namespace Go.Proofs.YtpjepnkiiojgfaaGreat
open Go Go.Eng Go.Rx Go.Proofs Go.RowKit
theorem ZwD{b:Bool}{p q:Prop}(h:b=true)(k:p):br b p q:=by subst h;exact k
theorem Zor{b:Bool}{p q:Prop}(h:b=false)(k:q):br b p q:=by subst h;exact k
theorem Zao{α:Type}{l:List α}{k:Nat}(h:k < l.length):∃x,l[k]?=some x:=⟨l[k],zA3 h⟩
theorem Zbi(t:T):Rx.Zcj [t]=t.cs:=by simp[Rx.Zcj]
theorem Zdw{m:Mem}{a:Option Addr}{ts:List T}(h:rowRd m a (Rx.Zcj ts)){i:Nat}{t:T}(hi:ts[i]?=some t):∃b o,a=some ⟨b,o,none⟩/\m.reads b (o+i*8) t.cs:=by
 rcases h with h|⟨b,o,ha,h⟩
 ·have hl:(Rx.Zcj ts).length=0:=by rw[h];rfl
  rw[Zar]at hl
  have:=(zA0 hi).1
  omega
 ·refine⟨b,o,ha,λj v hj=>?_⟩
  rw[Nat.add_assoc]
  refine h (i*8+j) v ?_
  have e:ts=ts.take i++(t::ts.drop (i+1)):=by
   have aB:=(zA0 hi).1
   have h2:=List.drop_eq_getElem_cons aB
   rw[(zA0 hi).2]at h2
   rw[<-h2,List.take_append_drop]
  have aB:=(zA0 hi).1
  have rZ:=(zA0 hj).1
  rw[e,ZaT,zA4 (by rw[Zar,List.length_take,Nat.min_eq_left (by omega)];omega),Zar,List.length_take,Nat.min_eq_left (by omega),show i*8+j - i*8=j by omega]
  have e2:Rx.Zcj (t::ts.drop (i+1))=t.cs++Rx.Zcj (ts.drop (i+1)):=by simp[Rx.Zcj]
  rw[e2,zA5 rZ];exact hj
def Zo6(mb M0:Mem)(φ:T->Prop):Value->Mem->List (List Value)->Prop:=λv M' css=>∃m0,mb.le m0/\m0.le M'/\(∀b o u,M0 b o=some u->∀o',m0 b o'=mb b o')/\ZnE φ v m0 css
theorem ZiD{mb M0:Mem}{φ:T->Prop}{m:Mem}{K:TRK}(k:∀(t:T)(m0 m':Mem),m.le m'->mb.le m0->m0.le m'->(∀b o u,M0 b o=some u->∀o',m0 b o'=mb b o')->Rep m0 t->φ t->K t.k t.s0 t.s1 t.s2 t.s3 t.mn t.mx t.a t.subs.length t.c m'):
  ∀(n0 n1 n2 n3 n4 n5 n6:Int)(a:Option Addr)(n c:Nat)(m':Mem),m.le m'->Zo6 mb M0 φ (.agg #[.int .u8 n0,.int .u64 n1,.int .u64 n2,.int .u64 n3,.int .u64 n4,.int .i64 n5,.int .i64 n6,.slice a n c]) m' []->K n0 n1 n2 n3 n4 n5 n6 a n c m':=by
 rintro n0 n1 n2 n3 n4 n5 n6 a n c m' hm ⟨m0,h1,h2,h3,t,hv,hr,hp⟩
 simp only[T.v,Value.agg.injEq,Array.mk.injEq,List.cons.injEq,Value.int.injEq,Value.slice.injEq,true_and,and_true]at hv
 obtain⟨rfl,rfl,rfl,rfl,rfl,rfl,rfl,rfl,rfl,rfl⟩:=hv
 exact k t m0 m' hm h1 h2 h3 hr hp
theorem Zde{mb M0:Mem}{φ:T->Prop}:∀(v:Value)(m':Mem) (css:List (List Value)),Zo6 mb M0 φ v m' css->Shape.fits (.agg [.int .u8,.int .u64,.int .u64,.int .u64,.int .u64,.int .i64,.int .i64,.slice]) v=true:=λv _ _ ⟨_,_,_,_,t,e,_⟩=>by rw[e];rfl
def Apart(mb:Mem)(a:Option Addr):Prop:=a=none\/∃b,a=some ⟨b,0,none⟩/\mb.free b
theorem Apart.tok{mb M:Mem}{a a':Option Addr}{n c:Nat}(h:Apart mb a)(hm:mb.le M)(ht:TokFact M a a' n c):Apart mb a':=by
 rcases ht.2 with h1|⟨b,o,h1,h2⟩
 ·exact .inl h1
 rcases h2 with h2|⟨h3,h2⟩
 ·rw[<-h2];exact h
 ·subst h3
  refine .inr ⟨b,h1,λo=>?_⟩
  cases hb:mb b o with
  | none=>rfl
  | some v=>have:=hm _ _ _ hb;rw[h2.1 o]at this;cases this
theorem Zro{m:Mem}{a:Option Addr}{ts r:List T}(h:rowRd m a (Rx.Zcj (ts++r))):rowRd m a (Rx.Zcj ts):=by
 rw[ZaT]at h
 rcases h with h|⟨b,o,ha,h⟩
 ·exact .inl (List.append_eq_nil_iff.1 h).1
 ·refine .inr ⟨b,o,ha,λj v hj=>h j v ?_⟩
  rw[zA5 (zA0 hj).1];exact hj
theorem Zrp{m:Mem}{b:Nat}{ts:List T}{x t:T}(h:rowRd m (some ⟨b,0,none⟩) (Rx.Zcj (ts++[x]))):rowRd (m.upd b (0+ts.length*8) t.cs) (some ⟨b,0,none⟩) (Rx.Zcj (ts++[t])):=by
 refine .inr ⟨b,0,rfl,λj v hj=>?_⟩
 rw[ZaT]at hj
 rcases Nat.lt_or_ge j (ts.length*8)with aB|bO
 ·rw[zA5 (by rw[Zar];exact aB)]at hj
  unfold Mem.upd;try dsimp only
  rw[if_neg (by omega)]
  rcases h with h|⟨b',o',ha,h⟩
  ·have hl:(Rx.Zcj (ts++[x])).length=0:=by rw[h];rfl
   rw[Zar,zA1]at hl
   simp at hl
  ·cases ha
   refine h j v ?_
   rw[ZaT,zA5 (by rw[Zar];exact aB)];exact hj
 ·rw[zA4 (by rw[Zar];exact bO),Zar,Zbi]at hj
  have h8:=(zA0 hj).1
  have h8':t.cs.length=8:=rfl
  unfold Mem.upd;try dsimp only
  rw[if_pos ⟨rfl,by omega,by omega⟩,show 0+j - (0+ts.length*8)=j - ts.length*8 by omega]
  exact hj
theorem Apart.base{mb m:Mem}{a:Option Addr}{ts:List T}(h:Apart mb a)(aC:rowRd m a (Rx.Zcj ts))(hn:ts≠[]):∃b,a=some ⟨b,0,none⟩/\mb.free b/\∃o u,m b o=some u:=by
 obtain⟨t,r,rfl⟩:∃t r,ts=t::r:=by cases ts with
  | nil=>exact absurd rfl hn
  | cons t r=>exact⟨t,r,rfl⟩
 obtain⟨b',o,ha,cz⟩:=Zdw aC (i:=0) (t:=t) rfl
 rcases h with h|⟨b,hb,hf⟩
 ·rw[h]at ha;cases ha
 ·rw[hb]at ha;cases ha
  exact⟨b',hb,hf,_,_,cz 0 (.int .u8 t.k) rfl⟩
theorem ZAI{ts:List T}(h:1 < ts.length):∃r x y,ts=r++[x,y]:=by
 have h1:ts.length - 2 < ts.length:=by omega
 refine⟨ts.take (ts.length - 2),ts[ts.length - 2],ts[ts.length - 1],?_⟩
 have e:=(List.take_append_drop (ts.length - 2) ts).symm
 rw[List.drop_eq_getElem_cons h1,List.drop_eq_getElem_cons (by omega),List.drop_eq_nil_of_le (by omega)]at e
 simpa[show ts.length - 2+1=ts.length - 1 by omega]using e
theorem ZAJ{ts:List T}(h:0 < ts.length):∃r x,ts=r++[x]:=by
 refine⟨ts.dropLast,ts.getLast (by intro e;subst e;simp at h),?_⟩
 exact(List.dropLast_concat_getLast _).symm
end Go.Proofs.YtpjepnkiiojgfaaGreat
namespace Go.Proofs.YtpjepnkiiojgfaaGreat
open Go Go.Eng Go.Rx Go.Proofs Go.RowKit
set_option maxRecDepth 100000
theorem ZaB{p:Prop} [Decidable p]{A B:Prop}(ht:p->A)(hf:¬p->B):br (decide p) A B:=Zab (λh=>ht (zA6 h)) (λh=>hf (of_decide_eq_false h))
theorem Zff(t:E)(m:Mem):CX Tryz.prog 103 #[t.v] m [] (λv m' _=>∃b,v=.func (.func 141) #[] #[.pointer (some ⟨b,0,none⟩)]/\m'.reads b 0 t.cs):=by
 apply ZjB
 intro b m' hm hb
 exact⟨m',hm,Mem.le_refl _,b,rfl,hb⟩
theorem ZdT(t:E)(m:Mem)(c0b:Nat)(cz:m.reads c0b 0 t.cs)(dp:RepE m t):IX Tryz.prog 141 [] [.pointer (some ⟨c0b,0,none⟩)] m (t.nodes.map λx=>[x.v]):=by
 apply ZgX 0 [] [] c0b 0
 intro l b m' hm hb
 have fI:=cz.mono hm
 refine⟨_,_,_,_,_,fI,⟨rfl,by omega,?_⟩,?_,.inr rfl⟩
 ·rw[Zbg];rfl
 refine⟨t.sl,fI 4 _ rfl,Zaa rfl ?_⟩
 refine⟨λxs _ _ m'' q=>∃i:Nat,i<=t.subs.length/\xs=[.int .i64 ((1+(Zak (t.subs.take i)).length:Nat):Int),.int .i64 i]/\m'.le m''/\q=t.subs.length - i,⟨t.subs.length,0,by omega,?_,Mem.le_refl _,by omega⟩,?_⟩
 ·simp[Zak]
 rintro y n m2 q aK ⟨i,hi,cC,eu,hq⟩
 simp only[List.cons.injEq,Value.int.injEq,true_and,and_true]at cC
 obtain⟨rfl,rfl⟩:=cC
 have aH:slN t.sl=t.subs.length:=rfl
 rw[aH]
 refine Zab (λaB=>?_) (λbO=>?_)
 ·have aJ:i < t.subs.length:=by simpa using aB
  obtain⟨x,hx⟩:∃x,t.subs[i]?=some x:=⟨_,zA3 aJ⟩
  have cJ:x∈t.subs:=zA2 hx
  have bJ:=ZgH cJ
  obtain⟨mO,h0|⟨b1,o1,ha,dU⟩⟩:=Zdg dp
  ·rw[h0]at aJ;simp at aJ
  obtain⟨dd,dz⟩:=(dU.mono' ((mLt hm eu))).get hx
  refine Zaa rfl ⟨b1,o1,ha,⟨by omega,by omega⟩,_,_,_,_,_,dd,λb2=>Zaa rfl ?_⟩
  refine⟨_,trivial,Zff x m2,λv m' css h=>?_,?_⟩
  ·obtain⟨b3,rfl,_⟩:=h;rfl
  rintro g fi ca m3 aR ⟨b3,hv,eZ⟩
  obtain⟨rfl,rfl,rfl⟩:=Zcu hv
  refine⟨_,ZdT x m3 b3 eZ (RepE.mono' dz aR),λy hy=>?_,?_⟩
  ·obtain⟨z,_,rfl⟩:=List.mem_map.1 hy;exact ZkD z
  refine⟨λxs _ _ m'' q=>q<=x.nodes.length/\xs=[.int .i64 ((1+(Zak (t.subs.take i)).length+q:Nat):Int)]/\m3.le m'',⟨Nat.zero_le _,rfl,Mem.le_refl _⟩,?_,?_⟩
  ·rintro y n0 v0 s0 n3 a n7 c m4 q cE hq ⟨gB,hy,_⟩ b4
   simp only[List.cons.injEq,Value.int.injEq,true_and,and_true]at hy
   subst hy
   have hq':(List.map (λz:E=>[z.v]) x.nodes)[(q:Nat)]?=some [Value.agg #[.int .u8 n0,v0,.string s0,.int .i64 n3,.slice a n7 c]]:=hq
   rw[List.getElem?_map]at hq'
   obtain⟨z,hz,gF⟩:=Option.map_eq_some_iff.1 hq'
   have pb:q < x.nodes.length:=(zA0 hz).1
   simp only[E.v,List.cons.injEq,Value.agg.injEq,Array.mk.injEq,Value.int.injEq,Value.string.injEq,Value.slice.injEq,true_and,and_true]at gF
   obtain⟨rfl,rfl,rfl,rfl,rfl,rfl,rfl⟩:=gF
   refine Zaa rfl ⟨⟨rfl,by omega,?_⟩,⟨rfl,by omega,?_,cE⟩,rfl,.inr rfl⟩
   ·rw[zA8]
    show(t.nodes.map λx=>[x.v])[1+(Zak (t.subs.take i)).length+q]?=_
    rw[List.getElem?_map,Zst hx hz];rfl
   ·congr 2
  ·rintro y m4 cE ⟨gB,hy,_⟩
   simp only[List.cons.injEq,Value.int.injEq,true_and,and_true]at hy
   subst hy
   refine⟨rfl,t.subs.length - (i+1),by omega,i+1,by omega,?_,mLt eu (mLt aR cE),rfl⟩
   rw[Zal (by omega) (by omega),Zew hx,zA1]
   simp[E.v,Nat.add_assoc]
 ·have hi':i=t.subs.length:=by
   have:¬((i:Int) < (t.subs.length:Int)):=by simpa using bO
   omega
  subst hi'
  left
  rw[List.take_length,Zbg]
  simp
  omega
termination_by SizeOf.sizeOf t
decreasing_by exact bJ
theorem ZcW(t:E)(m:Mem)(hr:RepE m t):CX Tryz.prog 94 #[t.v] m [] (Ret (.bool t.light)):=by
 apply ZjC
 intro b m1 aG _ b2
 refine Zan (Zff t m1) (λv m' css h=>by obtain⟨_,rfl,_⟩:=h;rfl) ?_
 rintro g fi ca m2 aK ⟨b3,hv,eZ⟩
 obtain⟨rfl,rfl,rfl⟩:=Zcu hv
 have cy:=mLt aG aK
 refine⟨_,ZdT t m2 b3 eZ (RepE.mono' hr cy),λy hy=>?_,λ_ css _ m' q=>css=[[.int .i64 q]]/\q<=10000/\q<=t.nodes.length,⟨rfl,by omega,by omega⟩,?_,?_⟩
 ·obtain⟨z,_,rfl⟩:=List.mem_map.1 hy;exact ZkD z
 ·rintro n0 v0 s0 n3 a n7 c cs m3 q aR hq ⟨bX,gB,_⟩
  obtain rfl:cs=[.int .i64 q]:=by simpa using bX
  have aB:q < t.nodes.length:=by
   have:=(zA0 (show(List.map (λz:E=>[z.v]) t.nodes)[(q:Nat)]?=some _ from hq)).1
   simpa using this
  refine Zam rfl (Zaa rfl ?_)
  have hw:IntKind.i64.wrap (RowKit.intOf (Value.int .i64 (q:Int))+1)=(q:Int)+1:=Zal (n:=(q:Int)+1) (by omega) (by omega)
  simp only[hw]
  refine Zab (λh=>⟨by trivial,Zaf (mLt cy aR) ?_⟩) (λh=>⟨by trivial,?_,?_,by omega⟩)
  ·have:((q:Int)+1 > 10000):=by simpa using h
   simp[Ret,E.light];omega
  ·simp
  ·have:¬((q:Int)+1 > 10000):=by simpa using h
   omega
 ·rintro cs m3 aR ⟨bX,gB,_⟩
  obtain rfl:cs=[.int .i64 t.nodes.length]:=by simpa using bX
  refine Zam rfl (Zaa rfl (Zaf (mLt cy aR) ?_))
  show Value.bool (decide ((t.nodes.length:Int)<=10000))=Value.bool t.light
  congr 1
  rw[E.light,decide_eq_decide];omega
theorem ZvJ(t:E)(m:Mem)(hr:RepE m t):CX Tryz.prog 95 #[t.v] m [] (Ret (.int .i64 t.size)):=by
 apply ZlG
 intro b m1 aG _ b2
 refine Zah (ZcW t m1 (RepE.mono' hr aG)) λm2 aK=>Zab (λhl=>?_) (λh=>Zaf (mLt aG aK) (by simp[Ret,E.size,h]))
 have su:t.nodes.length<=10000:=zA6 hl
 refine Zan (Zff t m2) (λv m' css h=>by obtain⟨_,rfl,_⟩:=h;rfl) ?_
 rintro g fi ca m3 aR ⟨b3,hv,eZ⟩
 obtain⟨rfl,rfl,rfl⟩:=Zcu hv
 have cy:=mLt aG (mLt aK aR)
 refine⟨_,ZdT t m3 b3 eZ (RepE.mono' hr cy),λy hy=>?_,λ_ css _ m' q=>css=[[.int .i64 q]]/\q<=t.nodes.length,⟨rfl,by omega⟩,?_,?_⟩
 ·obtain⟨z,_,rfl⟩:=List.mem_map.1 hy;exact ZkD z
 ·rintro n0 v0 s0 n3 a n7 c cs m4 q cE hq ⟨bX,_⟩
  obtain rfl:cs=[.int .i64 q]:=by simpa using bX
  have aB:q < t.nodes.length:=by
   have:=(zA0 (show(List.map (λz:E=>[z.v]) t.nodes)[(q:Nat)]?=some _ from hq)).1
   simpa using this
  have hw:IntKind.i64.wrap (RowKit.intOf (Value.int .i64 (q:Int))+1)=(q:Int)+1:=Zal (n:=(q:Int)+1) (by omega) (by omega)
  refine Zam rfl (Zaa rfl ?_)
  simp only[hw]
  exact⟨by trivial,by simp,by omega⟩
 ·rintro cs m4 cE ⟨bX,gB⟩
  obtain rfl:cs=[.int .i64 t.nodes.length]:=by simpa using bX
  refine Zam rfl (Zaf (mLt cy cE) ?_)
  simp[Ret,E.size,hl]
theorem ZxW(T:TypeId)(x y:Nat):BinIs Tryz.prog .neq T (.float .f64 x) (.float .f64 y) (.bool (!Op.floatEq .f64 x y)):=λox oy w=>by
 simp[eqGuard,binOp,Op.floatCmp,Op.floatEq,bne]
theorem Zuq(x:Nat):Zqi Tryz.prog 134 [.float .f64 x] (.int .u64 x):=λw=>by
 rw[run_callFunc_extern Tryz.func134 (by kernel_rfl) (by kernel_rfl) (by kernel_rfl) (e:=Go.Extern.MathFloatBits.float64bits) (by kernel_rfl)]
 rfl
theorem Zrq(n:Nat):Zqi Tryz.prog 148 [.int .u64 n] (.float .f64 n):=λw=>by
 rw[run_callFunc_extern Tryz.func148 (by kernel_rfl) (by kernel_rfl) (by kernel_rfl) (e:=Go.Extern.MathFloatBits.float64frombits) (by kernel_rfl)]
 rfl
theorem ZzZ(m:Mem):CX Tryz.prog 157 #[] m [] (Ret (.float .f64 Zww)):=by
 apply ZjD
 exact⟨_,Zrq Zww,Zaf (Mem.le_refl _) rfl⟩
theorem Zrr(x:Nat)(m:Mem):CX Tryz.prog 135 #[.float .f64 x] m [] (Ret (.float .f64 (Zbl x))):=by
 apply ZgY
 refine⟨_,ZxW _ x x,Zab (λh=>?_) (λh=>Zaf (Mem.le_refl _) ?_)⟩
 ·refine Zan (ZzZ m) (s:=.any) (λ_ _ _ _=>rfl) ?_
  intro v m1 aG hv
  have h':Op.floatEq .f64 x x=false:=by simpa using h
  refine Zaf aG ?_
  show v=_
  rw[show v=_ from hv];unfold Zbl;rw[h'];rfl
 ·have h':Op.floatEq .f64 x x=true:=by simpa using h
  show Value.float .f64 x=_
  unfold Zbl;rw[h'];rfl
theorem Zrs(x y:Nat)(m:Mem):CX Tryz.prog 97 #[.float .f64 x,.float .f64 y] m [] (Ret (.bool (Zjc x y))):=by
 apply ZhX
 refine Zan (Zrr x m) (s:=.any) (λ_ _ _ _=>rfl) ?_
 intro v m1 aG hv
 refine⟨.int .u64 (Zbl x),by rw[show v=_ from hv];exact Zuq _,?_⟩
 refine Zan (Zrr y m1) (s:=.any) (λ_ _ _ _=>rfl) ?_
 intro u m2 aK hu
 refine⟨.int .u64 (Zbl y),by rw[show u=_ from hu];exact Zuq _,Zaa rfl (Zaf (mLt aG aK) ?_)⟩
 show Value.bool _=_
 congr 1
 exact show decide ((Zbl x:Int)=Zbl y)=decide (Zbl x=Zbl y) from decide_eq_decide.2 (by omega)
def Zcb(l:List ByteArray):List Value:=l.map λs=>.string s
theorem ZcX{m:Mem}{a:Option Addr}{l:List ByteArray}(h:rowRd m a (Zcb l)){k:Nat}{s:ByteArray}(hk:l[k]?=some s):∃b o,a=some ⟨b,o,none⟩/\m b (o+k*1)=some (.string s):=by
 rcases h with h|⟨b,o,ha,h⟩
 ·have:l=[]:=by simpa[Zcb]using h
  rw[this]at hk;simp at hk
 ·exact⟨b,o,ha,by rw[Nat.mul_one];exact h k _ (by rw[Zcb,List.getElem?_map,hk];rfl)⟩
theorem Zs4(l:List ByteArray)(a:Option Addr)(c:Nat)(s:ByteArray)(m:Mem)(hl:l.length<=1000000000000000)(hr:rowRd m a (Zcb l)):
  CX Tryz.prog 34 #[.slice a l.length c,.string s] m [] (Ret (.int .i64 (if l.any (λy=>eqS s y)then(l.findIdx (λy=>eqS s y):Nat)else(-1:Int)))):=by
 apply ZbX
 refine⟨λxs _ _ m'' q=>∃i:Nat,i<=l.length/\xs=[.int .i64 i]/\(∀x∈l.take i,eqS s x=false)/\q=l.length - i,⟨l.length,0,by omega,rfl,by simp,by omega⟩,?_⟩
 rintro n m' q hm ⟨i,hi,hn,mK,hq⟩
 obtain rfl:n=i:=by simpa using hn
 refine Zab (λaB=>?_) (λbO=>?_)
 ·have aJ:i < l.length:=by simpa using aB
  obtain⟨x,hx⟩:∃x,l[i]?=some x:=⟨_,zA3 aJ⟩
  have cJ:x∈l:=zA2 hx
  obtain⟨b1,o1,ha,dZ⟩:=ZcX (hr.mono hm) hx
  refine⟨b1,o1,ha,⟨by omega,by omega⟩,_,dZ,Zaa rfl (Zab (λjf=>?_) (λjf=>?_))⟩
  ·refine Zaf hm ?_
   have ie:l.any (λy=>eqS s y)=true:=List.any_eq_true.2 ⟨x,cJ,jf⟩
   have pf:l.findIdx (λy=>eqS s y)=i:=by
    rw[List.findIdx_eq aJ]
    refine⟨by rw[(zA0 hx).2];exact jf,λj hj=>?_⟩
    exact mK _ (List.mem_of_getElem? (i:=j) (by rw[List.getElem?_take_of_lt hj];exact zA3 (by omega)))
   simp[Ret,ie,pf]
  ·refine⟨l.length - (i+1),by omega,i+1,by omega,by rw[Zal (by omega) (by omega)];rfl,?_,rfl⟩
   intro y hy
   rw[List.take_add_one,hx]at hy
   rcases List.mem_append.1 hy with hy|hy
   ·exact mK y hy
   ·simp at hy;rw[hy];exact jf
 ·have hi':i=l.length:=by
   have:¬((i:Int) < (l.length:Int)):=by simpa using bO
   omega
  subst hi'
  refine Zaf hm ?_
  have ie:l.any (λy=>eqS s y)=false:=by
   rw[List.any_eq_false]
   rw[List.take_length]at mK
   exact λx hx=>by simp[mK x hx]
  simp[Ret,ie]
theorem ZgZ(l:List ByteArray)(a:Option Addr)(c:Nat)(s:ByteArray)(m:Mem)(hl:l.length<=1000000000000000)(hr:rowRd m a (Zcb l)):
  CX Tryz.prog 29 #[.slice a l.length c,.string s] m [] (Ret (.bool (l.any λy=>eqS s y))):=by
 apply Zbv
 refine ZcQ (Zs4 l a c s m hl hr) λm' hm=>Zaf hm ?_
 cases h:l.any (λy=>eqS s y) <;> simp[Ret]
theorem ZvK{α:Type}{cs:α->List Value}{m:Mem}{a:Option Addr}{ts r:List α}(h:rowRd m a ((ts++r).map cs).flatten):rowRd m a (ts.map cs).flatten:=by
 rw[List.map_append,List.flatten_append]at h
 rcases h with h|⟨b,o,ha,h⟩
 ·exact .inl (List.append_eq_nil_iff.1 h).1
 ·refine .inr ⟨b,o,ha,λj v hj=>h j v ?_⟩
  rw[zA5 (zA0 hj).1];exact hj
theorem ZjH{α:Type}{cs:α->List Value}{ts:List α}{t:α}:((ts++[t]).map cs).flatten=(ts.map cs).flatten++cs t:=by simp
theorem ZvL{α:Type}{cs:α->List Value}{n:Nat}(hn:∀x,(cs x).length=n){m:Mem}{b:Nat}{ts:List α}{x t:α}(h:rowRd m (some ⟨b,0,none⟩) ((ts++[x]).map cs).flatten)(h0:0 < n):rowRd (m.upd b (0+ts.length*n) (cs t)) (some ⟨b,0,none⟩) ((ts++[t]).map cs).flatten:=by
 have hl:=Za3 hn ts
 refine .inr ⟨b,0,rfl,λj v hj=>?_⟩
 rw[ZjH]at hj h
 rcases Nat.lt_or_ge j (ts.length*n)with aB|bO
 ·rw[zA5 (by omega)]at hj
  unfold Mem.upd;try dsimp only
  rw[if_neg (by omega)]
  rcases h with h|⟨b',o',ha,h⟩
  ·have:=congrArg List.length h
   rw[zA1,hl,hn]at this
   simp at this;omega
  ·cases ha
   refine h j v ?_
   rw[zA5 (by omega)];exact hj
 ·rw[zA4 (by omega),hl]at hj
  have h8:=(zA0 hj).1
  have h9:=hn t
  unfold Mem.upd;try dsimp only
  rw[if_pos ⟨rfl,by omega,by omega⟩,show 0+j - (0+ts.length*n)=j - ts.length*n by omega]
  exact hj
theorem Apart.rbase{α:Type}{cs:α->List Value}{n:Nat}(hn:∀x,(cs x).length=n)(h0:0 < n){mb m:Mem}{a:Option Addr}{ts:List α}(h:Apart mb a)(aC:rowRd m a (ts.map cs).flatten)(cI:ts≠[]):∃b,a=some ⟨b,0,none⟩/\mb.free b/\∃o u,m b o=some u:=by
 obtain⟨t,r,rfl⟩:∃t r,ts=t::r:=by cases ts with
  | nil=>exact absurd rfl cI
  | cons t r=>exact⟨t,r,rfl⟩
 obtain⟨b',o,ha,cz⟩:=Zaj hn aC (k:=0) (t:=t) rfl h0
 rcases h with h|⟨b,hb,hf⟩
 ·rw[h]at ha;cases ha
 ·rw[hb]at ha;cases ha
  have:0 < (cs t).length:=by rw[hn];exact h0
  exact⟨b',hb,hf,_,_,cz 0 _ (zA3 this)⟩
theorem Zz0{α:Type}{ts:List α}(h:1 < ts.length):∃r x y,ts=r++[x,y]:=by
 have h1:ts.length - 2 < ts.length:=by omega
 refine⟨ts.take (ts.length - 2),ts[ts.length - 2],ts[ts.length - 1],?_⟩
 have e:=(List.take_append_drop (ts.length - 2) ts).symm
 rw[List.drop_eq_getElem_cons h1,List.drop_eq_getElem_cons (by omega),List.drop_eq_nil_of_le (by omega)]at e
 simpa[show ts.length - 2+1=ts.length - 1 by omega]using e
theorem Zz1{α:Type}{ts:List α}(h:0 < ts.length):∃r x,ts=r++[x]:=by
 refine⟨ts.dropLast,ts.getLast (by intro e;subst e;simp at h),?_⟩
 exact(List.dropLast_concat_getLast _).symm
theorem Zbk{m:Mem}{b:Nat}{cs:List Value}:rowRd (m.add b cs) (some ⟨b,0,none⟩) cs:=.inr ⟨b,0,rfl,λj v hj=>by rw[Nat.zero_add,Mem.add_same];exact hj⟩
theorem ZcY{α:Type}{cs:α->List Value}{n:Nat}(hn:∀x,(cs x).length=n)(h1:∀x,∀u∈cs x,u.oneCell'=true){m3:Mem}{b3:Nat}(hf:m3.free b3){a:Option Addr}{ts:List α}(t:α)(aC:rowRd m3 a (ts.map cs).flatten)(sz:Nat)(bJ:(ts.length+1)*sz<=140737488355328)(hl:ts.length<=1000000){P Q:Prop}(hp:P\/Q){K:Option Addr->Nat->Mem->Prop}
  (k:∀(a':Option Addr)(c':Nat)(m4:Mem),(m3.add b3 (cs t)).le m4->rowRd m4 a' ((ts++[t]).map cs).flatten->TokFact (m3.add b3 (cs t)) a a' (ts.length+1) c'->K a' c' m4):
  (P\/Q)/\∃xs ys:List Value,xs.length=ts.length*n/\ys.length=1*n/\rowRd (m3.add b3 (cs t)) a xs/\rowRd (m3.add b3 (cs t)) (some ⟨b3,0,none⟩) ys/\(∀u:Value,u∈ys->u.oneCell'=true)/\(ts.length+1)*sz<=140737488355328/\ts.length+1<=9223372036854775807/\
   ∀(a':Option Addr)(c':Nat)(m4:Mem),(m3.add b3 (cs t)).le m4->rowRd m4 a' (List.append xs ys)->TokFact (m3.add b3 (cs t)) a a' (ts.length+1) c'->K a' c' m4:=
 ⟨hp,(ts.map cs).flatten,cs t,Za3 hn ts,by rw[hn,Nat.one_mul],aC.mono (Mem.le_add hf _),Zbk,h1 t,bJ,by omega,λa' c' m4 hm hr ht=>k a' c' m4 hm (by rw[ZjH];exact hr) ht⟩
theorem Zg0{α:Type}{cs:α->List Value}{n:Nat}(hn:∀x,(cs x).length=n)(h1:∀x,∀u∈cs x,u.oneCell'=true){m3:Mem}{b3:Nat}(hf:m3.free b3){a:Option Addr}{ts:List α}(t:α)(aC:rowRd m3 a (ts.map cs).flatten)(sz:Nat)(bJ:(ts.length+1)*sz<=140737488355328)(hl:ts.length<=1000000){P Q:Prop}(hp:P\/Q){K:Option Addr->Nat->Mem->Prop}
  (k:∀(a':Option Addr)(c':Nat)(m4:Mem),(m3.add b3 (cs t)).le m4->rowRd m4 a' ((ts++[t]).map cs).flatten->K a' c' m4):
  (P\/Q)/\∃xs ys:List Value,xs.length=ts.length*n/\ys.length=1*n/\rowRd (m3.add b3 (cs t)) a xs/\rowRd (m3.add b3 (cs t)) (some ⟨b3,0,none⟩) ys/\(∀u:Value,u∈ys->u.oneCell'=true)/\(ts.length+1)*sz<=140737488355328/\ts.length+1<=9223372036854775807/\
   ∀(a':Option Addr)(c':Nat)(m4:Mem),(m3.add b3 (cs t)).le m4->rowRd m4 a' (List.append xs ys)->K a' c' m4:=
 ⟨hp,(ts.map cs).flatten,cs t,Za3 hn ts,by rw[hn,Nat.one_mul],aC.mono (Mem.le_add hf _),Zbk,h1 t,bJ,by omega,λa' c' m4 hm hr=>k a' c' m4 hm (by rw[ZjH];exact hr)⟩
def ER(φ:E->Prop):Value->Mem->List (List Value)->Prop:=λv m' _=>∃e:E,v=e.v/\RepE m' e/\φ e
theorem ZfR{φ:E->Prop}:∀(v:Value)(m':Mem) (css:List (List Value)),ER φ v m' css->Shape.fits (.agg [.int .u8,.any,.str,.int .i64,.slice]) v=true:=λv _ _ ⟨e,h,_⟩=>by rw[h];rfl
abbrev EK:=Int->Value->ByteArray->Int->Option Addr->Nat->Nat->Mem->Prop
theorem ZpX{e:E}{n:Int}{v:Value}{s:ByteArray}{g:Int}{a:Option Addr}{k c:Nat}(h:Value.agg #[.int .u8 n,v,.string s,.int .i64 g,.slice a k c]=e.v):n=e.k/\v=.float .f64 e.x/\s=e.s/\g=e.g/\a=e.a/\k=e.subs.length/\c=e.c:=by
 simpa[E.v]using h
theorem ZyO{φ:E->Prop}{m:Mem}{K:EK}(k:∀(e:E)(m':Mem),m.le m'->RepE m' e->φ e->K e.k (.float .f64 e.x) e.s e.g e.a e.subs.length e.c m'):
  ∀(n:Int)(v:Value)(s:ByteArray)(g:Int)(a:Option Addr)(n1 c:Nat)(m':Mem),m.le m'->ER φ (.agg #[.int .u8 n,v,.string s,.int .i64 g,.slice a n1 c]) m' []->K n v s g a n1 c m':=by
 rintro n v s g a n1 c m' hm ⟨e,hv,hr,hp⟩
 obtain⟨rfl,rfl,rfl,rfl,rfl,rfl,rfl⟩:=ZpX hv
 exact k e m' hm hr hp
def EF(mb M0:Mem)(φ:E->Prop):Value->Mem->List (List Value)->Prop:=λv M' css=>∃m0,mb.le m0/\m0.le M'/\(∀b o u,M0 b o=some u->∀o',m0 b o'=mb b o')/\ER φ v m0 css
theorem Zrt{mb M0:Mem}{φ:E->Prop}:∀(v:Value)(m':Mem) (css:List (List Value)),EF mb M0 φ v m' css->Shape.fits (.agg [.int .u8,.any,.str,.int .i64,.slice]) v=true:=λv _ _ ⟨_,_,_,_,e,h,_⟩=>by rw[h];rfl
theorem ZBN{mb M0:Mem}{φ:E->Prop}{m:Mem}{K:EK}(k:∀(e:E)(m0 m':Mem),m.le m'->mb.le m0->m0.le m'->(∀b o u,M0 b o=some u->∀o',m0 b o'=mb b o')->RepE m0 e->φ e->K e.k (.float .f64 e.x) e.s e.g e.a e.subs.length e.c m'):
  ∀(n:Int)(v:Value)(s:ByteArray)(g:Int)(a:Option Addr)(n1 c:Nat)(m':Mem),m.le m'->EF mb M0 φ (.agg #[.int .u8 n,v,.string s,.int .i64 g,.slice a n1 c]) m' []->K n v s g a n1 c m':=by
 rintro n v s g a n1 c m' hm ⟨m0,h1,h2,h3,e,hv,hr,hp⟩
 obtain⟨rfl,rfl,rfl,rfl,rfl,rfl,rfl⟩:=ZpX hv
 exact k e m0 m' hm h1 h2 h3 hr hp
theorem E.one(e:E):∀u∈e.cs,u.oneCell'=true:=by
 intro u hu
 simp only[E.cs,E.sl,List.mem_cons,List.not_mem_nil,or_false]at hu
 rcases hu with rfl|rfl|rfl|rfl|rfl <;> rfl
theorem E.len(e:E):e.cs.length=5:=rfl
theorem Zee{m:Mem}{k:Int}{x:Nat}{s:ByteArray}{g:Int}(hk:0<=k/\k < 256)(hs:s.size<=1000000000000000)(hg : -9223372036854775808<=g/\g<=9223372036854775807):RepE m (.node k x s g none 0 []):=by
 simp only[RepE]
 exact⟨by simp,.inl trivial,hk,hs,hg⟩
theorem ZjI:∀s∈ZeR,s.size<=16:=by decide +kernel
theorem ZxX(m:Mem):CX Tryz.prog 149 #[] m [] (Ret (.float .f64 Zww)):=by
 apply Zoe
 exact⟨_,Zrq Zww,Zaf (Mem.le_refl _) rfl⟩
theorem Zur(x:Nat)(m:Mem):CX Tryz.prog 150 #[.float .f64 x] m [] (ER (λe=>e=Zu5 x)):=by
 apply Zly
 intro b
 exact Zaa rfl (Zaa rfl (ZaN (Mem.le_refl _) ⟨Zu5 x,rfl,Zee (by omega) (by rw[ZaU];omega) (by omega),rfl⟩))
theorem ZvM(s:ByteArray)(hs:s.size<=1000000000000000)(m:Mem):CX Tryz.prog 151 #[.string s] m [] (ER (λe=>e=ZsA s)):=by
 apply Zju
 intro b
 exact ZaN (Mem.le_refl _) ⟨ZsA s,rfl,Zee (by omega) hs (by omega),rfl⟩
def ZyR(l:List ByteArray):Value->Mem->List (List Value)->Prop:=λv m' _=>∃a c,v=.slice a l.length c/\rowRd m' a (Zcb l)
theorem Zdh{l}:∀(v:Value)(m':Mem) (css:List (List Value)),ZyR l v m' css->Shape.fits .slice v=true:=λv _ _ ⟨_,_,e,_⟩=>by rw[e];rfl
theorem Zs5(m:Mem):CX Tryz.prog 152 #[] m [] (ZyR ZeR):=by
 apply ZhR
 intro b hf
 exact ZaN (Mem.le_add hf _) ⟨_,_,rfl,Zbk⟩
theorem ZxY(e:E)(m:Mem)(hr:RepE m e):CX Tryz.prog 153 #[e.v] m [] (ER (λu=>∃a d,u=ZtX a d e)):=by
 apply ZlA
 intro b m1 aG hb b2 b3 hf
 have cy:=Mem.le_add hf e.cs
 refine ZaN (mLt aG cy) ⟨ZtX (some ⟨b3,0,none⟩) 1 e,rfl,?_,_,_,rfl⟩
 simp only[ZtX,RepE]
 refine⟨by simp,.inr ⟨b3,0,rfl,?_⟩,by omega,by rw[ZaU];omega,by omega⟩
 simp only[RepEAt]
 exact⟨λi v hv=>by rw[Nat.zero_add,Mem.add_same];exact hv,hr.mono' (mLt aG cy),trivial⟩
theorem ZxZ(k:Int)(x y:E)(hk:0<=k/\k < 256)(m:Mem)(hx:RepE m x)(hy:RepE m y):CX Tryz.prog 154 #[.int .u8 k,x.v,y.v] m [] (ER (λu=>∃a d,u=opE k a d x y)):=by
 apply Zoh
 intro b m1 aG _ b1 m2 aK _ b2 b3 hf
 have cy:=Mem.le_add hf (x.cs++y.cs)
 have cV:=mLt aG aK
 refine ZaN (mLt cV cy) ⟨opE k (some ⟨b3,0,none⟩) 2 x y,rfl,?_,_,_,rfl⟩
 simp only[opE,RepE]
 refine⟨by simp,.inr ⟨b3,0,rfl,?_⟩,hk,by rw[ZaU];omega,by omega⟩
 simp only[RepEAt]
 refine⟨λi v hv=>?_,hx.mono' (mLt cV cy),λi v hv=>?_,hy.mono' (mLt cV cy),trivial⟩
 ·rw[Nat.zero_add]
  exact(Mem.add_same ..).trans (by show(x.cs++y.cs)[i]?=some v;rw[zA5 (zA0 hv).1];exact hv)
 ·rw[show 0+5+i=5+i by omega]
  exact(Mem.add_same ..).trans (by show(x.cs++y.cs)[5+i]?=some v;rw[zA4 (by rw[E.len];omega),E.len,Nat.add_sub_cancel_left];exact hv)
theorem Zus(T:TypeId){x y r:Nat}(h:FloatKind.f64.format.div x y=some r):BinIs Tryz.prog .quo T (.float .f64 x) (.float .f64 y) (.float .f64 r):=λox oy w=>by
 simp[eqGuard,binOp,Op.floatArith,h]
theorem ZBl(n:Int):ConvIs Tryz.prog 218 49 (.int .i8 n) (.float .f64 (FloatKind.f64.nearest n)):=λw=>by
 simp[convert,Tryz.underlying218,Tryz.underlying49,Conv.intToFloat]
theorem Zz2:∀n:Fin 256,(FloatKind.f64.format.div (FloatKind.f64.nearest (IntKind.i8.wrap (n:Nat))) 4616189618054758400).isSome=true:=by decide +kernel
structure SmE (m:Mem)(a:Option Addr)(l:List (Nat×Nat×Nat)):Prop where
 len:l.length<=9223372036854775807
 byte:∀s∈l,s.1 < 256/\s.2.1 < 256/\s.2.2 < 18446744073709551616
 at':∀i s,l[i]?=some s->∃b o,a=some ⟨b,o,none⟩/\m.reads b (o+i*3) [.int .u8 s.1,.int .u8 s.2.1,.int .u64 s.2.2]
theorem SmE.mono{m m':Mem}{a l}(h:SmE m a l)(hm:m.le m'):SmE m' a l:=
 ⟨h.len,h.byte,λi s hi=>by obtain⟨b,o,h1,h2⟩:=h.at' i s hi;exact⟨b,o,h1,h2.mono hm⟩⟩
theorem Zs6:ZgI Zww=true:=by decide +kernel
theorem ZvN(s:Nat×Nat×Nat):ZgI (x1E s)=true:=by
 unfold x1E
 split
 ·rename_i h;unfold ZgI;rw[h];rfl
 ·exact Zs6
theorem Zz3{s:Nat×Nat×Nat}(h:¬Op.floatEq .f64 (x0E s) (x0E s)=true):x1E s=Zww:=if_neg h
theorem Zz4{s:Nat×Nat×Nat}(h:Op.floatEq .f64 (x0E s) (x0E s)=true):x1E s=x0E s:=if_pos h
theorem Zx0{s1 s2 s3:Nat}(h:(!((s3:Int) == 0))=true):x0E (s1,s2,s3)=s3:=if_neg (by show ¬s3=0;intro e;rw[e]at h;simp at h)
theorem Zz5{s1 s2 s3 r:Nat}(h:(!((s3:Int) == 0))=false)(hr:FloatKind.f64.format.div (FloatKind.f64.nearest (IntKind.i8.wrap (s2:Nat))) 4616189618054758400=some r):x0E (s1,s2,s3)=r:=by
 unfold x0E
 rw[if_pos (by show s3=0;simp at h;omega)]
 show(FloatKind.f64.format.div (FloatKind.f64.nearest (IntKind.i8.wrap (s2:Nat))) 4616189618054758400).getD 0=r
 rw[hr];rfl
set_option maxHeartbeats 2000000 in
theorem Zs7(l:List (Nat×Nat×Nat))(a:Option Addr)(c:Nat)(m:Mem)(hl:SmE m a l)(hc:l.length<=c):CX Tryz.prog 128 #[.slice a l.length c] m [] (ER λe=>MkE 9 (2*l.length+1) e/\e.er=eF l):=by
 apply Zjw
 have aH:=hl.len
 intro b
 have hN:(if(60:Int) < (l.length:Int)then(60:Int)else(l.length:Int))=((min 60 l.length:Nat):Int):=by split <;> omega
 simp only[hN,zA8,Nat.sub_zero]
 generalize mQ:min 60 l.length=N
 refine⟨⟨by omega,by omega⟩,λxs css tvs m' q=>∃(i:Nat)(ts:List E)(a:Option Addr)(c:Nat)(mb:Mem),i<=N/\xs=[.slice a ts.length c,.int .i64 i]/\tvs=[.slice a ts.length c]/\ts.length<=c/\m.le mb/\mb.le m'/\Apart mb a/\rowRd m' a (ts.map E.cs).flatten/\(∀t∈ts,RepE mb t)/\PE ts i/\TrE l ts i/\q=N - i,⟨N,0,[],none,0,m,by omega,rfl,rfl,by simp,Mem.le_refl _,Mem.le_refl _,.inl rfl,.inl rfl,by simp,PE.zero,rfl,by omega⟩,?_⟩
 rintro a1 n1 c1 z1 a2 n2 c2 m1 q _ ⟨i,ts,a',c',mb,hi,cC,cQ,cS,ep,cW,dB,aC,aP,hP,hT,hq⟩
 simp only[List.cons.injEq,Value.slice.injEq,Value.int.injEq,true_and,and_true]at cC cQ
 obtain⟨⟨rfl,rfl,rfl⟩,rfl⟩:=cC
 obtain⟨rfl,rfl,rfl⟩:=cQ
 have gC:ts.length<=60:=by have:=hP.sz;have:=Zeb ts;omega
 refine Zab (λaB=>?_) (λbO=>?_)
 ·have nR:i < N:=by have:=zA6 aB;omega
  obtain⟨s,hs⟩:=Zao (l:=l) (k:=i) (by omega)
  obtain⟨bs,os,ha,cz⟩:=(hl.mono (mLt ep cW)).at' i s hs
  obtain⟨s1,s2,s3⟩:=s
  obtain⟨kP,gR,j7⟩:=hl.byte _ (zA2 hs)
  have hw:IntKind.i64.wrap ((i:Int)+1)=((i+1:Nat):Int):=by rw[Zal (by omega) (by omega)];rfl
  have mR:Int.tmod (s1:Int) 12=((s1 % 12:Nat):Int):=rfl
  simp only[hw,zA8]
  refine⟨bs,os,ha,⟨by omega,by omega⟩,_,_,_,cz,λb2=>Zaa rfl ⟨_,rfl,by omega,?_⟩⟩
  simp only[mR]
  refine ZaB (λh1=>?_) (λh1=>ZaB (λh2=>?_) (λh2=>Zab (λh3=>?_) (λh3=>?_)))
  ·have hd:=Zz2 ⟨s2,gR⟩
   obtain⟨r,hr⟩:=Option.isSome_iff_exists.1 hd
   have hr:FloatKind.f64.format.div (FloatKind.f64.nearest (IntKind.i8.wrap (s2:Nat))) 4616189618054758400=some r:=hr
   refine⟨_,rfl,_,ZBl _,_,Zus _ hr,λxs _ _ m'=>xs=[.float .f64 (x0E (s1,s2,s3))]/\m1.le m',⟨_,rfl,Zab (λh0=>⟨_,rfl,_,Zrq s3,trivial,trivial,by rw[Zx0 h0],Mem.le_refl _⟩) (λh0=>⟨trivial,trivial,by rw[Zz5 h0 hr],Mem.le_refl _⟩)⟩,?_⟩
   rintro v m2 _ ⟨hx,aK⟩
   obtain rfl:v=.float .f64 (x0E (s1,s2,s3)):=by simpa using hx
   generalize iz:x0E (s1,s2,s3)=x
   refine⟨λxs _ _ m'=>xs=[.float .f64 (x1E (s1,s2,s3))]/\m1.le m',⟨_,ZxW _ x x,Zab (λh=>?_) (λh=>⟨trivial,trivial,?_,aK⟩)⟩,?_⟩
   ·refine⟨_,trivial,ZxX m2,λ_ _ _ _=>trivial,?_⟩
    intro u m3 aR hu
    exact⟨trivial,trivial,by rw[show u=_ from hu,Zz3 (by rw[iz];simpa using h)],mLt aK aR⟩
   ·rw[Zz4 (by rw[iz];simpa using h),iz]
   rintro v m3 _ ⟨hy,aR⟩
   obtain rfl:v=.float .f64 (x1E (s1,s2,s3)):=by simpa using hy
   have fg:=ZvN (s1,s2,s3)
   have uu:=hT.num hs (by have:=h1;omega)
   generalize x1E (s1,s2,s3)=y at fg uu
   refine Zan (Zur y m3) ZfR (ZyO λt m4 cE hr ht b3 fY=>?_)
   subst ht
   have ic:=mLt aR cE
   have dJ:=Mem.le_add fY (Zu5 y).cs
   refine ZcY E.len E.one fY (Zu5 y) (aC.mono ic) 64 (by omega) (by omega) (.inl trivial) λa5 c5 m5 cP cw aS=>⟨trivial,N - (i+1),by omega,i+1,ts++[Zu5 y],a5,c5,mb,by omega,by rw[zA1];rfl,by rw[zA1];rfl,by rw[zA1];exact aS.1,ep,mLt cW (mLt ic (mLt dJ cP)),dB.tok (mLt cW (mLt ic dJ)) aS,cw,?_,hP.push (ZtY fg),uu,by omega⟩
   intro z hz
   rcases List.mem_append.1 hz with hz|hz
   ·exact aP z hz
   ·rw[List.mem_singleton]at hz;subst hz;exact Zee (by omega) (by rw[ZaU];omega) (by omega)
  ·refine⟨λ_ vs _=>match vs with
    | [.string s]=>ER (λe=>e=ZsA s)
    | _=>ZyR ZeR,_,rfl,Zs5 m1,Zdh,?_⟩
   rintro a3 n3 c3 m2 aK ⟨a3',c3',hv,eD⟩
   simp only[Value.slice.injEq]at hv
   obtain⟨rfl,rfl,rfl⟩:=hv
   obtain⟨nm,sy⟩:=Zao (l:=ZeR) (k:=s2 % 4) (Nat.mod_lt _ (by omega))
   have pg:=zA2 sy
   have bJ:nm.size<=1000000000000000:=Nat.le_trans (ZjI nm pg) (by omega)
   obtain⟨b3,o3,ew,eL⟩:=ZcX eD sy
   have uv:Int.tmod (s2:Int) 4=((s2 % 4:Nat):Int):=rfl
   have h4:s2 % 4 < 4:=Nat.mod_lt _ (by omega)
   refine⟨_,rfl,by omega,b3,o3,ew,by rw[uv];exact⟨by omega,by show((s2 % 4:Nat):Int) < (4:Nat);omega⟩,_,by rw[uv,zA8];exact eL,nm,rfl,_,rfl,ZvM nm bJ m2,ZfR,ZyO λt m3 aR hr ht b4 fy=>?_⟩
   subst ht
   have ic:=mLt aK aR
   have dJ:=Mem.le_add fy (ZsA nm).cs
   refine ZcY E.len E.one fy (ZsA nm) (aC.mono ic) 64 (by omega) (by omega) (.inl trivial) λa5 c5 m5 cP cw aS M _ _ _ _ hM=>⟨trivial,N - (i+1),by omega,i+1,ts++[ZsA nm],a5,c5,mb,by omega,by rw[zA1];rfl,by rw[zA1];rfl,by rw[zA1];exact aS.1,ep,mLt cW (mLt ic (mLt dJ (mLt cP hM))),dB.tok (mLt cW (mLt ic dJ)) aS,cw.mono hM,?_,hP.push (Zt1 pg),hT.var hs (by have:=h1;omega) (by have:=h2;omega) sy,by omega⟩
   intro z hz
   rcases List.mem_append.1 hz with hz|hz
   ·exact aP z hz
   ·rw[List.mem_singleton]at hz;subst hz;exact Zee (by omega) bJ (by omega)
  ·refine⟨_,rfl,by omega,λb3 fY=>?_⟩
   have sA:Int.tmod (s2:Int) 10=((s2 % 10:Nat):Int):=rfl
   have fT:s2 % 10 < 10:=Nat.mod_lt _ (by omega)
   have wD:IntKind.i64.wrap (Int.tmod (s2:Int) 10)=((s2 % 10:Nat):Int):=by rw[sA,Zal (by omega) (by omega)]
   simp only[wD]
   have dJ:=Mem.le_add fY (ZyN ((s2 % 10:Nat):Int)).cs
   refine ZcY E.len E.one fY (ZyN ((s2 % 10:Nat):Int)) aC 64 (by omega) (by omega) (.inl trivial) λa5 c5 m5 cP cw aS=>⟨trivial,N - (i+1),by omega,i+1,ts++[ZyN ((s2 % 10:Nat):Int)],a5,c5,mb,by omega,by rw[zA1];rfl,by rw[zA1];rfl,by rw[zA1];exact aS.1,ep,mLt cW (mLt dJ cP),dB.tok (mLt cW dJ) aS,cw,?_,hP.push (Zxh (by omega) (by omega)),hT.cap hs (by have:=h2;omega) (by have:=h3;simp at this;omega),by omega⟩
   intro z hz
   rcases List.mem_append.1 hz with hz|hz
   ·exact aP z hz
   ·rw[List.mem_singleton]at hz;subst hz;exact Zee (by omega) (by rw[ZaU];omega) (by omega)
  ·refine⟨decide (s1 % 12=5)&&decide (0 < ts.length),Zab (λh=>⟨trivial,trivial,Zaq ?_⟩) (λh=>⟨trivial,trivial,Zaq ?_⟩),Zab (λhb=>?_) (λhb=>?_)⟩
   ·have:s1 % 12=5:=by have:=h;simp at this;omega
    rw[this,Bool.eq_iff_iff];simp
   ·have:¬s1 % 12=5:=by have:=h;simp at this;omega
    rw[decide_eq_false this];rfl
   ·obtain⟨uw,gX⟩:s1 % 12=5/\0 < ts.length:=by rw[zA7,decide_eq_true_iff,decide_eq_true_iff]at hb;exact hb
    obtain⟨r,x,rfl⟩:=Zz1 gX
    have fl:(r++[x]).length=r.length+1:=by simp
    have gJ:IntKind.i64.wrap (((r++[x]).length:Int) - 1)=(r.length:Int):=by rw[fl,Zal (by omega) (by omega)];omega
    obtain⟨bb,ig,fO,o',u',hu'⟩:=dB.rbase E.len (by omega) aC (by simp)
    subst ig
    obtain⟨bx,ox,ii,eM⟩:=Zaj E.len aC (k:=r.length) (t:=x) (by simp) (by omega)
    cases ii
    simp only[gJ,zA8]
    refine⟨_,_,rfl,⟨by omega,by omega⟩,_,eM 0 _ rfl,_,rfl,Zab (λh8=>?_) (λh8=>⟨trivial,N - (i+1),by omega,i+1,r++[x],_,_,mb,by omega,rfl,rfl,cS,ep,cW,dB,aC,aP,hP.skip,hT.neg8 hs uw (by simpa using h8),by omega⟩)⟩
    have qx:x.k≠8:=by simpa using h8
    refine⟨_,_,rfl,⟨by omega,by omega⟩,_,_,_,_,_,eM,Zan ((ZxY x mb (aP x (by simp))).frame2 cW) (Zrt (mb:=mb) (M0:=m1)) (ZBN λt m0 m3 aR h0 ft bN e7 ht=>?_)⟩
    obtain⟨at',ct,rfl⟩:=ht
    have eh:m0.free bb:=λo=>by rw[bN bb o' u' hu' o];exact fO o
    refine⟨bb,0,rfl,⟨by omega,by omega⟩,Zaa rfl ⟨rfl,by omega,trivial,N - (i+1),by omega,i+1,r++[ZtX at' ct x],_,_,m0,by omega,?_,?_,by rw[zA1];rw[fl]at cS;exact cS,mLt ep h0,Mem.le_upd ft eh _ _,.inr ⟨bb,rfl,eh⟩,ZvL E.len (aC.mono aR) (by omega),?_,hP.neg qx _ _,hT.neg hs uw qx _ _,by omega⟩⟩
    ·rw[fl,zA1];rfl
    ·rw[fl,zA1];rfl
    ·intro z hz
     rcases List.mem_append.1 hz with hz|hz
     ·exact(aP z (by simp[hz])).mono' h0
     ·rw[List.mem_singleton]at hz;subst hz;exact e7
   ·refine⟨decide (5 < s1 % 12)&&decide (1 < ts.length),ZaB (λh=>⟨trivial,trivial,Zaq ?_⟩) (λh=>⟨trivial,trivial,Zaq ?_⟩),Zab (λeY=>?_) (λeY=>⟨trivial,N - (i+1),by omega,i+1,ts,_,_,mb,by omega,rfl,rfl,cS,ep,cW,dB,aC,aP,hP.skip,hT.skip hs (by have:=h2;omega) (by have:=h3;simp at this;omega) (λe=>by rw[e]at hb;simp at hb;rw[hb];rfl) (λe=>by have:=eY;rw[decide_eq_true e]at this;simp at this;omega),by omega⟩)⟩
    ·rw[decide_eq_true (show 5 < s1 % 12 by omega),Bool.true_and,decide_eq_decide];omega
    ·rw[decide_eq_false (show ¬5 < s1 % 12 by omega)];rfl
    obtain⟨h5,wE⟩:5 < s1 % 12/\1 < ts.length:=by rw[zA7,decide_eq_true_iff,decide_eq_true_iff]at eY;exact eY
    have qs:s1 % 12 < 12:=Nat.mod_lt _ (by omega)
    obtain⟨r,x,y,rfl⟩:=Zz0 wE
    have fl:(r++[x,y]).length=r.length+2:=by simp
    have gm:IntKind.i64.wrap (((r++[x,y]).length:Int) - 2)=(r.length:Int):=by rw[fl,Zal (by omega) (by omega)];omega
    have gJ:IntKind.i64.wrap (((r++[x,y]).length:Int) - 1)=((r.length+1:Nat):Int):=by rw[fl,Zal (by omega) (by omega)];omega
    have hk:IntKind.u8.wrap (((s1 % 12:Nat):Int) - 4)=((s1 % 12 - 4:Nat):Int):=by
     generalize s1 % 12=k at h5 qs
     have:k=6\/k=7\/k=8\/k=9\/k=10\/k=11:=by omega
     rcases this with rfl|rfl|rfl|rfl|rfl|rfl <;> rfl
    have e9:2<=((s1 % 12 - 4:Nat):Int)/\((s1 % 12 - 4:Nat):Int)<=7:=by omega
    have mS:=λa c=>hT.op hs h5 a c
    generalize ((s1 % 12 - 4:Nat):Int)=kk at hk e9 mS
    simp only[gm,gJ,hk,zA8,Nat.sub_zero]
    obtain⟨bb,ig,fO,o',u',hu'⟩:=dB.rbase E.len (by omega) aC (by simp)
    obtain⟨bx,ox,ii,eM⟩:=Zaj E.len aC (k:=r.length) (t:=x) (by simp) (by omega)
    obtain⟨by',oy,ph,mT⟩:=Zaj E.len aC (k:=r.length+1) (t:=y) (by simp) (by omega)
    refine⟨λ_ _ _=>EF mb m1 (λe=>∃a d,e=opE kk a d x y),⟨by omega,by omega⟩,⟨by omega,by omega⟩,bx,ox,ii,⟨by omega,by omega⟩,_,_,_,_,_,eM,by',oy,ph,⟨by omega,by omega⟩,_,_,_,_,_,mT,_,rfl,(ZxZ kk x y (by omega) mb (aP x (by simp)) (aP y (by simp))).frame2 cW,Zrt,ZBN λt m0 m3 aR h0 ft bN e7 ht b6 gq=>?_⟩
    obtain⟨at',ct,rfl⟩:=ht
    have fJ:=Mem.le_add gq (opE kk at' ct x y).cs
    have eh:Apart m0 _:=.inr ⟨bb,ig,λo=>by rw[bN bb o' u' hu' o];exact fO o⟩
    refine ZcY E.len E.one gq (opE kk at' ct x y) ((ZvK aC).mono aR) 64 (by omega) (by omega) (.inr (.inr (by omega))) λa4 c4 m4 cE da aS M _ fh _ gt=>⟨trivial,N - (i+1),by omega,i+1,r++[opE kk at' ct x y],a4,c4,m0,by omega,?_,?_,by have:=aS.1;rw[zA1];exact this,mLt ep h0,mLt ft fh,eh.tok (mLt ft fJ) aS,da.mono gt,?_,hP.op e9 _ _,mS _ _,by omega⟩
    ·rw[zA1];rfl
    ·rw[zA1];rfl
    ·intro z hz
     rcases List.mem_append.1 hz with hz|hz
     ·exact(aP z (by simp[hz])).mono' h0
     ·rw[List.mem_singleton]at hz;subst hz;exact e7
 ·have nR:i=N:=by have:=of_decide_eq_false bO;omega
  have aG:=mLt ep cW
  rw[nR,<-mQ]at hT
  refine Zab (λh0=>?_) (λh0=>?_)
  ·have sB:eF l=_:=TrE.none (by have e:ts=[]:=List.eq_nil_of_length_eq_zero (by simpa using h0);rw[e]at hT;exact hT)
   refine Zan (Zur _ m1) ZfR (ZyO λt m2 aK hr ht=>Zaa rfl (ZaN (mLt aG aK) ⟨t,rfl,hr,?_⟩))
   rw[ht];exact⟨(ZtY (by decide +kernel)).mono (by omega),by rw[Zt4];exact sB.symm⟩
  ·obtain⟨t0,rest,rfl⟩:∃t r,ts=t::r:=by cases ts with
    | nil=>simp at h0
    | cons t r=>exact⟨t,r,rfl⟩
   have hF:=QE.start hP
   obtain⟨bb,ig,fO,o',u',hu'⟩:=dB.rbase E.len (by omega) aC (by simp)
   subst ig
   obtain⟨bx,ox,ii,eM⟩:=Zaj E.len aC (k:=0) (t:=t0) rfl (by omega)
   cases ii
   rw[List.length_cons]at gC cS
   refine⟨_,_,rfl,⟨by omega,by simp⟩,_,_,_,_,_,eM,λb2=>Zaa rfl ⟨⟨by omega,by rw[List.length_cons];omega⟩,?_⟩⟩
   refine⟨λxs css tvs m' q=>∃(k:Nat)(t:E),k<=rest.length/\xs=[.int .i64 k]/\css=[t.cs]/\m1.le m'/\RepE m' t/\QE t (rest.drop k) (2*i)/\FoE t (rest.drop k) l/\q=rest.length - k,⟨rest.length,0,t0,by omega,rfl,rfl,Mem.le_refl _,(aP t0 (by simp)).mono' cW,hF,hT.fold,by omega⟩,?_⟩
   rintro z cs m2 q2 _ ⟨k,t,hk,hz,bX,aK,e7,j8,kQ,oz⟩
   obtain rfl:z=k:=by simpa using hz
   obtain rfl:cs=t.cs:=by simpa using bX
   have kR:((t0::rest).length - Int.toNat 1)=rest.length:=by simp
   simp only[kR]
   refine Zab (λaB=>?_) (λdP=>Zaa rfl (ZaN (mLt aG aK) ⟨t,rfl,e7,?_⟩))
   ·have aJ:k < rest.length:=by have:=zA6 aB;omega
    obtain⟨x,hx⟩:=Zao aJ
    obtain⟨b3,o3,ew,je⟩:=Zaj E.len (aC.mono aK) (k:=k+1) (t:=x) (by simpa using hx) (by omega)
    cases ew
    have fS:IntKind.i64.wrap ((k:Int)+1)=((k+1:Nat):Int):=by rw[Zal (by omega) (by omega)];rfl
    simp only[fS,zA8]
    rw[ZqD hx]at j8 kQ
    have gG:Za5 (some (⟨bb,0,none⟩:Addr)) (Int.toNat 1) c2 5=some ⟨bb,0+5,none⟩:=by
     unfold Za5
     have:Nat.beq c2 1=false:=by
      cases hb:Nat.beq c2 1 with
      | false=>rfl
      | true=>have:=Nat.eq_of_beq_eq_true hb;omega
     show(bif Nat.beq c2 1 then _ else some (Addr.add _ (1*5)))=_
     rw[this,ZbN];rfl
    refine⟨_,_,gG,⟨by omega,by omega⟩,_,_,_,_,_,by rw[show 0+5+k*5=0+(k+1)*5 by omega];exact je,λb4=>Zaa rfl (Zan (ZxZ 2 t x (by omega) m2 e7 ((aP x (by simp[zA2 hx])).mono' (mLt cW aK))) ZfR (ZyO λt' m3 aR hr' ht'=>Zaa rfl ⟨trivial,trivial,rest.length - (k+1),by omega,k+1,t',by omega,rfl,rfl,mLt aK aR,hr',?_,?_,by omega⟩))⟩
    ·obtain⟨a3,c3,rfl⟩:=ht'
     exact j8.step _ _
    ·obtain⟨a3,c3,rfl⟩:=ht'
     exact kQ.step _ _
   ·have:k=rest.length:=by have:=of_decide_eq_false dP;omega
    rw[this,List.drop_length]at j8 kQ
    exact⟨j8.done.mono (by omega),kQ.done⟩
end Go.Proofs.YtpjepnkiiojgfaaGreat
namespace Go.Proofs.YtpjepnkiiojgfaaGreat
open Go Go.Eng Go.Proofs Go.RowKit
open Go.Value (int slice agg bool string tuple func)
open Go.IntKind (u8 u64 i64)
set_option maxRecDepth 100000
def Zos:Env:={ EB with
 loops:=swI nLa [(3,⟨[(12,.int .i64)],[],[],false⟩)]
 dr:=swI [] [(5,[⟨0,[1],[],none,[],[]⟩,⟨1,[1],[],none,[0],[]⟩,dO 2 [],⟨3,[4],[],none,[],[]⟩,dO 4 [3],dO 5 [0,1,2,3,4]])]
 thaw:=true
 stAt:=swI none [(22,some 7)]
 last:=swI false [(5,true)]
 tokC:=swI none [(7,some (7,8))] }
theorem ZlP(aA aD aF aE bA bB bC:Int)(aX:Option Addr)(aU bK:Nat)(m:Mem)(R:RT)(h:
 ∀b b_1,∃R_1,CXT pG 155 (.mk [slice aX aU bK]) m 8 R_1/\Zbp .slice R_1/\∀a n c m',lX (slice a n c) λyL=>lV [int u8 aA,int u64 aD,int u64 aF,int u64 aE,int u64 bA,int i64 bB,int i64 bC,yL]
 λxL=>m.le m'->R_1 yL m' []->∃I,inI I [int i64 0] [] [] m'/\∀(n_1:Int)(m':Mem)(n_2:Nat),lE (Int.toNat n_1*8) λyL_1=>True->I [int i64 n_1] [] [] m' n_2->br (decide (n_1 < (↑n:Int))) (atA a λb_2 o=>
 Zae n_1 n/\∃v v_1 v_2 v_3 v_4 v_5 v_6 v_7:Value,lV [v,v_1,v_2,v_3,v_4,v_5,v_6,v_7] λxL_1=>m'.reads b_2 (o+yL_1) xL_1/\∀(b_3:Nat),chk (v.oneCell'&&(v_1.oneCell'&&(v_2.oneCell'&&(v_3.oneCell' &&
 (v_4.oneCell'&&(v_5.oneCell'&&(v_6.oneCell'&&(v_7.oneCell'&&true)))))))) (∃(f:Fx),∃R,R=f 4 [agg (.mk xL_1)] m'/\CX pG 130 (.mk [agg (.mk xL_1)]) m' [] R/\Zbp (shT) R/\∀n_3 n_4 n_5 n_6 n_7 n_8 n_9 a_5 n_10 c_1
 m'_1,lV [int u8 n_3,int u64 n_4,int u64 n_5,int u64 n_6,int u64 n_7,int i64 n_8,int i64 n_9,slice a_5 n_10 c_1] λxL_2=>m'.le m'_1->R (agg (.mk xL_2)) m'_1 []->atA a λb_4 o=>Zae n_1 n/\∀M,m'.le M->
 m'_1.le M->yL=slice (some (Addr.mk b_4 0 none)) n c/\o+yL_1+8<=n*8/\Zac [some (Box.mk b_1 [int u8 0,int u64 0,int u64 0,int u64 0,int u64 0,int i64 0,int i64 0,slice none 0 0] 42 8 false true),some (Box.mk b
 xL 42 8 false true)]/\[some (Tok.mk yL 8)]=[some (Tok.mk yL 8)]/\nxI n_2 I [int i64 (i64.wrap (n_1+1))] [] [] (Mem.upd M b_4 (o+yL_1) xL_2))) (rtM m m' R (agg (.mk xL)))):CX Tryz.prog 130 #[.agg #[.int .u8 aA,.int .u64 aD,.int .u64 aF,.int .u64 aE,.int .u64 bA,.int .i64 bB,.int .i64 bC,.slice aX aU bK]] m [] R:=
 Zad (E:=Zos) Zap mix Tryz.func130 (by kernel_rfl) (Eq.mp (by kernel_rfl) h)
def ZbI:Env:={ EB with
 tokOf:=swI 0 [(2,7),(7,7)]
 tokC:=swI none [(5,some (7,8))]
 thaw:=true }
theorem Zbw(p0a:Option Addr)(p0n p0c:Nat)(m:Mem)(R:RT)(h:
 lE (0+p0n) λyL=>br (Option.isNone p0a) (slice none 0 0=slice none 0 0/\R (slice none 0 0) m []) (((0:Int)=(0:Int)/\(0:Int)<=0/\(0:Int)*(↑(80:Nat):Int)<=281474976710656/\(0:Int) <=
 9223372036854775807)/\∀(b:Nat),lX (slice (some (Addr.mk b 0 none)) 0 (Int.toNat (0:Int))) λyL_1=>m.free b->Mem.k m b=none->(Tok.mk yL_1 8=Tok.mk yL_1 8\/yL_1=slice none 0 0\/Int.toNat (0:Int) < yL)/\∃(xs
 : List Value),∃(ys:List Value),xs.length=0*8/\ys.length=p0n*8/\rowRd m (some (Addr.mk b 0 none)) xs/\rowRd m p0a ys/\(∀(u:Value),u∈ys->u.oneCell'=true)/\yL*80<=140737488355328/\yL <=
 9223372036854775807/\∀a' c' m',lE (some (Tok.mk (slice a' yL c') 8)) λyL_2=>m.le m'->rowRd m' a' (List.append xs ys)->TokFact m (some (Addr.mk b 0 none)) a' yL c'->yL_2=yL_2/\R (slice a' yL c') m' [])):CXT Tryz.prog 155 #[.slice p0a p0n p0c] m 8 R:=
 Zhx (E:=ZbI) Zap mix Tryz.func155 [.v (.slice p0a p0n p0c)] (by kernel_rfl) (Eq.mp (by kernel_rfl) h)
end Go.Proofs.YtpjepnkiiojgfaaGreat
end
