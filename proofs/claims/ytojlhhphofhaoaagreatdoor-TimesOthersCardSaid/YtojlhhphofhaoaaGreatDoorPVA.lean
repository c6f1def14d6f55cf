/- Part of the proof: functions of the program. No condition. -/
import Derived.Test.YtojlhhphofhaoaaGreatDoorPEnv
import Derived.Test.YtojlhhphofhaoaaGreatDoorMc
set_option linter.unusedVariables false
set_option linter.unusedSimpArgs false
set_option linter.unusedSectionVars false
noncomputable section
namespace Go.Proofs.YtojlhhphofhaoaaGreatDoor
open Go Go.Eng Go.Proofs Go.RowKit
open Go.Value (int slice agg bool string tuple func)
open Go.IntKind (u8 u64 i64)
set_option maxRecDepth 100000
def ZiK:Env:={ EB with
 loops:=(λi=>bif Nat.beq i 6 then⟨[(0,.slice),(23,.int .i64)],[],[(900,1)],false⟩ else⟨[],[],[],false⟩)
 tokOf:=(λi=>bif Nat.beq i 19 then 900 else 0)
 frzNew:=[3]
 thaw:=true
 lentC:=(λi=>bif Nat.beq i 29 then some [(900,1)]else none) }
theorem Zgt(bK:Int)(bL:Value)(bN:ByteArray)(bO:Int)(cD:Option Addr)(cA cH:Nat)(t0a:Option Addr)(t0n t0c:Nat)(m:Mem)(Y:Nat->Prop)(R:RTY)(h:
 lV [string bN] λxL=>lE (t0n+1) λyL=>lV [int u8 bK,bL,string bN,int i64 bO,slice cD cA cH] λxL_1=>lX (slice t0a t0n t0c) λyL_1=>fzM m xL_1 λb m'=>m.free b->(∀(b' o
 : Nat) (u:Value),m' b' o=some u->m b' o=some u\/b'=b)->br (bK == (9:Int)) (kB Tryz.prog 175 (yL_1::xL) m' λb m'=>br b (R yL_1 m' [] [yL_1]) (∀(b:Nat),lM (m'.add b xL) λmL=>m'.free  b->(Tok.mk yL_1 1=Tok.mk yL_1 1\/yL_1=slice none 0 0\/t0c < yL)/\∃(xs:List Value),∃(ys:List Value),xs.length=t0n*1/\ys.length=1*1/\rowRd mL t0a xs/\rowRd mL (some (Addr.mk b 0 none))
 ys/\(∀(u:Value),u∈ys->u.oneCell'=true)/\yL*16<=140737488355328/\yL<=9223372036854775807/\∀(a':Option Addr)(c':Nat)(m':Mem),mL.le m'->rowRd m' a' (List.append xs ys)->TokFact mL t0a
 a' yL c'->R (slice a' yL c') m' [] [slice a' yL c'])) (∃(I:IT),inI I [yL_1,int i64 0] [] [yL_1] m'/\∀(a:Option Addr)(n c:Nat)(n_1:Int)(a_1:Option Addr)(n_2 c_1:Nat)(m':Mem)(n_3:Nat),lX
 (slice a_1 n_2 c_1) λyL=>lE [Tok.mk yL 1] λxL=>lX (slice a n c) λyL_2=>True->I [yL_2,int i64 n_1] [] [yL] m' n_3->br (decide (n_1 < (↑cA:Int))) (atA cD λb_1 o=>Zag n_1 cA/\∃v v_1 v_2 v_3 v_4:Value,m'.reads b_1 (o+Int.toNat n_1*5) [v,v_1,v_2,v_3,v_4]/\∀(b_2:Nat),chk (v.oneCell'&&(v_1.oneCell' &&
 (v_2.oneCell'&&(v_3.oneCell'&&(v_4.oneCell'&&true))))) (∃(Y_1:Nat->Prop),∃(R:Value->Mem->List (List Value)->List Value->Prop),CXY Tryz.prog 201 (Array.mk [yL_2,agg (Array.mk [v,
 v_1,v_2,v_3,v_4])]) m' Y_1 [] xL R/\(∀(t:Tok),t∈xL->∀(b:Nat),Tok.blk t=some b->Y_1 b)/\(∀(b_3:Nat),Y_1 b_3->(∃(t:Tok),t∈xL/\Tok.blk t=some b_3)\/(Mem.free (Mem.off m Y) b_3/\Mem.k
 (Mem.off m Y) b_3=none)/\((∃(o:Nat),∃(v:Value),m' b_3 o=some v)\/∃(e:List (Value×Value)),Mem.k m' b_3=some e)/\b≠b_3/\True)/\(∀(v:Value)(m':Mem) (css:List (List Value)) (tvs:List
 Value),R v m' css tvs->Shape.fits Shape.slice v=true)/\∀(a:Option Addr)(n c:Nat)(m'_1:Mem),Mem.le (Mem.off m' Y_1) m'_1->(NewM m' m'_1 λb=>Y_1 b\/m'.free b)->∀(a_4:Option Addr) (c_2 d:
 Nat),R (slice a n c) m'_1 [] [slice a_4 c_2 d]->Zad [some (Box.mk b xL_1 133 5 true true)]/\([none]:List (Option Tok))=[none]/\nxI n_3 I [slice a n c,int i64 (i64.wrap (n_1+(1:Int)))] [] [slice
 a_4 c_2 d] m'_1)) (R yL_2 m' [] [yL]))):CXY Tryz.prog 201 #[.slice t0a t0n t0c,.agg #[.int .u8 bK,bL,.string bN,.int .i64 bO,.slice cD cA cH]] m Y [] [⟨.slice t0a t0n t0c,1⟩] R:=
 Zqu (E:=ZiK) Zal mix Tryz.func201 [.v (.slice t0a t0n t0c),.v (.agg #[.int .u8 bK,bL,.string bN,.int .i64 bO,.slice cD cA cH])] [] [900] [⟨.slice t0a t0n t0c,1⟩] (by decide) (by kernel_rfl) (Eq.mp (by kernel_rfl) h)
def ZmI:Env:={ EB with
 frzNew:=[1] }
theorem ZkD(aA:Int)(aC:Value)(aD:ByteArray)(aE:Int)(aY:Option Addr)(aV bA:Nat)(m:Mem)(R:RT)(h:
 fzM m [int u8 aA,aC,string aD,int i64 aE,slice aY aV bA] λb m'=>rtM m m' R (func (Fn.func 123) (Array.mk []) (Array.mk [Value.pointer (some (Addr.mk b 0 none))]))):CX Tryz.prog 96 #[.agg #[.int .u8 aA,aC,.string aD,.int .i64 aE,.slice aY aV bA]] m [] R:=
 Zae (E:=ZmI) Zal mix Tryz.func96 [.v (.agg #[.int .u8 aA,aC,.string aD,.int .i64 aE,.slice aY aV bA])] [] (by kernel_rfl) (Eq.mp (by kernel_rfl) h)
def ZiL:Env:={ EB with
 loops:=(λi=>bif Nat.beq i 3 then⟨[(13,.int .i64)],[],[],true⟩ else bif Nat.beq i 7 then⟨[(19,.agg [.int .u8,.any,.str,.int .i64,.slice])],[],[],true⟩ else⟨[],[],[],false⟩)
 frzNew:=[2] }
theorem Zhu(p0g:Nat)(p0fi p0ca:List Value)(c0b c0o:Nat)(m:Mem)(xs:List (List Value))(h:
 ∀(l:Nat),lE (↑(xs.length):Int) λyL=>lV [func (Fn.yield l) (Array.mk []) (Array.mk [])] λxL=>fzM m xL λb m'=>∃v v_1 v_2 v_3 v_4:Value,lE
 [some (Box.mk b xL 176 1 true true)] λxL=>m'.reads c0b c0o [v,v_1,v_2,v_3,v_4]/\(l=l/\(0:Int)<=(0:Int)/\List.get?Internal xs (Int.toNat (0:Int))=some [agg (Array.mk [v,v_1,v_2,v_3,v_4])])
 /\ (∃(v:Value),m' c0b (c0o+4)=some v/\chk (Zbd v) (∃(I:IT),inI I [int i64 ((0:Int)+(1:Int)),int i64 0] [] [] m'/\∀(y n:Int)(m'_1:Mem)(n_1:Nat),m'.le m'_1->I [int i64 y,int i64 n] []
 [] m'_1 n_1->br (decide (n < (↑(slN v):Int))) (chk (Zbd v) (atA (slA v) λb o=>Zag n (slN v)/\∃v v_5 v_6 v_7 v_8:Value,lV [v,v_5,v_6,v_7,v_8]
 λxL_1=>m'_1.reads b (o+Int.toNat n*5) xL_1/\∀(b:Nat),lE (some (Box.mk b xL_1 133 5 false true)::xL) λxL_2=>chk (v.oneCell'&&(v_5.oneCell'&&(v_6.oneCell'&&(v_7.oneCell'&&(v_8.oneCell'&&true))))) (kF Tryz.prog 96 [agg (Array.mk xL_1)] m'_1 λg fi ca m'=>∃(xs_1:List (List Value)),IX Tryz.prog g fi ca m' xs_1/\(∀(x:List Value),x∈xs_1->Shape.fitsL [Shape.agg
 [Shape.int u8,Shape.any,Shape.str,Shape.int i64,Shape.slice]] x=true)/\∃(I_1:IT),I_1 [int i64 y] [] [] m' 0/\(∀(y n:Int)(v:Value)(s:ByteArray)(n_2:Int)(a:Option Addr)(n_3 c:Nat) (m'_2:
 Mem) (n_4:Nat),lE (some [agg (Array.mk [int u8 n,v,string s,int i64 n_2,slice a n_3 c])]) λyL_1=>m'.le m'_2->List.get?Internal xs_1 n_4=yL_1->I_1 [int i64 y] [] [] m'_2 n_4->∀(b:Nat),chk
 (v.oneCell'&&true) ((l=l/\(0:Int)<=y/\List.get?Internal xs (Int.toNat y)=yL_1)/\(Zad xL_2/\I_1 [int i64 (y+(1:Int))] [] [] m'_2 (n_4+1))/\Zad xL_2/\((-1:Int)=yL\/(-1:Int)=(-1:
 Int))))/\∀(y:Int)(m'_2:Mem),m'.le m'_2->I_1 [int i64 y] [] [] m'_2 (xs_1.length)->Zad xL/\nxI n_1 I [int i64 y,int i64 (i64.wrap (n+(1:Int)))] [] [] m'_2))) (y=yL\/y=(-1:
 Int))))/\((-1:Int)=yL\/(-1:Int)=(-1:Int))):IX Tryz.prog 123 [] [.pointer (some ⟨c0b,c0o,none⟩)] m xs:=
 Zg5 (E:=ZiL) Zal mix Tryz.func123 [] [.pointer (some ⟨c0b,c0o,none⟩)] xs (by kernel_rfl) (Eq.mp (by kernel_rfl) h)
def ZmJ:Env:={ EB with
 loops:=(λi=>bif Nat.beq i 3 then⟨[(6,.agg [.int .u8,.any,.str,.int .i64,.slice])],[3],[],false⟩ else⟨[],[],[],false⟩)
 frzNew:=[1] }
theorem ZkE(aA:Int)(aC:Value)(aD:ByteArray)(aE:Int)(aY:Option Addr)(aV bA:Nat)(m:Mem)(R:RT)(h:
 lV [int u8 aA,aC,string aD,int i64 aE,slice aY aV bA] λxL=>fzM m xL λb m'=>∀(b_1:Nat),lE [some (Box.mk b_1 [] 3 1 false true),some (Box.mk b xL 133 5 true true)] λxL_1=>kF
 Tryz.prog 96 [agg (Array.mk xL)] m' λg fi ca m'=>∃(xs:List (List Value)),IX Tryz.prog g fi ca m' xs/\(∀(x:List Value),x∈xs->Shape.fitsL [Shape.agg [Shape.int u8,Shape.any,Shape.str,Shape.int i64,
 Shape.slice]] x=true)/\∃(I:IT),I [] [[int i64 0]] [] m' 0/\(∀(n:Int)(v:Value)(s:ByteArray)(n_1:Int)(a:Option Addr)(n_2 c:Nat)(cs:List Value)(m'_1:Mem)(n_3:Nat),m'.le m'_1->
 List.get?Internal xs n_3=some [agg (Array.mk [int u8 n,v,string s,int i64 n_1,slice a n_2 c])]->I [] [cs] [] m'_1 n_3->Eng.Zvs cs 0 λv=>lE (i64.wrap (intOf v+(1:Int))) λyL=>chk
 (ZaO i64 v&&decide (i64=i64)) (br (decide (yL > (10000:Int))) (Zad xL_1/\rtM m m'_1 R (bool (decide (yL<=(10000:Int))))) (Zad xL_1/\I [] [[int i64 yL]] [] m'_1 (n_3+1))))/\∀(cs:List Value) (m'_1
 : Mem),m'.le m'_1->I [] [cs] [] m'_1 (xs.length)->Eng.Zvs cs 0 λv=>chk (ZaO i64 v&&decide (i64=i64)) (rtM m m'_1 R (bool (decide (intOf v<=(10000:Int)))))):CX Tryz.prog 95 #[.agg #[.int .u8 aA,aC,.string aD,.int .i64 aE,.slice aY aV bA]] m [] R:=
 Zae (E:=ZmJ) Zal mix Tryz.func95 [.v (.agg #[.int .u8 aA,aC,.string aD,.int .i64 aE,.slice aY aV bA])] [] (by kernel_rfl) (Eq.mp (by kernel_rfl) h)
def Zo0:Env:={ EB with
 loops:=(λi=>bif Nat.beq i 4 then⟨[(8,.agg [.int .u8,.any,.str,.int .i64,.slice])],[3],[],false⟩ else⟨[],[],[],false⟩)
 frzNew:=[1] }
theorem ZmK(aA:Int)(aC:Value)(aD:ByteArray)(aE:Int)(aY:Option Addr)(aV bA:Nat)(m:Mem)(R:RT)(h:
 lV [int u8 aA,aC,string aD,int i64 aE,slice aY aV bA] λxL=>fzM m xL λb m'=>∀(b_1:Nat),kB Tryz.prog 95 [agg (Array.mk xL)] m' λb_2 m'=>br b_2 (kF Tryz.prog 96 [agg (Array.mk xL)]
 m' λg fi ca m'=>∃(xs:List (List Value)),IX Tryz.prog g fi ca m' xs/\(∀(x:List Value),x∈xs->Shape.fitsL [Shape.agg [Shape.int u8,Shape.any,Shape.str,Shape.int i64,Shape.slice]] x=true)/\∃(I:
 IT),I [] [[int i64 0]] [] m' 0/\(∀(n:Int)(v:Value)(s:ByteArray)(n_1:Int)(a:Option Addr)(n_2 c:Nat)(cs:List Value)(m'_1:Mem)(n_3:Nat),m'.le m'_1->List.get?Internal xs n_3=some [agg
 (Array.mk [int u8 n,v,string s,int i64 n_1,slice a n_2 c])]->I [] [cs] [] m'_1 n_3->Eng.Zvs cs 0 λv=>chk (ZaO i64 v&&decide (i64=i64)) (Zad [some (Box.mk b_1 [] 3 1 false true),some (Box.mk b xL
 133 5 true true)]/\I [] [[int i64 (i64.wrap (intOf v+(1:Int)))]] [] m'_1 (n_3+1)))/\∀(cs:List Value)(m'_1:Mem),m'.le m'_1->I [] [cs] [] m'_1 (xs.length)->Eng.Zvs cs 0 λv=>
 rtM m m'_1 R v) (rtM m m' R (int i64 0))):CX Tryz.prog 107 #[.agg #[.int .u8 aA,aC,.string aD,.int .i64 aE,.slice aY aV bA]] m [] R:=
 Zae (E:=Zo0) Zal mix Tryz.func107 [.v (.agg #[.int .u8 aA,aC,.string aD,.int .i64 aE,.slice aY aV bA])] [] (by kernel_rfl) (Eq.mp (by kernel_rfl) h)
def ZmL:Env:={ EB with
 exv:=(λi=>bif Nat.beq i 1 then true else false) }
theorem ZkF  (m:Mem)(R:RT)(h:
 ∃(v:Value),ZnJ Tryz.prog 124 [int u64 9221120237041090561] v/\rtM m m R v):CX Tryz.prog 142 #[] m [] R:=
 Zae (E:=ZmL) Zal mix Tryz.func142 [] [] (by kernel_rfl) (Eq.mp (by kernel_rfl) h)
def ZiM:Env:=EB
theorem Zhv(p0:Value)(m:Mem)(R:RT)(h:
 ∃(b:Bool),BinIs Tryz.prog BinOp.neq 87 p0 p0 (bool b)/\br b (∃(R_1:RT),True/\CX Tryz.prog 142 (Array.mk []) m [] R_1/\(∀(v:Value)(m':Mem) (css:List (List Value)),R_1 v m' css->true=true)/\∀(v:
 Value) (m':Mem),m.le m'->R_1 v m' []->rtM m m' R v) (rtM m m R p0)):CX Tryz.prog 121 #[p0] m [] R:=
 Zae (E:=ZiM) Zal mix Tryz.func121 [.v (p0)] [] (by kernel_rfl) (Eq.mp (by kernel_rfl) h)
def ZiN:Env:={ EB with
 joins:=(λi=>bif Nat.beq i 1 then some [(2,.bool)]else none)
 exv:=(λi=>bif Nat.beq i 8 then true else false) }
theorem Zhw(p0:Value)(m:Mem)(R:RT)(h:
 ∃(b:Bool),(∃(b_1:Bool),BinIs Tryz.prog BinOp.eql 87 p0 p0 (bool b_1)/\br b_1 ([bool true]=[bool b]) (∃(v:Value),ZnJ Tryz.prog 120 [p0] v/\chk (ZaO u64 v&&decide (u64=u64)) ([bool (intOf v
 == (9221120237041090561:Int))]=[bool b])))/\rtM m m R (bool b)):CX Tryz.prog 177 #[p0] m [] R:=
 Zae (E:=ZiN) Zal mix Tryz.func177 [.v (p0)] [] (by kernel_rfl) (Eq.mp (by kernel_rfl) h)
def ZkG:Env:={ EB with
 exv:=(λi=>bif Nat.beq i 7 then true else bif Nat.beq i 10 then true else false) }
theorem ZiO(p0 p1:Value)(m:Mem)(R:RT)(h:
 ∃(R_1:RT),True/\CX Tryz.prog 121 (Array.mk [p0]) m [] R_1/\(∀(v:Value)(m':Mem) (css:List (List Value)),R_1 v m' css->true=true)/\∀(v:Value)(m':Mem),m.le m'->R_1 v m' []->∃(v_1:Value),
 ZnJ Tryz.prog 120 [v] v_1/\∃(R_2:RT),True/\CX Tryz.prog 121 (Array.mk [p1]) m' [] R_2/\(∀(v:Value)(m':Mem) (css:List (List Value)),R_2 v m' css->true=true)/\∀(v:Value)(m'_1:Mem),m'.le m'_1->R_2 v m'_1 []->∃(v_2:Value),ZnJ Tryz.prog 120 [v] v_2/\chk (ZaO u64 v_1&&ZaO u64 v_2) (rtM m m'_1 R (bool (intOf v_1 == intOf v_2)))):CX Tryz.prog 90 #[p0,p1] m [] R:=
 Zae (E:=ZkG) Zal mix Tryz.func90 [.v (p0),.v (p1)] [] (by kernel_rfl) (Eq.mp (by kernel_rfl) h)
def ZbH:Env:={ EB with
 loops:=(λi=>bif Nat.beq i 2 then⟨[(8,.int .i64)],[],[],false⟩ else⟨[],[],[],false⟩) }
theorem ZbC(p0a:Option Addr)(p0n p0c p1g:Nat)(p1fi p1ca:List Value)(m:Mem)(R:RT)(h:
 ∃(I:IT),inI I [int i64 0] [] [] m/\∀(n:Int)(m':Mem)(n_1:Nat),m.le m'->I [int i64 n] [] [] m' n_1->br (decide (n < (↑p0n:Int))) (atA p0a λb o=>Zag n p0n/\∃(v:Value),m' b (o +
 Int.toNat n*1)=some v/\kB Tryz.prog p1g (List.append (List.append p1fi [v]) p1ca) m' λb m'=>br b (rtM m m' R (int i64 n)) (nxI n_1 I [int i64 (i64.wrap (n+(1:Int)))] [] [] m')) (rtM m m' R (int i64
 (-1:Int)))):CX Tryz.prog 200 #[.slice p0a p0n p0c,.func (.func p1g) p1fi.toArray p1ca.toArray] m [] R:=
 Zae (E:=ZbH) Zal mix Tryz.func200 [.v (.slice p0a p0n p0c),.v (.func (.func p1g) p1fi.toArray p1ca.toArray)] [] (by kernel_rfl) (Eq.mp (by kernel_rfl) h)
def Zbo:Env:=EB
theorem Zbi(p0a:Option Addr)(p0n p0c p1g:Nat)(p1fi p1ca:List Value)(m:Mem)(R:RT)(h:
 kI Tryz.prog 200 [slice p0a p0n p0c,func (Fn.func p1g) (Array.mk p1fi) (Array.mk p1ca)] m λn m'=>rtM m m' R (bool (decide (n ≥ (0:Int))))):CX Tryz.prog 186 #[.slice p0a p0n p0c,.func (.func p1g) p1fi.toArray p1ca.toArray] m [] R:=
 Zae (E:=Zbo) Zal mix Tryz.func186 [.v (.slice p0a p0n p0c),.v (.func (.func p1g) p1fi.toArray p1ca.toArray)] [] (by kernel_rfl) (Eq.mp (by kernel_rfl) h)
def Zch:Env:={ EB with
 loops:=(λi=>bif Nat.beq i 2 then⟨[(8,.int .i64)],[],[],false⟩ else⟨[],[],[],false⟩) }
theorem Zcb(p0a:Option Addr)(p0n p0c:Nat)(p1:ByteArray)(m:Mem)(R:RT)(h:
 ∃(I:IT),inI I [int i64 0] [] [] m/\∀(n:Int)(m':Mem)(n_1:Nat),m.le m'->I [int i64 n] [] [] m' n_1->br (decide (n < (↑p0n:Int))) (atA p0a λb o=>Zag n p0n/\∃(v:Value),m' b (o +
 Int.toNat n*1)=some v/\chk (ZgC v) (br (ByteArray.toList p1 == ByteArray.toList (Zcl v)) (rtM m m' R (int i64 n)) (nxI n_1 I [int i64 (i64.wrap (n+(1:Int)))] [] [] m'))) (rtM m m' R (int i64 (-1:
 Int)))):CX Tryz.prog 190 #[.slice p0a p0n p0c,.string p1] m [] R:=
 Zae (E:=Zch) Zal mix Tryz.func190 [.v (.slice p0a p0n p0c),.v (.string p1)] [] (by kernel_rfl) (Eq.mp (by kernel_rfl) h)
def ZbT:Env:=EB
theorem ZbI(p0a:Option Addr)(p0n p0c:Nat)(p1:ByteArray)(m:Mem)(R:RT)(h:
 kI Tryz.prog 190 [slice p0a p0n p0c,string p1] m λn m'=>rtM m m' R (bool (decide (n ≥ (0:Int))))):CX Tryz.prog 175 #[.slice p0a p0n p0c,.string p1] m [] R:=
 Zae (E:=ZbT) Zal mix Tryz.func175 [.v (.slice p0a p0n p0c),.v (.string p1)] [] (by kernel_rfl) (Eq.mp (by kernel_rfl) h)
def Zcs:Env:=EB
theorem Zci(p0b p0o:Nat)(p1:Int)(m:Mem)(R:RT)(h:
 Zag p1 256/\∃(v:Value),m p0b (p0o+Int.toNat p1*1)=some v/\rtM m m R v):CX Tryz.prog 202 #[.pointer (some ⟨p0b,p0o,none⟩),.int .u8 p1] m [] R:=
 Zae (E:=Zcs) Zal mix Tryz.func202 [.v (.pointer (some ⟨p0b,p0o,none⟩)),.v (.int .u8 p1)] [] (by kernel_rfl) (Eq.mp (by kernel_rfl) h)
def Zde:Env:={ EB with
 loops:=(λi=>bif Nat.beq i 2 then⟨[(4,.int .i64)],[2],[],false⟩ else⟨[],[],[],false⟩) }
theorem Zc8(p0:ByteArray)(m:Mem)(R:RT)(h:
 ∀(b:Nat),∃(I:IT),inI I [int i64 0] [List.replicate 256 (bool false)] [] m/\∀(n:Int)(cs:List Value)(m':Mem)(n_1:Nat),lE (ZgI p0 (Int.toNat n)) λyL=>lE (0+Int.toNat yL*1) λyL_1=>lE
 (Nat.beq (cs.length) 256&&Zdq cs) λyL_2=>m.le m'->I [int i64 n] [cs] [] m' n_1->br (decide (n < (↑(ByteArray.size p0):Int))) (Zag n (ByteArray.size p0)/\br (decide (yL ≥ (128:Int))) (chk
 yL_2 (rtM m m' R (tuple (Array.mk [agg (Array.mk cs),bool false])))) (Zag yL 256/\chk (Nat.ble (yL_1+1) (cs.length)) (Zad [some (Box.mk b [] 246 256 false true)]/\nxI n_1 I [int i64 (i64.wrap (n
 + (1:Int)))] [ZaC cs yL_1 [bool true]] [] m'))) (chk yL_2 (rtM m m' R (tuple (Array.mk [agg (Array.mk cs),bool true]))))):CX Tryz.prog 193 #[.string p0] m [] R:=
 Zae (E:=Zde) Zal mix Tryz.func193 [.v (.string p0)] [] (by kernel_rfl) (Eq.mp (by kernel_rfl) h)
def Zc9:Env:={ EB with
 loops:=(λi=>bif Nat.beq i 1 then⟨[(0,.str)],[],[],false⟩ else⟨[],[],[],false⟩) }
theorem ZcU(p0:ByteArray)(p1b p1o:Nat)(m:Mem)(R:RT)(h:
 ∃(I:IT),inI I [string p0] [] [] m/\∀(s:ByteArray)(m':Mem)(n:Nat),m.le m'->I [string s] [] [] m' n->br (decide ((↑(ByteArray.size s):Int) > (0:Int))) (Zag (0:Int) (ByteArray.size s)/\kB
 Tryz.prog 202 [Value.pointer (some (Addr.mk p1b p1o none)),int u8 (ZgI s (Int.toNat (0:Int)))] m' λb m'=>br (!b) (rtM m m' R (string s)) (((0:Int)<=(1:Int)/\(1:Int)<=(↑(ByteArray.size s):Int))/\nxI
 n I [string (ByteArray.extract s (Int.toNat (1:Int)) (ByteArray.size s))] [] [] m')) (rtM m m' R (string s))):CX Tryz.prog 194 #[.string p0,.pointer (some ⟨p1b,p1o,none⟩)] m [] R:=
 Zae (E:=Zc9) Zal mix Tryz.func194 [.v (.string p0),.v (.pointer (some ⟨p1b,p1o,none⟩))] [] (by kernel_rfl) (Eq.mp (by kernel_rfl) h)
def ZcV:Env:={ EB with
 loops:=(λi=>bif Nat.beq i 1 then⟨[(0,.str)],[],[],false⟩ else⟨[],[],[],false⟩) }
theorem ZcF(p0:ByteArray)(p1b p1o:Nat)(m:Mem)(R:RT)(h:
 ∃(I:IT),inI I [string p0] [] [] m/\∀(s:ByteArray)(m':Mem)(n:Nat),lE (↑(ByteArray.size s):Int) λyL=>lE (i64.wrap (yL - (1:Int))) λyL_1=>m.le m'->I [string s] [] [] m' n->br
 (decide (yL > (0:Int))) (Zag yL_1 (ByteArray.size s)/\kB Tryz.prog 202 [Value.pointer (some (Addr.mk p1b p1o none)),int u8 (ZgI s (Int.toNat yL_1))] m' λb m'=>br (!b) (rtM m m' R (string s)) (((0:Int) <=
 yL_1/\yL_1<=yL)/\nxI n I [string (ByteArray.extract s 0 (Int.toNat yL_1))] [] [] m')) (rtM m m' R (string s))):CX Tryz.prog 195 #[.string p0,.pointer (some ⟨p1b,p1o,none⟩)] m [] R:=
 Zae (E:=ZcV) Zal mix Tryz.func195 [.v (.string p0),.v (.pointer (some ⟨p1b,p1o,none⟩))] [] (by kernel_rfl) (Eq.mp (by kernel_rfl) h)
def ZiP:Env:={ EB with
 joins:=(λi=>bif Nat.beq i 1 then some [(12,.bool)]else bif Nat.beq i 3 then some [(21,.bool)]else none)
 dr:=(λi=>bif Nat.beq i 4 then[⟨0,[],[],none,[],[]⟩,⟨1,[],[],none,[],[]⟩,⟨2,[],[],none,[1],[]⟩,⟨3,[],[],none,[0,1,2],[]⟩,⟨4,[],[],none,[],[]⟩,⟨5,[],[],none,[4],[]⟩,⟨6,[],[],none,[0,1,2,3,4,5],[3]⟩,⟨7,[],[],none,[0,1,2,3,4,5,6],[]⟩]else[])
 frzAt:=(λi=>bif Nat.beq i 36 then[5]else[]) }
theorem Zhx(p0 p1:ByteArray)(m:Mem)(R:RT)(h:
 ∃(b:Bool),lX (string p0) λyL=>lV [int u8 (ZgI p1 (Int.toNat (0:Int)))] λxL=>br (ByteArray.toList p0 == ByteArray.toList bE0) ([bool true]=[bool b]) ([bool (ByteArray.toList
 p1 == ByteArray.toList bE0)]=[bool b])/\br b (rtM m m R yL) (∃(b:Bool),br ((↑(ByteArray.size p1):Int) == (1:Int)) (Zag (0:Int) (ByteArray.size p1)/\[bool (decide (ZgI p1
 (Int.toNat (0:Int)) < (128:Int)))]=[bool b]) ([bool false]=[bool b])/\br b (∃(f:Fx),Zag (0:Int) (ByteArray.size p1)/\∃(R_1:RT),R_1=f 3 (yL::xL) m/\CX Tryz.prog 192 (Array.mk (yL::xL)) m []
 R_1/\Za1 Shape.str R_1/\∀(s:ByteArray)(m':Mem),m.le m'->R_1 (string s) m' []->Zag (0:Int) (ByteArray.size p1)/\∃(R_2:RT),R_2=f 6 (string s::xL) m'/\CX Tryz.prog 191 (Array.mk (string s ::
 xL)) m' [] R_2/\Za1 Shape.str R_2/\∀(s:ByteArray)(m'_1:Mem),m'.le m'_1->R_2 (string s) m'_1 []->∀(M:Mem),m.le M->m'.le M->m'_1.le M->rtM m M R (string s)) (∃(R_1:RT),True/\CX
 Tryz.prog 193 (Array.mk [string p1]) m [] R_1/\Za1 (Shape.tup [Shape.cells,Shape.bool]) R_1/\∀(cs:List Value)(b:Bool)(m':Mem),m.le m'->R_1 (tuple (Array.mk [agg (Array.mk cs),bool b])) m' []->∀(b_1
 : Nat),lV [Value.pointer (some (Addr.mk b_1 0 none))] λxL=>chk (Nat.beq (cs.length) 256&&Zdq cs) (br b (∀(m'_1:Mem),m'.le m'_1->m'_1.reads b_1 0 cs->kT Tryz.prog 195 (yL::xL) m'_1 λs m'
 => kT Tryz.prog 194 (string s::xL) m' λs m'=>rtM m m' R (string s)) (kT Tryz.prog 197 [yL,string p1] m' λs m'=>kT Tryz.prog 196 [string s,string p1] m' λs m'=>rtM m m' R (string s)))))):CX Tryz.prog 176 #[.string p0,.string p1] m [] R:=
 Zae (E:=ZiP) Zal mix Tryz.func176 [.v (.string p0),.v (.string p1)] [] (by kernel_rfl) (Eq.mp (by kernel_rfl) h)
def ZkH:Env:=EB
theorem ZiQ(p0:ByteArray)(m:Mem)(R:RT)(h:
 br (ByteArray.toList p0 == ByteArray.toList bE0) (rtM m m R (bool false)) (br (decide ((↑(ByteArray.size p0):Int) > (16:Int))) (rtM m m R (bool false)) (Zag (0:Int) (ByteArray.size p0)
 /\ br (decide (ZgI p0 (Int.toNat (0:Int)) < (97:Int))) (rtM m m R (bool false)) (Zag (0:Int) (ByteArray.size p0)/\br (decide (ZgI p0 (Int.toNat (0:Int)) > (122:Int))) (rtM m m R (bool false)) (∀(b:
 Nat),m.free b->kB Tryz.prog 175 [slice (some (Addr.mk b 0 none)) 3 3,string p0] (m.add b [string (ByteArray.mk (Array.mk [109,105,110])),string (ByteArray.mk (Array.mk [109,97,120])),string (ByteArray.mk (Array.mk [110,117,109]))]) λb m'=>br b (rtM m m' R (bool false)) (kT Tryz.prog 176 [string p0,string (ByteArray.mk
 (Array.mk [97,98,99,100,101,102,103,104,105,106,107,108,109,110,
 111,112,113,114,115,116,117,118,119,120,121,122,48,49,50,51,52,53,54,55,56,57,95]))] m' λs m'=>rtM m m' R (bool (ByteArray.toList s == ByteArray.toList bE0)))))))):CX Tryz.prog 146 #[.string p0] m [] R:=
 Zae (E:=ZkH) Zal mix Tryz.func146 [.v (.string p0)] [] (by kernel_rfl) (Eq.mp (by kernel_rfl) h)
def Zo1:Env:={ EB with
 joins:=(λi=>bif Nat.beq i 3 then some [(6,.bool)]else none) }
theorem ZmM(p0:Int)(m:Mem)(R:RT)(h:
 br (p0 == (1:Int)) (rtM m m R (int i64 1)) (∃(b:Bool),br (decide (p0 ≥ (2:Int))) ([bool (decide (p0<=(7:Int)))]=[bool b]) ([bool false]=[bool b])/\br b (rtM m m R (int i64 2)) (rtM m m R (int i64 0)))):CX Tryz.prog 97 #[.int .u8 p0] m [] R:=
 Zae (E:=Zo1) Zal mix Tryz.func97 [.v (.int .u8 p0)] [] (by kernel_rfl) (Eq.mp (by kernel_rfl) h)
def ZmN:Env:={ EB with
 joins:=(λi=>bif Nat.beq i 8 then some [(5,.bool)]else bif Nat.beq i 11 then some [(6,.bool)]else none)
 dr:=(λi=>bif Nat.beq i 1 then[⟨0,[1],[],none,[],[]⟩,⟨1,[1],[],none,[0],[]⟩,⟨2,[],[],none,[0,1],[]⟩,⟨3,[1],[],none,[],[]⟩,⟨4,[1],[],none,[3],[]⟩,⟨5,[],[],none,[3,4],[]⟩,⟨6,[1],[],none,[],[]⟩,⟨7,[1],[],none,[6],[]⟩,⟨8,[],[],none,[6,7],[]⟩,⟨9,[],[],none,[0,1,2,3,4,5],[]⟩,⟨10,[],[],none,[0,1,2,3,4,5,9],[]⟩,⟨11,[],[],none,[0,1,2,3,4,5,6,7,8,9,10],[]⟩]else bif Nat.beq i 12 then[⟨0,[1],[],none,[],[]⟩,⟨1,[1],[],none,[0],[]⟩,⟨2,[],[],none,[0,1],[]⟩,⟨3,[],[],none,[0,1,2],[]⟩,⟨4,[],[],none,[0,1,2,3],[]⟩,⟨5,[],[],none,[0,1,2,3,4],[]⟩,⟨6,[],[],none,[0,1,2,3,4,5],[]⟩,⟨7,[],[],none,[0,1,2,3,4,5,6],[]⟩,⟨8,[],[],none,[0,1,2,3,4,5,6,7],[]⟩,⟨9,[],[],none,[0,1,2,3,4,5,6,7,8],[]⟩,⟨10,[],[],none,[0,1,2,3,4,5,6,7,8,9],[]⟩,⟨11,[],[],none,[0,1,2,3,4,5,6,7,8,9,10],[]⟩,⟨12,[],[],none,rg 0 12,[]⟩,⟨13,[1],[],none,rg 0 13,[]⟩,⟨14,[1],[],none,rg 0 14,[]⟩,⟨15,[],[],none,rg 0 15,[]⟩,⟨16,[1],[],none,rg 0 13,[]⟩,⟨17,[1],[],none,rg 0 13++[16],[]⟩,⟨18,[],[],none,rg 0 13++[16,17],[]⟩,⟨19,[],[],none,rg 0 19,[]⟩,⟨20,[],[],none,rg 0 20,[]⟩,⟨21,[],[],none,rg 0 21,[]⟩,⟨22,[],[],none,rg 0 22,[]⟩,⟨23,[],[],none,rg 0 23,[]⟩,⟨24,[],[],none,rg 0 24,[]⟩,⟨25,[],[],none,rg 0 25,[]⟩]else[])
 frzNew:=[1]
 gb:=true }
theorem ZkI(aA:Int)(aC:Value)(aD:ByteArray)(aE:Int)(aY:Option Addr)(aV bA:Nat)(m:Mem)(R:RT)(h:
 lE (↑aV:Int) λyL=>lE (aA == (1:Int)) λaf=>lE (yL == (1:Int)) λag=>lE (decide (aA<=(10:Int))) λah=>lE (ByteArray.toList aD == ByteArray.toList bE0) λai=>
 lV [int u8 aA] λxL=>lV [int u8 aA,aC,string aD,int i64 aE,slice aY aV bA] λak=>fzM m ak λb m'=>∃(f:Fx),∃(R_1:RT),lE [some (Box.mk b ak 133 5 true true)] λac=>R_1=f 5
 [aC,Value.float .f64 0] m'/\CX Tryz.prog 90 (Array.mk [aC,Value.float .f64 0]) m' [] R_1/\Za1 Shape.bool R_1/\∀(b:Bool)(aj:Mem),m'.le aj->R_1 (bool b) aj []->∀(M:Mem),m'.le M->aj.le M->br (aA == (8:Int)) (kB Tryz.prog 177 [aC] M λb m'=>∃(ab:Bool),br af (br ag (atA aY λb o=>Zag (0:Int) aV/\∃(v:Value),m' b (o+0+0)=some v/\chk (ZaO u8 v
 && decide (u8=u8)) (Zad ac/\[bool (intOf v == (8:Int))]=[bool ab])) (Zad ac/\[bool false]=[bool ab])) (Zad ac/\[bool false]=[bool ab])/\∃(f:Fx),br ah (br ai (br b (br (aE == (0:
 Int)) (∃(R_2:RT),R_2=f 18 xL m'/\CX Tryz.prog 97 (Array.mk xL) m' [] R_2/\Za1 (Shape.int i64) R_2/\∀(n:Int)(ad:Mem),m'.le ad->R_2 (int i64 n) ad []->br (yL == n) (∀(M:Mem),m'.le M->ad.le M->rtM m M R (bool !ab)) (∀(M:Mem),m'.le M->ad.le M->rtM m M R (bool false))) (∀(M:Mem),m'.le M->m'.le M->rtM m M R (bool false))) (∀(M:Mem),m'.le M->m'.le M->rtM m M R
 (bool false))) (∀(M:Mem),m'.le M->m'.le M->rtM m M R (bool false))) (∀(M:Mem),m'.le M->m'.le M->rtM m M R (bool false))) (br (aA == (9:Int)) (kB Tryz.prog 146 [string aD] M λab m'=>
 ∃(ae:Bool),br af (br ag (atA aY λb o=>Zag (0:Int) aV/\∃(v:Value),m' b (o+0+0)=some v/\chk (ZaO u8 v&&decide (u8=u8)) (Zad ac/\[bool (intOf v == (8:Int))]=[bool ae]))
 (Zad ac/\[bool false]=[bool ae])) (Zad ac/\[bool false]=[bool ae])/\∃(f:Fx),br ah (br ab (br b (br (aE == (0:Int)) (∃(R_2:RT),R_2=f 18 xL m'/\CX Tryz.prog 97 (Array.mk xL) m' [] R_2/\Za1
 (Shape.int i64) R_2/\∀(n:Int)(ad:Mem),m'.le ad->R_2 (int i64 n) ad []->br (yL == n) (∀(M:Mem),m'.le M->ad.le M->rtM m M R (bool !ae)) (∀(M:Mem),m'.le M->ad.le M->rtM m M R (bool
 false))) (∀(M:Mem),m'.le M->m'.le M->rtM m M R (bool false))) (∀(M:Mem),m'.le M->m'.le M->rtM m M R (bool false))) (∀(M:Mem),m'.le M->m'.le M->rtM m M R (bool false))) (∀(M:
 Mem),m'.le M->m'.le M->rtM m M R (bool false))) (br (aA == (10:Int)) (∃(ab:Bool),br (decide (aE ≥ (0:Int))) (Zad ac/\[bool (decide (aE<=(9:Int)))]=[bool ab]) (Zad ac/\[bool false] =
 [bool ab])/\∃(ae:Bool),br af (br ag (atA aY λb o=>Zag (0:Int) aV/\∃(v:Value),M b (o+0+0)=some v/\chk (ZaO u8 v&&decide (u8=u8)) (Zad ac/\[bool (intOf v == (8:Int))] =
 [bool ae])) (Zad ac/\[bool false]=[bool ae])) (Zad ac/\[bool false]=[bool ae])/\∃(f:Fx),br ah (br ai (br b (br ab (∃(R_2:RT),R_2=f 18 xL M/\CX Tryz.prog 97 (Array.mk xL) M [] R_2/\Za1
 (Shape.int i64) R_2/\∀(n:Int)(m':Mem),M.le m'->R_2 (int i64 n) m' []->br (yL == n) (∀(aa:Mem),M.le aa->m'.le aa->rtM m aa R (bool !ae)) (∀(aa:Mem),M.le aa->m'.le aa->rtM m aa R
 (bool false))) (∀(aa:Mem),M.le aa->M.le aa->rtM m aa R (bool false))) (∀(aa:Mem),M.le aa->M.le aa->rtM m aa R (bool false))) (∀(aa:Mem),M.le aa->M.le aa->rtM m aa R (bool
 false))) (∀(aa:Mem),M.le aa->M.le aa->rtM m aa R (bool false))) (br (aA == (0:Int)) (rtM m M R (bool false)) (∃(ab:Bool),br af (br ag (atA aY λb o=>Zag (0:Int) aV/\∃(v:Value),
 M b (o+0+0)=some v/\chk (ZaO u8 v&&decide (u8=u8)) (Zad ac/\[bool (intOf v == (8:Int))]=[bool ab])) (Zad ac/\[bool false]=[bool ab])) (Zad ac/\[bool false]=[bool ab])/\∃(f:
 Fx),br ah (br ai (br b (br (aE == (0:Int)) (∃(R_2:RT),R_2=f 18 xL M/\CX Tryz.prog 97 (Array.mk xL) M [] R_2/\Za1 (Shape.int i64) R_2/\∀(n:Int)(m':Mem),M.le m'->R_2 (int i64 n) m' []->br (yL
 == n) (∀(aa:Mem),M.le aa->m'.le aa->rtM m aa R (bool !ab)) (∀(aa:Mem),M.le aa->m'.le aa->rtM m aa R (bool false))) (∀(aa:Mem),M.le aa->M.le aa->rtM m aa R (bool false))) (∀(aa
 : Mem),M.le aa->M.le aa->rtM m aa R (bool false))) (∀(aa:Mem),M.le aa->M.le aa->rtM m aa R (bool false))) (∀(aa:Mem),M.le aa->M.le aa->rtM m aa R (bool false))))))):CX Tryz.prog 184 #[.agg #[.int .u8 aA,aC,.string aD,.int .i64 aE,.slice aY aV bA]] m [] R:=
 Zae (E:=ZmN) Zal mix Tryz.func184 [.v (.agg #[.int .u8 aA,aC,.string aD,.int .i64 aE,.slice aY aV bA])] [] (by kernel_rfl) (Eq.mp (by kernel_rfl) h)
def ZmO:Env:={ EB with
 loops:=(λi=>bif Nat.beq i 5 then⟨[(9,.agg [.int .u8,.any,.str,.int .i64,.slice])],[2],[],false⟩ else⟨[],[],[],false⟩)
 frzNew:=[1] }
theorem ZkJ(aA:Int)(aC:Value)(aD:ByteArray)(aE:Int)(aY:Option Addr)(aV bA:Nat)(m:Mem)(R:RT)(h:
 lV [int u8 aA,aC,string aD,int i64 aE,slice aY aV bA] λxL=>fzM m xL λb m'=>∀(b_1:Nat),lE [some (Box.mk b_1 [] 4 1 false true),some (Box.mk b xL 133 5 true true)] λxL_1=>kB
 Tryz.prog 95 [agg (Array.mk xL)] m' λb m'=>br (!b) (rtM m m' R (bool false)) (kF Tryz.prog 96 [agg (Array.mk xL)] m' λg fi ca m'=>∃(xs:List (List Value)),IX Tryz.prog g fi ca m' xs/\(∀(x:List Value),x
 ∈ xs->Shape.fitsL [Shape.agg [Shape.int u8,Shape.any,Shape.str,Shape.int i64,Shape.slice]] x=true)/\∃(I:IT),I [] [[bool false]] [] m' 0/\(∀(n:Int)(v:Value)(s:ByteArray)(n_1:Int) (a:Option
 Addr) (n_2 c:Nat) (cs:List Value) (m'_1:Mem) (n_3:Nat),lV [agg (Array.mk [int u8 n,v,string s,int i64 n_1,slice a n_2 c])] λxL=>m'.le m'_1->List.get?Internal xs n_3=some xL->I [] [cs] [] m'_1
 n_3->∀(b:Nat),chk (v.oneCell'&&true) (kB Tryz.prog 184 xL m'_1 λb m'=>br (!b) (Zad xL_1/\rtM m m' R (bool false)) (Zad xL_1/\I [] [cs] [] m' (n_3+1))))/\∀(cs:List Value)(m'_1:Mem),
 m'.le m'_1->I [] [cs] [] m'_1 (xs.length)->rtM m m'_1 R (bool true))):CX Tryz.prog 163 #[.agg #[.int .u8 aA,aC,.string aD,.int .i64 aE,.slice aY aV bA]] m [] R:=
 Zae (E:=ZmO) Zal mix Tryz.func163 [.v (.agg #[.int .u8 aA,aC,.string aD,.int .i64 aE,.slice aY aV bA])] [] (by kernel_rfl) (Eq.mp (by kernel_rfl) h)
def ZaB:Env:={ EB with
 loops:=(λi=>bif Nat.beq i 4 then⟨[(17,.int .i64)],[],[],false⟩ else⟨[],[],[],false⟩) }
theorem ZaA(p0a:Option Addr)(p0n p0c:Nat)(p1a:Option Addr)(p1n p1c p2g:Nat)(p2fi p2ca:List Value)(m:Mem)(R:RT)(h:
 br (!(↑p0n:Int) == (↑p1n:Int)) (rtM m m R (bool false)) (∃(I:IT),inI I [int i64 0] [] [] m/\∀(n:Int)(m':Mem)(n_1:Nat),m.le m'->I [int i64 n] [] [] m' n_1->br (decide (n < (↑p0n:Int))) (atA p0a
 λb o=>Zag n p0n/\∃v v_1 v_2 v_3 v_4:Value,m'.reads b (o+Int.toNat n*5) [v,v_1,v_2,v_3,v_4]/\∀(b:Nat),chk (v.oneCell' &&
 (v_1.oneCell'&&(v_2.oneCell'&&(v_3.oneCell'&&(v_4.oneCell'&&true))))) (atA p1a λb o=>Zag n p1n/\∃v_5 v_6 v_7 v_8 v_9:Value,m'.reads b (o+Int.toNat n*5) [v_5,v_6,v_7,v_8,v_9]/\∀(b:Nat),chk (v_5.oneCell'&&(v_6.oneCell'&&(v_7.oneCell'&&(v_8.oneCell'&&(v_9.oneCell'&&true))))) (kB
 Tryz.prog p2g (List.append (List.append p2fi [agg (Array.mk [v,v_1,v_2,v_3,v_4]),agg (Array.mk [v_5,v_6,v_7,v_8,v_9])]) p2ca) m' λb m'=>br (!b) (rtM m m' R (bool false)) (nxI n_1 I [int i64 (i64.wrap (n+(1:Int)))] [] [] m')))) (rtM m m' R (bool true)))):CX Tryz.prog 143 #[.slice p0a p0n p0c,.slice p1a p1n p1c,.func (.func p2g) p2fi.toArray p2ca.toArray] m [] R:=
 Zae (E:=ZaB) Zal mix Tryz.func143 [.v (.slice p0a p0n p0c),.v (.slice p1a p1n p1c),.v (.func (.func p2g) p2fi.toArray p2ca.toArray)] [] (by kernel_rfl) (Eq.mp (by kernel_rfl) h)
def Zo2:Env:={ EB with
 joins:=(λi=>bif Nat.beq i 1 then some [(4,.bool)]else none)
 frzNew:=[2,3] }
theorem ZmP(aA:Int)(aC:Value)(aD:ByteArray)(aE:Int)(aY:Option Addr)(aV bA:Nat)(bK:Int)(bL:Value)(bN:ByteArray)(bO:Int)(cD:Option Addr)(cA cH:Nat)(m:Mem)(R:RT)(h:
 lV [int u8 bK,bL,string bN,int i64 bO,slice cD cA cH] λxL=>lV [int u8 aA,aC,string aD,int i64 aE,slice aY aV bA] λxL_1=>fzM m xL_1 λb m'=>lE [some (Box.mk b xL_1
 133 5 true true)] λxL_2=>fzM m' xL λb m'=>∃(b_1:Bool),lV [bool b_1] λxL_3=>lE (some (Box.mk b xL 133 5 true true)::xL_2) λxL=>br (aA == bK) (kB Tryz.prog 90 [aC,bL] m' λb m'=>br b
 (br (ByteArray.toList aD == ByteArray.toList bN) (br (aE == bO) (kB Tryz.prog 143 [slice aY aV bA,slice cD cA cH,func (Fn.func 135) (Array.mk []) (Array.mk [])] m' λb m'=>Zad xL/\
 [bool b]=xL_3) (Zad xL/\[bool false]=xL_3)) (Zad xL/\[bool false]=xL_3)) (Zad xL/\[bool false]=xL_3)) (Zad xL/\[bool false]=xL_3)/\rtM m m' R (bool b_1)):CX Tryz.prog 135 #[.agg #[.int .u8 aA,aC,.string aD,.int .i64 aE,.slice aY aV bA],.agg #[.int .u8 bK,bL,.string bN,.int .i64 bO,.slice cD cA cH]] m [] R:=
 Zae (E:=Zo2) Zal mix Tryz.func135 [.v (.agg #[.int .u8 aA,aC,.string aD,.int .i64 aE,.slice aY aV bA]),.v (.agg #[.int .u8 bK,bL,.string bN,.int .i64 bO,.slice cD cA cH])] [] (by kernel_rfl) (Eq.mp (by kernel_rfl) h)
def Zo3:Env:={ EB with
 joins:=(λi=>bif Nat.beq i 1 then some [(4,.bool)]else none)
 frzNew:=[2,3] }
theorem ZmQ(aA:Int)(aC:Value)(aD:ByteArray)(aE:Int)(aY:Option Addr)(aV bA:Nat)(bK:Int)(bL:Value)(bN:ByteArray)(bO:Int)(cD:Option Addr)(cA cH:Nat)(m:Mem)(R:RT)(h:
 lV [int u8 bK,bL,string bN,int i64 bO,slice cD cA cH] λxL=>lV [int u8 aA,aC,string aD,int i64 aE,slice aY aV bA] λxL_1=>fzM m xL_1 λb m'=>lE [some (Box.mk b xL_1
 133 5 true true)] λxL_2=>fzM m' xL λb m'=>∃(b_1:Bool),lE (some (Box.mk b xL 133 5 true true)::xL_2) λxL_3=>(kB Tryz.prog 95 [agg (Array.mk xL_1)] m' λb m'=>br b (kB Tryz.prog 95 [agg (Array.mk
 xL)] m' λb m'=>br b (kB Tryz.prog 135 [agg (Array.mk xL_1),agg (Array.mk xL)] m' λb m'=>Zad xL_3/\[bool b]=[bool b_1]) (Zad xL_3/\[bool false]=[bool b_1])) (Zad xL_3/\[bool false]=[bool
 b_1]))/\rtM m m' R (bool b_1)):CX Tryz.prog 115 #[.agg #[.int .u8 aA,aC,.string aD,.int .i64 aE,.slice aY aV bA],.agg #[.int .u8 bK,bL,.string bN,.int .i64 bO,.slice cD cA cH]] m [] R:=
 Zae (E:=Zo3) Zal mix Tryz.func115 [.v (.agg #[.int .u8 aA,aC,.string aD,.int .i64 aE,.slice aY aV bA]),.v (.agg #[.int .u8 bK,bL,.string bN,.int .i64 bO,.slice cD cA cH])] [] (by kernel_rfl) (Eq.mp (by kernel_rfl) h)
def Zo4:Env:={ EB with
 frzNew:=[1] }
theorem ZmR(aA:Int)(aC:Value)(aD:ByteArray)(aE:Int)(aY:Option Addr)(aV bA:Nat)(m:Mem)(R:RT)(h:
 lV [int u8 aA,aC,string aD,int i64 aE,slice aY aV bA] λxL=>fzM m xL λb m'=>kB Tryz.prog 95 [agg (Array.mk xL)] m' λb m'=>br (!b) (rtM m m' R (slice none 0 0)) (kS Tryz.prog 201 [slice
 none 0 0,agg (Array.mk xL)] m' λa n c m'=>rtM m m' R (slice a n c))):CX Tryz.prog 187 #[.agg #[.int .u8 aA,aC,.string aD,.int .i64 aE,.slice aY aV bA]] m [] R:=
 Zae (E:=Zo4) Zal mix Tryz.func187 [.v (.agg #[.int .u8 aA,aC,.string aD,.int .i64 aE,.slice aY aV bA])] [] (by kernel_rfl) (Eq.mp (by kernel_rfl) h)
def Zo5:Env:={ EB with
 loops:=(λi=>bif Nat.beq i 5 then⟨[(9,.agg [.int .u8,.any,.str,.int .i64,.slice])],[3],[],false⟩ else⟨[],[],[],false⟩)
 frzNew:=[1] }
theorem ZmS(aA:Int)(aC:Value)(aD:ByteArray)(aE:Int)(aY:Option Addr)(aV bA:Nat)(m:Mem)(R:RT)(h:
 lV [int u8 aA,aC,string aD,int i64 aE,slice aY aV bA] λxL=>fzM m xL λb m'=>∀(b_1:Nat),lE [some (Box.mk b_1 [] 3 1 false true),some (Box.mk b xL 133 5 true true)] λxL_1=>kB
 Tryz.prog 95 [agg (Array.mk xL)] m' λb m'=>br b (kF Tryz.prog 96 [agg (Array.mk xL)] m' λg fi ca m'=>∃(xs:List (List Value)),IX Tryz.prog g fi ca m' xs/\(∀(x:List Value),x∈xs->Shape.fitsL
 [Shape.agg [Shape.int u8,Shape.any,Shape.str,Shape.int i64,Shape.slice]] x=true)/\∃(I:IT),I [] [[int i64 (-1:Int)]] [] m' 0/\(∀(n:Int)(v:Value)(s:ByteArray)(n_1:Int)(a:Option Addr) (n_2 c:
 Nat) (cs:List Value) (m'_1:Mem) (n_3:Nat),m'.le m'_1->List.get?Internal xs n_3=some [agg (Array.mk [int u8 n,v,string s,int i64 n_1,slice a n_2 c])]->I [] [cs] [] m'_1 n_3->∀(b:Nat),chk
 (v.oneCell'&&true) (br (n == (10:Int)) (Eng.Zvs cs 0 λv=>chk (ZaO i64 v&&decide (i64=i64)) (Zad xL_1/\I [] [[int i64 (if n_1 > intOf v then n_1 else intOf v)]] [] m'_1 (n_3+1)))
 (Zad xL_1/\I [] [cs] [] m'_1 (n_3+1))))/\∀(cs:List Value)(m'_1:Mem),m'.le m'_1->I [] [cs] [] m'_1 (xs.length)->Eng.Zvs cs 0 λv=>rtM m m'_1 R v) (rtM m m' R (int i64 (-1:Int)))):CX Tryz.prog 169 #[.agg #[.int .u8 aA,aC,.string aD,.int .i64 aE,.slice aY aV bA]] m [] R:=
 Zae (E:=Zo5) Zal mix Tryz.func169 [.v (.agg #[.int .u8 aA,aC,.string aD,.int .i64 aE,.slice aY aV bA])] [] (by kernel_rfl) (Eq.mp (by kernel_rfl) h)
def ZqK:Env:={ EB with
 frzNew:=[1] }
theorem Zo6(aA aC aD aE aU aT aS:Int)(aQ:Option Addr)(aP aR:Nat)(m:Mem)(R:RT)(h:
 fzM m [int u8 aA,int u64 aC,int u64 aD,int u64 aE,int u64 aU,int i64 aT,int i64 aS,slice aQ aP aR] λb m'=>rtM m m' R (func (Fn.func 122) (Array.mk []) (Array.mk [Value.pointer (some
 (Addr.mk b 0 none))]))):CX Tryz.prog 94 #[.agg #[.int .u8 aA,.int .u64 aC,.int .u64 aD,.int .u64 aE,.int .u64 aU,.int .i64 aT,.int .i64 aS,.slice aQ aP aR]] m [] R:=
 Zae (E:=ZqK) Zal mix Tryz.func94 [.v (.agg #[.int .u8 aA,.int .u64 aC,.int .u64 aD,.int .u64 aE,.int .u64 aU,.int .i64 aT,.int .i64 aS,.slice aQ aP aR])] [] (by kernel_rfl) (Eq.mp (by kernel_rfl) h)
def ZmT:Env:={ EB with
 loops:=(λi=>bif Nat.beq i 3 then⟨[(13,.int .i64)],[],[],true⟩ else bif Nat.beq i 7 then⟨[(19,.agg [.int .u8,.int .u64,.int .u64,.int .u64,.int .u64,.int .i64,.int .i64,.slice])],[],[],true⟩ else⟨[],[],[],false⟩)
 frzNew:=[2] }
theorem ZkK(p0g:Nat)(p0fi p0ca:List Value)(c0b c0o:Nat)(m:Mem)(xs:List (List Value))(h:
 ∀(l:Nat),lE (↑(xs.length):Int) λyL=>lV [func (Fn.yield l) (Array.mk []) (Array.mk [])] λxL=>fzM m xL λb m'=>∃v v_1 v_2 v_3 v_4 v_5 v_6 v_7:Value,lV [v,v_1,v_2,v_3,v_4,v_5,v_6,v_7] λxL_1=>lE [some (Box.mk b xL 150 1 true true)] λxL=>m'.reads c0b c0o xL_1/\(l=l/\(0:Int)<=(0:Int)/\
 List.get?Internal xs (Int.toNat (0:Int))=some [agg (Array.mk xL_1)])/\(∃(v:Value),m' c0b (c0o+7)=some v/\chk (Zbd v) (∃(I:IT),inI I [int i64 ((0:Int)+(1:Int)),int i64 0] [] [] m'/\∀(y n:
 Int) (m'_1:Mem) (n_1:Nat),m'.le m'_1->I [int i64 y,int i64 n] [] [] m'_1 n_1->br (decide (n < (↑(slN v):Int))) (chk (Zbd v) (atA (slA v) λb o=>Zag n (slN v)/\∃v v_8 v_9 v_10 v_11 v_12 v_13 v_14:Value,lV [v,v_8,v_9,v_10,v_11,v_12,v_13,v_14] λxL_2=>m'_1.reads b (o+Int.toNat n*8) xL_2/\∀(b:
 Nat),lE (some (Box.mk b xL_2 52 8 false true)::xL) λxL_3=>chk (v.oneCell'&&(v_8.oneCell'&&(v_9.oneCell'&&(v_10.oneCell'&&(v_11.oneCell'&&(v_12.oneCell' &&
 (v_13.oneCell'&&(v_14.oneCell'&&true)))))))) (kF Tryz.prog 94 [agg (Array.mk xL_2)] m'_1 λg fi ca m'=>∃(xs_1:List (List Value)),IX Tryz.prog g fi ca m' xs_1/\(∀(x:List Value),x∈xs_1->
 Shape.fitsL [shT] x=true)/\∃(I_1:IT),I_1 [int i64 y] [] [] m' 0/\(∀(y n n_2 n_3 n_4 n_5 n_6 n_7:Int)(a:Option Addr)(n_8 c:Nat)(m'_2:Mem)(n_9:Nat),lE (some [agg (Array.mk [int u8 n,int u64 n_2,
 int u64 n_3,int u64 n_4,int u64 n_5,int i64 n_6,int i64 n_7,slice a n_8 c])]) λyL_1=>m'.le m'_2->List.get?Internal xs_1 n_9=yL_1->I_1 [int i64 y] [] [] m'_2 n_9->∀(b:Nat),(l=l/\(0:Int)<=y/\
 List.get?Internal xs (Int.toNat y)=yL_1)/\(Zad xL_3/\I_1 [int i64 (y+(1:Int))] [] [] m'_2 (n_9+1))/\Zad xL_3/\((-1:Int)=yL\/(-1:Int)=(-1:Int)))/\∀(y:Int)(m'_2:Mem),m'.le m'_2->
 I_1 [int i64 y] [] [] m'_2 (xs_1.length)->Zad xL/\nxI n_1 I [int i64 y,int i64 (i64.wrap (n+(1:Int)))] [] [] m'_2))) (y=yL\/y=(-1:Int))))/\((-1:Int)=yL\/(-1:Int)=(-1:Int))):IX Tryz.prog 122 [] [.pointer (some ⟨c0b,c0o,none⟩)] m xs:=
 Zg5 (E:=ZmT) Zal mix Tryz.func122 [] [.pointer (some ⟨c0b,c0o,none⟩)] xs (by kernel_rfl) (Eq.mp (by kernel_rfl) h)
def ZqL:Env:={ EB with
 loops:=(λi=>bif Nat.beq i 3 then⟨[(6,.agg [.int .u8,.int .u64,.int .u64,.int .u64,.int .u64,.int .i64,.int .i64,.slice])],[3],[],false⟩ else⟨[],[],[],false⟩)
 frzNew:=[1] }
theorem Zo7(aA aC aD aE aU aT aS:Int)(aQ:Option Addr)(aP aR:Nat)(m:Mem)(R:RT)(h:
 lV [int u8 aA,int u64 aC,int u64 aD,int u64 aE,int u64 aU,int i64 aT,int i64 aS,slice aQ aP aR] λxL=>fzM m xL λb m'=>∀(b_1:Nat),lE [some (Box.mk b_1 [] 3 1 false true),some
 (Box.mk b xL 52 8 true true)] λxL_1=>kF Tryz.prog 94 [agg (Array.mk xL)] m' λg fi ca m'=>∃(xs:List (List Value)),IX Tryz.prog g fi ca m' xs/\(∀(x:List Value),x∈xs->Shape.fitsL [shT] x=true)/\∃
 (I:IT),I [] [[int i64 0]] [] m' 0/\(∀(n n_1 n_2 n_3 n_4 n_5 n_6:Int)(a:Option Addr)(n_7 c:Nat)(cs:List Value)(m'_1:Mem)(n_8:Nat),m'.le m'_1->List.get?Internal xs n_8=some [agg (Array.mk
 [int u8 n,int u64 n_1,int u64 n_2,int u64 n_3,int u64 n_4,int i64 n_5,int i64 n_6,slice a n_7 c])]->I [] [cs] [] m'_1 n_8->Eng.Zvs cs 0 λv=>lE (i64.wrap (intOf v+(1:Int))) λyL=>chk
 (ZaO i64 v&&decide (i64=i64)) (br (decide (yL > (10000:Int))) (Zad xL_1/\rtM m m'_1 R (bool (decide (yL<=(10000:Int))))) (Zad xL_1/\I [] [[int i64 yL]] [] m'_1 (n_8+1))))/\∀(cs:List Value) (m'_1
 : Mem),m'.le m'_1->I [] [cs] [] m'_1 (xs.length)->Eng.Zvs cs 0 λv=>chk (ZaO i64 v&&decide (i64=i64)) (rtM m m'_1 R (bool (decide (intOf v<=(10000:Int)))))):CX Tryz.prog 69 #[.agg #[.int .u8 aA,.int .u64 aC,.int .u64 aD,.int .u64 aE,.int .u64 aU,.int .i64 aT,.int .i64 aS,.slice aQ aP aR]] m [] R:=
 Zae (E:=ZqL) Zal mix Tryz.func69 [.v (.agg #[.int .u8 aA,.int .u64 aC,.int .u64 aD,.int .u64 aE,.int .u64 aU,.int .i64 aT,.int .i64 aS,.slice aQ aP aR])] [] (by kernel_rfl) (Eq.mp (by kernel_rfl) h)
def Zo8:Env:={ EB with
 joins:=(λi=>bif Nat.beq i 1 then some [(18,.bool)]else bif Nat.beq i 3 then some [(4,.bool)]else none) }
theorem ZmU(p0 p1:Int)(m:Mem)(R:RT)(h:
 ∃(b:Bool),lV [bool b] λxL=>br (decide (p0 < (0:Int))) ([bool true]=xL) (br (decide (p0 > (16:Int))) ([bool true]=xL) (br (p0 == (1:Int)) ([bool (p1 == (1:Int))]=xL) ([bool false]=xL)))/\br b
 (rtM m m R (bool false)) (∃(b:Bool),lV [bool b] λxL=>br (p1 == (-1:Int)) ([bool true]=xL) (br (decide (p1 ≥ (1:Int))) (br (decide (p1<=(16:Int))) ([bool (decide (p1 ≥ p0))]=xL) ([bool false]=xL))
 ([bool false]=xL))/\rtM m m R (bool b))):CX Tryz.prog 207 #[.int .i64 p0,.int .i64 p1] m [] R:=
 Zae (E:=Zo8) Zal mix Tryz.func207 [.v (.int .i64 p0),.v (.int .i64 p1)] [] (by kernel_rfl) (Eq.mp (by kernel_rfl) h)
def ZqM:Env:={ EB with
 frzNew:=[2] }
theorem Zo9(aA aC aD aE aU aT aS:Int)(aQ:Option Addr)(aP aR c0b c0o:Nat)(m:Mem)(R:RT)(h:
 fzM m [int u8 aA,int u64 aC,int u64 aD,int u64 aE,int u64 aU,int i64 aT,int i64 aS,slice aQ aP aR] λb m'=>∃(v:Value),m' c0b c0o=some v/\chk (ZaO u8 v) (rtM m m' R (bool (aA
 == intOf v)))):CX Tryz.prog 212 #[.agg #[.int .u8 aA,.int .u64 aC,.int .u64 aD,.int .u64 aE,.int .u64 aU,.int .i64 aT,.int .i64 aS,.slice aQ aP aR],.pointer (some ⟨c0b,c0o,none⟩)] m [] R:=
 Zae (E:=ZqM) Zal mix Tryz.func212 [.v (.agg #[.int .u8 aA,.int .u64 aC,.int .u64 aD,.int .u64 aE,.int .u64 aU,.int .i64 aT,.int .i64 aS,.slice aQ aP aR]),.v (.pointer (some ⟨c0b,c0o,none⟩))] [] (by kernel_rfl) (Eq.mp (by kernel_rfl) h)
def Zbt:Env:={ EB with
 loops:=(λi=>bif Nat.beq i 2 then⟨[(8,.int .i64)],[],[],false⟩ else⟨[],[],[],false⟩) }
theorem Zbp(p0a:Option Addr)(p0n p0c p1g:Nat)(p1fi p1ca:List Value)(m:Mem)(R:RT)(h:
 ∃(I:IT),inI I [int i64 0] [] [] m/\∀(n:Int)(m':Mem)(n_1:Nat),m.le m'->I [int i64 n] [] [] m' n_1->br (decide (n < (↑p0n:Int))) (atA p0a λb o=>Zag n p0n/\∃v v_1 v_2 v_3 v_4 v_5 v_6 v_7:Value,lV [v,v_1,v_2,v_3,v_4,v_5,v_6,v_7] λxL=>m'.reads b (o+Int.toNat n*8) xL/\kB Tryz.prog p1g
 (List.append (List.append p1fi [agg (Array.mk xL)]) p1ca) m' λb m'=>br b (rtM m m' R (int i64 n)) (nxI n_1 I [int i64 (i64.wrap (n+(1:Int)))] [] [] m')) (rtM m m' R (int i64 (-1:Int)))):CX Tryz.prog 217 #[.slice p0a p0n p0c,.func (.func p1g) p1fi.toArray p1ca.toArray] m [] R:=
 Zae (E:=Zbt) Zal mix Tryz.func217 [.v (.slice p0a p0n p0c),.v (.func (.func p1g) p1fi.toArray p1ca.toArray)] [] (by kernel_rfl) (Eq.mp (by kernel_rfl) h)
def Zbb:Env:=EB
theorem Za6(p0a:Option Addr)(p0n p0c p1g:Nat)(p1fi p1ca:List Value)(m:Mem)(R:RT)(h:
 kI Tryz.prog 217 [slice p0a p0n p0c,func (Fn.func p1g) (Array.mk p1fi) (Array.mk p1ca)] m λn m'=>rtM m m' R (bool (decide (n ≥ (0:Int))))):CX Tryz.prog 211 #[.slice p0a p0n p0c,.func (.func p1g) p1fi.toArray p1ca.toArray] m [] R:=
 Zae (E:=Zbb) Zal mix Tryz.func211 [.v (.slice p0a p0n p0c),.v (.func (.func p1g) p1fi.toArray p1ca.toArray)] [] (by kernel_rfl) (Eq.mp (by kernel_rfl) h)
def Zv3:Env:={ EB with
 frzNew:=[2,3] }
theorem ZtC(aA aC aD aE aU aT aS:Int)(aQ:Option Addr)(aP aR:Nat)(p1:Int)(m:Mem)(R:RT)(h:
 fzM m [int u8 aA,int u64 aC,int u64 aD,int u64 aE,int u64 aU,int i64 aT,int i64 aS,slice aQ aP aR] λb m'=>fzM m' [int u8 p1] λb m'=>kB Tryz.prog 211 [slice aQ aP aR,func
 (Fn.func 212) (Array.mk []) (Array.mk [Value.pointer (some (Addr.mk b 0 none))])] m' λb m'=>rtM m m' R (bool b)):CX Tryz.prog 206 #[.agg #[.int .u8 aA,.int .u64 aC,.int .u64 aD,.int .u64 aE,.int .u64 aU,.int .i64 aT,.int .i64 aS,.slice aQ aP aR],.int .u8 p1] m [] R:=
 Zae (E:=Zv3) Zal mix Tryz.func206 [.v (.agg #[.int .u8 aA,.int .u64 aC,.int .u64 aD,.int .u64 aE,.int .u64 aU,.int .i64 aT,.int .i64 aS,.slice aQ aP aR]),.v (.int .u8 p1)] [] (by kernel_rfl) (Eq.mp (by kernel_rfl) h)
def ZqN:Env:={ EB with
 joins:=(λi=>bif Nat.beq i 1 then some [(37,.bool)]else bif Nat.beq i 9 then some [(2,.bool)]else bif Nat.beq i 11 then some [(2,.bool)]else bif Nat.beq i 13 then some [(2,.bool)]else bif Nat.beq i 14 then some [(2,.bool)]else none)
 frzNew:=[1] }
theorem Zpa(aA aC aD aE aU aT aS:Int)(aQ:Option Addr)(aP aR:Nat)(m:Mem)(R:RT)(h:
 lE (↑aP:Int) λyL=>lV [int u8 aA,int u64 aC,int u64 aD,int u64 aE,int u64 aU,int i64 aT,int i64 aS,slice aQ aP aR] λxL=>lX (agg (Array.mk xL)) λyL_1=>lE (decide (aA <
 (3:Int))) λyL_2=>lX (agg (Array.mk [int u64 aC,int u64 aD,int u64 aE,int u64 aU])) λyL_3=>lV [bool (decide (yL > (0:Int)))] λxL_1=>fzM m xL λb m'=>∃(b_1:Bool),lV [bool b_1] fun
 xL_2=>lE [some (Box.mk b xL 52 8 true true)] λxL=>br (!aA == (2:Int)) (∃(b:Bool),EqIs Tryz.prog 49 yL_3 (agg (Array.mk [int u64 0,int u64 0,int u64 0,int u64 0])) b/\br (!b) (Zad xL/\[bool true] =
 xL_2) (br (!aA == (5:Int)) (br (!aT == (0:Int)) (Zad xL/\[bool true]=xL_2) (br (!aS == (0:Int)) (Zad xL/\[bool true]=xL_2) (br yL_2 (Zad xL/\xL_1=xL_2) (Zad xL/\[bool false]=xL_2))))
 (br yL_2 (Zad xL/\xL_1=xL_2) (Zad xL/\[bool false]=xL_2)))) (br (!aA == (5:Int)) (br (!aT == (0:Int)) (Zad xL/\[bool true]=xL_2) (br (!aS == (0:Int)) (Zad xL/\[bool true]=xL_2) (br
 yL_2 (Zad xL/\xL_1=xL_2) (Zad xL/\[bool false]=xL_2)))) (br yL_2 (Zad xL/\xL_1=xL_2) (Zad xL/\[bool false]=xL_2)))/\br b_1 (rtM m m' R (bool false)) (br (aA == (1:Int)) (rtM m m' R (bool
 true)) (br (aA == (2:Int)) (∃(b:Bool),EqIs Tryz.prog 49 yL_3 (agg (Array.mk [int u64 0,int u64 0,int u64 0,int u64 0])) b/\rtM m m' R (bool !b)) (br (aA == (3:Int)) (∃(b:Bool),br (decide (yL > (1:
 Int))) (kB Tryz.prog 206 [yL_1,int u8 1] m' λb_2 m'=>br (!b_2) (kB Tryz.prog 206 [yL_1,int u8 3] m' λb_3 m'=>Zad xL/\[bool !b_3]=[bool b]) (Zad xL/\[bool false]=[bool b])) (Zad xL/\[bool
 false]=[bool b])/\rtM m m' R (bool b)) (br (aA == (4:Int)) (∃(b:Bool),br (decide (yL > (1:Int))) (kB Tryz.prog 206 [yL_1,int u8 4] m' λb_2 m'=>Zad xL/\[bool !b_2]=[bool b]) (Zad xL/\[bool
 false]=[bool b])/\rtM m m' R (bool b)) (br (aA == (5:Int)) (∃(b:Bool),br (yL == (1:Int)) (kB Tryz.prog 207 [int i64 aT,int i64 aS] m' λb_2 m'=>br b_2 (kB Tryz.prog 206 [yL_1,int u8 1] m' λb_3
 m'=>Zad xL/\[bool !b_3]=[bool b]) (Zad xL/\[bool false]=[bool b])) (Zad xL/\[bool false]=[bool b])/\rtM m m' R (bool b)) (∃(b:Bool),br (aA == (6:Int)) (Zad xL/\[bool (yL == (1:Int))] =
 [bool b]) (Zad xL/\[bool false]=[bool b])/\rtM m m' R (bool b)))))))):CX Tryz.prog 198 #[.agg #[.int .u8 aA,.int .u64 aC,.int .u64 aD,.int .u64 aE,.int .u64 aU,.int .i64 aT,.int .i64 aS,.slice aQ aP aR]] m [] R:=
 Zae (E:=ZqN) Zal mix Tryz.func198 [.v (.agg #[.int .u8 aA,.int .u64 aC,.int .u64 aD,.int .u64 aE,.int .u64 aU,.int .i64 aT,.int .i64 aS,.slice aQ aP aR])] [] (by kernel_rfl) (Eq.mp (by kernel_rfl) h)
def ZqO:Env:={ EB with
 loops:=(λi=>bif Nat.beq i 5 then⟨[(9,.agg [.int .u8,.int .u64,.int .u64,.int .u64,.int .u64,.int .i64,.int .i64,.slice])],[2],[],false⟩ else⟨[],[],[],false⟩)
 frzNew:=[1] }
theorem Zpb(aA aC aD aE aU aT aS:Int)(aQ:Option Addr)(aP aR:Nat)(m:Mem)(R:RT)(h:
 lV [int u8 aA,int u64 aC,int u64 aD,int u64 aE,int u64 aU,int i64 aT,int i64 aS,slice aQ aP aR] λxL=>fzM m xL λb m'=>∀(b_1:Nat),lE [some (Box.mk b_1 [] 4 1 false true),some
 (Box.mk b xL 52 8 true true)] λxL_1=>kB Tryz.prog 69 [agg (Array.mk xL)] m' λb m'=>br (!b) (rtM m m' R (bool false)) (kF Tryz.prog 94 [agg (Array.mk xL)] m' λg fi ca m'=>∃(xs:List (List Value)),IX
 Tryz.prog g fi ca m' xs/\(∀(x:List Value),x∈xs->Shape.fitsL [shT] x=true)/\∃(I:IT),I [] [[bool false]] [] m' 0/\(∀(n n_1 n_2 n_3 n_4 n_5 n_6:Int)(a:Option Addr)(n_7 c:Nat)(cs:List Value)
 (m'_1:Mem) (n_8:Nat),lV [agg (Array.mk [int u8 n,int u64 n_1,int u64 n_2,int u64 n_3,int u64 n_4,int i64 n_5,int i64 n_6,slice a n_7 c])] λxL=>m'.le m'_1->List.get?Internal xs n_8=some xL->I []
 [cs] [] m'_1 n_8->∀(b:Nat),kB Tryz.prog 198 xL m'_1 λb m'=>br (!b) (Zad xL_1/\rtM m m' R (bool false)) (Zad xL_1/\I [] [cs] [] m' (n_8+1)))/\∀(cs:List Value)(m'_1:Mem),m'.le m'_1->I []
 [cs] [] m'_1 (xs.length)->rtM m m'_1 R (bool true))):CX Tryz.prog 180 #[.agg #[.int .u8 aA,.int .u64 aC,.int .u64 aD,.int .u64 aE,.int .u64 aU,.int .i64 aT,.int .i64 aS,.slice aQ aP aR]] m [] R:=
 Zae (E:=ZqO) Zal mix Tryz.func180 [.v (.agg #[.int .u8 aA,.int .u64 aC,.int .u64 aD,.int .u64 aE,.int .u64 aU,.int .i64 aT,.int .i64 aS,.slice aQ aP aR])] [] (by kernel_rfl) (Eq.mp (by kernel_rfl) h)
def ZtD:Env:={ EB with
 loops:=(λi=>bif Nat.beq i 5 then⟨[(9,.agg [.int .u8,.int .u64,.int .u64,.int .u64,.int .u64,.int .i64,.int .i64,.slice])],[3],[],false⟩ else⟨[],[],[],false⟩)
 frzNew:=[1] }
theorem ZqP(aA aC aD aE aU aT aS:Int)(aQ:Option Addr)(aP aR:Nat)(m:Mem)(R:RT)(h:
 lV [int u8 aA,int u64 aC,int u64 aD,int u64 aE,int u64 aU,int i64 aT,int i64 aS,slice aQ aP aR] λxL=>fzM m xL λb m'=>kB Tryz.prog 69 [agg (Array.mk xL)] m' λb_1 m'=>br (!b_1)
 (rtM m m' R (int i64 10001)) (∀(b_2:Nat),kF Tryz.prog 94 [agg (Array.mk xL)] m' λg fi ca m'=>∃(xs:List (List Value)),IX Tryz.prog g fi ca m' xs/\(∀(x:List Value),x∈xs->Shape.fitsL [shT] x=true)/\
 ∃(I:IT),I [] [[int i64 0]] [] m' 0/\(∀(n n_1 n_2 n_3 n_4 n_5 n_6:Int)(a:Option Addr)(n_7 c:Nat)(cs:List Value)(m'_1:Mem)(n_8:Nat),m'.le m'_1->List.get?Internal xs n_8=some [agg (Array.mk
 [int u8 n,int u64 n_1,int u64 n_2,int u64 n_3,int u64 n_4,int i64 n_5,int i64 n_6,slice a n_7 c])]->I [] [cs] [] m'_1 n_8->Eng.Zvs cs 0 λv=>chk (ZaO i64 v&&decide (i64=i64)) (Zad [some (Box.mk
 b_2 [] 3 1 false true),some (Box.mk b xL 52 8 true true)]/\I [] [[int i64 (i64.wrap (intOf v+(1:Int)))]] [] m'_1 (n_8+1)))/\∀(cs:List Value)(m'_1:Mem),m'.le m'_1->I [] [cs] [] m'_1
 (xs.length)->Eng.Zvs cs 0 λv=>rtM m m'_1 R v)):CX Tryz.prog 60 #[.agg #[.int .u8 aA,.int .u64 aC,.int .u64 aD,.int .u64 aE,.int .u64 aU,.int .i64 aT,.int .i64 aS,.slice aQ aP aR]] m [] R:=
 Zae (E:=ZtD) Zal mix Tryz.func60 [.v (.agg #[.int .u8 aA,.int .u64 aC,.int .u64 aD,.int .u64 aE,.int .u64 aU,.int .i64 aT,.int .i64 aS,.slice aQ aP aR])] [] (by kernel_rfl) (Eq.mp (by kernel_rfl) h)
def ZiR:Env:={ EB with
 loops:=(λi=>bif Nat.beq i 5 then⟨[(3,.int .i64),(14,.int .i64)],[],[],false⟩ else⟨[],[],[],false⟩)
 frzNew:=[1] }
theorem Zhy(aA aC aD aE aU aT aS:Int)(aQ:Option Addr)(aP aR:Nat)(m:Mem)(R:RT)(h:
 lE (if(0:Int) > aT then(0:Int)else aT) λyL=>lE (if aS > yL then aS else yL) λyL_1=>lE (if(1:Int) > yL then(1:Int)else yL) λyL=>lE (if(10001:Int) < yL_1 then(10001:Int)else
 yL_1) λyL_2=>lE (if(10001:Int) < yL then(10001:Int)else yL) λyL=>lV [int u8 aA,int u64 aC,int u64 aD,int u64 aE,int u64 aU,int i64 aT,int i64 aS,slice aQ aP aR] λxL=>
 fzM m xL λb m'=>lE [some (Box.mk b xL 52 8 true true)] λxL=>br (aA == (2:Int)) (∃(I:IT),inI I [int i64 1,int i64 0] [] [] m'/\∀(n n_1:Int)(m'_1:Mem)(n_2:Nat),m'.le m'_1->I [int i64 n,
 int i64 n_1] [] [] m'_1 n_2->br (decide (n_1 < (↑aP:Int))) (atA aQ λb o=>Zag n_1 aP/\∃v v_1 v_2 v_3 v_4 v_5 v_6 v_7:Value,lV [v,v_1,v_2,v_3,v_4,v_5,v_6,v_7] λxL_1=>m'_1.reads b (o+Int.toNat n_1*8) xL_1/\∀(b:Nat),chk (v.oneCell'&&(v_1.oneCell'&&(v_2.oneCell' &&
 (v_3.oneCell'&&(v_4.oneCell'&&(v_5.oneCell'&&(v_6.oneCell'&&(v_7.oneCell'&&true)))))))) (kI Tryz.prog 199 [agg (Array.mk xL_1)] m'_1 λn_3 m'=>Zad xL/\nxI n_2 I [int i64
 (i64.wrap (n+n_3)),int i64 (i64.wrap (n_1+(1:Int)))] [] [] m')) (br (aA == (5:Int)) (br (aS == (-1:Int)) (rtM m m'_1 R (int i64 (if(10001:Int) < i64.wrap (n*yL)then(10001:
 Int)else i64.wrap (n*yL)))) (rtM m m'_1 R (int i64 (if(10001:Int) < i64.wrap (n*yL_2)then(10001:Int)else i64.wrap (n*yL_2))))) (rtM m m'_1 R (int i64 (if(10001:Int) < n then
 (10001:Int)else n))))) (∃(I:IT),inI I [int i64 0,int i64 0] [] [] m'/\∀(n n_1:Int)(m'_1:Mem)(n_2:Nat),m'.le m'_1->I [int i64 n,int i64 n_1] [] [] m'_1 n_2->br (decide (n_1 < (↑aP:Int)))
 (atA aQ λb o=>Zag n_1 aP/\∃v v_1 v_2 v_3 v_4 v_5 v_6 v_7:Value,lV [v,v_1,v_2,v_3,v_4,v_5,v_6,v_7]
 λxL_1=>m'_1.reads b (o+Int.toNat n_1*8) xL_1/\∀(b:Nat),chk (v.oneCell'&&(v_1.oneCell'&&(v_2.oneCell'&&(v_3.oneCell'&&(v_4.oneCell'&&(v_5.oneCell' &&
 (v_6.oneCell'&&(v_7.oneCell'&&true)))))))) (kI Tryz.prog 199 [agg (Array.mk xL_1)] m'_1 λn_3 m'=>Zad xL/\nxI n_2 I [int i64 (i64.wrap (n+n_3)),int i64 (i64.wrap (n_1+(1:
 Int)))] [] [] m')) (br (aA == (5:Int)) (br (aS == (-1:Int)) (rtM m m'_1 R (int i64 (if(10001:Int) < i64.wrap (n*yL)then(10001:Int)else i64.wrap (n*yL)))) (rtM m m'_1 R (int i64 (if
 (10001:Int) < i64.wrap (n*yL_2)then(10001:Int)else i64.wrap (n*yL_2))))) (rtM m m'_1 R (int i64 (if(10001:Int) < n then(10001:Int)else n)))))):CX Tryz.prog 199 #[.agg #[.int .u8 aA,.int .u64 aC,.int .u64 aD,.int .u64 aE,.int .u64 aU,.int .i64 aT,.int .i64 aS,.slice aQ aP aR]] m [] R:=
 Zae (E:=ZiR) Zal mix Tryz.func199 [.v (.agg #[.int .u8 aA,.int .u64 aC,.int .u64 aD,.int .u64 aE,.int .u64 aU,.int .i64 aT,.int .i64 aS,.slice aQ aP aR])] [] (by kernel_rfl) (Eq.mp (by kernel_rfl) h)
def ZiS:Env:={ EB with
 frzNew:=[1] }
theorem Zhz(aA aC aD aE aU aT aS:Int)(aQ:Option Addr)(aP aR:Nat)(m:Mem)(R:RT)(h:
 lV [int u8 aA,int u64 aC,int u64 aD,int u64 aE,int u64 aU,int i64 aT,int i64 aS,slice aQ aP aR] λxL=>fzM m xL λb m'=>kB Tryz.prog 69 [agg (Array.mk xL)] m' λb m'=>br (!b)
 (rtM m m' R (int i64 10001)) (kI Tryz.prog 199 [agg (Array.mk xL)] m' λn m'=>rtM m m' R (int i64 n))):CX Tryz.prog 181 #[.agg #[.int .u8 aA,.int .u64 aC,.int .u64 aD,.int .u64 aE,.int .u64 aU,.int .i64 aT,.int .i64 aS,.slice aQ aP aR]] m [] R:=
 Zae (E:=ZiS) Zal mix Tryz.func181 [.v (.agg #[.int .u8 aA,.int .u64 aC,.int .u64 aD,.int .u64 aE,.int .u64 aU,.int .i64 aT,.int .i64 aS,.slice aQ aP aR])] [] (by kernel_rfl) (Eq.mp (by kernel_rfl) h)
def Zpc:Env:={ EB with
 loops:=(λi=>bif Nat.beq i 6 then⟨[(10,.agg [.int .u8,.int .u64,.int .u64,.int .u64,.int .u64,.int .i64,.int .i64,.slice])],[3],[],false⟩ else⟨[],[],[],false⟩)
 frzNew:=[1] }
theorem ZmV(aA aC aD aE aU aT aS:Int)(aQ:Option Addr)(aP aR:Nat)(m:Mem)(R:RT)(h:
 lV [int u8 aA,int u64 aC,int u64 aD,int u64 aE,int u64 aU,int i64 aT,int i64 aS,slice aQ aP aR] λxL=>fzM m xL λb m'=>lE [some (Box.mk b xL 52 8 true true)] λxL_1=>kB
 Tryz.prog 69 [agg (Array.mk xL)] m' λb m'=>br (!b) (rtM m m' R (int i64 10001)) (∀(b:Nat),lE (some (Box.mk b [] 3 1 false true)::xL_1) λxL_2=>kF Tryz.prog 94 [agg (Array.mk xL)] m' λg fi ca m'=>∃
 (xs:List (List Value)),IX Tryz.prog g fi ca m' xs/\(∀(x:List Value),x∈xs->Shape.fitsL [shT] x=true)/\∃(I:IT),I [] [[int i64 0]] [] m' 0/\(∀(n n_1 n_2 n_3 n_4 n_5 n_6:Int)(a:Option Addr) (n_7 c:
 Nat) (cs:List Value) (m'_1:Mem) (n_8:Nat),m'.le m'_1->List.get?Internal xs n_8=some [agg (Array.mk [int u8 n,int u64 n_1,int u64 n_2,int u64 n_3,int u64 n_4,int i64 n_5,int i64 n_6,slice a n_7 c])]
 -> I [] [cs] [] m'_1 n_8->∀(b:Nat),br (n == (6:Int)) (Eng.Zvs cs 0 λv=>chk (ZaO i64 v&&decide (i64=i64)) (Zad xL_2/\I [] [[int i64 (i64.wrap (intOf v+(1:Int)))]] [] m'_1 (n_8 +
 1))) (Zad xL_2/\I [] [cs] [] m'_1 (n_8+1)))/\∀(cs:List Value)(m'_1:Mem),m'.le m'_1->I [] [cs] [] m'_1 (xs.length)->Eng.Zvs cs 0 λv=>rtM m m'_1 R v)):CX Tryz.prog 182 #[.agg #[.int .u8 aA,.int .u64 aC,.int .u64 aD,.int .u64 aE,.int .u64 aU,.int .i64 aT,.int .i64 aS,.slice aQ aP aR]] m [] R:=
 Zae (E:=Zpc) Zal mix Tryz.func182 [.v (.agg #[.int .u8 aA,.int .u64 aC,.int .u64 aD,.int .u64 aE,.int .u64 aU,.int .i64 aT,.int .i64 aS,.slice aQ aP aR])] [] (by kernel_rfl) (Eq.mp (by kernel_rfl) h)
def ZqQ:Env:={ EB with
 frzNew:=[1] }
theorem Zpd(aA aC:Bool)(aD aE aU aT aS dA dB:Int)(ky:Option Addr)(kz kA:Nat)(m:Mem)(R:RT)(h:
 lV [int u8 aD,int u64 aE,int u64 aU,int u64 aT,int u64 aS,int i64 dA,int i64 dB,slice ky kz kA] λxL=>lV [agg (Array.mk xL)] λxL_1=>fzM m (bool aA::bool aC::xL) λb m'=>
 kB Tryz.prog 180 xL_1 m' λb m'=>br (!b) (rtM m m' R (int i64 80)) (kI Tryz.prog 60 xL_1 m' λn m'=>br (decide (n > (120:Int))) (rtM m m' R (int i64 81)) (kI Tryz.prog 181 xL_1 m' λn m'=>br (decide (n >
 (400:Int))) (rtM m m' R (int i64 82)) (kI Tryz.prog 182 xL_1 m' λn m'=>br (decide (n > (9:Int))) (rtM m m' R (int i64 83)) (rtM m m' R (int i64 0)))))):CX Tryz.prog 159 #[.agg #[.bool aA,.bool aC,.int .u8 aD,.int .u64 aE,.int .u64 aU,.int .u64 aT,.int .u64 aS,.int .i64 dA,.int .i64 dB,.slice ky kz kA]] m [] R:=
 Zae (E:=ZqQ) Zal mix Tryz.func159 [.v (.agg #[.bool aA,.bool aC,.int .u8 aD,.int .u64 aE,.int .u64 aU,.int .u64 aT,.int .u64 aS,.int .i64 dA,.int .i64 dB,.slice ky kz kA])] [] (by kernel_rfl) (Eq.mp (by kernel_rfl) h)
def ZaF:Env:={ EB with
 loops:=(λi=>bif Nat.beq i 4 then⟨[(17,.int .i64)],[],[],false⟩ else⟨[],[],[],false⟩) }
theorem ZaE(p0a:Option Addr)(p0n p0c:Nat)(p1a:Option Addr)(p1n p1c p2g:Nat)(p2fi p2ca:List Value)(m:Mem)(R:RT)(h:
 br (!(↑p0n:Int) == (↑p1n:Int)) (rtM m m R (bool false)) (∃(I:IT),inI I [int i64 0] [] [] m/\∀(n:Int)(m':Mem)(n_1:Nat),m.le m'->I [int i64 n] [] [] m' n_1->br (decide (n < (↑p0n:Int))) (atA p0a
 λb o=>Zag n p0n/\∃v v_1 v_2 v_3 v_4 v_5 v_6 v_7:Value,lV [v,v_1,v_2,v_3,v_4,v_5,v_6,v_7] λxL=>
 m'.reads b (o+Int.toNat n*8) xL/\∀(b:Nat),chk (v.oneCell'&&(v_1.oneCell'&&(v_2.oneCell'&&(v_3.oneCell'&&(v_4.oneCell'&&(v_5.oneCell'&&(v_6.oneCell' &&
 (v_7.oneCell'&&true)))))))) (atA p1a λb o=>Zag n p1n/\∃v v_8 v_9 v_10 v_11 v_12 v_13 v_14:Value,lV [v,
 v_8,v_9,v_10,v_11,v_12,v_13,v_14] λxL_1=>m'.reads b (o+Int.toNat n*8) xL_1/\∀(b:Nat),chk (v.oneCell'&&(v_8.oneCell'&&(v_9.oneCell'&&(v_10.oneCell'&&(v_11.oneCell'&&(v_12.oneCell'&&(v_13.oneCell'&&(v_14.oneCell'&&true)))))))) (kB Tryz.prog p2g (List.append (List.append p2fi [agg (Array.mk xL),agg (Array.mk xL_1)]) p2ca) m' λb m'=>br (!b) (rtM m
 m' R (bool false)) (nxI n_1 I [int i64 (i64.wrap (n+(1:Int)))] [] [] m')))) (rtM m m' R (bool true)))):CX Tryz.prog 133 #[.slice p0a p0n p0c,.slice p1a p1n p1c,.func (.func p2g) p2fi.toArray p2ca.toArray] m [] R:=
 Zae (E:=ZaF) Zal mix Tryz.func133 [.v (.slice p0a p0n p0c),.v (.slice p1a p1n p1c),.v (.func (.func p2g) p2fi.toArray p2ca.toArray)] [] (by kernel_rfl) (Eq.mp (by kernel_rfl) h)
def ZtE:Env:={ EB with
 joins:=(λi=>bif Nat.beq i 1 then some [(4,.bool)]else none)
 frzNew:=[2,3] }
theorem ZqR(aA aC aD aE aU aT aS:Int)(aQ:Option Addr)(aP aR:Nat)(bK bL bN bO dK dM dN:Int)(eJ:Option Addr)(eK eL:Nat)(m:Mem)(R:RT)(h:
 lV [int u8 aA,int u64 aC,int u64 aD,int u64 aE,int u64 aU,int i64 aT,int i64 aS,slice aQ aP aR] λxL=>lV [int u8 bK,int u64 bL,int u64 bN,int u64 bO,int u64 dK,int i64
 dM,int i64 dN,slice eJ eK eL] λxL_1=>fzM m xL λb m'=>lE [some (Box.mk b xL 52 8 true true)] λxL=>fzM m' xL_1 λb m'=>∃(b_1:Bool),lV [bool b_1] λxL_2=>lE (some (Box.mk b xL_1 52
 8 true true)::xL) λxL=>br (aA == bK) (∃(b:Bool),EqIs Tryz.prog 49 (agg (Array.mk [int u64 aC,int u64 aD,int u64 aE,int u64 aU])) (agg (Array.mk [int u64 bL,int u64 bN,int u64 bO,int
 u64 dK])) b/\br b (br (aT == dM) (br (aS == dN) (kB Tryz.prog 133 [slice aQ aP aR,slice eJ eK eL,func (Fn.func 111) (Array.mk []) (Array.mk [])] m' λb m'=>Zad xL/\[bool b]=xL_2)
 (Zad xL/\[bool false]=xL_2)) (Zad xL/\[bool false]=xL_2)) (Zad xL/\[bool false]=xL_2)) (Zad xL/\[bool false]=xL_2)/\rtM m m' R (bool b_1)):CX Tryz.prog 111 #[.agg #[.int .u8 aA,.int .u64 aC,.int .u64 aD,.int .u64 aE,.int .u64 aU,.int .i64 aT,.int .i64 aS,.slice aQ aP aR],.agg #[.int .u8 bK,.int .u64 bL,.int .u64 bN,.int .u64 bO,.int .u64 dK,.int .i64 dM,.int .i64 dN,.slice eJ eK eL]] m [] R:=
 Zae (E:=ZtE) Zal mix Tryz.func111 [.v (.agg #[.int .u8 aA,.int .u64 aC,.int .u64 aD,.int .u64 aE,.int .u64 aU,.int .i64 aT,.int .i64 aS,.slice aQ aP aR]),.v (.agg #[.int .u8 bK,.int .u64 bL,.int .u64 bN,.int .u64 bO,.int .u64 dK,.int .i64 dM,.int .i64 dN,.slice eJ eK eL])] [] (by kernel_rfl) (Eq.mp (by kernel_rfl) h)
def ZtF:Env:={ EB with
 joins:=(λi=>bif Nat.beq i 1 then some [(4,.bool)]else none)
 frzNew:=[2,3] }
theorem ZqS(aA aC aD aE aU aT aS:Int)(aQ:Option Addr)(aP aR:Nat)(bK bL bN bO dK dM dN:Int)(eJ:Option Addr)(eK eL:Nat)(m:Mem)(R:RT)(h:
 lV [int u8 aA,int u64 aC,int u64 aD,int u64 aE,int u64 aU,int i64 aT,int i64 aS,slice aQ aP aR] λxL=>lV [int u8 bK,int u64 bL,int u64 bN,int u64 bO,int u64 dK,int i64
 dM,int i64 dN,slice eJ eK eL] λxL_1=>fzM m xL λb m'=>lE [some (Box.mk b xL 52 8 true true)] λxL_2=>fzM m' xL_1 λb m'=>∃(b_1:Bool),lE (some (Box.mk b xL_1 52 8 true true)::xL_2)
 λxL_3=>(kB Tryz.prog 69 [agg (Array.mk xL)] m' λb m'=>br b (kB Tryz.prog 69 [agg (Array.mk xL_1)] m' λb m'=>br b (kB Tryz.prog 111 [agg (Array.mk xL),agg (Array.mk xL_1)] m' λb m'=>Zad xL_3/\
 [bool b]=[bool b_1]) (Zad xL_3/\[bool false]=[bool b_1])) (Zad xL_3/\[bool false]=[bool b_1]))/\rtM m m' R (bool b_1)):CX Tryz.prog 80 #[.agg #[.int .u8 aA,.int .u64 aC,.int .u64 aD,.int .u64 aE,.int .u64 aU,.int .i64 aT,.int .i64 aS,.slice aQ aP aR],.agg #[.int .u8 bK,.int .u64 bL,.int .u64 bN,.int .u64 bO,.int .u64 dK,.int .i64 dM,.int .i64 dN,.slice eJ eK eL]] m [] R:=
 Zae (E:=ZtF) Zal mix Tryz.func80 [.v (.agg #[.int .u8 aA,.int .u64 aC,.int .u64 aD,.int .u64 aE,.int .u64 aU,.int .i64 aT,.int .i64 aS,.slice aQ aP aR]),.v (.agg #[.int .u8 bK,.int .u64 bL,.int .u64 bN,.int .u64 bO,.int .u64 dK,.int .i64 dM,.int .i64 dN,.slice eJ eK eL])] [] (by kernel_rfl) (Eq.mp (by kernel_rfl) h)
end Go.Proofs.YtojlhhphofhaoaaGreatDoor
end
