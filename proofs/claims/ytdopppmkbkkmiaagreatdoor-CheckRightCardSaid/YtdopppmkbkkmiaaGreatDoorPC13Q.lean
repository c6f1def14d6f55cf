/- Part of the proof: functions of the program. No condition. -/
import Derived.Test.YtdopppmkbkkmiaaGreatDoorPEnv
import Derived.Test.YtdopppmkbkkmiaaGreatDoorMr
import Derived.Test.YtdopppmkbkkmiaaGreatDoorMc
import Derived.Laws.StructEq
import Derived.Laws.Tables
import Derived.Laws.Cover2
set_option linter.unusedVariables false
set_option linter.unusedSimpArgs false
set_option linter.unusedSectionVars false
noncomputable section
namespace Go.Proofs.YtdopppmkbkkmiaaGreatDoor
open Go Go.Eng Go.Proofs Go.RowKit
open Go.Value (int slice agg bool string tuple func)
open Go.IntKind (u8 u64 i64)
set_option maxRecDepth 100000
def Zm7:Env:={ EB with
 frzNew:=[1] }
theorem ZkL(aA:Int)(aE:Value)(aJ:ByteArray)(aK:Int)(bC:Option Addr)(aY bE:Nat)(m:Mem)(R:RT)(h:
 fzM m [int u8 aA,aE,string aJ,int i64 aK,slice bC aY bE] λb m'=>rtM m m' R (func (Fn.func 158) (Array.mk []) (Array.mk [Value.pointer (some (Addr.mk b 0 none))]))):CX Tryz.prog 114 #[.agg #[.int .u8 aA,aE,.string aJ,.int .i64 aK,.slice bC aY bE]] m [] R:=
 Zad (E:=Zm7) Zal mix Tryz.func114 (by kernel_rfl) (Eq.mp (by kernel_rfl) h)
def ZiN:Env:={ EB with
 loops:=swI nLa [(3,⟨[(13,.int .i64)],[],[],true⟩),(7,⟨[(19,.agg [.int .u8,.any,.str,.int .i64,.slice])],[],[],true⟩)]
 frzNew:=[2] }
theorem Zhu(p0g:Nat)(p0fi p0ca:List Value)(c0b c0o:Nat)(m:Mem)(xs:List (List Value))(h:
 ∀(l:Nat),lE (↑(xs.length):Int) λyL=>lV [func (Fn.yield l) (Array.mk []) (Array.mk [])] λxL=>fzM m xL λb m'=>∃v v_1 v_2 v_3 v_4:Value,lE [some (Box.mk b xL 170 1 true true)] λxL=>m'.reads c0b c0o [v,
 v_1,v_2,v_3,v_4]/\(l=l/\(0:Int)<=0/\List.get?Internal xs (Int.toNat (0:Int))=some [agg (.mk [v,v_1,v_2,v_3,v_4])])/\(∃(v:Value),m' c0b (c0o+4)=some v/\chk (Za5 v) (∃I,inI I [int i64 ((0:Int)+1),
 int i64 0] [] [] m'/\∀y n m'_1 (n_1:Nat),m'.le m'_1->I [int i64 y,int i64 n] [] [] m'_1 n_1->br (decide (n < (↑(slN v):Int))) (chk (Za5 v) (atA (slA v) λb o=>Zaf n (slN v)/\∃v v_5 v_6 v_7 v_8:Value,lV [v,
 v_5,v_6,v_7,v_8] λxL_1=>m'_1.reads b (o+Int.toNat n*5) xL_1/\∀b,lE (some (Box.mk b xL_1 52 5 false true)::xL) λxL_2=>chk (v.oneCell'&&(v_5.oneCell'&&(v_6.oneCell'&&(v_7.oneCell'&&(v_8.oneCell' &&
 true))))) (kF pG 114 [agg (.mk xL_1)] m'_1 λg fi ca m'=>∃(xs_1:List (List Value)),IX pG g fi ca m' xs_1/\(∀(x:List Value),x∈xs_1->Shape.fitsL [.agg [.int u8,.any,.str,.int i64,.slice]] x=true)/\∃(I_1:
 IT),I_1 [int i64 y] [] [] m' 0/\(∀y n (v:Value) s n_2 a n_3 c m'_2 (n_4:Nat),lE (some [agg (.mk [int u8 n,v,string s,int i64 n_2,slice a n_3 c])]) λyL_1=>m'.le m'_2->List.get?Internal xs_1 n_4=yL_1->I_1 [int
 i64 y] [] [] m'_2 n_4->∀(b:Nat),chk (v.oneCell'&&true) ((l=l/\(0:Int)<=y/\List.get?Internal xs (Int.toNat y)=yL_1)/\(Zae xL_2/\I_1 [int i64 (y+1)] [] [] m'_2 (n_4+1))/\Zae xL_2/\((-1:Int)=yL\/(-1
 : Int)=(-1:Int))))/\∀y m'_2,m'.le m'_2->I_1 [int i64 y] [] [] m'_2 (xs_1.length)->Zae xL/\nxI n_1 I [int i64 y,int i64 (i64.wrap (n+1))] [] [] m'_2))) (y=yL\/y=(-1:Int))))/\((-1:Int)=yL\/(-1:Int) =
 (-1:Int))):IX Tryz.prog 158 [] [.pointer (some ⟨c0b,c0o,none⟩)] m xs:=
 Zkq (E:=ZiN) Zal mix Tryz.func158 _ _ _ (by kernel_rfl) (Eq.mp (by kernel_rfl) h)
def Zm8:Env:={ EB with
 loops:=swI nLa [(3,⟨[(6,.agg [.int .u8,.any,.str,.int .i64,.slice])],[3],[],false⟩)]
 frzNew:=[1] }
theorem ZkM(aA:Int)(aE:Value)(aJ:ByteArray)(aK:Int)(bC:Option Addr)(aY bE:Nat)(m:Mem)(R:RT)(h:
 lV [int u8 aA,aE,string aJ,int i64 aK,slice bC aY bE] λxL=>fzM m xL λb m'=>∀b_1,lE [some (Box.mk b_1 [] 3 1 false true),some (Box.mk b xL 52 5 true true)] λxL_1=>kF pG 114 [agg (.mk xL)] m'
 λg fi ca m'=>∃(xs:List (List Value)),IX pG g fi ca m' xs/\(∀(x:List Value),x∈xs->Shape.fitsL [.agg [.int u8,.any,.str,.int i64,.slice]] x=true)/\∃(I:IT),I [] [[int i64 0]] [] m' 0/\(∀n (v:Value) s
 n_1 a n_2 c (cs:List Value) m'_1 (n_3:Nat),m'.le m'_1->List.get?Internal xs n_3=some [agg (.mk [int u8 n,v,string s,int i64 n_1,slice a n_2 c])]->I [] [cs] [] m'_1 n_3->Eng.ZvQ cs 0 λv=>lE (i64.wrap
 (RowKit.intOf v+1)) λyL=>chk (ZaS i64 v&&decide (i64=i64)) (br (decide (yL > 10000)) (Zae xL_1/\rtM m m'_1 R (bool (decide (yL<=10000)))) (Zae xL_1/\I [] [[int i64 yL]] [] m'_1 (n_3+1))))/\∀(cs:List
 Value) m'_1,m'.le m'_1->I [] [cs] [] m'_1 (xs.length)->Eng.ZvQ cs 0 λv=>chk (ZaS i64 v&&decide (i64=i64)) (rtM m m'_1 R (bool (decide (RowKit.intOf v<=10000))))):CX Tryz.prog 92 #[.agg #[.int .u8 aA,aE,.string aJ,.int .i64 aK,.slice bC aY bE]] m [] R:=
 Zad (E:=Zm8) Zal mix Tryz.func92 (by kernel_rfl) (Eq.mp (by kernel_rfl) h)
def ZpN:Env:={ EB with
 loops:=swI nLa [(4,⟨[(8,.agg [.int .u8,.any,.str,.int .i64,.slice])],[3],[],false⟩)]
 frzNew:=[1] }
theorem Zm9(aA:Int)(aE:Value)(aJ:ByteArray)(aK:Int)(bC:Option Addr)(aY bE:Nat)(m:Mem)(R:RT)(h:
 lV [int u8 aA,aE,string aJ,int i64 aK,slice bC aY bE] λxL=>fzM m xL λb m'=>∀b_1,kB pG 92 [agg (.mk xL)] m' λb_2 m'=>br b_2 (kF pG 114 [agg (.mk xL)] m' λg fi ca m'=>∃(xs:List (List
 Value)),IX pG g fi ca m' xs/\(∀(x:List Value),x∈xs->Shape.fitsL [.agg [.int u8,.any,.str,.int i64,.slice]] x=true)/\∃(I:IT),I [] [[int i64 0]] [] m' 0/\(∀n (v:Value) s n_1 a n_2 c (cs:List Value) m'_1
 (n_3:Nat),m'.le m'_1->List.get?Internal xs n_3=some [agg (.mk [int u8 n,v,string s,int i64 n_1,slice a n_2 c])]->I [] [cs] [] m'_1 n_3->Eng.ZvQ cs 0 λv=>chk (ZaS i64 v&&decide (i64=i64)) (Zae [some
 (Box.mk b_1 [] 3 1 false true),some (Box.mk b xL 52 5 true true)]/\I [] [[int i64 (i64.wrap (RowKit.intOf v+1))]] [] m'_1 (n_3+1)))/\∀(cs:List Value) m'_1,m'.le m'_1->I [] [cs] [] m'_1 (xs.length)->Eng.ZvQ cs 0 λv
 => rtM m m'_1 R v) (rtM m m' R (int i64 0))):CX Tryz.prog 93 #[.agg #[.int .u8 aA,aE,.string aJ,.int .i64 aK,.slice bC aY bE]] m [] R:=
 Zad (E:=ZpN) Zal mix Tryz.func93 (by kernel_rfl) (Eq.mp (by kernel_rfl) h)
def Zna:Env:={ EB with
 exv:=swI false [(1,true)] }
theorem ZkN  (m:Mem)(R:RT)(h:
 ∃(v:Value),Zot pG 107 [int u64 9221120237041090561] v/\rtM m m R v):CX Tryz.prog 209 #[] m [] R:=
 Zad (E:=Zna) Zal mix Tryz.func209 (by kernel_rfl) (Eq.mp (by kernel_rfl) h)
def ZiO:Env:=EB
theorem Zhv(p0:Value)(m:Mem)(R:RT)(h:
 ∃(b:Bool),BinIs pG BinOp.neq 49 p0 p0 (bool b)/\br b (∃R_1,True/\CX pG 209 (.mk []) m [] R_1/\(∀(v:Value)(m':Mem) (css:List (List Value)),R_1 v m' css->true=true)/\∀(v:Value) m',m.le m'->R_1 v m' []->
 rtM m m' R v) (rtM m m R p0)):CX Tryz.prog 202 #[p0] m [] R:=
 Zad (E:=ZiO) Zal mix Tryz.func202 (by kernel_rfl) (Eq.mp (by kernel_rfl) h)
def ZiP:Env:={ EB with
 joins:=swI none [(1,some [(2,.bool)])]
 exv:=swI false [(8,true)] }
theorem Zhw(p0:Value)(m:Mem)(R:RT)(h:
 ∃(b:Bool),(∃(b_1:Bool),BinIs pG BinOp.eql 49 p0 p0 (bool b_1)/\br b_1 ([bool true]=[bool b]) (∃(v:Value),Zot pG 161 [p0] v/\chk (ZaS u64 v&&decide (u64=u64)) ([bool (RowKit.intOf v == 9221120237041090561)]
 = [bool b])))/\rtM m m R (bool b)):CX Tryz.prog 160 #[p0] m [] R:=
 Zad (E:=ZiP) Zal mix Tryz.func160 (by kernel_rfl) (Eq.mp (by kernel_rfl) h)
def ZkO:Env:={ EB with
 exv:=swI false [(7,true),(10,true)] }
theorem ZiQ(p0 p1:Value)(m:Mem)(R:RT)(h:
 ∃R_1,True/\CX pG 202 (.mk [p0]) m [] R_1/\(∀(v:Value)(m':Mem) (css:List (List Value)),R_1 v m' css->true=true)/\∀(v:Value) m',m.le m'->R_1 v m' []->∃(v_1:Value),Zot pG 161 [v] v_1/\∃R_2,True/\CX pG
 202 (.mk [p1]) m' [] R_2/\(∀(v:Value)(m':Mem) (css:List (List Value)),R_2 v m' css->true=true)/\∀(v:Value) m'_1,m'.le m'_1->R_2 v m'_1 []->∃(v_2:Value),Zot pG 161 [v] v_2/\chk (ZaS u64 v_1&&ZaS u64
 v_2) (rtM m m'_1 R (bool (RowKit.intOf v_1 == RowKit.intOf v_2)))):CX Tryz.prog 190 #[p0,p1] m [] R:=
 Zad (E:=ZkO) Zal mix Tryz.func190 (by kernel_rfl) (Eq.mp (by kernel_rfl) h)
def ZbL:Env:={ EB with
 loops:=swI nLa [(2,⟨[(8,.int .i64)],[],[],false⟩)] }
theorem ZbH(p0a:Option Addr)(p0n p0c p1g:Nat)(p1fi p1ca:List Value)(m:Mem)(R:RT)(h:
 ∃I,inI I [int i64 0] [] [] m/\∀n m' (n_1:Nat),m.le m'->I [int i64 n] [] [] m' n_1->br (decide (n < (↑p0n:Int))) (atA p0a λb o=>Zaf n p0n/\∃(v:Value),m' b (o+Int.toNat n*1)=some v/\kB pG p1g
 (List.append (List.append p1fi [v]) p1ca) m' λb m'=>br b (rtM m m' R (int i64 n)) (nxI n_1 I [int i64 (i64.wrap (n+1))] [] [] m')) (rtM m m' R (int i64 (-1)))):CX Tryz.prog 193 #[.slice p0a p0n p0c,.func (.func p1g) p1fi.toArray p1ca.toArray] m [] R:=
 Zad (E:=ZbL) Zal mix Tryz.func193 (by kernel_rfl) (Eq.mp (by kernel_rfl) h)
def Zbr:Env:=EB
theorem Zbn(p0a:Option Addr)(p0n p0c p1g:Nat)(p1fi p1ca:List Value)(m:Mem)(R:RT)(h:
 kI pG 193 [slice p0a p0n p0c,func (Fn.func p1g) (Array.mk p1fi) (Array.mk p1ca)] m λn m'=>rtM m m' R (bool (decide (n ≥ 0)))):CX Tryz.prog 171 #[.slice p0a p0n p0c,.func (.func p1g) p1fi.toArray p1ca.toArray] m [] R:=
 Zad (E:=Zbr) Zal mix Tryz.func171 (by kernel_rfl) (Eq.mp (by kernel_rfl) h)
def Zcm:Env:={ EB with
 loops:=swI nLa [(2,⟨[(8,.int .i64)],[],[],false⟩)] }
theorem Zch(p0a:Option Addr)(p0n p0c:Nat)(p1:ByteArray)(m:Mem)(R:RT)(h:
 ∃I,inI I [int i64 0] [] [] m/\∀n m' (n_1:Nat),m.le m'->I [int i64 n] [] [] m' n_1->br (decide (n < (↑p0n:Int))) (atA p0a λb o=>Zaf n p0n/\∃(v:Value),m' b (o+Int.toNat n*1)=some v/\chk (Zfe v) (br
 (ByteArray.toList p1 == ByteArray.toList (Zb8 v)) (rtM m m' R (int i64 n)) (nxI n_1 I [int i64 (i64.wrap (n+1))] [] [] m'))) (rtM m m' R (int i64 (-1)))):CX Tryz.prog 49 #[.slice p0a p0n p0c,.string p1] m [] R:=
 Zad (E:=Zcm) Zal mix Tryz.func49 (by kernel_rfl) (Eq.mp (by kernel_rfl) h)
def ZbX:Env:=EB
theorem ZbM(p0a:Option Addr)(p0n p0c:Nat)(p1:ByteArray)(m:Mem)(R:RT)(h:
 kI pG 49 [slice p0a p0n p0c,string p1] m λn m'=>rtM m m' R (bool (decide (n ≥ 0)))):CX Tryz.prog 15 #[.slice p0a p0n p0c,.string p1] m [] R:=
 Zad (E:=ZbX) Zal mix Tryz.func15 (by kernel_rfl) (Eq.mp (by kernel_rfl) h)
def Zcv:Env:=EB
theorem Zcn(p0b p0o:Nat)(p1:Int)(m:Mem)(R:RT)(h:
 Zaf p1 256/\∃(v:Value),m p0b (p0o+Int.toNat p1*1)=some v/\rtM m m R v):CX Tryz.prog 195 #[.pointer (some ⟨p0b,p0o,none⟩),.int .u8 p1] m [] R:=
 Zad (E:=Zcv) Zal mix Tryz.func195 (by kernel_rfl) (Eq.mp (by kernel_rfl) h)
def Zdu:Env:={ EB with
 loops:=swI nLa [(2,⟨[(4,.int .i64)],[2],[],false⟩)] }
theorem Zdk(p0:ByteArray)(m:Mem)(R:RT)(h:
 ∀b,∃I,inI I [int i64 0] [List.replicate 256 (bool false)] [] m/\∀(n:Int)(cs:List Value) m' (n_1:Nat),lE (ZgW p0 (Int.toNat n)) λyL=>lE (0+Int.toNat yL*1) λyL_1=>lE (Nat.beq (cs.length) 256&&Zdq
 cs) λyL_2=>m.le m'->I [int i64 n] [cs] [] m' n_1->br (decide (n < (↑(ByteArray.size p0):Int))) (Zaf n (ByteArray.size p0)/\br (decide (yL ≥ 128)) (chk yL_2 (rtM m m' R (tuple (.mk [agg (.mk cs),bool false]))))
 (Zaf yL 256/\chk (Nat.ble (yL_1+1) (cs.length)) (Zae [some (Box.mk b [] 241 256 false true)]/\nxI n_1 I [int i64 (i64.wrap (n+1))] [ZaF cs yL_1 [bool true]] [] m'))) (chk yL_2 (rtM m m' R (tuple (.mk [agg (.mk cs),
 bool true]))))):CX Tryz.prog 182 #[.string p0] m [] R:=
 Zad (E:=Zdu) Zal mix Tryz.func182 (by kernel_rfl) (Eq.mp (by kernel_rfl) h)
def Zdl:Env:={ EB with
 loops:=swI nLa [(1,⟨[(0,.str)],[],[],false⟩)] }
theorem Zc6(p0:ByteArray)(p1b p1o:Nat)(m:Mem)(R:RT)(h:
 ∃I,inI I [string p0] [] [] m/\∀s m' (n:Nat),m.le m'->I [string s] [] [] m' n->br (decide ((↑(ByteArray.size s):Int) > 0)) (Zaf (0:Int) (ByteArray.size s)/\kB pG 195 [Value.pointer (some (Addr.mk p1b p1o none)),
 int u8 (ZgW s (Int.toNat (0:Int)))] m' λb m'=>br (!b) (rtM m m' R (string s)) (((0:Int)<=1/\(1:Int)<=(↑(ByteArray.size s):Int))/\nxI n I [string (ByteArray.extract s (Int.toNat (1:Int)) (ByteArray.size s))] []
 [] m')) (rtM m m' R (string s))):CX Tryz.prog 183 #[.string p0,.pointer (some ⟨p1b,p1o,none⟩)] m [] R:=
 Zad (E:=Zdl) Zal mix Tryz.func183 (by kernel_rfl) (Eq.mp (by kernel_rfl) h)
def Zc7:Env:={ EB with
 loops:=swI nLa [(1,⟨[(0,.str)],[],[],false⟩)] }
theorem ZcM(p0:ByteArray)(p1b p1o:Nat)(m:Mem)(R:RT)(h:
 ∃I,inI I [string p0] [] [] m/\∀(s:ByteArray) m' (n:Nat),lE (↑(ByteArray.size s):Int) λyL=>lE (i64.wrap (yL - (1:Int))) λyL_1=>m.le m'->I [string s] [] [] m' n->br (decide (yL > 0)) (Zaf yL_1
 (ByteArray.size s)/\kB pG 195 [Value.pointer (some (Addr.mk p1b p1o none)),int u8 (ZgW s (Int.toNat yL_1))] m' λb m'=>br (!b) (rtM m m' R (string s)) (((0:Int)<=yL_1/\yL_1<=yL)/\nxI n I [string (ByteArray.extract s
 0 (Int.toNat yL_1))] [] [] m')) (rtM m m' R (string s))):CX Tryz.prog 184 #[.string p0,.pointer (some ⟨p1b,p1o,none⟩)] m [] R:=
 Zad (E:=Zc7) Zal mix Tryz.func184 (by kernel_rfl) (Eq.mp (by kernel_rfl) h)
def ZiR:Env:={ EB with
 joins:=swI none [(1,some [(12,.bool)]),(3,some [(21,.bool)])]
 dr:=swI [] [(4,[dO 0 [],dO 1 [],dO 2 [1],dO 3 [0,1,2],dO 4 [],dO 5 [4],⟨6,[],[],none,[0,1,2,3,4,5],[3]⟩,dO 7 [0,1,2,3,4,5,6]])]
 frzAt:=swI [] [(36,[5])] }
theorem Zhx(p0 p1:ByteArray)(m:Mem)(R:RT)(h:
 ∃(b:Bool),lX (string p0) λyL=>lV [int u8 (ZgW p1 (Int.toNat (0:Int)))] λxL=>br (ByteArray.toList p0 == ByteArray.toList bE0) ([bool true]=[bool b]) ([bool (ByteArray.toList p1 == ByteArray.toList bE0)]=[bool
 b])/\br b (rtM m m R yL) (∃(b:Bool),br ((↑(ByteArray.size p1):Int) == 1) (Zaf (0:Int) (ByteArray.size p1)/\[bool (decide (ZgW p1 (Int.toNat (0:Int)) < 128))]=[bool b]) ([bool false]=[bool b])/\br b (∃(f:
 Fx),Zaf (0:Int) (ByteArray.size p1)/\∃R_1,R_1=f 3 (yL::xL) m/\CX pG 181 (.mk (yL::xL)) m [] R_1/\ZaU .str R_1/\∀s m',m.le m'->R_1 (string s) m' []->Zaf (0:Int) (ByteArray.size p1)/\∃R_2,R_2=f 6
 (string s::xL) m'/\CX pG 180 (.mk (string s::xL)) m' [] R_2/\ZaU .str R_2/\∀s m'_1,m'.le m'_1->R_2 (string s) m'_1 []->∀M,m.le M->m'.le M->m'_1.le M->rtM m M R (string s)) (∃R_1,True/\CX pG 182 (.mk [string
 p1]) m [] R_1/\ZaU (.tup [.cells,.bool]) R_1/\∀(cs:List Value)(b:Bool) m',m.le m'->R_1 (tuple (.mk [agg (.mk cs),bool b])) m' []->∀(b_1:Nat),lV [Value.pointer (some (Addr.mk b_1 0 none))] λxL=>chk (Nat.beq
 (cs.length) 256&&Zdq cs) (br b (∀m'_1,m'.le m'_1->m'_1.reads b_1 0 cs->kT pG 184 (yL::xL) m'_1 λs m'=>kT pG 183 (string s::xL) m' λs m'=>rtM m m' R (string s)) (kT pG 186 [yL,string p1] m' λs m'=>kT pG
 185 [string s,string p1] m' λs m'=>rtM m m' R (string s)))))):CX Tryz.prog 159 #[.string p0,.string p1] m [] R:=
 Zad (E:=ZiR) Zal mix Tryz.func159 (by kernel_rfl) (Eq.mp (by kernel_rfl) h)
def ZkP:Env:=EB
theorem ZiS(p0:ByteArray)(m:Mem)(R:RT)(h:
 br (ByteArray.toList p0 == ByteArray.toList bE0) (rtM m m R (bool false)) (br (decide ((↑(ByteArray.size p0):Int) > 16)) (rtM m m R (bool false)) (Zaf (0:Int) (ByteArray.size p0)/\br (decide (ZgW p0 (Int.toNat (0:
 Int)) < 97)) (rtM m m R (bool false)) (Zaf (0:Int) (ByteArray.size p0)/\br (decide (ZgW p0 (Int.toNat (0:Int)) > 122)) (rtM m m R (bool false)) (∀b,m.free b->kB pG 15 [slice (some (Addr.mk b 0 none)) 3 3,string p0]
 (m.add b [string (.mk (.mk [109,105,110])),string (.mk (.mk [109,97,120])),string (.mk (.mk [110,117,109]))]) λb m'=>br b (rtM m m' R (bool false)) (kT pG 159 [string p0,string (.mk (.mk [97,98,99,100,101,102,
 103,104,105,106,107,108,109,110,111,112,113,114,115,116,117,118,119,120,121,122,48,49,50,51,52,53,54,55,56,57,95]))] m' λs m'=>rtM m m' R (bool (ByteArray.toList s == ByteArray.toList bE0)))))))):CX Tryz.prog 119 #[.string p0] m [] R:=
 Zad (E:=ZkP) Zal mix Tryz.func119 (by kernel_rfl) (Eq.mp (by kernel_rfl) h)
def ZpO:Env:={ EB with
 joins:=swI none [(3,some [(6,.bool)])] }
theorem Znb(p0:Int)(m:Mem)(R:RT)(h:
 br (p0 == 1) (rtM m m R (int i64 1)) (∃(b:Bool),br (decide (p0 ≥ 2)) ([bool (decide (p0<=7))]=[bool b]) ([bool false]=[bool b])/\br b (rtM m m R (int i64 2)) (rtM m m R (int i64 0)))):CX Tryz.prog 191 #[.int .u8 p0] m [] R:=
 Zad (E:=ZpO) Zal mix Tryz.func191 (by kernel_rfl) (Eq.mp (by kernel_rfl) h)
def Znc:Env:={ EB with
 joins:=swI none [(8,some [(5,.bool)]),(11,some [(6,.bool)])]
 dr:=swI [] [(1,[⟨0,[1],[],none,[],[]⟩,⟨1,[1],[],none,[0],[]⟩,dO 2 [0,1],⟨3,[1],[],none,[],[]⟩,⟨4,[1],[],none,[3],[]⟩,dO 5 [3,4],⟨6,[1],[],none,[],[]⟩,⟨7,[1],[],none,[6],[]⟩,dO 8 [6,7],dO 9 [0,1,2,3,4,5],dO 10 [0,1,2,3,4,5,9],dO 11 [0,1,2,3,4,5,6,7,8,9,10]]),(12,[⟨0,[1],[],none,[],[]⟩,⟨1,[1],[],none,[0],[]⟩,dO 2 [0,1],dO 3 [0,1,2],dO 4 [0,1,2,3],dO 5 [0,1,2,3,4],dO 6 [0,1,2,3,4,5],dO 7 [0,1,2,3,4,5,6],dO 8 [0,1,2,3,4,5,6,7],dO 9 [0,1,2,3,4,5,6,7,8],dO 10 [0,1,2,3,4,5,6,7,8,9],dO 11 [0,1,2,3,4,5,6,7,8,9,10],dO 12 (rg 0 12),⟨13,[1],[],none,rg 0 13,[]⟩,⟨14,[1],[],none,rg 0 14,[]⟩,dO 15 (rg 0 15),⟨16,[1],[],none,rg 0 13,[]⟩,⟨17,[1],[],none,rg 0 13++[16],[]⟩,dO 18 (rg 0 13++[16,17]),dO 19 (rg 0 19),dO 20 (rg 0 20),dO 21 (rg 0 21),dO 22 (rg 0 22),dO 23 (rg 0 23),dO 24 (rg 0 24),dO 25 (rg 0 25)])]
 frzNew:=[1]
 gb:=true }
theorem ZkQ(aA:Int)(aE:Value)(aJ:ByteArray)(aK:Int)(bC:Option Addr)(aY bE:Nat)(m:Mem)(R:RT)(h:
 lE (↑aY:Int) λyL=>lE (aA == 1) λaf=>lE (yL == 1) λag=>lE (decide (aA<=10)) λah=>lE (ByteArray.toList aJ == ByteArray.toList bE0) λai=>lV [int u8 aA] λxL=>lV [int u8 aA,aE,string
 aJ,int i64 aK,slice bC aY bE] λak=>fzM m ak λb m'=>∃(f:Fx),∃R_1,lE [some (Box.mk b ak 52 5 true true)] λac=>R_1=f 5 [aE,Value.float .f64 0] m'/\CX pG 190 (.mk [aE,Value.float .f64 0])
 m' [] R_1/\ZaU .bool R_1/\∀(b:Bool) aj,m'.le aj->R_1 (bool b) aj []->∀M,m'.le M->aj.le M->br (aA == 8) (kB pG 160 [aE] M λb m'=>∃(ab:Bool),br af (br ag (atA bC λb o=>Zaf (0:Int) aY/\∃(v
 : Value),m' b (o+0+0)=some v/\chk (ZaS u8 v&&decide (u8=u8)) (Zae ac/\[bool (RowKit.intOf v == 8)]=[bool ab])) (Zae ac/\[bool false]=[bool ab])) (Zae ac/\[bool false]=[bool ab])/\∃(f:Fx),br ah
 (br ai (br b (br (aK == 0) (∃R_2,R_2=f 18 xL m'/\CX pG 191 (.mk xL) m' [] R_2/\ZaU (.int i64) R_2/\∀n ad,m'.le ad->R_2 (int i64 n) ad []->br (yL == n) (∀M,m'.le M->ad.le M->rtM m M R (bool !ab)) (∀M,m'.le M->
 ad.le M->rtM m M R (bool false))) (∀M,m'.le M->m'.le M->rtM m M R (bool false))) (∀M,m'.le M->m'.le M->rtM m M R (bool false))) (∀M,m'.le M->m'.le M->rtM m M R (bool false))) (∀M,m'.le M->m'.le M->rtM m M R (bool
 false))) (br (aA == 9) (kB pG 119 [string aJ] M λab m'=>∃(ae:Bool),br af (br ag (atA bC λb o=>Zaf (0:Int) aY/\∃(v:Value),m' b (o+0+0)=some v/\chk (ZaS u8 v&&decide (u8=u8)) (Zae
 ac/\[bool (RowKit.intOf v == 8)]=[bool ae])) (Zae ac/\[bool false]=[bool ae])) (Zae ac/\[bool false]=[bool ae])/\∃(f:Fx),br ah (br ab (br b (br (aK == 0) (∃R_2,R_2=f 18 xL m'/\CX pG 191 (.mk xL) m' []
 R_2/\ZaU (.int i64) R_2/\∀n ad,m'.le ad->R_2 (int i64 n) ad []->br (yL == n) (∀M,m'.le M->ad.le M->rtM m M R (bool !ae)) (∀M,m'.le M->ad.le M->rtM m M R (bool false))) (∀M,m'.le M->m'.le M->rtM m M R (bool
 false))) (∀M,m'.le M->m'.le M->rtM m M R (bool false))) (∀M,m'.le M->m'.le M->rtM m M R (bool false))) (∀M,m'.le M->m'.le M->rtM m M R (bool false))) (br (aA == 10) (∃(ab:Bool),br (decide (aK ≥ 0)) (Zae ac/\
 [bool (decide (aK<=9))]=[bool ab]) (Zae ac/\[bool false]=[bool ab])/\∃(ae:Bool),br af (br ag (atA bC λb o=>Zaf (0:Int) aY/\∃(v:Value),M b (o+0+0)=some v/\chk (ZaS u8 v&&decide (u8 =
 u8)) (Zae ac/\[bool (RowKit.intOf v == 8)]=[bool ae])) (Zae ac/\[bool false]=[bool ae])) (Zae ac/\[bool false]=[bool ae])/\∃(f:Fx),br ah (br ai (br b (br ab (∃R_2,R_2=f 18 xL M/\CX pG 191 (.mk xL) M []
 R_2/\ZaU (.int i64) R_2/\∀n m',M.le m'->R_2 (int i64 n) m' []->br (yL == n) (∀aa,M.le aa->m'.le aa->rtM m aa R (bool !ae)) (∀aa,M.le aa->m'.le aa->rtM m aa R (bool false))) (∀aa,M.le aa->M.le aa->rtM m aa R
 (bool false))) (∀aa,M.le aa->M.le aa->rtM m aa R (bool false))) (∀aa,M.le aa->M.le aa->rtM m aa R (bool false))) (∀aa,M.le aa->M.le aa->rtM m aa R (bool false))) (br (aA == 0) (rtM m M R (bool false)) (∃(ab:Bool),
 br af (br ag (atA bC λb o=>Zaf (0:Int) aY/\∃(v:Value),M b (o+0+0)=some v/\chk (ZaS u8 v&&decide (u8=u8)) (Zae ac/\[bool (RowKit.intOf v == 8)]=[bool ab])) (Zae ac/\[bool false]=[bool
 ab])) (Zae ac/\[bool false]=[bool ab])/\∃(f:Fx),br ah (br ai (br b (br (aK == 0) (∃R_2,R_2=f 18 xL M/\CX pG 191 (.mk xL) M [] R_2/\ZaU (.int i64) R_2/\∀n m',M.le m'->R_2 (int i64 n) m' []->br (yL == n) (∀
 aa,M.le aa->m'.le aa->rtM m aa R (bool !ab)) (∀aa,M.le aa->m'.le aa->rtM m aa R (bool false))) (∀aa,M.le aa->M.le aa->rtM m aa R (bool false))) (∀aa,M.le aa->M.le aa->rtM m aa R (bool false))) (∀aa,M.le aa->M.le
 aa->rtM m aa R (bool false))) (∀aa,M.le aa->M.le aa->rtM m aa R (bool false))))))):CX Tryz.prog 168 #[.agg #[.int .u8 aA,aE,.string aJ,.int .i64 aK,.slice bC aY bE]] m [] R:=
 Zad (E:=Znc) Zal mix Tryz.func168 (by kernel_rfl) (Eq.mp (by kernel_rfl) h)
def Znd:Env:={ EB with
 loops:=swI nLa [(5,⟨[(9,.agg [.int .u8,.any,.str,.int .i64,.slice])],[2],[],false⟩)]
 frzNew:=[1] }
theorem ZkR(aA:Int)(aE:Value)(aJ:ByteArray)(aK:Int)(bC:Option Addr)(aY bE:Nat)(m:Mem)(R:RT)(h:
 lV [int u8 aA,aE,string aJ,int i64 aK,slice bC aY bE] λxL=>fzM m xL λb m'=>∀b_1,lE [some (Box.mk b_1 [] 4 1 false true),some (Box.mk b xL 52 5 true true)] λxL_1=>kB pG 92 [agg (.mk xL)] m'
 λb m'=>br (!b) (rtM m m' R (bool false)) (kF pG 114 [agg (.mk xL)] m' λg fi ca m'=>∃(xs:List (List Value)),IX pG g fi ca m' xs/\(∀(x:List Value),x∈xs->Shape.fitsL [.agg [.int u8,.any,.str,.int i64,
 .slice]] x=true)/\∃(I:IT),I [] [[bool false]] [] m' 0/\(∀n (v:Value) s n_1 a n_2 c (cs:List Value) m'_1 (n_3:Nat),lV [agg (.mk [int u8 n,v,string s,int i64 n_1,slice a n_2 c])] λxL=>m'.le m'_1->
 List.get?Internal xs n_3=some xL->I [] [cs] [] m'_1 n_3->∀(b:Nat),chk (v.oneCell'&&true) (kB pG 168 xL m'_1 λb m'=>br (!b) (Zae xL_1/\rtM m m' R (bool false)) (Zae xL_1/\I [] [cs] [] m' (n_3+1))))/\∀(cs
 : List Value) m'_1,m'.le m'_1->I [] [cs] [] m'_1 (xs.length)->rtM m m'_1 R (bool true))):CX Tryz.prog 136 #[.agg #[.int .u8 aA,aE,.string aJ,.int .i64 aK,.slice bC aY bE]] m [] R:=
 Zad (E:=Znd) Zal mix Tryz.func136 (by kernel_rfl) (Eq.mp (by kernel_rfl) h)
def ZaC:Env:={ EB with
 loops:=swI nLa [(4,⟨[(17,.int .i64)],[],[],false⟩)] }
theorem ZaA(p0a:Option Addr)(p0n p0c:Nat)(p1a:Option Addr)(p1n p1c p2g:Nat)(p2fi p2ca:List Value)(m:Mem)(R:RT)(h:
 br (!(↑p0n:Int) == (↑p1n:Int)) (rtM m m R (bool false)) (∃I,inI I [int i64 0] [] [] m/\∀n m' (n_1:Nat),m.le m'->I [int i64 n] [] [] m' n_1->br (decide (n < (↑p0n:Int))) (atA p0a λb o=>Zaf n p0n/\∃v v_1
 v_2 v_3 v_4:Value,m'.reads b (o+Int.toNat n*5) [v,v_1,v_2,v_3,v_4]/\∀(b:Nat),chk (v.oneCell'&&(v_1.oneCell'&&(v_2.oneCell'&&(v_3.oneCell'&&(v_4.oneCell'&&true))))) (atA p1a λb o=>Zaf n p1n/\∃
 v_5 v_6 v_7 v_8 v_9:Value,m'.reads b (o+Int.toNat n*5) [v_5,v_6,v_7,v_8,v_9]/\∀(b:Nat),chk (v_5.oneCell'&&(v_6.oneCell'&&(v_7.oneCell'&&(v_8.oneCell'&&(v_9.oneCell'&&true))))) (kB pG p2g (List.append
 (List.append p2fi [agg (.mk [v,v_1,v_2,v_3,v_4]),agg (.mk [v_5,v_6,v_7,v_8,v_9])]) p2ca) m' λb m'=>br (!b) (rtM m m' R (bool false)) (nxI n_1 I [int i64 (i64.wrap (n+1))] [] [] m')))) (rtM m m' R (bool true)))):CX Tryz.prog 203 #[.slice p0a p0n p0c,.slice p1a p1n p1c,.func (.func p2g) p2fi.toArray p2ca.toArray] m [] R:=
 Zad (E:=ZaC) Zal mix Tryz.func203 (by kernel_rfl) (Eq.mp (by kernel_rfl) h)
def ZpP:Env:={ EB with
 joins:=swI none [(1,some [(4,.bool)])]
 frzNew:=[2,3] }
theorem Zne(aA:Int)(aE:Value)(aJ:ByteArray)(aK:Int)(bC:Option Addr)(aY bE:Nat)(bU:Int)(bW:Value)(bV:ByteArray)(bX:Int)(cX:Option Addr)(cV dB:Nat)(m:Mem)(R:RT)(h:
 lV [int u8 bU,bW,string bV,int i64 bX,slice cX cV dB] λxL=>lV [int u8 aA,aE,string aJ,int i64 aK,slice bC aY bE] λxL_1=>fzM m xL_1 λb m'=>lE [some (Box.mk b xL_1 52 5 true
 true)] λxL_2=>fzM m' xL λb m'=>∃(b_1:Bool),lV [bool b_1] λxL_3=>lE (some (Box.mk b xL 52 5 true true)::xL_2) λxL=>br (aA == bU) (kB pG 190 [aE,bW] m' λb m'=>br b (br (ByteArray.toList aJ
 == ByteArray.toList bV) (br (aK == bX) (kB pG 203 [slice bC aY bE,slice cX cV dB,func (Fn.func 192) (Array.mk []) (Array.mk [])] m' λb m'=>Zae xL/\[bool b]=xL_3) (Zae xL/\[bool false] =
 xL_3)) (Zae xL/\[bool false]=xL_3)) (Zae xL/\[bool false]=xL_3)) (Zae xL/\[bool false]=xL_3)/\rtM m m' R (bool b_1)):CX Tryz.prog 192 #[.agg #[.int .u8 aA,aE,.string aJ,.int .i64 aK,.slice bC aY bE],.agg #[.int .u8 bU,bW,.string bV,.int .i64 bX,.slice cX cV dB]] m [] R:=
 Zad (E:=ZpP) Zal mix Tryz.func192 (by kernel_rfl) (Eq.mp (by kernel_rfl) h)
def ZpQ:Env:={ EB with
 joins:=swI none [(1,some [(4,.bool)])]
 frzNew:=[2,3] }
theorem Znf(aA:Int)(aE:Value)(aJ:ByteArray)(aK:Int)(bC:Option Addr)(aY bE:Nat)(bU:Int)(bW:Value)(bV:ByteArray)(bX:Int)(cX:Option Addr)(cV dB:Nat)(m:Mem)(R:RT)(h:
 lV [int u8 bU,bW,string bV,int i64 bX,slice cX cV dB] λxL=>lV [int u8 aA,aE,string aJ,int i64 aK,slice bC aY bE] λxL_1=>fzM m xL_1 λb m'=>lE [some (Box.mk b xL_1 52 5 true
 true)] λxL_2=>fzM m' xL λb m'=>∃(b_1:Bool),lE (some (Box.mk b xL 52 5 true true)::xL_2) λxL_3=>(kB pG 92 [agg (.mk xL_1)] m' λb m'=>br b (kB pG 92 [agg (.mk xL)] m' λb m'=>br b (kB pG 192 [agg (.mk
 xL_1),agg (.mk xL)] m' λb m'=>Zae xL_3/\[bool b]=[bool b_1]) (Zae xL_3/\[bool false]=[bool b_1])) (Zae xL_3/\[bool false]=[bool b_1]))/\rtM m m' R (bool b_1)):CX Tryz.prog 169 #[.agg #[.int .u8 aA,aE,.string aJ,.int .i64 aK,.slice bC aY bE],.agg #[.int .u8 bU,bW,.string bV,.int .i64 bX,.slice cX cV dB]] m [] R:=
 Zad (E:=ZpQ) Zal mix Tryz.func169 (by kernel_rfl) (Eq.mp (by kernel_rfl) h)
def ZpR:Env:={ EB with
 frzNew:=[1] }
theorem Zng(aA:Int)(aE:Value)(aJ:ByteArray)(aK:Int)(bC:Option Addr)(aY bE:Nat)(m:Mem)(R:RT)(h:
 lV [int u8 aA,aE,string aJ,int i64 aK,slice bC aY bE] λxL=>fzM m xL λb m'=>kB pG 92 [agg (.mk xL)] m' λb m'=>br (!b) (rtM m m' R (slice none 0 0)) (kS pG 104 [slice none 0 0,agg (.mk xL)] m'
 λa n c m'=>rtM m m' R (slice a n c))):CX Tryz.prog 77 #[.agg #[.int .u8 aA,aE,.string aJ,.int .i64 aK,.slice bC aY bE]] m [] R:=
 Zad (E:=ZpR) Zal mix Tryz.func77 (by kernel_rfl) (Eq.mp (by kernel_rfl) h)
def ZpS:Env:={ EB with
 loops:=swI nLa [(5,⟨[(9,.agg [.int .u8,.any,.str,.int .i64,.slice])],[3],[],false⟩)]
 frzNew:=[1] }
theorem Znh(aA:Int)(aE:Value)(aJ:ByteArray)(aK:Int)(bC:Option Addr)(aY bE:Nat)(m:Mem)(R:RT)(h:
 lV [int u8 aA,aE,string aJ,int i64 aK,slice bC aY bE] λxL=>fzM m xL λb m'=>∀b_1,lE [some (Box.mk b_1 [] 3 1 false true),some (Box.mk b xL 52 5 true true)] λxL_1=>kB pG 92 [agg (.mk xL)] m'
 λb m'=>br b (kF pG 114 [agg (.mk xL)] m' λg fi ca m'=>∃(xs:List (List Value)),IX pG g fi ca m' xs/\(∀(x:List Value),x∈xs->Shape.fitsL [.agg [.int u8,.any,.str,.int i64,.slice]] x=true)/\∃(I:IT),I
 [] [[int i64 (-1)]] [] m' 0/\(∀n (v:Value) s n_1 a n_2 c (cs:List Value) m'_1 (n_3:Nat),m'.le m'_1->List.get?Internal xs n_3=some [agg (.mk [int u8 n,v,string s,int i64 n_1,slice a n_2 c])]->I [] [cs] [] m'_1 n_3
 -> ∀(b:Nat),chk (v.oneCell'&&true) (br (n == 10) (Eng.ZvQ cs 0 λv=>chk (ZaS i64 v&&decide (i64=i64)) (Zae xL_1/\I [] [[int i64 (if n_1 > RowKit.intOf v then n_1 else RowKit.intOf v)]] [] m'_1 (n_3+1)))
 (Zae xL_1/\I [] [cs] [] m'_1 (n_3+1))))/\∀(cs:List Value) m'_1,m'.le m'_1->I [] [cs] [] m'_1 (xs.length)->Eng.ZvQ cs 0 λv=>rtM m m'_1 R v) (rtM m m' R (int i64 (-1)))):CX Tryz.prog 142 #[.agg #[.int .u8 aA,aE,.string aJ,.int .i64 aK,.slice bC aY bE]] m [] R:=
 Zad (E:=ZpS) Zal mix Tryz.func142 (by kernel_rfl) (Eq.mp (by kernel_rfl) h)
def ZrJ:Env:={ EB with
 frzNew:=[1] }
theorem ZpT(aA aE aJ aK bA aX aW:Int)(aU:Option Addr)(aR aV:Nat)(m:Mem)(R:RT)(h:
 fzM m [int u8 aA,int u64 aE,int u64 aJ,int u64 aK,int u64 bA,int i64 aX,int i64 aW,slice aU aR aV] λb m'=>rtM m m' R (func (Fn.func 61) (Array.mk []) (Array.mk [Value.pointer (some (Addr.mk b 0
 none))]))):CX Tryz.prog 38 #[.agg #[.int .u8 aA,.int .u64 aE,.int .u64 aJ,.int .u64 aK,.int .u64 bA,.int .i64 aX,.int .i64 aW,.slice aU aR aV]] m [] R:=
 Zad (E:=ZrJ) Zal mix Tryz.func38 (by kernel_rfl) (Eq.mp (by kernel_rfl) h)
def Zni:Env:={ EB with
 loops:=swI nLa [(3,⟨[(13,.int .i64)],[],[],true⟩),(7,⟨[(19,.agg [.int .u8,.int .u64,.int .u64,.int .u64,.int .u64,.int .i64,.int .i64,.slice])],[],[],true⟩)]
 frzNew:=[2] }
theorem ZkS(p0g:Nat)(p0fi p0ca:List Value)(c0b c0o:Nat)(m:Mem)(xs:List (List Value))(h:
 ∀(l:Nat),lE (↑(xs.length):Int) λyL=>lV [func (Fn.yield l) (Array.mk []) (Array.mk [])] λxL=>fzM m xL λb m'=>∃v v_1 v_2 v_3 v_4 v_5 v_6 v_7:Value,lV [v,v_1,v_2,v_3,v_4,v_5,v_6,v_7] λxL_1=>lE
 [some (Box.mk b xL 106 1 true true)] λxL=>m'.reads c0b c0o xL_1/\(l=l/\(0:Int)<=0/\List.get?Internal xs (Int.toNat (0:Int))=some [agg (.mk xL_1)])/\(∃(v:Value),m' c0b (c0o+7)=some v/\chk (Za5 v) (∃I,
 inI I [int i64 ((0:Int)+1),int i64 0] [] [] m'/\∀y n m'_1 (n_1:Nat),m'.le m'_1->I [int i64 y,int i64 n] [] [] m'_1 n_1->br (decide (n < (↑(slN v):Int))) (chk (Za5 v) (atA (slA v) λb o=>Zaf n (slN v)/\∃v
 v_8 v_9 v_10 v_11 v_12 v_13 v_14:Value,lV [v,v_8,v_9,v_10,v_11,v_12,v_13,v_14] λxL_2=>m'_1.reads b (o+Int.toNat n*8) xL_2/\∀b,lE (some (Box.mk b xL_2 40 8 false true)::xL) λxL_3=>chk (v.oneCell' &&
 (v_8.oneCell'&&(v_9.oneCell'&&(v_10.oneCell'&&(v_11.oneCell'&&(v_12.oneCell'&&(v_13.oneCell'&&(v_14.oneCell'&&true)))))))) (kF pG 38 [agg (.mk xL_2)] m'_1 λg fi ca m'=>∃(xs_1:List (List Value)),IX pG g fi ca
 m' xs_1/\(∀(x:List Value),x∈xs_1->Shape.fitsL [shT] x=true)/\∃(I_1:IT),I_1 [int i64 y] [] [] m' 0/\(∀y n n_2 n_3 n_4 n_5 n_6 n_7 a n_8 c m'_2 (n_9:Nat),lE (some [agg (.mk [int u8 n,int u64 n_2,int u64 n_3,
 int u64 n_4,int u64 n_5,int i64 n_6,int i64 n_7,slice a n_8 c])]) λyL_1=>m'.le m'_2->List.get?Internal xs_1 n_9=yL_1->I_1 [int i64 y] [] [] m'_2 n_9->∀(b:Nat),(l=l/\(0:Int)<=y/\List.get?Internal xs
 (Int.toNat y)=yL_1)/\(Zae xL_3/\I_1 [int i64 (y+1)] [] [] m'_2 (n_9+1))/\Zae xL_3/\((-1:Int)=yL\/(-1:Int)=(-1:Int)))/\∀y m'_2,m'.le m'_2->I_1 [int i64 y] [] [] m'_2 (xs_1.length)->Zae xL/\nxI
 n_1 I [int i64 y,int i64 (i64.wrap (n+1))] [] [] m'_2))) (y=yL\/y=(-1:Int))))/\((-1:Int)=yL\/(-1:Int)=(-1:Int))):IX Tryz.prog 61 [] [.pointer (some ⟨c0b,c0o,none⟩)] m xs:=
 Zkq (E:=Zni) Zal mix Tryz.func61 _ _ _ (by kernel_rfl) (Eq.mp (by kernel_rfl) h)
def ZrK:Env:={ EB with
 loops:=swI nLa [(3,⟨[(6,.agg [.int .u8,.int .u64,.int .u64,.int .u64,.int .u64,.int .i64,.int .i64,.slice])],[3],[],false⟩)]
 frzNew:=[1] }
theorem ZpU(aA aE aJ aK bA aX aW:Int)(aU:Option Addr)(aR aV:Nat)(m:Mem)(R:RT)(h:
 lV [int u8 aA,int u64 aE,int u64 aJ,int u64 aK,int u64 bA,int i64 aX,int i64 aW,slice aU aR aV] λxL=>fzM m xL λb m'=>∀b_1,lE [some (Box.mk b_1 [] 3 1 false true),some (Box.mk b xL 40 8
 true true)] λxL_1=>kF pG 38 [agg (.mk xL)] m' λg fi ca m'=>∃(xs:List (List Value)),IX pG g fi ca m' xs/\(∀(x:List Value),x∈xs->Shape.fitsL [shT] x=true)/\∃(I:IT),I [] [[int i64 0]] [] m' 0/\(∀n n_1
 n_2 n_3 n_4 n_5 n_6 a n_7 c (cs:List Value) m'_1 (n_8:Nat),m'.le m'_1->List.get?Internal xs n_8=some [agg (.mk [int u8 n,int u64 n_1,int u64 n_2,int u64 n_3,int u64 n_4,int i64 n_5,int i64 n_6,slice a n_7 c])]->I
 [] [cs] [] m'_1 n_8->Eng.ZvQ cs 0 λv=>lE (i64.wrap (RowKit.intOf v+1)) λyL=>chk (ZaS i64 v&&decide (i64=i64)) (br (decide (yL > 10000)) (Zae xL_1/\rtM m m'_1 R (bool (decide (yL<=10000)))) (Zae xL_1/\I
 [] [[int i64 yL]] [] m'_1 (n_8+1))))/\∀(cs:List Value) m'_1,m'.le m'_1->I [] [cs] [] m'_1 (xs.length)->Eng.ZvQ cs 0 λv=>chk (ZaS i64 v&&decide (i64=i64)) (rtM m m'_1 R (bool (decide (RowKit.intOf v<=10000))))):CX Tryz.prog 37 #[.agg #[.int .u8 aA,.int .u64 aE,.int .u64 aJ,.int .u64 aK,.int .u64 bA,.int .i64 aX,.int .i64 aW,.slice aU aR aV]] m [] R:=
 Zad (E:=ZrK) Zal mix Tryz.func37 (by kernel_rfl) (Eq.mp (by kernel_rfl) h)
def ZpV:Env:={ EB with
 joins:=swI none [(1,some [(18,.bool)]),(3,some [(4,.bool)])] }
theorem Znj(p0 p1:Int)(m:Mem)(R:RT)(h:
 ∃(b:Bool),lV [bool b] λxL=>br (decide (p0 < 0)) ([bool true]=xL) (br (decide (p0 > 16)) ([bool true]=xL) (br (p0 == 1) ([bool (p1 == 1)]=xL) ([bool false]=xL)))/\br b (rtM m m R (bool false)) (∃(b:Bool),lV
 [bool b] λxL=>br (p1 == (-1)) ([bool true]=xL) (br (decide (p1 ≥ 1)) (br (decide (p1<=16)) ([bool (decide (p1 ≥ p0))]=xL) ([bool false]=xL)) ([bool false]=xL))/\rtM m m R (bool b))):CX Tryz.prog 201 #[.int .i64 p0,.int .i64 p1] m [] R:=
 Zad (E:=ZpV) Zal mix Tryz.func201 (by kernel_rfl) (Eq.mp (by kernel_rfl) h)
def ZrL:Env:={ EB with
 frzNew:=[2] }
theorem ZpW(aA aE aJ aK bA aX aW:Int)(aU:Option Addr)(aR aV c0b c0o:Nat)(m:Mem)(R:RT)(h:
 fzM m [int u8 aA,int u64 aE,int u64 aJ,int u64 aK,int u64 bA,int i64 aX,int i64 aW,slice aU aR aV] λb m'=>∃(v:Value),m' c0b c0o=some v/\chk (ZaS u8 v) (rtM m m' R (bool (aA ==
 RowKit.intOf v)))):CX Tryz.prog 208 #[.agg #[.int .u8 aA,.int .u64 aE,.int .u64 aJ,.int .u64 aK,.int .u64 bA,.int .i64 aX,.int .i64 aW,.slice aU aR aV],.pointer (some ⟨c0b,c0o,none⟩)] m [] R:=
 Zad (E:=ZrL) Zal mix Tryz.func208 (by kernel_rfl) (Eq.mp (by kernel_rfl) h)
def Zbw:Env:={ EB with
 loops:=swI nLa [(2,⟨[(8,.int .i64)],[],[],false⟩)] }
theorem Zbs(p0a:Option Addr)(p0n p0c p1g:Nat)(p1fi p1ca:List Value)(m:Mem)(R:RT)(h:
 ∃I,inI I [int i64 0] [] [] m/\∀n m' (n_1:Nat),m.le m'->I [int i64 n] [] [] m' n_1->br (decide (n < (↑p0n:Int))) (atA p0a λb o=>Zaf n p0n/\∃v v_1 v_2 v_3 v_4 v_5 v_6 v_7:Value,lV [v,v_1,v_2,v_3,v_4,
 v_5,v_6,v_7] λxL=>m'.reads b (o+Int.toNat n*8) xL/\kB pG p1g (List.append (List.append p1fi [agg (.mk xL)]) p1ca) m' λb m'=>br b (rtM m m' R (int i64 n)) (nxI n_1 I [int i64 (i64.wrap (n+1))] [] [] m')) (rtM m
 m' R (int i64 (-1)))):CX Tryz.prog 214 #[.slice p0a p0n p0c,.func (.func p1g) p1fi.toArray p1ca.toArray] m [] R:=
 Zad (E:=Zbw) Zal mix Tryz.func214 (by kernel_rfl) (Eq.mp (by kernel_rfl) h)
def Zbf:Env:=EB
theorem Za7(p0a:Option Addr)(p0n p0c p1g:Nat)(p1fi p1ca:List Value)(m:Mem)(R:RT)(h:
 kI pG 214 [slice p0a p0n p0c,func (Fn.func p1g) (Array.mk p1fi) (Array.mk p1ca)] m λn m'=>rtM m m' R (bool (decide (n ≥ 0)))):CX Tryz.prog 207 #[.slice p0a p0n p0c,.func (.func p1g) p1fi.toArray p1ca.toArray] m [] R:=
 Zad (E:=Zbf) Zal mix Tryz.func207 (by kernel_rfl) (Eq.mp (by kernel_rfl) h)
def ZxH:Env:={ EB with
 frzNew:=[2,3] }
theorem ZuV(aA aE aJ aK bA aX aW:Int)(aU:Option Addr)(aR aV:Nat)(p1:Int)(m:Mem)(R:RT)(h:
 fzM m [int u8 aA,int u64 aE,int u64 aJ,int u64 aK,int u64 bA,int i64 aX,int i64 aW,slice aU aR aV] λb m'=>fzM m' [int u8 p1] λb m'=>kB pG 207 [slice aU aR aV,func (Fn.func 208)
 (Array.mk []) (Array.mk [Value.pointer (some (Addr.mk b 0 none))])] m' λb m'=>rtM m m' R (bool b)):CX Tryz.prog 200 #[.agg #[.int .u8 aA,.int .u64 aE,.int .u64 aJ,.int .u64 aK,.int .u64 bA,.int .i64 aX,.int .i64 aW,.slice aU aR aV],.int .u8 p1] m [] R:=
 Zad (E:=ZxH) Zal mix Tryz.func200 (by kernel_rfl) (Eq.mp (by kernel_rfl) h)
def ZrM:Env:={ EB with
 joins:=swI none [(1,some [(37,.bool)]),(9,some [(2,.bool)]),(11,some [(2,.bool)]),(13,some [(2,.bool)]),(14,some [(2,.bool)])]
 frzNew:=[1] }
theorem ZpX(aA aE aJ aK bA aX aW:Int)(aU:Option Addr)(aR aV:Nat)(m:Mem)(R:RT)(h:
 lE (↑aR:Int) λyL=>lV [int u8 aA,int u64 aE,int u64 aJ,int u64 aK,int u64 bA,int i64 aX,int i64 aW,slice aU aR aV] λxL=>lX (agg (.mk xL)) λyL_1=>lE (decide (aA < 3)) λyL_2=>
 lX (agg (.mk [int u64 aE,int u64 aJ,int u64 aK,int u64 bA])) λyL_3=>lV [bool (decide (yL > 0))] λxL_1=>fzM m xL λb m'=>∃(b_1:Bool),lV [bool b_1] λxL_2=>lE [some (Box.mk b xL 40 8 true true)] fun
 xL=>br (!aA == 2) (∃(b:Bool),EqIs pG 37 yL_3 (agg (.mk [int u64 0,int u64 0,int u64 0,int u64 0])) b/\br (!b) (Zae xL/\[bool true]=xL_2) (br (!aA == 5) (br (!aX == 0) (Zae xL/\[bool true]=xL_2) (br
 (!aW == 0) (Zae xL/\[bool true]=xL_2) (br yL_2 (Zae xL/\xL_1=xL_2) (Zae xL/\[bool false]=xL_2)))) (br yL_2 (Zae xL/\xL_1=xL_2) (Zae xL/\[bool false]=xL_2)))) (br (!aA == 5) (br (!aX == 0)
 (Zae xL/\[bool true]=xL_2) (br (!aW == 0) (Zae xL/\[bool true]=xL_2) (br yL_2 (Zae xL/\xL_1=xL_2) (Zae xL/\[bool false]=xL_2)))) (br yL_2 (Zae xL/\xL_1=xL_2) (Zae xL/\[bool false]=xL_2)))/\br
 b_1 (rtM m m' R (bool false)) (br (aA == 1) (rtM m m' R (bool true)) (br (aA == 2) (∃(b:Bool),EqIs pG 37 yL_3 (agg (.mk [int u64 0,int u64 0,int u64 0,int u64 0])) b/\rtM m m' R (bool !b)) (br (aA == 3) (∃(b:
 Bool),br (decide (yL > 1)) (kB pG 200 [yL_1,int u8 1] m' λb_2 m'=>br (!b_2) (kB pG 200 [yL_1,int u8 3] m' λb_3 m'=>Zae xL/\[bool !b_3]=[bool b]) (Zae xL/\[bool false]=[bool b])) (Zae xL/\[bool false] =
 [bool b])/\rtM m m' R (bool b)) (br (aA == 4) (∃(b:Bool),br (decide (yL > 1)) (kB pG 200 [yL_1,int u8 4] m' λb_2 m'=>Zae xL/\[bool !b_2]=[bool b]) (Zae xL/\[bool false]=[bool b])/\rtM m m' R (bool b)) (br
 (aA == 5) (∃(b:Bool),br (yL == 1) (kB pG 201 [int i64 aX,int i64 aW] m' λb_2 m'=>br b_2 (kB pG 200 [yL_1,int u8 1] m' λb_3 m'=>Zae xL/\[bool !b_3]=[bool b]) (Zae xL/\[bool false]=[bool b]))
 (Zae xL/\[bool false]=[bool b])/\rtM m m' R (bool b)) (∃(b:Bool),br (aA == 6) (Zae xL/\[bool (yL == 1)]=[bool b]) (Zae xL/\[bool false]=[bool b])/\rtM m m' R (bool b)))))))):CX Tryz.prog 188 #[.agg #[.int .u8 aA,.int .u64 aE,.int .u64 aJ,.int .u64 aK,.int .u64 bA,.int .i64 aX,.int .i64 aW,.slice aU aR aV]] m [] R:=
 Zad (E:=ZrM) Zal mix Tryz.func188 (by kernel_rfl) (Eq.mp (by kernel_rfl) h)
def ZrN:Env:={ EB with
 loops:=swI nLa [(5,⟨[(9,.agg [.int .u8,.int .u64,.int .u64,.int .u64,.int .u64,.int .i64,.int .i64,.slice])],[2],[],false⟩)]
 frzNew:=[1] }
theorem ZpY(aA aE aJ aK bA aX aW:Int)(aU:Option Addr)(aR aV:Nat)(m:Mem)(R:RT)(h:
 lV [int u8 aA,int u64 aE,int u64 aJ,int u64 aK,int u64 bA,int i64 aX,int i64 aW,slice aU aR aV] λxL=>fzM m xL λb m'=>∀b_1,lE [some (Box.mk b_1 [] 4 1 false true),some (Box.mk b xL 40 8
 true true)] λxL_1=>kB pG 37 [agg (.mk xL)] m' λb m'=>br (!b) (rtM m m' R (bool false)) (kF pG 38 [agg (.mk xL)] m' λg fi ca m'=>∃(xs:List (List Value)),IX pG g fi ca m' xs/\(∀(x:List Value),x∈xs->
 Shape.fitsL [shT] x=true)/\∃(I:IT),I [] [[bool false]] [] m' 0/\(∀n n_1 n_2 n_3 n_4 n_5 n_6 a n_7 c (cs:List Value) m'_1 (n_8:Nat),lV [agg (.mk [int u8 n,int u64 n_1,int u64 n_2,int u64 n_3,int u64 n_4,int i64
 n_5,int i64 n_6,slice a n_7 c])] λxL=>m'.le m'_1->List.get?Internal xs n_8=some xL->I [] [cs] [] m'_1 n_8->∀(b:Nat),kB pG 188 xL m'_1 λb m'=>br (!b) (Zae xL_1/\rtM m m' R (bool false)) (Zae xL_1/\I []
 [cs] [] m' (n_8+1)))/\∀(cs:List Value) m'_1,m'.le m'_1->I [] [cs] [] m'_1 (xs.length)->rtM m m'_1 R (bool true))):CX Tryz.prog 165 #[.agg #[.int .u8 aA,.int .u64 aE,.int .u64 aJ,.int .u64 aK,.int .u64 bA,.int .i64 aX,.int .i64 aW,.slice aU aR aV]] m [] R:=
 Zad (E:=ZrN) Zal mix Tryz.func165 (by kernel_rfl) (Eq.mp (by kernel_rfl) h)
def ZuW:Env:={ EB with
 loops:=swI nLa [(5,⟨[(9,.agg [.int .u8,.int .u64,.int .u64,.int .u64,.int .u64,.int .i64,.int .i64,.slice])],[3],[],false⟩)]
 frzNew:=[1] }
theorem ZrO(aA aE aJ aK bA aX aW:Int)(aU:Option Addr)(aR aV:Nat)(m:Mem)(R:RT)(h:
 lV [int u8 aA,int u64 aE,int u64 aJ,int u64 aK,int u64 bA,int i64 aX,int i64 aW,slice aU aR aV] λxL=>fzM m xL λb m'=>kB pG 37 [agg (.mk xL)] m' λb_1 m'=>br (!b_1) (rtM m m' R (int i64
 10001)) (∀b_2,kF pG 38 [agg (.mk xL)] m' λg fi ca m'=>∃(xs:List (List Value)),IX pG g fi ca m' xs/\(∀(x:List Value),x∈xs->Shape.fitsL [shT] x=true)/\∃(I:IT),I [] [[int i64 0]] [] m' 0/\(∀n n_1 n_2 n_3
 n_4 n_5 n_6 a n_7 c (cs:List Value) m'_1 (n_8:Nat),m'.le m'_1->List.get?Internal xs n_8=some [agg (.mk [int u8 n,int u64 n_1,int u64 n_2,int u64 n_3,int u64 n_4,int i64 n_5,int i64 n_6,slice a n_7 c])]->I [] [cs]
 [] m'_1 n_8->Eng.ZvQ cs 0 λv=>chk (ZaS i64 v&&decide (i64=i64)) (Zae [some (Box.mk b_2 [] 3 1 false true),some (Box.mk b xL 40 8 true true)]/\I [] [[int i64 (i64.wrap (RowKit.intOf v+1))]] [] m'_1 (n_8+1)))/\
 ∀(cs:List Value) m'_1,m'.le m'_1->I [] [cs] [] m'_1 (xs.length)->Eng.ZvQ cs 0 λv=>rtM m m'_1 R v)):CX Tryz.prog 62 #[.agg #[.int .u8 aA,.int .u64 aE,.int .u64 aJ,.int .u64 aK,.int .u64 bA,.int .i64 aX,.int .i64 aW,.slice aU aR aV]] m [] R:=
 Zad (E:=ZuW) Zal mix Tryz.func62 (by kernel_rfl) (Eq.mp (by kernel_rfl) h)
def ZiT:Env:={ EB with
 loops:=swI nLa [(5,⟨[(3,.int .i64),(14,.int .i64)],[],[],false⟩)]
 frzNew:=[1] }
theorem Zhy(aA aE aJ aK bA aX aW:Int)(aU:Option Addr)(aR aV:Nat)(m:Mem)(R:RT)(h:
 lE (if(0:Int) > aX then(0:Int)else aX) λyL=>lE (if aW > yL then aW else yL) λyL_1=>lE (if(1:Int) > yL then(1:Int)else yL) λyL=>lE (if(10001:Int) < yL_1 then(10001:Int)else yL_1) λyL_2
 => lE (if(10001:Int) < yL then(10001:Int)else yL) λyL=>lV [int u8 aA,int u64 aE,int u64 aJ,int u64 aK,int u64 bA,int i64 aX,int i64 aW,slice aU aR aV] λxL=>fzM m xL λb m'=>lE
 [some (Box.mk b xL 40 8 true true)] λxL=>br (aA == 2) (∃I,inI I [int i64 1,int i64 0] [] [] m'/\∀n n_1 m'_1 (n_2:Nat),m'.le m'_1->I [int i64 n,int i64 n_1] [] [] m'_1 n_2->br (decide (n_1 < (↑aR:Int))) (atA
 aU λb o=>Zaf n_1 aR/\∃v v_1 v_2 v_3 v_4 v_5 v_6 v_7:Value,lV [v,v_1,v_2,v_3,v_4,v_5,v_6,v_7] λxL_1=>m'_1.reads b (o+Int.toNat n_1*8) xL_1/\∀(b:Nat),chk (v.oneCell'&&(v_1.oneCell' &&
 (v_2.oneCell'&&(v_3.oneCell'&&(v_4.oneCell'&&(v_5.oneCell'&&(v_6.oneCell'&&(v_7.oneCell'&&true)))))))) (kI pG 189 [agg (.mk xL_1)] m'_1 λn_3 m'=>Zae xL/\nxI n_2 I [int i64 (i64.wrap (n+n_3)),int i64
 (i64.wrap (n_1+1))] [] [] m')) (br (aA == 5) (br (aW == (-1)) (rtM m m'_1 R (int i64 (if(10001:Int) < i64.wrap (n*yL)then(10001:Int)else i64.wrap (n*yL)))) (rtM m m'_1 R (int i64 (if(10001:Int) < i64.wrap (n *
 yL_2)then(10001:Int)else i64.wrap (n*yL_2))))) (rtM m m'_1 R (int i64 (if(10001:Int) < n then(10001:Int)else n))))) (∃I,inI I [int i64 0,int i64 0] [] [] m'/\∀n n_1 m'_1 (n_2:Nat),m'.le m'_1->I [int i64 n,
 int i64 n_1] [] [] m'_1 n_2->br (decide (n_1 < (↑aR:Int))) (atA aU λb o=>Zaf n_1 aR/\∃v v_1 v_2 v_3 v_4 v_5 v_6 v_7:Value,lV [v,v_1,v_2,v_3,v_4,v_5,v_6,v_7] λxL_1=>m'_1.reads b (o+Int.toNat
 n_1*8) xL_1/\∀(b:Nat),chk (v.oneCell'&&(v_1.oneCell'&&(v_2.oneCell'&&(v_3.oneCell'&&(v_4.oneCell'&&(v_5.oneCell'&&(v_6.oneCell'&&(v_7.oneCell'&&true)))))))) (kI pG 189 [agg (.mk xL_1)] m'_1 λn_3 m'=>
 Zae xL/\nxI n_2 I [int i64 (i64.wrap (n+n_3)),int i64 (i64.wrap (n_1+1))] [] [] m')) (br (aA == 5) (br (aW == (-1)) (rtM m m'_1 R (int i64 (if(10001:Int) < i64.wrap (n*yL)then(10001:Int)else i64.wrap (n *
 yL)))) (rtM m m'_1 R (int i64 (if(10001:Int) < i64.wrap (n*yL_2)then(10001:Int)else i64.wrap (n*yL_2))))) (rtM m m'_1 R (int i64 (if(10001:Int) < n then(10001:Int)else n)))))):CX Tryz.prog 189 #[.agg #[.int .u8 aA,.int .u64 aE,.int .u64 aJ,.int .u64 aK,.int .u64 bA,.int .i64 aX,.int .i64 aW,.slice aU aR aV]] m [] R:=
 Zad (E:=ZiT) Zal mix Tryz.func189 (by kernel_rfl) (Eq.mp (by kernel_rfl) h)
def ZiU:Env:={ EB with
 frzNew:=[1] }
theorem Zhz(aA aE aJ aK bA aX aW:Int)(aU:Option Addr)(aR aV:Nat)(m:Mem)(R:RT)(h:
 lV [int u8 aA,int u64 aE,int u64 aJ,int u64 aK,int u64 bA,int i64 aX,int i64 aW,slice aU aR aV] λxL=>fzM m xL λb m'=>kB pG 37 [agg (.mk xL)] m' λb m'=>br (!b) (rtM m m' R (int i64
 10001)) (kI pG 189 [agg (.mk xL)] m' λn m'=>rtM m m' R (int i64 n))):CX Tryz.prog 166 #[.agg #[.int .u8 aA,.int .u64 aE,.int .u64 aJ,.int .u64 aK,.int .u64 bA,.int .i64 aX,.int .i64 aW,.slice aU aR aV]] m [] R:=
 Zad (E:=ZiU) Zal mix Tryz.func166 (by kernel_rfl) (Eq.mp (by kernel_rfl) h)
def ZpZ:Env:={ EB with
 loops:=swI nLa [(6,⟨[(10,.agg [.int .u8,.int .u64,.int .u64,.int .u64,.int .u64,.int .i64,.int .i64,.slice])],[3],[],false⟩)]
 frzNew:=[1] }
theorem Znk(aA aE aJ aK bA aX aW:Int)(aU:Option Addr)(aR aV:Nat)(m:Mem)(R:RT)(h:
 lV [int u8 aA,int u64 aE,int u64 aJ,int u64 aK,int u64 bA,int i64 aX,int i64 aW,slice aU aR aV] λxL=>fzM m xL λb m'=>lE [some (Box.mk b xL 40 8 true true)] λxL_1=>kB pG 37 [agg (.mk
 xL)] m' λb m'=>br (!b) (rtM m m' R (int i64 10001)) (∀b,lE (some (Box.mk b [] 3 1 false true)::xL_1) λxL_2=>kF pG 38 [agg (.mk xL)] m' λg fi ca m'=>∃(xs:List (List Value)),IX pG g fi ca m' xs/\(∀(x:List
 Value),x∈xs->Shape.fitsL [shT] x=true)/\∃(I:IT),I [] [[int i64 0]] [] m' 0/\(∀n n_1 n_2 n_3 n_4 n_5 n_6 a n_7 c (cs:List Value) m'_1 (n_8:Nat),m'.le m'_1->List.get?Internal xs n_8=some [agg (.mk [int u8 n,int
 u64 n_1,int u64 n_2,int u64 n_3,int u64 n_4,int i64 n_5,int i64 n_6,slice a n_7 c])]->I [] [cs] [] m'_1 n_8->∀(b:Nat),br (n == 6) (Eng.ZvQ cs 0 λv=>chk (ZaS i64 v&&decide (i64=i64)) (Zae xL_2/\I []
 [[int i64 (i64.wrap (RowKit.intOf v+1))]] [] m'_1 (n_8+1))) (Zae xL_2/\I [] [cs] [] m'_1 (n_8+1)))/\∀(cs:List Value) m'_1,m'.le m'_1->I [] [cs] [] m'_1 (xs.length)->Eng.ZvQ cs 0 λv=>rtM m m'_1 R v)):CX Tryz.prog 9 #[.agg #[.int .u8 aA,.int .u64 aE,.int .u64 aJ,.int .u64 aK,.int .u64 bA,.int .i64 aX,.int .i64 aW,.slice aU aR aV]] m [] R:=
 Zad (E:=ZpZ) Zal mix Tryz.func9 (by kernel_rfl) (Eq.mp (by kernel_rfl) h)
def ZrP:Env:={ EB with
 frzNew:=[1] }
theorem Zp0(aA aE:Bool)(aJ aK bA aX aW dY dZ:Int)(nH:Option Addr)(nI nJ:Nat)(m:Mem)(R:RT)(h:
 lV [int u8 aJ,int u64 aK,int u64 bA,int u64 aX,int u64 aW,int i64 dY,int i64 dZ,slice nH nI nJ] λxL=>lV [agg (.mk xL)] λxL_1=>fzM m (bool aA::bool aE::xL) λb m'=>kB pG 165 xL_1
 m' λb m'=>br (!b) (rtM m m' R (int i64 80)) (kI pG 62 xL_1 m' λn m'=>br (decide (n > 120)) (rtM m m' R (int i64 81)) (kI pG 166 xL_1 m' λn m'=>br (decide (n > 400)) (rtM m m' R (int i64 82)) (kI pG 9 xL_1 m' λn
 m'=>br (decide (n > 9)) (rtM m m' R (int i64 83)) (rtM m m' R (int i64 0)))))):CX Tryz.prog 132 #[.agg #[.bool aA,.bool aE,.int .u8 aJ,.int .u64 aK,.int .u64 bA,.int .u64 aX,.int .u64 aW,.int .i64 dY,.int .i64 dZ,.slice nH nI nJ]] m [] R:=
 Zad (E:=ZrP) Zal mix Tryz.func132 (by kernel_rfl) (Eq.mp (by kernel_rfl) h)
def ZaJ:Env:={ EB with
 loops:=swI nLa [(4,⟨[(17,.int .i64)],[],[],false⟩)] }
theorem ZaI(p0a:Option Addr)(p0n p0c:Nat)(p1a:Option Addr)(p1n p1c p2g:Nat)(p2fi p2ca:List Value)(m:Mem)(R:RT)(h:
 br (!(↑p0n:Int) == (↑p1n:Int)) (rtM m m R (bool false)) (∃I,inI I [int i64 0] [] [] m/\∀n m' (n_1:Nat),m.le m'->I [int i64 n] [] [] m' n_1->br (decide (n < (↑p0n:Int))) (atA p0a λb o=>Zaf n p0n/\∃v v_1
 v_2 v_3 v_4 v_5 v_6 v_7:Value,lV [v,v_1,v_2,v_3,v_4,v_5,v_6,v_7] λxL=>m'.reads b (o+Int.toNat n*8) xL/\∀(b:Nat),chk (v.oneCell'&&(v_1.oneCell'&&(v_2.oneCell'&&(v_3.oneCell'&&(v_4.oneCell' &&
 (v_5.oneCell'&&(v_6.oneCell'&&(v_7.oneCell'&&true)))))))) (atA p1a λb o=>Zaf n p1n/\∃v v_8 v_9 v_10 v_11 v_12 v_13 v_14:Value,lV [v,v_8,v_9,v_10,v_11,v_12,v_13,v_14] λxL_1=>m'.reads b (o+Int.toNat
 n*8) xL_1/\∀(b:Nat),chk (v.oneCell'&&(v_8.oneCell'&&(v_9.oneCell'&&(v_10.oneCell'&&(v_11.oneCell'&&(v_12.oneCell'&&(v_13.oneCell'&&(v_14.oneCell'&&true)))))))) (kB pG p2g (List.append (List.append p2fi [agg
 (.mk xL),agg (.mk xL_1)]) p2ca) m' λb m'=>br (!b) (rtM m m' R (bool false)) (nxI n_1 I [int i64 (i64.wrap (n+1))] [] [] m')))) (rtM m m' R (bool true)))):CX Tryz.prog 199 #[.slice p0a p0n p0c,.slice p1a p1n p1c,.func (.func p2g) p2fi.toArray p2ca.toArray] m [] R:=
 Zad (E:=ZaJ) Zal mix Tryz.func199 (by kernel_rfl) (Eq.mp (by kernel_rfl) h)
def ZuX:Env:={ EB with
 joins:=swI none [(1,some [(4,.bool)])]
 frzNew:=[2,3] }
theorem ZrQ(aA aE aJ aK bA aX aW:Int)(aU:Option Addr)(aR aV:Nat)(bU bW bV bX dG eK eL:Int)(fQ:Option Addr)(fR fS:Nat)(m:Mem)(R:RT)(h:
 lV [int u8 aA,int u64 aE,int u64 aJ,int u64 aK,int u64 bA,int i64 aX,int i64 aW,slice aU aR aV] λxL=>lV [int u8 bU,int u64 bW,int u64 bV,int u64 bX,int u64 dG,int i64 eK,int i64
 eL,slice fQ fR fS] λxL_1=>fzM m xL λb m'=>lE [some (Box.mk b xL 40 8 true true)] λxL=>fzM m' xL_1 λb m'=>∃(b_1:Bool),lV [bool b_1] λxL_2=>lE (some (Box.mk b xL_1 40 8 true true)::xL) fun
 xL=>br (aA == bU) (∃(b:Bool),EqIs pG 37 (agg (.mk [int u64 aE,int u64 aJ,int u64 aK,int u64 bA])) (agg (.mk [int u64 bW,int u64 bV,int u64 bX,int u64 dG])) b/\br b (br (aX == eK) (br (aW ==
 eL) (kB pG 199 [slice aU aR aV,slice fQ fR fS,func (Fn.func 187) (Array.mk []) (Array.mk [])] m' λb m'=>Zae xL/\[bool b]=xL_2) (Zae xL/\[bool false]=xL_2)) (Zae xL/\[bool false]=xL_2))
 (Zae xL/\[bool false]=xL_2)) (Zae xL/\[bool false]=xL_2)/\rtM m m' R (bool b_1)):CX Tryz.prog 187 #[.agg #[.int .u8 aA,.int .u64 aE,.int .u64 aJ,.int .u64 aK,.int .u64 bA,.int .i64 aX,.int .i64 aW,.slice aU aR aV],.agg #[.int .u8 bU,.int .u64 bW,.int .u64 bV,.int .u64 bX,.int .u64 dG,.int .i64 eK,.int .i64 eL,.slice fQ fR fS]] m [] R:=
 Zad (E:=ZuX) Zal mix Tryz.func187 (by kernel_rfl) (Eq.mp (by kernel_rfl) h)
def ZuY:Env:={ EB with
 joins:=swI none [(1,some [(4,.bool)])]
 frzNew:=[2,3] }
theorem ZrR(aA aE aJ aK bA aX aW:Int)(aU:Option Addr)(aR aV:Nat)(bU bW bV bX dG eK eL:Int)(fQ:Option Addr)(fR fS:Nat)(m:Mem)(R:RT)(h:
 lV [int u8 aA,int u64 aE,int u64 aJ,int u64 aK,int u64 bA,int i64 aX,int i64 aW,slice aU aR aV] λxL=>lV [int u8 bU,int u64 bW,int u64 bV,int u64 bX,int u64 dG,int i64 eK,int i64
 eL,slice fQ fR fS] λxL_1=>fzM m xL λb m'=>lE [some (Box.mk b xL 40 8 true true)] λxL_2=>fzM m' xL_1 λb m'=>∃(b_1:Bool),lE (some (Box.mk b xL_1 40 8 true true)::xL_2) λxL_3=>(kB pG 37 [agg
 (.mk xL)] m' λb m'=>br b (kB pG 37 [agg (.mk xL_1)] m' λb m'=>br b (kB pG 187 [agg (.mk xL),agg (.mk xL_1)] m' λb m'=>Zae xL_3/\[bool b]=[bool b_1]) (Zae xL_3/\[bool false]=[bool b_1])) (Zae xL_3/\
 [bool false]=[bool b_1]))/\rtM m m' R (bool b_1)):CX Tryz.prog 164 #[.agg #[.int .u8 aA,.int .u64 aE,.int .u64 aJ,.int .u64 aK,.int .u64 bA,.int .i64 aX,.int .i64 aW,.slice aU aR aV],.agg #[.int .u8 bU,.int .u64 bW,.int .u64 bV,.int .u64 bX,.int .u64 dG,.int .i64 eK,.int .i64 eL,.slice fQ fR fS]] m [] R:=
 Zad (E:=ZuY) Zal mix Tryz.func164 (by kernel_rfl) (Eq.mp (by kernel_rfl) h)
end Go.Proofs.YtdopppmkbkkmiaaGreatDoor
namespace Go.Proofs.YtdopppmkbkkmiaaGreatDoor
open Go Go.Eng Go.Rx Go.Proofs Go.RowKit
set_option maxRecDepth 100000
theorem Ziz(t:T)(m:Mem):CX Tryz.prog 38 #[t.v] m [] (λv m' _=>∃b,v=.func (.func 61) #[] #[.pointer (some ⟨b,0,none⟩)]/\m'.reads b 0 t.cs):=by
 apply ZpT
 intro b m' hm hb
 exact⟨m',hm,Mem.le_refl _,b,rfl,hb⟩
theorem ZfE(t:T)(m:Mem)(c0b:Nat)(cC:m.reads c0b 0 t.cs)(bP:Rep m t):IX Tryz.prog 61 [] [.pointer (some ⟨c0b,0,none⟩)] m (t.nodes.map λx=>[x.v]):=by
 apply ZkS 0 [] [] c0b 0
 intro l b m' hm hb
 have ju:=cC.mono hm
 refine⟨_,_,_,_,_,_,_,_,ju,⟨rfl,by omega,?_⟩,?_,.inr rfl⟩
 ·rw[ZcC];rfl
 refine⟨t.sl,ju 7 _ rfl,Zaa rfl ?_⟩
 refine⟨λxs _ _ m'' q=>∃i:Nat,i<=t.subs.length/\xs=[.int .i64 ((1+(Zaz (t.subs.take i)).length:Nat):Int),.int .i64 i]/\m'.le m''/\q=t.subs.length - i,⟨t.subs.length,0,by omega,?_,Mem.le_refl _,by omega⟩,?_⟩
 ·simp[Zaz]
 rintro y n m2 q aO ⟨i,hi,cN,jr,hq⟩
 simp only[List.cons.injEq,Value.int.injEq,true_and,and_true]at cN
 obtain⟨rfl,rfl⟩:=cN
 have aP:slN t.sl=t.subs.length:=rfl
 rw[aP]
 refine Zab (λaH=>?_) (λbL=>?_)
 ·have aS:i < t.subs.length:=by simpa using aH
  obtain⟨x,hx⟩:∃x,t.subs[i]?=some x:=⟨_,zA3 aS⟩
  have bO:x∈t.subs:=zA2 hx
  have bJ:=Zrv bO
  obtain⟨qK,h0|⟨b1,o1,ha,eN⟩⟩:=ZjL bP
  ·rw[h0]at aS;simp at aS
  obtain⟨dJ,dS⟩:=(eN.mono ((mLt hm jr))).get hx
  refine Zaa rfl ⟨b1,o1,ha,⟨by omega,by omega⟩,_,_,_,_,_,_,_,_,dJ,λb2=>Zaa rfl ?_⟩
  refine⟨_,trivial,Ziz x m2,λv m' css h=>?_,?_⟩
  ·obtain⟨b3,rfl,_⟩:=h;rfl
  rintro g fi ca m3 aQ ⟨b3,hv,eI⟩
  obtain⟨rfl,rfl,rfl⟩:=ZcB hv
  refine⟨_,ZfE x m3 b3 eI (dS.mono aQ),λy hy=>?_,?_⟩
  ·obtain⟨z,_,rfl⟩:=List.mem_map.1 hy;exact Zrw z
  refine⟨λxs _ _ m'' q=>q<=x.nodes.length/\xs=[.int .i64 ((1+(Zaz (t.subs.take i)).length+q:Nat):Int)]/\m3.le m'',⟨Nat.zero_le _,rfl,Mem.le_refl _⟩,?_,?_⟩
  ·rintro y n0 n1 n2 n3 n4 n5 n6 a n7 c m4 q bN hq ⟨ia,hy,_⟩ b4
   simp only[List.cons.injEq,Value.int.injEq,true_and,and_true]at hy
   subst hy
   have hq':(List.map (λz:T=>[z.v]) x.nodes)[(q:Nat)]?=some [Value.agg #[.int .u8 n0,.int .u64 n1,.int .u64 n2,.int .u64 n3,.int .u64 n4,.int .i64 n5,.int .i64 n6,.slice a n7 c]]:=hq
   rw[List.getElem?_map]at hq'
   obtain⟨z,hz,jc⟩:=Option.map_eq_some_iff.1 hq'
   have sq:q < x.nodes.length:=(zA0 hz).1
   refine⟨⟨rfl,by omega,?_⟩,⟨rfl,by omega,?_,bN⟩,rfl,.inr rfl⟩
   ·rw[zA8]
    show(t.nodes.map λx=>[x.v])[1+(Zaz (t.subs.take i)).length+q]?=_
    rw[List.getElem?_map,Zw4 hx hz,<-jc];rfl
   ·congr 2
  ·rintro y m4 bN ⟨ia,hy,_⟩
   simp only[List.cons.injEq,Value.int.injEq,true_and,and_true]at hy
   subst hy
   refine⟨rfl,t.subs.length - (i+1),by omega,i+1,by omega,?_,mLt jr (mLt aQ bN),rfl⟩
   rw[Zam (by omega) (by omega),Zpe hx,zA1]
   simp[T.v,Nat.add_assoc]
 ·have hi':i=t.subs.length:=by
   have:¬((i:Int) < (t.subs.length:Int)):=by simpa using bL
   omega
  subst hi'
  left
  rw[List.take_length,ZcC]
  simp
  omega
termination_by SizeOf.sizeOf t
decreasing_by exact bJ
theorem ZuZ(least most:Int)(m:Mem):CX Tryz.prog 201 #[.int .i64 least,.int .i64 most] m [] (Ret (.bool (Zks least most))):=by
 apply Znj
 refine⟨decide (least < 0)||decide (least > 16)||(least == 1&&most == 1),?_,Zab (λh=>Zac (Mem.le_refl _) ?_) (λh=>⟨most == -1||(decide (most ≥ 1)&&decide (most<=16)&&decide (most ≥ least)),?_,Zac (Mem.le_refl _) ?_⟩)⟩
 ·simp only[Zur];(repeat' split) <;> simp_all <;> omega
 ·simp[Ret,Zks,h]
 ·simp only[Zur];(repeat' split) <;> simp_all <;> omega
 ·simp[Ret,Zks,h]
theorem Znl(l:List T)(a:Option Addr)(c:Nat)(g:Nat)(ca:List Value)(p:T->Bool)(m:Mem)(hl:l.length<=1000000000000000)(hr:l=[]\/∃b o,a=some ⟨b,o,none⟩/\RepAt m b o l)
  (hp:∀x∈l,∀m',m.le m'->Rep m' x->CX Tryz.prog g (x.v::ca).toArray m' [] (Ret (.bool (p x)))):
  CX Tryz.prog 214 #[.slice a l.length c,.func (.func g) #[] ca.toArray] m [] (Ret (.int .i64 (if l.any p then(l.findIdx p:Nat)else(-1:Int)))):=by
 apply Zbs a l.length c g [] ca
 refine⟨λxs _ _ m'' q=>∃i:Nat,i<=l.length/\xs=[.int .i64 i]/\(∀x∈l.take i,p x=false)/\m.le m''/\q=l.length - i,⟨l.length,0,by omega,rfl,by simp,Mem.le_refl _,by omega⟩,?_⟩
 rintro n m' q hm ⟨i,hi,hn,eT,bG,hq⟩
 obtain rfl:n=i:=by simpa using hn
 refine Zab (λaH=>?_) (λbL=>?_)
 ·have aS:i < l.length:=by simpa using aH
  obtain⟨x,hx⟩:∃x,l[i]?=some x:=⟨_,zA3 aS⟩
  have bO:x∈l:=zA2 hx
  rcases hr with h0|⟨b1,o1,ha,eN⟩
  ·rw[h0]at aS;simp at aS
  obtain⟨dJ,dS⟩:=(eN.mono hm).get hx
  refine⟨b1,o1,ha,⟨by omega,by omega⟩,_,_,_,_,_,_,_,_,dJ,Zah (hp x bO m' hm dS) λm1 aB=>Zab (λeS=>?_) (λeS=>?_)⟩
  ·refine Zac (mLt hm aB) ?_
   have dT:l.any p=true:=List.any_eq_true.2 ⟨x,bO,eS⟩
   have eY:l.findIdx p=i:=by
    rw[List.findIdx_eq aS]
    refine⟨by rw[(zA0 hx).2];exact eS,λj hj=>?_⟩
    exact eT _ (List.mem_of_getElem? (i:=j) (by rw[List.getElem?_take_of_lt hj];exact zA3 (by omega)))
   simp[Ret,dT,eY]
  ·refine⟨l.length - (i+1),by omega,i+1,by omega,by rw[Zam (by omega) (by omega)];rfl,?_,mLt hm aB,rfl⟩
   intro y hy
   rw[List.take_add_one,hx]at hy
   rcases List.mem_append.1 hy with hy|hy
   ·exact eT y hy
   ·simp at hy;rw[hy];exact eS
 ·have hi':i=l.length:=by
   have:¬((i:Int) < (l.length:Int)):=by simpa using bL
   omega
  subst hi'
  refine Zac hm ?_
  have dT:l.any p=false:=by
   rw[List.any_eq_false]
   rw[List.take_length]at eT
   exact λx hx=>by simp[eT x hx]
  simp[Ret,dT]
theorem ZhA(l:List T)(a:Option Addr)(c:Nat)(g:Nat)(ca:List Value)(p:T->Bool)(m:Mem)(hl:l.length<=1000000000000000)(hr:l=[]\/∃b o,a=some ⟨b,o,none⟩/\RepAt m b o l)
  (hp:∀x∈l,∀m',m.le m'->Rep m' x->CX Tryz.prog g (x.v::ca).toArray m' [] (Ret (.bool (p x)))):
  CX Tryz.prog 207 #[.slice a l.length c,.func (.func g) #[] ca.toArray] m [] (Ret (.bool (l.any p))):=by
 apply Za7 a l.length c g [] ca
 refine ZaB (Znl l a c g ca p m hl hr hp) λm' hm=>Zac hm ?_
 cases h:l.any p <;> simp[Ret]
theorem ZAe(t:T)(k:Int)(b:Nat)(m:Mem)(hb:m.reads b 0 [.int .u8 k]):CX Tryz.prog 208 #[t.v,.pointer (some ⟨b,0,none⟩)] m [] (Ret (.bool (t.k == k))):=by
 apply ZpW (c0b:=b) (c0o:=0)
 intro b' m' hm _
 exact⟨_,hm _ _ _ (hb 0 _ rfl),Zaa rfl (Zac hm rfl)⟩
theorem Zu0(t:T)(k:Int)(m:Mem)(hr:Rep m t):CX Tryz.prog 200 #[t.v,.int .u8 k] m [] (Ret (.bool (t.has k))):=by
 apply ZuV
 intro b m1 aB _ b2 m2 aO eH
 have hr':=ZjL (hr.mono (mLt aB aO))
 exact Zah (ZhA t.subs t.a t.c _ [.pointer (some ⟨b2,0,none⟩)] (λx=>x.k == k) m2 hr'.1 hr'.2 λx _ m' hm' _=>ZAe x k b2 m' (eH.mono hm')) λm3 aQ=>Zac (mLt aB (mLt aO aQ)) rfl
theorem Zd5(t:T)(m:Mem)(hr:Rep m t):CX Tryz.prog 37 #[t.v] m [] (Ret (.bool t.light)):=by
 apply ZpU
 intro b m1 aB _ b2
 refine Zaj (Ziz t m1) (λv m' css h=>by obtain⟨_,rfl,_⟩:=h;rfl) ?_
 rintro g fi ca m2 aO ⟨b3,hv,eI⟩
 obtain⟨rfl,rfl,rfl⟩:=ZcB hv
 have bG:=mLt aB aO
 refine⟨_,ZfE t m2 b3 eI (hr.mono bG),λy hy=>?_,λ_ css _ m' q=>css=[[.int .i64 q]]/\q<=10000/\q<=t.nodes.length,⟨rfl,by omega,by omega⟩,?_,?_⟩
 ·obtain⟨z,_,rfl⟩:=List.mem_map.1 hy;exact Zrw z
 ·rintro n0 n1 n2 n3 n4 n5 n6 a n7 c cs m3 q aQ hq ⟨cF,ia,_⟩
  obtain rfl:cs=[.int .i64 q]:=by simpa using cF
  have aH:q < t.nodes.length:=by
   have:=(zA0 (show(List.map (λz:T=>[z.v]) t.nodes)[(q:Nat)]?=some _ from hq)).1
   simpa using this
  refine Zap rfl (Zaa rfl ?_)
  have hw:IntKind.i64.wrap (RowKit.intOf (Value.int .i64 (q:Int))+1)=(q:Int)+1:=Zam (n:=(q:Int)+1) (by omega) (by omega)
  simp only[hw]
  refine Zab (λh=>⟨by trivial,Zac (mLt bG aQ) ?_⟩) (λh=>⟨by trivial,?_,?_,by omega⟩)
  ·have:((q:Int)+1 > 10000):=by simpa using h
   simp[Ret,T.light];omega
  ·simp
  ·have:¬((q:Int)+1 > 10000):=by simpa using h
   omega
 ·rintro cs m3 aQ ⟨cF,ia,_⟩
  obtain rfl:cs=[.int .i64 t.nodes.length]:=by simpa using cF
  refine Zap rfl (Zaa rfl (Zac (mLt bG aQ) ?_))
  show Value.bool (decide ((t.nodes.length:Int)<=10000))=Value.bool t.light
  congr 1
  rw[T.light,decide_eq_decide];omega
end Go.Proofs.YtdopppmkbkkmiaaGreatDoor
namespace Go.Proofs.YtdopppmkbkkmiaaGreatDoor
open Go Go.Eng Go.Proofs Go.RowKit
theorem ZhB{P:Program}{T:TypeId}(hg:P.eqGuardType P.depth T=false)(op:BinOp)(ox oy:Operand)(xs ys:Array Value)(w:World):(eqGuard op T ox oy (.agg xs) (.agg ys)).run P w=.ok () w:=by
 unfold eqGuard
 have h1:(P.eqGuardType P.depth T)=true->False:=λh=>by rw[hg]at h;cases h
 split
 ·simp[go_sem];exact λh=>(h1 h).elim
 ·simp[go_sem];exact λh=>(h1 h).elim
 ·simp
theorem ZxI(a b c d a' b' c' d':Int):EqIs Tryz.prog 37 (.agg #[.int .u64 a,.int .u64 b,.int .u64 c,.int .u64 d]) (.agg #[.int .u64 a',.int .u64 b',.int .u64 c',.int .u64 d']) (a == a'&&b == b'&&c == c'&&d == d'):=by
 refine⟨λw=>?_,λop ox oy w=>ZhB (by kernel_rfl) op ox oy _ _ w⟩
 have u3:=Tryz.underlying35
 have a3:=Tryz.isAgg35
 have z3:=Tryz.sizeOf35
 rw[Op.equal,Op.maxDepth,show(10000:Nat)=9999+1 from rfl,Op.equalIn]
 simp only[Sem.run_bind,run_underlying Tryz.underlying37,Result.andThen_ok]
 simp only[Std.Legacy.Range.forIn_eq_forIn_range',Std.Legacy.Range.size,Nat.sub_zero,Nat.add_sub_cancel,Nat.div_one,List.range'_succ,List.range'_zero,List.forIn_cons,List.forIn_nil]
 go_simp
 by_cases h1:a=a' <;> by_cases h2:b=b' <;> by_cases h3:c=c' <;> by_cases h4:d=d' <;> simp[h1,h2,h3,h4]
end Go.Proofs.YtdopppmkbkkmiaaGreatDoor
end
