/- Part of the proof: functions of the program. No condition. -/
import Derived.Test.YtdopppmkbkkmiaaGreatDoorPEnv
import Derived.Test.YtdopppmkbkkmiaaGreatDoorPC13P
import Derived.Test.YtdopppmkbkkmiaaGreatDoorMr
import Derived.Laws.Externs
import Derived.Test.YtdopppmkbkkmiaaGreatDoorPVEM
set_option linter.unusedVariables false
set_option linter.unusedSimpArgs false
set_option linter.unusedSectionVars false
noncomputable section
namespace Go.Proofs.YtdopppmkbkkmiaaGreatDoor
open Go Go.Eng Go.Proofs Go.RowKit
open Go.Value (int slice agg bool string tuple func)
open Go.IntKind (u8 u64 i64)
set_option maxRecDepth 100000
def Znk:Env:={ EB with
 frzNew:=[1] }
theorem ZkT(aA:Int)(aC:Value)(aE:ByteArray)(aF:Int)(bB:Option Addr)(aZ bE:Nat)(m:Mem)(R:RT)(h:
 fzM m [int u8 aA,aC,string aE,int i64 aF,slice bB aZ bE] λb m'=>rtM m m' R (func (Fn.func 158) (Array.mk []) (Array.mk [Value.pointer (some (Addr.mk b 0 none))]))):CX Tryz.prog 114 #[.agg #[.int .u8 aA,aC,.string aE,.int .i64 aF,.slice bB aZ bE]] m [] R:=
 Zad (E:=Znk) Zam mix Tryz.func114 (by kernel_rfl) (Eq.mp (by kernel_rfl) h)
def Zi0:Env:={ EB with
 loops:=swI nLa [(3,⟨[(13,.int .i64)],[],[],true⟩),(7,⟨[(19,.agg [.int .u8,.any,.str,.int .i64,.slice])],[],[],true⟩)]
 frzNew:=[2] }
theorem ZhH(p0g:Nat)(p0fi p0ca:List Value)(c0b c0o:Nat)(m:Mem)(xs:List (List Value))(h:
 ∀(l:Nat),lE (↑(xs.length):Int) λyL=>lV [func (Fn.yield l) (Array.mk []) (Array.mk [])] λxL=>fzM m xL λb m'=>∃v v_1 v_2 v_3 v_4:Value,lE [some (Box.mk b xL 170 1 true true)] λxL=>m'.reads c0b c0o [v,
 v_1,v_2,v_3,v_4]/\(l=l/\(0:Int)<=0/\List.get?Internal xs (Int.toNat (0:Int))=some [agg (.mk [v,v_1,v_2,v_3,v_4])])/\(∃(v:Value),m' c0b (c0o+4)=some v/\chk (Za8 v) (∃I,inI I [int i64 ((0:Int)+1),
 int i64 0] [] [] m'/\∀y n m'_1 (n_1:Nat),m'.le m'_1->I [int i64 y,int i64 n] [] [] m'_1 n_1->br (decide (n < (↑(slN v):Int))) (chk (Za8 v) (atA (slA v) λb o=>Zag n (slN v)/\∃v v_5 v_6 v_7 v_8:Value,lV [v,
 v_5,v_6,v_7,v_8] λxL_1=>m'_1.reads b (o+Int.toNat n*5) xL_1/\∀b,lE (some (Box.mk b xL_1 52 5 false true)::xL) λxL_2=>chk (v.oneCell'&&(v_5.oneCell'&&(v_6.oneCell'&&(v_7.oneCell'&&(v_8.oneCell' &&
 true))))) (kF pG 114 [agg (.mk xL_1)] m'_1 λg fi ca m'=>∃(xs_1:List (List Value)),IX pG g fi ca m' xs_1/\(∀(x:List Value),x∈xs_1->Shape.fitsL [.agg [.int u8,.any,.str,.int i64,.slice]] x=true)/\∃(I_1:
 IT),I_1 [int i64 y] [] [] m' 0/\(∀y n (v:Value) s n_2 a n_3 c m'_2 (n_4:Nat),lE (some [agg (.mk [int u8 n,v,string s,int i64 n_2,slice a n_3 c])]) λyL_1=>m'.le m'_2->List.get?Internal xs_1 n_4=yL_1->I_1 [int
 i64 y] [] [] m'_2 n_4->∀(b:Nat),chk (v.oneCell'&&true) ((l=l/\(0:Int)<=y/\List.get?Internal xs (Int.toNat y)=yL_1)/\(Zae xL_2/\I_1 [int i64 (y+1)] [] [] m'_2 (n_4+1))/\Zae xL_2/\((-1:Int)=yL\/(-1
 : Int)=(-1:Int))))/\∀y m'_2,m'.le m'_2->I_1 [int i64 y] [] [] m'_2 (xs_1.length)->Zae xL/\nxI n_1 I [int i64 y,int i64 (i64.wrap (n+1))] [] [] m'_2))) (y=yL\/y=(-1:Int))))/\((-1:Int)=yL\/(-1:Int) =
 (-1:Int))):IX Tryz.prog 158 [] [.pointer (some ⟨c0b,c0o,none⟩)] m xs:=
 Zhm (E:=Zi0) Zam mix Tryz.func158 _ _ _ (by kernel_rfl) (Eq.mp (by kernel_rfl) h)
def Znl:Env:={ EB with
 loops:=swI nLa [(3,⟨[(6,.agg [.int .u8,.any,.str,.int .i64,.slice])],[3],[],false⟩)]
 frzNew:=[1] }
theorem ZkU(aA:Int)(aC:Value)(aE:ByteArray)(aF:Int)(bB:Option Addr)(aZ bE:Nat)(m:Mem)(R:RT)(h:
 lV [int u8 aA,aC,string aE,int i64 aF,slice bB aZ bE] λxL=>fzM m xL λb m'=>∀b_1,lE [some (Box.mk b_1 [] 3 1 false true),some (Box.mk b xL 52 5 true true)] λxL_1=>kF pG 114 [agg (.mk xL)] m'
 λg fi ca m'=>∃(xs:List (List Value)),IX pG g fi ca m' xs/\(∀(x:List Value),x∈xs->Shape.fitsL [.agg [.int u8,.any,.str,.int i64,.slice]] x=true)/\∃(I:IT),I [] [[int i64 0]] [] m' 0/\(∀n (v:Value) s
 n_1 a n_2 c (cs:List Value) m'_1 (n_3:Nat),m'.le m'_1->List.get?Internal xs n_3=some [agg (.mk [int u8 n,v,string s,int i64 n_1,slice a n_2 c])]->I [] [cs] [] m'_1 n_3->Eng.ZvD cs 0 λv=>lE (i64.wrap
 (RowKit.intOf v+1)) λyL=>chk (ZaR i64 v&&decide (i64=i64)) (br (decide (yL > 10000)) (Zae xL_1/\rtM m m'_1 R (bool (decide (yL<=10000)))) (Zae xL_1/\I [] [[int i64 yL]] [] m'_1 (n_3+1))))/\∀(cs:List
 Value) m'_1,m'.le m'_1->I [] [cs] [] m'_1 (xs.length)->Eng.ZvD cs 0 λv=>chk (ZaR i64 v&&decide (i64=i64)) (rtM m m'_1 R (bool (decide (RowKit.intOf v<=10000))))):CX Tryz.prog 92 #[.agg #[.int .u8 aA,aC,.string aE,.int .i64 aF,.slice bB aZ bE]] m [] R:=
 Zad (E:=Znl) Zam mix Tryz.func92 (by kernel_rfl) (Eq.mp (by kernel_rfl) h)
def Zp7:Env:={ EB with
 loops:=swI nLa [(4,⟨[(8,.agg [.int .u8,.any,.str,.int .i64,.slice])],[3],[],false⟩)]
 frzNew:=[1] }
theorem Znm(aA:Int)(aC:Value)(aE:ByteArray)(aF:Int)(bB:Option Addr)(aZ bE:Nat)(m:Mem)(R:RT)(h:
 lV [int u8 aA,aC,string aE,int i64 aF,slice bB aZ bE] λxL=>fzM m xL λb m'=>∀b_1,kB pG 92 [agg (.mk xL)] m' λb_2 m'=>br b_2 (kF pG 114 [agg (.mk xL)] m' λg fi ca m'=>∃(xs:List (List
 Value)),IX pG g fi ca m' xs/\(∀(x:List Value),x∈xs->Shape.fitsL [.agg [.int u8,.any,.str,.int i64,.slice]] x=true)/\∃(I:IT),I [] [[int i64 0]] [] m' 0/\(∀n (v:Value) s n_1 a n_2 c (cs:List Value) m'_1
 (n_3:Nat),m'.le m'_1->List.get?Internal xs n_3=some [agg (.mk [int u8 n,v,string s,int i64 n_1,slice a n_2 c])]->I [] [cs] [] m'_1 n_3->Eng.ZvD cs 0 λv=>chk (ZaR i64 v&&decide (i64=i64)) (Zae [some
 (Box.mk b_1 [] 3 1 false true),some (Box.mk b xL 52 5 true true)]/\I [] [[int i64 (i64.wrap (RowKit.intOf v+1))]] [] m'_1 (n_3+1)))/\∀(cs:List Value) m'_1,m'.le m'_1->I [] [cs] [] m'_1 (xs.length)->Eng.ZvD cs 0 λv
 => rtM m m'_1 R v) (rtM m m' R (int i64 0))):CX Tryz.prog 93 #[.agg #[.int .u8 aA,aC,.string aE,.int .i64 aF,.slice bB aZ bE]] m [] R:=
 Zad (E:=Zp7) Zam mix Tryz.func93 (by kernel_rfl) (Eq.mp (by kernel_rfl) h)
def Znn:Env:={ EB with
 exv:=swI false [(1,true)] }
theorem ZkV  (m:Mem)(R:RT)(h:
 ∃(v:Value),Zow pG 107 [int u64 9221120237041090561] v/\rtM m m R v):CX Tryz.prog 209 #[] m [] R:=
 Zad (E:=Znn) Zam mix Tryz.func209 (by kernel_rfl) (Eq.mp (by kernel_rfl) h)
def Zi1:Env:=EB
theorem ZhI(p0:Value)(m:Mem)(R:RT)(h:
 ∃(b:Bool),BinIs pG BinOp.neq 49 p0 p0 (bool b)/\br b (∃R_1,True/\CX pG 209 (.mk []) m [] R_1/\(∀(v:Value)(m':Mem) (css:List (List Value)),R_1 v m' css->true=true)/\∀(v:Value) m',m.le m'->R_1 v m' []->
 rtM m m' R v) (rtM m m R p0)):CX Tryz.prog 202 #[p0] m [] R:=
 Zad (E:=Zi1) Zam mix Tryz.func202 (by kernel_rfl) (Eq.mp (by kernel_rfl) h)
def Zi2:Env:={ EB with
 joins:=swI none [(1,some [(2,.bool)])]
 exv:=swI false [(8,true)] }
theorem ZhJ(p0:Value)(m:Mem)(R:RT)(h:
 ∃(b:Bool),(∃(b_1:Bool),BinIs pG BinOp.eql 49 p0 p0 (bool b_1)/\br b_1 ([bool true]=[bool b]) (∃(v:Value),Zow pG 161 [p0] v/\chk (ZaR u64 v&&decide (u64=u64)) ([bool (RowKit.intOf v == 9221120237041090561)]
 = [bool b])))/\rtM m m R (bool b)):CX Tryz.prog 160 #[p0] m [] R:=
 Zad (E:=Zi2) Zam mix Tryz.func160 (by kernel_rfl) (Eq.mp (by kernel_rfl) h)
def ZkW:Env:={ EB with
 exv:=swI false [(7,true),(10,true)] }
theorem Zi3(p0 p1:Value)(m:Mem)(R:RT)(h:
 ∃R_1,True/\CX pG 202 (.mk [p0]) m [] R_1/\(∀(v:Value)(m':Mem) (css:List (List Value)),R_1 v m' css->true=true)/\∀(v:Value) m',m.le m'->R_1 v m' []->∃(v_1:Value),Zow pG 161 [v] v_1/\∃R_2,True/\CX pG
 202 (.mk [p1]) m' [] R_2/\(∀(v:Value)(m':Mem) (css:List (List Value)),R_2 v m' css->true=true)/\∀(v:Value) m'_1,m'.le m'_1->R_2 v m'_1 []->∃(v_2:Value),Zow pG 161 [v] v_2/\chk (ZaR u64 v_1&&ZaR u64
 v_2) (rtM m m'_1 R (bool (RowKit.intOf v_1 == RowKit.intOf v_2)))):CX Tryz.prog 190 #[p0,p1] m [] R:=
 Zad (E:=ZkW) Zam mix Tryz.func190 (by kernel_rfl) (Eq.mp (by kernel_rfl) h)
def ZbU:Env:={ EB with
 loops:=swI nLa [(2,⟨[(8,.int .i64)],[],[],false⟩)] }
theorem ZbO(p0a:Option Addr)(p0n p0c p1g:Nat)(p1fi p1ca:List Value)(m:Mem)(R:RT)(h:
 ∃I,inI I [int i64 0] [] [] m/\∀n m' (n_1:Nat),m.le m'->I [int i64 n] [] [] m' n_1->br (decide (n < (↑p0n:Int))) (atA p0a λb o=>Zag n p0n/\∃(v:Value),m' b (o+Int.toNat n*1)=some v/\kB pG p1g
 (List.append (List.append p1fi [v]) p1ca) m' λb m'=>br b (rtM m m' R (int i64 n)) (nxI n_1 I [int i64 (i64.wrap (n+1))] [] [] m')) (rtM m m' R (int i64 (-1)))):CX Tryz.prog 193 #[.slice p0a p0n p0c,.func (.func p1g) p1fi.toArray p1ca.toArray] m [] R:=
 Zad (E:=ZbU) Zam mix Tryz.func193 (by kernel_rfl) (Eq.mp (by kernel_rfl) h)
def Zbz:Env:=EB
theorem Zbs(p0a:Option Addr)(p0n p0c p1g:Nat)(p1fi p1ca:List Value)(m:Mem)(R:RT)(h:
 kI pG 193 [slice p0a p0n p0c,func (Fn.func p1g) (Array.mk p1fi) (Array.mk p1ca)] m λn m'=>rtM m m' R (bool (decide (n ≥ 0)))):CX Tryz.prog 171 #[.slice p0a p0n p0c,.func (.func p1g) p1fi.toArray p1ca.toArray] m [] R:=
 Zad (E:=Zbz) Zam mix Tryz.func171 (by kernel_rfl) (Eq.mp (by kernel_rfl) h)
def Zcv:Env:={ EB with
 loops:=swI nLa [(2,⟨[(8,.int .i64)],[],[],false⟩)] }
theorem Zco(p0a:Option Addr)(p0n p0c:Nat)(p1:ByteArray)(m:Mem)(R:RT)(h:
 ∃I,inI I [int i64 0] [] [] m/\∀n m' (n_1:Nat),m.le m'->I [int i64 n] [] [] m' n_1->br (decide (n < (↑p0n:Int))) (atA p0a λb o=>Zag n p0n/\∃(v:Value),m' b (o+Int.toNat n*1)=some v/\chk (Zfm v) (br
 (ByteArray.toList p1 == ByteArray.toList (Zcg v)) (rtM m m' R (int i64 n)) (nxI n_1 I [int i64 (i64.wrap (n+1))] [] [] m'))) (rtM m m' R (int i64 (-1)))):CX Tryz.prog 49 #[.slice p0a p0n p0c,.string p1] m [] R:=
 Zad (E:=Zcv) Zam mix Tryz.func49 (by kernel_rfl) (Eq.mp (by kernel_rfl) h)
def Zb3:Env:=EB
theorem ZbV(p0a:Option Addr)(p0n p0c:Nat)(p1:ByteArray)(m:Mem)(R:RT)(h:
 kI pG 49 [slice p0a p0n p0c,string p1] m λn m'=>rtM m m' R (bool (decide (n ≥ 0)))):CX Tryz.prog 15 #[.slice p0a p0n p0c,.string p1] m [] R:=
 Zad (E:=Zb3) Zam mix Tryz.func15 (by kernel_rfl) (Eq.mp (by kernel_rfl) h)
def ZcB:Env:=EB
theorem Zcw(p0b p0o:Nat)(p1:Int)(m:Mem)(R:RT)(h:
 Zag p1 256/\∃(v:Value),m p0b (p0o+Int.toNat p1*1)=some v/\rtM m m R v):CX Tryz.prog 195 #[.pointer (some ⟨p0b,p0o,none⟩),.int .u8 p1] m [] R:=
 Zad (E:=ZcB) Zam mix Tryz.func195 (by kernel_rfl) (Eq.mp (by kernel_rfl) h)
def Zdv:Env:={ EB with
 loops:=swI nLa [(2,⟨[(4,.int .i64)],[2],[],false⟩)] }
theorem Zdk(p0:ByteArray)(m:Mem)(R:RT)(h:
 ∀b,∃I,inI I [int i64 0] [List.replicate 256 (bool false)] [] m/\∀(n:Int)(cs:List Value) m' (n_1:Nat),lE (ZgX p0 (Int.toNat n)) λyL=>lE (0+Int.toNat yL*1) λyL_1=>lE (Nat.beq (cs.length) 256&&Zds
 cs) λyL_2=>m.le m'->I [int i64 n] [cs] [] m' n_1->br (decide (n < (↑(ByteArray.size p0):Int))) (Zag n (ByteArray.size p0)/\br (decide (yL ≥ 128)) (chk yL_2 (rtM m m' R (tuple (.mk [agg (.mk cs),bool false]))))
 (Zag yL 256/\chk (Nat.ble (yL_1+1) (cs.length)) (Zae [some (Box.mk b [] 241 256 false true)]/\nxI n_1 I [int i64 (i64.wrap (n+1))] [ZaB cs yL_1 [bool true]] [] m'))) (chk yL_2 (rtM m m' R (tuple (.mk [agg (.mk cs),
 bool true]))))):CX Tryz.prog 182 #[.string p0] m [] R:=
 Zad (E:=Zdv) Zam mix Tryz.func182 (by kernel_rfl) (Eq.mp (by kernel_rfl) h)
def Zdl:Env:={ EB with
 loops:=swI nLa [(1,⟨[(0,.str)],[],[],false⟩)] }
theorem Zc7(p0:ByteArray)(p1b p1o:Nat)(m:Mem)(R:RT)(h:
 ∃I,inI I [string p0] [] [] m/\∀s m' (n:Nat),m.le m'->I [string s] [] [] m' n->br (decide ((↑(ByteArray.size s):Int) > 0)) (Zag (0:Int) (ByteArray.size s)/\kB pG 195 [Value.pointer (some (Addr.mk p1b p1o none)),
 int u8 (ZgX s (Int.toNat (0:Int)))] m' λb m'=>br (!b) (rtM m m' R (string s)) (((0:Int)<=1/\(1:Int)<=(↑(ByteArray.size s):Int))/\nxI n I [string (ByteArray.extract s (Int.toNat (1:Int)) (ByteArray.size s))] []
 [] m')) (rtM m m' R (string s))):CX Tryz.prog 183 #[.string p0,.pointer (some ⟨p1b,p1o,none⟩)] m [] R:=
 Zad (E:=Zdl) Zam mix Tryz.func183 (by kernel_rfl) (Eq.mp (by kernel_rfl) h)
def Zc8:Env:={ EB with
 loops:=swI nLa [(1,⟨[(0,.str)],[],[],false⟩)] }
theorem ZcT(p0:ByteArray)(p1b p1o:Nat)(m:Mem)(R:RT)(h:
 ∃I,inI I [string p0] [] [] m/\∀(s:ByteArray) m' (n:Nat),lE (↑(ByteArray.size s):Int) λyL=>lE (i64.wrap (yL - (1:Int))) λyL_1=>m.le m'->I [string s] [] [] m' n->br (decide (yL > 0)) (Zag yL_1
 (ByteArray.size s)/\kB pG 195 [Value.pointer (some (Addr.mk p1b p1o none)),int u8 (ZgX s (Int.toNat yL_1))] m' λb m'=>br (!b) (rtM m m' R (string s)) (((0:Int)<=yL_1/\yL_1<=yL)/\nxI n I [string (ByteArray.extract s
 0 (Int.toNat yL_1))] [] [] m')) (rtM m m' R (string s))):CX Tryz.prog 184 #[.string p0,.pointer (some ⟨p1b,p1o,none⟩)] m [] R:=
 Zad (E:=Zc8) Zam mix Tryz.func184 (by kernel_rfl) (Eq.mp (by kernel_rfl) h)
def Zi4:Env:={ EB with
 joins:=swI none [(1,some [(12,.bool)]),(3,some [(21,.bool)])]
 dr:=swI [] [(4,[dO 0 [],dO 1 [],dO 2 [1],dO 3 [0,1,2],dO 4 [],dO 5 [4],⟨6,[],[],none,[0,1,2,3,4,5],[3]⟩,dO 7 [0,1,2,3,4,5,6]])]
 frzAt:=swI [] [(36,[5])] }
theorem ZhK(p0 p1:ByteArray)(m:Mem)(R:RT)(h:
 ∃(b:Bool),lX (string p0) λyL=>lV [int u8 (ZgX p1 (Int.toNat (0:Int)))] λxL=>br (ByteArray.toList p0 == ByteArray.toList bE0) ([bool true]=[bool b]) ([bool (ByteArray.toList p1 == ByteArray.toList bE0)]=[bool
 b])/\br b (rtM m m R yL) (∃(b:Bool),br ((↑(ByteArray.size p1):Int) == 1) (Zag (0:Int) (ByteArray.size p1)/\[bool (decide (ZgX p1 (Int.toNat (0:Int)) < 128))]=[bool b]) ([bool false]=[bool b])/\br b (∃(f:
 Fx),Zag (0:Int) (ByteArray.size p1)/\∃R_1,R_1=f 3 (yL::xL) m/\CX pG 181 (.mk (yL::xL)) m [] R_1/\Za7 .str R_1/\∀s m',m.le m'->R_1 (string s) m' []->Zag (0:Int) (ByteArray.size p1)/\∃R_2,R_2=f 6
 (string s::xL) m'/\CX pG 180 (.mk (string s::xL)) m' [] R_2/\Za7 .str R_2/\∀s m'_1,m'.le m'_1->R_2 (string s) m'_1 []->∀M,m.le M->m'.le M->m'_1.le M->rtM m M R (string s)) (∃R_1,True/\CX pG 182 (.mk [string
 p1]) m [] R_1/\Za7 (.tup [.cells,.bool]) R_1/\∀(cs:List Value)(b:Bool) m',m.le m'->R_1 (tuple (.mk [agg (.mk cs),bool b])) m' []->∀(b_1:Nat),lV [Value.pointer (some (Addr.mk b_1 0 none))] λxL=>chk (Nat.beq
 (cs.length) 256&&Zds cs) (br b (∀m'_1,m'.le m'_1->m'_1.reads b_1 0 cs->kT pG 184 (yL::xL) m'_1 λs m'=>kT pG 183 (string s::xL) m' λs m'=>rtM m m' R (string s)) (kT pG 186 [yL,string p1] m' λs m'=>kT pG
 185 [string s,string p1] m' λs m'=>rtM m m' R (string s)))))):CX Tryz.prog 159 #[.string p0,.string p1] m [] R:=
 Zad (E:=Zi4) Zam mix Tryz.func159 (by kernel_rfl) (Eq.mp (by kernel_rfl) h)
def ZkX:Env:=EB
theorem Zi5(p0:ByteArray)(m:Mem)(R:RT)(h:
 br (ByteArray.toList p0 == ByteArray.toList bE0) (rtM m m R (bool false)) (br (decide ((↑(ByteArray.size p0):Int) > 16)) (rtM m m R (bool false)) (Zag (0:Int) (ByteArray.size p0)/\br (decide (ZgX p0 (Int.toNat (0:
 Int)) < 97)) (rtM m m R (bool false)) (Zag (0:Int) (ByteArray.size p0)/\br (decide (ZgX p0 (Int.toNat (0:Int)) > 122)) (rtM m m R (bool false)) (∀b,m.free b->kB pG 15 [slice (some (Addr.mk b 0 none)) 3 3,string p0]
 (m.add b [string (.mk (.mk [109,105,110])),string (.mk (.mk [109,97,120])),string (.mk (.mk [110,117,109]))]) λb m'=>br b (rtM m m' R (bool false)) (kT pG 159 [string p0,string (.mk (.mk [97,98,99,100,101,102,
 103,104,105,106,107,108,109,110,111,112,113,114,115,116,117,118,119,120,121,122,48,49,50,51,52,53,54,55,56,57,95]))] m' λs m'=>rtM m m' R (bool (ByteArray.toList s == ByteArray.toList bE0)))))))):CX Tryz.prog 119 #[.string p0] m [] R:=
 Zad (E:=ZkX) Zam mix Tryz.func119 (by kernel_rfl) (Eq.mp (by kernel_rfl) h)
def Zp8:Env:={ EB with
 joins:=swI none [(3,some [(6,.bool)])] }
theorem Zno(p0:Int)(m:Mem)(R:RT)(h:
 br (p0 == 1) (rtM m m R (int i64 1)) (∃(b:Bool),br (decide (p0 ≥ 2)) ([bool (decide (p0<=7))]=[bool b]) ([bool false]=[bool b])/\br b (rtM m m R (int i64 2)) (rtM m m R (int i64 0)))):CX Tryz.prog 191 #[.int .u8 p0] m [] R:=
 Zad (E:=Zp8) Zam mix Tryz.func191 (by kernel_rfl) (Eq.mp (by kernel_rfl) h)
def Znp:Env:={ EB with
 joins:=swI none [(8,some [(5,.bool)]),(11,some [(6,.bool)])]
 dr:=swI [] [(1,[⟨0,[1],[],none,[],[]⟩,⟨1,[1],[],none,[0],[]⟩,dO 2 [0,1],⟨3,[1],[],none,[],[]⟩,⟨4,[1],[],none,[3],[]⟩,dO 5 [3,4],⟨6,[1],[],none,[],[]⟩,⟨7,[1],[],none,[6],[]⟩,dO 8 [6,7],dO 9 [0,1,2,3,4,5],dO 10 [0,1,2,3,4,5,9],dO 11 [0,1,2,3,4,5,6,7,8,9,10]]),(12,[⟨0,[1],[],none,[],[]⟩,⟨1,[1],[],none,[0],[]⟩,dO 2 [0,1],dO 3 [0,1,2],dO 4 [0,1,2,3],dO 5 [0,1,2,3,4],dO 6 [0,1,2,3,4,5],dO 7 [0,1,2,3,4,5,6],dO 8 [0,1,2,3,4,5,6,7],dO 9 [0,1,2,3,4,5,6,7,8],dO 10 [0,1,2,3,4,5,6,7,8,9],dO 11 [0,1,2,3,4,5,6,7,8,9,10],dO 12 (rg 0 12),⟨13,[1],[],none,rg 0 13,[]⟩,⟨14,[1],[],none,rg 0 14,[]⟩,dO 15 (rg 0 15),⟨16,[1],[],none,rg 0 13,[]⟩,⟨17,[1],[],none,rg 0 13++[16],[]⟩,dO 18 (rg 0 13++[16,17]),dO 19 (rg 0 19),dO 20 (rg 0 20),dO 21 (rg 0 21),dO 22 (rg 0 22),dO 23 (rg 0 23),dO 24 (rg 0 24),dO 25 (rg 0 25)])]
 frzNew:=[1]
 gb:=true }
theorem ZkY(aA:Int)(aC:Value)(aE:ByteArray)(aF:Int)(bB:Option Addr)(aZ bE:Nat)(m:Mem)(R:RT)(h:
 lE (↑aZ:Int) λyL=>lE (aA == 1) λaf=>lE (yL == 1) λag=>lE (decide (aA<=10)) λah=>lE (ByteArray.toList aE == ByteArray.toList bE0) λai=>lV [int u8 aA] λxL=>lV [int u8 aA,aC,string
 aE,int i64 aF,slice bB aZ bE] λak=>fzM m ak λb m'=>∃(f:Fx),∃R_1,lE [some (Box.mk b ak 52 5 true true)] λac=>R_1=f 5 [aC,Value.float .f64 0] m'/\CX pG 190 (.mk [aC,Value.float .f64 0])
 m' [] R_1/\Za7 .bool R_1/\∀(b:Bool) aj,m'.le aj->R_1 (bool b) aj []->∀M,m'.le M->aj.le M->br (aA == 8) (kB pG 160 [aC] M λb m'=>∃(ab:Bool),br af (br ag (atA bB λb o=>Zag (0:Int) aZ/\∃(v
 : Value),m' b (o+0+0)=some v/\chk (ZaR u8 v&&decide (u8=u8)) (Zae ac/\[bool (RowKit.intOf v == 8)]=[bool ab])) (Zae ac/\[bool false]=[bool ab])) (Zae ac/\[bool false]=[bool ab])/\∃(f:Fx),br ah
 (br ai (br b (br (aF == 0) (∃R_2,R_2=f 18 xL m'/\CX pG 191 (.mk xL) m' [] R_2/\Za7 (.int i64) R_2/\∀n ad,m'.le ad->R_2 (int i64 n) ad []->br (yL == n) (∀M,m'.le M->ad.le M->rtM m M R (bool !ab)) (∀M,m'.le M->
 ad.le M->rtM m M R (bool false))) (∀M,m'.le M->m'.le M->rtM m M R (bool false))) (∀M,m'.le M->m'.le M->rtM m M R (bool false))) (∀M,m'.le M->m'.le M->rtM m M R (bool false))) (∀M,m'.le M->m'.le M->rtM m M R (bool
 false))) (br (aA == 9) (kB pG 119 [string aE] M λab m'=>∃(ae:Bool),br af (br ag (atA bB λb o=>Zag (0:Int) aZ/\∃(v:Value),m' b (o+0+0)=some v/\chk (ZaR u8 v&&decide (u8=u8)) (Zae
 ac/\[bool (RowKit.intOf v == 8)]=[bool ae])) (Zae ac/\[bool false]=[bool ae])) (Zae ac/\[bool false]=[bool ae])/\∃(f:Fx),br ah (br ab (br b (br (aF == 0) (∃R_2,R_2=f 18 xL m'/\CX pG 191 (.mk xL) m' []
 R_2/\Za7 (.int i64) R_2/\∀n ad,m'.le ad->R_2 (int i64 n) ad []->br (yL == n) (∀M,m'.le M->ad.le M->rtM m M R (bool !ae)) (∀M,m'.le M->ad.le M->rtM m M R (bool false))) (∀M,m'.le M->m'.le M->rtM m M R (bool
 false))) (∀M,m'.le M->m'.le M->rtM m M R (bool false))) (∀M,m'.le M->m'.le M->rtM m M R (bool false))) (∀M,m'.le M->m'.le M->rtM m M R (bool false))) (br (aA == 10) (∃(ab:Bool),br (decide (aF ≥ 0)) (Zae ac/\
 [bool (decide (aF<=9))]=[bool ab]) (Zae ac/\[bool false]=[bool ab])/\∃(ae:Bool),br af (br ag (atA bB λb o=>Zag (0:Int) aZ/\∃(v:Value),M b (o+0+0)=some v/\chk (ZaR u8 v&&decide (u8 =
 u8)) (Zae ac/\[bool (RowKit.intOf v == 8)]=[bool ae])) (Zae ac/\[bool false]=[bool ae])) (Zae ac/\[bool false]=[bool ae])/\∃(f:Fx),br ah (br ai (br b (br ab (∃R_2,R_2=f 18 xL M/\CX pG 191 (.mk xL) M []
 R_2/\Za7 (.int i64) R_2/\∀n m',M.le m'->R_2 (int i64 n) m' []->br (yL == n) (∀aa,M.le aa->m'.le aa->rtM m aa R (bool !ae)) (∀aa,M.le aa->m'.le aa->rtM m aa R (bool false))) (∀aa,M.le aa->M.le aa->rtM m aa R
 (bool false))) (∀aa,M.le aa->M.le aa->rtM m aa R (bool false))) (∀aa,M.le aa->M.le aa->rtM m aa R (bool false))) (∀aa,M.le aa->M.le aa->rtM m aa R (bool false))) (br (aA == 0) (rtM m M R (bool false)) (∃(ab:Bool),
 br af (br ag (atA bB λb o=>Zag (0:Int) aZ/\∃(v:Value),M b (o+0+0)=some v/\chk (ZaR u8 v&&decide (u8=u8)) (Zae ac/\[bool (RowKit.intOf v == 8)]=[bool ab])) (Zae ac/\[bool false]=[bool
 ab])) (Zae ac/\[bool false]=[bool ab])/\∃(f:Fx),br ah (br ai (br b (br (aF == 0) (∃R_2,R_2=f 18 xL M/\CX pG 191 (.mk xL) M [] R_2/\Za7 (.int i64) R_2/\∀n m',M.le m'->R_2 (int i64 n) m' []->br (yL == n) (∀
 aa,M.le aa->m'.le aa->rtM m aa R (bool !ab)) (∀aa,M.le aa->m'.le aa->rtM m aa R (bool false))) (∀aa,M.le aa->M.le aa->rtM m aa R (bool false))) (∀aa,M.le aa->M.le aa->rtM m aa R (bool false))) (∀aa,M.le aa->M.le
 aa->rtM m aa R (bool false))) (∀aa,M.le aa->M.le aa->rtM m aa R (bool false))))))):CX Tryz.prog 168 #[.agg #[.int .u8 aA,aC,.string aE,.int .i64 aF,.slice bB aZ bE]] m [] R:=
 Zad (E:=Znp) Zam mix Tryz.func168 (by kernel_rfl) (Eq.mp (by kernel_rfl) h)
def Znq:Env:={ EB with
 loops:=swI nLa [(5,⟨[(9,.agg [.int .u8,.any,.str,.int .i64,.slice])],[2],[],false⟩)]
 frzNew:=[1] }
theorem ZkZ(aA:Int)(aC:Value)(aE:ByteArray)(aF:Int)(bB:Option Addr)(aZ bE:Nat)(m:Mem)(R:RT)(h:
 lV [int u8 aA,aC,string aE,int i64 aF,slice bB aZ bE] λxL=>fzM m xL λb m'=>∀b_1,lE [some (Box.mk b_1 [] 4 1 false true),some (Box.mk b xL 52 5 true true)] λxL_1=>kB pG 92 [agg (.mk xL)] m'
 λb m'=>br (!b) (rtM m m' R (bool false)) (kF pG 114 [agg (.mk xL)] m' λg fi ca m'=>∃(xs:List (List Value)),IX pG g fi ca m' xs/\(∀(x:List Value),x∈xs->Shape.fitsL [.agg [.int u8,.any,.str,.int i64,
 .slice]] x=true)/\∃(I:IT),I [] [[bool false]] [] m' 0/\(∀n (v:Value) s n_1 a n_2 c (cs:List Value) m'_1 (n_3:Nat),lV [agg (.mk [int u8 n,v,string s,int i64 n_1,slice a n_2 c])] λxL=>m'.le m'_1->
 List.get?Internal xs n_3=some xL->I [] [cs] [] m'_1 n_3->∀(b:Nat),chk (v.oneCell'&&true) (kB pG 168 xL m'_1 λb m'=>br (!b) (Zae xL_1/\rtM m m' R (bool false)) (Zae xL_1/\I [] [cs] [] m' (n_3+1))))/\∀(cs
 : List Value) m'_1,m'.le m'_1->I [] [cs] [] m'_1 (xs.length)->rtM m m'_1 R (bool true))):CX Tryz.prog 136 #[.agg #[.int .u8 aA,aC,.string aE,.int .i64 aF,.slice bB aZ bE]] m [] R:=
 Zad (E:=Znq) Zam mix Tryz.func136 (by kernel_rfl) (Eq.mp (by kernel_rfl) h)
def ZaD:Env:={ EB with
 loops:=swI nLa [(4,⟨[(17,.int .i64)],[],[],false⟩)] }
theorem ZaA(p0a:Option Addr)(p0n p0c:Nat)(p1a:Option Addr)(p1n p1c p2g:Nat)(p2fi p2ca:List Value)(m:Mem)(R:RT)(h:
 br (!(↑p0n:Int) == (↑p1n:Int)) (rtM m m R (bool false)) (∃I,inI I [int i64 0] [] [] m/\∀n m' (n_1:Nat),m.le m'->I [int i64 n] [] [] m' n_1->br (decide (n < (↑p0n:Int))) (atA p0a λb o=>Zag n p0n/\∃v v_1
 v_2 v_3 v_4:Value,m'.reads b (o+Int.toNat n*5) [v,v_1,v_2,v_3,v_4]/\∀(b:Nat),chk (v.oneCell'&&(v_1.oneCell'&&(v_2.oneCell'&&(v_3.oneCell'&&(v_4.oneCell'&&true))))) (atA p1a λb o=>Zag n p1n/\∃
 v_5 v_6 v_7 v_8 v_9:Value,m'.reads b (o+Int.toNat n*5) [v_5,v_6,v_7,v_8,v_9]/\∀(b:Nat),chk (v_5.oneCell'&&(v_6.oneCell'&&(v_7.oneCell'&&(v_8.oneCell'&&(v_9.oneCell'&&true))))) (kB pG p2g (List.append
 (List.append p2fi [agg (.mk [v,v_1,v_2,v_3,v_4]),agg (.mk [v_5,v_6,v_7,v_8,v_9])]) p2ca) m' λb m'=>br (!b) (rtM m m' R (bool false)) (nxI n_1 I [int i64 (i64.wrap (n+1))] [] [] m')))) (rtM m m' R (bool true)))):CX Tryz.prog 203 #[.slice p0a p0n p0c,.slice p1a p1n p1c,.func (.func p2g) p2fi.toArray p2ca.toArray] m [] R:=
 Zad (E:=ZaD) Zam mix Tryz.func203 (by kernel_rfl) (Eq.mp (by kernel_rfl) h)
def Zp9:Env:={ EB with
 joins:=swI none [(1,some [(4,.bool)])]
 frzNew:=[2,3] }
theorem Znr(aA:Int)(aC:Value)(aE:ByteArray)(aF:Int)(bB:Option Addr)(aZ bE:Nat)(bN:Int)(bR:Value)(bO:ByteArray)(bW:Int)(dA:Option Addr)(cZ dE:Nat)(m:Mem)(R:RT)(h:
 lV [int u8 bN,bR,string bO,int i64 bW,slice dA cZ dE] λxL=>lV [int u8 aA,aC,string aE,int i64 aF,slice bB aZ bE] λxL_1=>fzM m xL_1 λb m'=>lE [some (Box.mk b xL_1 52 5 true
 true)] λxL_2=>fzM m' xL λb m'=>∃(b_1:Bool),lV [bool b_1] λxL_3=>lE (some (Box.mk b xL 52 5 true true)::xL_2) λxL=>br (aA == bN) (kB pG 190 [aC,bR] m' λb m'=>br b (br (ByteArray.toList aE
 == ByteArray.toList bO) (br (aF == bW) (kB pG 203 [slice bB aZ bE,slice dA cZ dE,func (Fn.func 192) (Array.mk []) (Array.mk [])] m' λb m'=>Zae xL/\[bool b]=xL_3) (Zae xL/\[bool false] =
 xL_3)) (Zae xL/\[bool false]=xL_3)) (Zae xL/\[bool false]=xL_3)) (Zae xL/\[bool false]=xL_3)/\rtM m m' R (bool b_1)):CX Tryz.prog 192 #[.agg #[.int .u8 aA,aC,.string aE,.int .i64 aF,.slice bB aZ bE],.agg #[.int .u8 bN,bR,.string bO,.int .i64 bW,.slice dA cZ dE]] m [] R:=
 Zad (E:=Zp9) Zam mix Tryz.func192 (by kernel_rfl) (Eq.mp (by kernel_rfl) h)
def Zqa:Env:={ EB with
 joins:=swI none [(1,some [(4,.bool)])]
 frzNew:=[2,3] }
theorem Zns(aA:Int)(aC:Value)(aE:ByteArray)(aF:Int)(bB:Option Addr)(aZ bE:Nat)(bN:Int)(bR:Value)(bO:ByteArray)(bW:Int)(dA:Option Addr)(cZ dE:Nat)(m:Mem)(R:RT)(h:
 lV [int u8 bN,bR,string bO,int i64 bW,slice dA cZ dE] λxL=>lV [int u8 aA,aC,string aE,int i64 aF,slice bB aZ bE] λxL_1=>fzM m xL_1 λb m'=>lE [some (Box.mk b xL_1 52 5 true
 true)] λxL_2=>fzM m' xL λb m'=>∃(b_1:Bool),lE (some (Box.mk b xL 52 5 true true)::xL_2) λxL_3=>(kB pG 92 [agg (.mk xL_1)] m' λb m'=>br b (kB pG 92 [agg (.mk xL)] m' λb m'=>br b (kB pG 192 [agg (.mk
 xL_1),agg (.mk xL)] m' λb m'=>Zae xL_3/\[bool b]=[bool b_1]) (Zae xL_3/\[bool false]=[bool b_1])) (Zae xL_3/\[bool false]=[bool b_1]))/\rtM m m' R (bool b_1)):CX Tryz.prog 169 #[.agg #[.int .u8 aA,aC,.string aE,.int .i64 aF,.slice bB aZ bE],.agg #[.int .u8 bN,bR,.string bO,.int .i64 bW,.slice dA cZ dE]] m [] R:=
 Zad (E:=Zqa) Zam mix Tryz.func169 (by kernel_rfl) (Eq.mp (by kernel_rfl) h)
def Zqb:Env:={ EB with
 frzNew:=[1] }
theorem Znt(aA:Int)(aC:Value)(aE:ByteArray)(aF:Int)(bB:Option Addr)(aZ bE:Nat)(m:Mem)(R:RT)(h:
 lV [int u8 aA,aC,string aE,int i64 aF,slice bB aZ bE] λxL=>fzM m xL λb m'=>kB pG 92 [agg (.mk xL)] m' λb m'=>br (!b) (rtM m m' R (slice none 0 0)) (kS pG 104 [slice none 0 0,agg (.mk xL)] m'
 λa n c m'=>rtM m m' R (slice a n c))):CX Tryz.prog 77 #[.agg #[.int .u8 aA,aC,.string aE,.int .i64 aF,.slice bB aZ bE]] m [] R:=
 Zad (E:=Zqb) Zam mix Tryz.func77 (by kernel_rfl) (Eq.mp (by kernel_rfl) h)
def Zqc:Env:={ EB with
 loops:=swI nLa [(5,⟨[(9,.agg [.int .u8,.any,.str,.int .i64,.slice])],[3],[],false⟩)]
 frzNew:=[1] }
theorem Znu(aA:Int)(aC:Value)(aE:ByteArray)(aF:Int)(bB:Option Addr)(aZ bE:Nat)(m:Mem)(R:RT)(h:
 lV [int u8 aA,aC,string aE,int i64 aF,slice bB aZ bE] λxL=>fzM m xL λb m'=>∀b_1,lE [some (Box.mk b_1 [] 3 1 false true),some (Box.mk b xL 52 5 true true)] λxL_1=>kB pG 92 [agg (.mk xL)] m'
 λb m'=>br b (kF pG 114 [agg (.mk xL)] m' λg fi ca m'=>∃(xs:List (List Value)),IX pG g fi ca m' xs/\(∀(x:List Value),x∈xs->Shape.fitsL [.agg [.int u8,.any,.str,.int i64,.slice]] x=true)/\∃(I:IT),I
 [] [[int i64 (-1)]] [] m' 0/\(∀n (v:Value) s n_1 a n_2 c (cs:List Value) m'_1 (n_3:Nat),m'.le m'_1->List.get?Internal xs n_3=some [agg (.mk [int u8 n,v,string s,int i64 n_1,slice a n_2 c])]->I [] [cs] [] m'_1 n_3
 -> ∀(b:Nat),chk (v.oneCell'&&true) (br (n == 10) (Eng.ZvD cs 0 λv=>chk (ZaR i64 v&&decide (i64=i64)) (Zae xL_1/\I [] [[int i64 (if n_1 > RowKit.intOf v then n_1 else RowKit.intOf v)]] [] m'_1 (n_3+1)))
 (Zae xL_1/\I [] [cs] [] m'_1 (n_3+1))))/\∀(cs:List Value) m'_1,m'.le m'_1->I [] [cs] [] m'_1 (xs.length)->Eng.ZvD cs 0 λv=>rtM m m'_1 R v) (rtM m m' R (int i64 (-1)))):CX Tryz.prog 142 #[.agg #[.int .u8 aA,aC,.string aE,.int .i64 aF,.slice bB aZ bE]] m [] R:=
 Zad (E:=Zqc) Zam mix Tryz.func142 (by kernel_rfl) (Eq.mp (by kernel_rfl) h)
end Go.Proofs.YtdopppmkbkkmiaaGreatDoor
namespace Go.Proofs.YtdopppmkbkkmiaaGreatDoor
open Go Go.Eng Go.Rx Go.Proofs Go.RowKit
set_option maxRecDepth 100000
theorem Zav{p:Prop} [Decidable p]{A B:Prop}(ht:p->A)(hf:¬p->B):br (decide p) A B:=Zab (λh=>ht (zA6 h)) (λh=>hf (of_decide_eq_false h))
theorem ZfM(t:E)(m:Mem):CX Tryz.prog 114 #[t.v] m [] (λv m' _=>∃b,v=.func (.func 158) #[] #[.pointer (some ⟨b,0,none⟩)]/\m'.reads b 0 t.cs):=by
 apply ZkT
 intro b m' hm hb
 exact⟨m',hm,Mem.le_refl _,b,rfl,hb⟩
theorem Zej(t:E)(m:Mem)(c0b:Nat)(cQ:m.reads c0b 0 t.cs)(dX:RepE m t):IX Tryz.prog 158 [] [.pointer (some ⟨c0b,0,none⟩)] m (t.nodes.map λx=>[x.v]):=by
 apply ZhH 0 [] [] c0b 0
 intro l b m' hm hb
 have lA:=cQ.mono hm
 refine⟨_,_,_,_,_,lA,⟨rfl,by omega,?_⟩,?_,.inr rfl⟩
 ·rw[ZbL];rfl
 refine⟨t.sl,lA 4 _ rfl,Zaa rfl ?_⟩
 refine⟨λxs _ _ m'' q=>∃i:Nat,i<=t.subs.length/\xs=[.int .i64 ((1+(Zap (t.subs.take i)).length:Nat):Int),.int .i64 i]/\m'.le m''/\q=t.subs.length - i,⟨t.subs.length,0,by omega,?_,Mem.le_refl _,by omega⟩,?_⟩
 ·simp[Zap]
 rintro y n m2 q aH ⟨i,hi,cT,jl,hq⟩
 simp only[List.cons.injEq,Value.int.injEq,true_and,and_true]at cT
 obtain⟨rfl,rfl⟩:=cT
 have aQ:slN t.sl=t.subs.length:=rfl
 rw[aQ]
 refine Zab (λaG=>?_) (λbK=>?_)
 ·have aT:i < t.subs.length:=by simpa using aG
  obtain⟨x,hx⟩:∃x,t.subs[i]?=some x:=⟨_,zA3 aT⟩
  have bL:x∈t.subs:=zA2 hx
  have bI:=Zl4 bL
  obtain⟨qp,h0|⟨b1,o1,ha,fI⟩⟩:=ZeX dX
  ·rw[h0]at aT;simp at aT
  obtain⟨dH,dY⟩:=(fI.mono' ((mLt hm jl))).get hx
  refine Zaa rfl ⟨b1,o1,ha,⟨by omega,by omega⟩,_,_,_,_,_,dH,λb2=>Zaa rfl ?_⟩
  refine⟨_,trivial,ZfM x m2,λv m' css h=>?_,?_⟩
  ·obtain⟨b3,rfl,_⟩:=h;rfl
  rintro g fi ca m3 aS ⟨b3,hv,eS⟩
  obtain⟨rfl,rfl,rfl⟩:=Zcr hv
  refine⟨_,Zej x m3 b3 eS (RepE.mono' dY aS),λy hy=>?_,?_⟩
  ·obtain⟨z,_,rfl⟩:=List.mem_map.1 hy;exact Zl5 z
  refine⟨λxs _ _ m'' q=>q<=x.nodes.length/\xs=[.int .i64 ((1+(Zap (t.subs.take i)).length+q:Nat):Int)]/\m3.le m'',⟨Nat.zero_le _,rfl,Mem.le_refl _⟩,?_,?_⟩
  ·rintro y n0 v0 s0 n3 a n7 c m4 q bM hq ⟨ib,hy,_⟩ b4
   simp only[List.cons.injEq,Value.int.injEq,true_and,and_true]at hy
   subst hy
   have hq':(List.map (λz:E=>[z.v]) x.nodes)[(q:Nat)]?=some [Value.agg #[.int .u8 n0,v0,.string s0,.int .i64 n3,.slice a n7 c]]:=hq
   rw[List.getElem?_map]at hq'
   obtain⟨z,hz,iV⟩:=Option.map_eq_some_iff.1 hq'
   have qq:q < x.nodes.length:=(zA0 hz).1
   simp only[E.v,List.cons.injEq,Value.agg.injEq,Array.mk.injEq,Value.int.injEq,Value.string.injEq,Value.slice.injEq,true_and,and_true]at iV
   obtain⟨rfl,rfl,rfl,rfl,rfl,rfl,rfl⟩:=iV
   refine Zaa rfl ⟨⟨rfl,by omega,?_⟩,⟨rfl,by omega,?_,bM⟩,rfl,.inr rfl⟩
   ·rw[zA8]
    show(t.nodes.map λx=>[x.v])[1+(Zap (t.subs.take i)).length+q]?=_
    rw[List.getElem?_map,Zug hx hz];rfl
   ·congr 2
  ·rintro y m4 bM ⟨ib,hy,_⟩
   simp only[List.cons.injEq,Value.int.injEq,true_and,and_true]at hy
   subst hy
   refine⟨rfl,t.subs.length - (i+1),by omega,i+1,by omega,?_,mLt jl (mLt aS bM),rfl⟩
   rw[Zal (by omega) (by omega),ZmX hx,zA1]
   simp[E.v,Nat.add_assoc]
 ·have hi':i=t.subs.length:=by
   have:¬((i:Int) < (t.subs.length:Int)):=by simpa using bK
   omega
  subst hi'
  left
  rw[List.take_length,ZbL]
  simp
  omega
termination_by SizeOf.sizeOf t
decreasing_by exact bI
theorem Zdm(t:E)(m:Mem)(hr:RepE m t):CX Tryz.prog 92 #[t.v] m [] (Ret (.bool t.light)):=by
 apply ZkU
 intro b m1 aB _ b2
 refine Zaj (ZfM t m1) (λv m' css h=>by obtain⟨_,rfl,_⟩:=h;rfl) ?_
 rintro g fi ca m2 aH ⟨b3,hv,eS⟩
 obtain⟨rfl,rfl,rfl⟩:=Zcr hv
 have bH:=mLt aB aH
 refine⟨_,Zej t m2 b3 eS (RepE.mono' hr bH),λy hy=>?_,λ_ css _ m' q=>css=[[.int .i64 q]]/\q<=10000/\q<=t.nodes.length,⟨rfl,by omega,by omega⟩,?_,?_⟩
 ·obtain⟨z,_,rfl⟩:=List.mem_map.1 hy;exact Zl5 z
 ·rintro n0 v0 s0 n3 a n7 c cs m3 q aS hq ⟨cA,ib,_⟩
  obtain rfl:cs=[.int .i64 q]:=by simpa using cA
  have aG:q < t.nodes.length:=by
   have:=(zA0 (show(List.map (λz:E=>[z.v]) t.nodes)[(q:Nat)]?=some _ from hq)).1
   simpa using this
  refine Zan rfl (Zaa rfl ?_)
  have hw:IntKind.i64.wrap (RowKit.intOf (Value.int .i64 (q:Int))+1)=(q:Int)+1:=Zal (n:=(q:Int)+1) (by omega) (by omega)
  simp only[hw]
  refine Zab (λh=>⟨by trivial,Zac (mLt bH aS) ?_⟩) (λh=>⟨by trivial,?_,?_,by omega⟩)
  ·have:((q:Int)+1 > 10000):=by simpa using h
   simp[Ret,E.light];omega
  ·simp
  ·have:¬((q:Int)+1 > 10000):=by simpa using h
   omega
 ·rintro cs m3 aS ⟨cA,ib,_⟩
  obtain rfl:cs=[.int .i64 t.nodes.length]:=by simpa using cA
  refine Zan rfl (Zaa rfl (Zac (mLt bH aS) ?_))
  show Value.bool (decide ((t.nodes.length:Int)<=10000))=Value.bool t.light
  congr 1
  rw[E.light,decide_eq_decide];omega
theorem Zxx(t:E)(m:Mem)(hr:RepE m t):CX Tryz.prog 93 #[t.v] m [] (Ret (.int .i64 t.size)):=by
 apply Znm
 intro b m1 aB _ b2
 refine Zah (Zdm t m1 (RepE.mono' hr aB)) λm2 aH=>Zab (λhl=>?_) (λh=>Zac (mLt aB aH) (by simp[Ret,E.size,h]))
 have rL:t.nodes.length<=10000:=zA6 hl
 refine Zaj (ZfM t m2) (λv m' css h=>by obtain⟨_,rfl,_⟩:=h;rfl) ?_
 rintro g fi ca m3 aS ⟨b3,hv,eS⟩
 obtain⟨rfl,rfl,rfl⟩:=Zcr hv
 have bH:=mLt aB (mLt aH aS)
 refine⟨_,Zej t m3 b3 eS (RepE.mono' hr bH),λy hy=>?_,λ_ css _ m' q=>css=[[.int .i64 q]]/\q<=t.nodes.length,⟨rfl,by omega⟩,?_,?_⟩
 ·obtain⟨z,_,rfl⟩:=List.mem_map.1 hy;exact Zl5 z
 ·rintro n0 v0 s0 n3 a n7 c cs m4 q bM hq ⟨cA,_⟩
  obtain rfl:cs=[.int .i64 q]:=by simpa using cA
  have aG:q < t.nodes.length:=by
   have:=(zA0 (show(List.map (λz:E=>[z.v]) t.nodes)[(q:Nat)]?=some _ from hq)).1
   simpa using this
  have hw:IntKind.i64.wrap (RowKit.intOf (Value.int .i64 (q:Int))+1)=(q:Int)+1:=Zal (n:=(q:Int)+1) (by omega) (by omega)
  refine Zan rfl (Zaa rfl ?_)
  simp only[hw]
  exact⟨by trivial,by simp,by omega⟩
 ·rintro cs m4 bM ⟨cA,ib⟩
  obtain rfl:cs=[.int .i64 t.nodes.length]:=by simpa using cA
  refine Zan rfl (Zac (mLt bH bM) ?_)
  simp[Ret,E.size,hl]
theorem ZBo(T:TypeId)(x y:Nat):BinIs Tryz.prog .eql T (.float .f64 x) (.float .f64 y) (.bool (Op.floatEq .f64 x y)):=λox oy w=>by
 simp[eqGuard,binOp,Op.floatCmp,Op.floatEq]
theorem ZzE(T:TypeId)(x y:Nat):BinIs Tryz.prog .neq T (.float .f64 x) (.float .f64 y) (.bool (!Op.floatEq .f64 x y)):=λox oy w=>by
 simp[eqGuard,binOp,Op.floatCmp,Op.floatEq,bne]
theorem Zqd(x:Nat):Zow Tryz.prog 161 [.float .f64 x] (.int .u64 x):=λw=>by
 rw[run_callFunc_extern Tryz.func161 (by kernel_rfl) (by kernel_rfl) (by kernel_rfl) (e:=Go.Extern.MathFloatBits.float64bits) (by kernel_rfl)]
 rfl
theorem Zs6(n:Nat):Zow Tryz.prog 107 [.int .u64 n] (.float .f64 n):=λw=>by
 rw[run_callFunc_extern Tryz.func107 (by kernel_rfl) (by kernel_rfl) (by kernel_rfl) (e:=Go.Extern.MathFloatBits.float64frombits) (by kernel_rfl)]
 rfl
theorem ZBp(m:Mem):CX Tryz.prog 209 #[] m [] (Ret (.float .f64 Zze)):=by
 apply ZkV
 exact⟨_,Zs6 Zze,Zac (Mem.le_refl _) rfl⟩
theorem Zs7(x:Nat)(m:Mem):CX Tryz.prog 202 #[.float .f64 x] m [] (Ret (.float .f64 (Zgy x))):=by
 apply ZhI
 refine⟨_,ZzE _ x x,Zab (λh=>?_) (λh=>Zac (Mem.le_refl _) ?_)⟩
 ·refine Zaj (ZBp m) (s:=.any) (λ_ _ _ _=>rfl) ?_
  intro v m1 aB hv
  have h':Op.floatEq .f64 x x=false:=by simpa using h
  refine Zac aB ?_
  show v=_
  rw[show v=_ from hv];unfold Zgy;rw[h'];rfl
 ·have h':Op.floatEq .f64 x x=true:=by simpa using h
  show Value.float .f64 x=_
  unfold Zgy;rw[h'];rfl
theorem Zqe(x:Nat)(m:Mem):CX Tryz.prog 160 #[.float .f64 x] m [] (Ret (.bool (ZfE x))):=by
 apply ZhJ
 refine⟨ZfE x,⟨_,ZBo _ x x,Zab (λh=>?_) (λh=>⟨_,Zqd x,Zaa rfl ?_⟩)⟩,Zac (Mem.le_refl _) rfl⟩
 ·unfold ZfE;rw[h];rfl
 ·unfold ZfE;rw[h,Bool.false_or]
  exact Zaf (show decide ((x:Int)=9221120237041090561)=decide (x=Zze) from decide_eq_decide.2 (by unfold Zze;omega))
theorem Zs8(x y:Nat)(m:Mem):CX Tryz.prog 190 #[.float .f64 x,.float .f64 y] m [] (Ret (.bool (Zuh x y))):=by
 apply Zi3
 refine Zaj (Zs7 x m) (s:=.any) (λ_ _ _ _=>rfl) ?_
 intro v m1 aB hv
 refine⟨.int .u64 (Zgy x),by rw[show v=_ from hv];exact Zqd _,?_⟩
 refine Zaj (Zs7 y m1) (s:=.any) (λ_ _ _ _=>rfl) ?_
 intro u m2 aH hu
 refine⟨.int .u64 (Zgy y),by rw[show u=_ from hu];exact Zqd _,Zaa rfl (Zac (mLt aB aH) ?_)⟩
 show Value.bool _=_
 congr 1
 exact show decide ((Zgy x:Int)=Zgy y)=decide (Zgy x=Zgy y) from decide_eq_decide.2 (by omega)
def ZcQ(l:List ByteArray):List Value:=l.map λs=>.string s
theorem ZcX{m:Mem}{a:Option Addr}{l:List ByteArray}(h:rowRd m a (ZcQ l)){k:Nat}{s:ByteArray}(hk:l[k]?=some s):∃b o,a=some ⟨b,o,none⟩/\m b (o+k*1)=some (.string s):=by
 rcases h with h|⟨b,o,ha,h⟩
 ·have:l=[]:=by simpa[ZcQ]using h
  rw[this]at hk;simp at hk
 ·exact⟨b,o,ha,by rw[Nat.mul_one];exact h k _ (by rw[ZcQ,List.getElem?_map,hk];rfl)⟩
theorem ZuQ(l:List ByteArray)(a:Option Addr)(c:Nat)(s:ByteArray)(m:Mem)(hl:l.length<=1000000000000000)(hr:rowRd m a (ZcQ l)):
  CX Tryz.prog 49 #[.slice a l.length c,.string s] m [] (Ret (.int .i64 (if l.any (λy=>eqS s y)then(l.findIdx (λy=>eqS s y):Nat)else(-1:Int)))):=by
 apply Zco
 refine⟨λxs _ _ m'' q=>∃i:Nat,i<=l.length/\xs=[.int .i64 i]/\(∀x∈l.take i,eqS s x=false)/\q=l.length - i,⟨l.length,0,by omega,rfl,by simp,by omega⟩,?_⟩
 rintro n m' q hm ⟨i,hi,hn,eT,hq⟩
 obtain rfl:n=i:=by simpa using hn
 refine Zab (λaG=>?_) (λbK=>?_)
 ·have aT:i < l.length:=by simpa using aG
  obtain⟨x,hx⟩:∃x,l[i]?=some x:=⟨_,zA3 aT⟩
  have bL:x∈l:=zA2 hx
  obtain⟨b1,o1,ha,dP⟩:=ZcX (hr.mono hm) hx
  refine⟨b1,o1,ha,⟨by omega,by omega⟩,_,dP,Zaa rfl (Zab (λeK=>?_) (λeK=>?_))⟩
  ·refine Zac hm ?_
   have dR:l.any (λy=>eqS s y)=true:=List.any_eq_true.2 ⟨x,bL,eK⟩
   have eW:l.findIdx (λy=>eqS s y)=i:=by
    rw[List.findIdx_eq aT]
    refine⟨by rw[(zA0 hx).2];exact eK,λj hj=>?_⟩
    exact eT _ (List.mem_of_getElem? (i:=j) (by rw[List.getElem?_take_of_lt hj];exact zA3 (by omega)))
   simp[Ret,dR,eW]
  ·refine⟨l.length - (i+1),by omega,i+1,by omega,by rw[Zal (by omega) (by omega)];rfl,?_,rfl⟩
   intro y hy
   rw[List.take_add_one,hx]at hy
   rcases List.mem_append.1 hy with hy|hy
   ·exact eT y hy
   ·simp at hy;rw[hy];exact eK
 ·have hi':i=l.length:=by
   have:¬((i:Int) < (l.length:Int)):=by simpa using bK
   omega
  subst hi'
  refine Zac hm ?_
  have dR:l.any (λy=>eqS s y)=false:=by
   rw[List.any_eq_false]
   rw[List.take_length]at eT
   exact λx hx=>by simp[eT x hx]
  simp[Ret,dR]
theorem Zb9(l:List ByteArray)(a:Option Addr)(c:Nat)(s:ByteArray)(m:Mem)(hl:l.length<=1000000000000000)(hr:rowRd m a (ZcQ l)):
  CX Tryz.prog 15 #[.slice a l.length c,.string s] m [] (Ret (.bool (l.any λy=>eqS s y))):=by
 apply ZbV
 refine ZaC (ZuQ l a c s m hl hr) λm' hm=>Zac hm ?_
 cases h:l.any (λy=>eqS s y) <;> simp[Ret]
theorem Zk0(l:List ByteArray)(a:Option Addr)(c:Nat)(g:Nat)(ca:List Value)(p:ByteArray->Bool)(m:Mem)(hl:l.length<=1000000000000000)(hr:rowRd m a (ZcQ l))
  (hp:∀x∈l,∀m',m.le m'->CX Tryz.prog g (.string x::ca).toArray m' [] (Ret (.bool (p x)))):
  CX Tryz.prog 193 #[.slice a l.length c,.func (.func g) #[] ca.toArray] m [] (Ret (.int .i64 (if l.any p then(l.findIdx p:Nat)else(-1:Int)))):=by
 apply ZbO a l.length c g [] ca
 refine⟨λxs _ _ m'' q=>∃i:Nat,i<=l.length/\xs=[.int .i64 i]/\(∀x∈l.take i,p x=false)/\q=l.length - i,⟨l.length,0,by omega,rfl,by simp,by omega⟩,?_⟩
 rintro n m' q hm ⟨i,hi,hn,eT,hq⟩
 obtain rfl:n=i:=by simpa using hn
 refine Zab (λaG=>?_) (λbK=>?_)
 ·have aT:i < l.length:=by simpa using aG
  obtain⟨x,hx⟩:∃x,l[i]?=some x:=⟨_,zA3 aT⟩
  have bL:x∈l:=zA2 hx
  obtain⟨b1,o1,ha,dP⟩:=ZcX (hr.mono hm) hx
  refine⟨b1,o1,ha,⟨by omega,by omega⟩,_,dP,Zah (hp x bL m' hm) λm1 aB=>Zab (λeK=>?_) (λeK=>?_)⟩
  ·refine Zac (mLt hm aB) ?_
   have dR:l.any p=true:=List.any_eq_true.2 ⟨x,bL,eK⟩
   have eW:l.findIdx p=i:=by
    rw[List.findIdx_eq aT]
    refine⟨by rw[(zA0 hx).2];exact eK,λj hj=>?_⟩
    exact eT _ (List.mem_of_getElem? (i:=j) (by rw[List.getElem?_take_of_lt hj];exact zA3 (by omega)))
   simp[Ret,dR,eW]
  ·refine⟨l.length - (i+1),by omega,i+1,by omega,by rw[Zal (by omega) (by omega)];rfl,?_,rfl⟩
   intro y hy
   rw[List.take_add_one,hx]at hy
   rcases List.mem_append.1 hy with hy|hy
   ·exact eT y hy
   ·simp at hy;rw[hy];exact eK
 ·have hi':i=l.length:=by
   have:¬((i:Int) < (l.length:Int)):=by simpa using bK
   omega
  subst hi'
  refine Zac hm ?_
  have dR:l.any p=false:=by
   rw[List.any_eq_false]
   rw[List.take_length]at eT
   exact λx hx=>by simp[eT x hx]
  simp[Ret,dR]
theorem ZgF(l:List ByteArray)(a:Option Addr)(c:Nat)(g:Nat)(ca:List Value)(p:ByteArray->Bool)(m:Mem)(hl:l.length<=1000000000000000)(hr:rowRd m a (ZcQ l))
  (hp:∀x∈l,∀m',m.le m'->CX Tryz.prog g (.string x::ca).toArray m' [] (Ret (.bool (p x)))):
  CX Tryz.prog 171 #[.slice a l.length c,.func (.func g) #[] ca.toArray] m [] (Ret (.bool (l.any p))):=by
 apply Zbs a l.length c g [] ca
 refine ZaC (Zk0 l a c g ca p m hl hr hp) λm' hm=>Zac hm ?_
 cases h:l.any p <;> simp[Ret]
theorem Zxy{α:Type}{cs:α->List Value}{m:Mem}{a:Option Addr}{ts r:List α}(h:rowRd m a ((ts++r).map cs).flatten):rowRd m a (ts.map cs).flatten:=by
 rw[List.map_append,List.flatten_append]at h
 rcases h with h|⟨b,o,ha,h⟩
 ·exact .inl (List.append_eq_nil_iff.1 h).1
 ·refine .inr ⟨b,o,ha,λj v hj=>h j v ?_⟩
  rw[zA5 (zA0 hj).1];exact hj
theorem Zk1{α:Type}{cs:α->List Value}{ts:List α}{t:α}:((ts++[t]).map cs).flatten=(ts.map cs).flatten++cs t:=by simp
theorem Zxz{α:Type}{cs:α->List Value}{n:Nat}(hn:∀x,(cs x).length=n){m:Mem}{b:Nat}{ts:List α}{x t:α}(h:rowRd m (some ⟨b,0,none⟩) ((ts++[x]).map cs).flatten)(h0:0 < n):rowRd (m.upd b (0+ts.length*n) (cs t)) (some ⟨b,0,none⟩) ((ts++[t]).map cs).flatten:=by
 have hl:=Zbe hn ts
 refine .inr ⟨b,0,rfl,λj v hj=>?_⟩
 rw[Zk1]at hj h
 rcases Nat.lt_or_ge j (ts.length*n)with aG|bK
 ·rw[zA5 (by omega)]at hj
  unfold Mem.upd;try dsimp only
  rw[if_neg (by omega)]
  rcases h with h|⟨b',o',ha,h⟩
  ·have:=congrArg List.length h
   rw[zA1,hl,hn]at this
   simp at this;omega
  ·cases ha
   refine h j v ?_
   rw[zA5 (by omega)];exact hj
 ·rw[zA4 (by omega),hl]at hj
  have h8:=(zA0 hj).1
  have h9:=hn t
  unfold Mem.upd;try dsimp only
  rw[if_pos ⟨rfl,by omega,by omega⟩,show 0+j - (0+ts.length*n)=j - ts.length*n by omega]
  exact hj
theorem Apart.rbase{α:Type}{cs:α->List Value}{n:Nat}(hn:∀x,(cs x).length=n)(h0:0 < n){mb m:Mem}{a:Option Addr}{ts:List α}(h:Apart mb a)(aD:rowRd m a (ts.map cs).flatten)(cY:ts≠[]):∃b,a=some ⟨b,0,none⟩/\mb.free b/\∃o u,m b o=some u:=by
 obtain⟨t,r,rfl⟩:∃t r,ts=t::r:=by cases ts with
  | nil=>exact absurd rfl cY
  | cons t r=>exact⟨t,r,rfl⟩
 obtain⟨b',o,ha,cQ⟩:=Zao hn aD (k:=0) (t:=t) rfl h0
 rcases h with h|⟨b,hb,hf⟩
 ·rw[h]at ha;cases ha
 ·rw[hb]at ha;cases ha
  have:0 < (cs t).length:=by rw[hn];exact h0
  exact⟨b',hb,hf,_,_,cQ 0 _ (zA3 this)⟩
theorem ZBq{α:Type}{ts:List α}(h:1 < ts.length):∃r x y,ts=r++[x,y]:=by
 have h1:ts.length - 2 < ts.length:=by omega
 refine⟨ts.take (ts.length - 2),ts[ts.length - 2],ts[ts.length - 1],?_⟩
 have e:=(List.take_append_drop (ts.length - 2) ts).symm
 rw[List.drop_eq_getElem_cons h1,List.drop_eq_getElem_cons (by omega),List.drop_eq_nil_of_le (by omega)]at e
 simpa[show ts.length - 2+1=ts.length - 1 by omega]using e
theorem ZBr{α:Type}{ts:List α}(h:0 < ts.length):∃r x,ts=r++[x]:=by
 refine⟨ts.dropLast,ts.getLast (by intro e;subst e;simp at h),?_⟩
 exact(List.dropLast_concat_getLast _).symm
theorem Zdn{m:Mem}{b:Nat}{cs:List Value}:rowRd (m.add b cs) (some ⟨b,0,none⟩) cs:=.inr ⟨b,0,rfl,λj v hj=>by rw[Nat.zero_add,Mem.add_same];exact hj⟩
theorem Zdo{α:Type}{cs:α->List Value}{n:Nat}(hn:∀x,(cs x).length=n)(h1:∀x,∀u∈cs x,u.oneCell'=true){m3:Mem}{b3:Nat}(hf:m3.free b3){a:Option Addr}{ts:List α}(t:α)(aD:rowRd m3 a (ts.map cs).flatten)(sz:Nat)(bI:(ts.length+1)*sz<=140737488355328)(hl:ts.length<=1000000){P Q:Prop}(hp:P\/Q){K:Option Addr->Nat->Mem->Prop}
  (k:∀(a':Option Addr)(c':Nat)(m4:Mem),(m3.add b3 (cs t)).le m4->rowRd m4 a' ((ts++[t]).map cs).flatten->TokFact (m3.add b3 (cs t)) a a' (ts.length+1) c'->K a' c' m4):
  (P\/Q)/\∃xs ys:List Value,xs.length=ts.length*n/\ys.length=1*n/\rowRd (m3.add b3 (cs t)) a xs/\rowRd (m3.add b3 (cs t)) (some ⟨b3,0,none⟩) ys/\(∀u:Value,u∈ys->u.oneCell'=true)/\(ts.length+1)*sz<=140737488355328/\ts.length+1<=9223372036854775807/\
   ∀(a':Option Addr)(c':Nat)(m4:Mem),(m3.add b3 (cs t)).le m4->rowRd m4 a' (List.append xs ys)->TokFact (m3.add b3 (cs t)) a a' (ts.length+1) c'->K a' c' m4:=
 ⟨hp,(ts.map cs).flatten,cs t,Zbe hn ts,by rw[hn,Nat.one_mul],aD.mono (Mem.le_add hf _),Zdn,h1 t,bI,by omega,λa' c' m4 hm hr ht=>k a' c' m4 hm (by rw[Zk1];exact hr) ht⟩
theorem Zgo{α:Type}{cs:α->List Value}{n:Nat}(hn:∀x,(cs x).length=n)(h1:∀x,∀u∈cs x,u.oneCell'=true){m3:Mem}{b3:Nat}(hf:m3.free b3){a:Option Addr}{ts:List α}(t:α)(aD:rowRd m3 a (ts.map cs).flatten)(sz:Nat)(bI:(ts.length+1)*sz<=140737488355328)(hl:ts.length<=1000000){P Q:Prop}(hp:P\/Q){K:Option Addr->Nat->Mem->Prop}
  (k:∀(a':Option Addr)(c':Nat)(m4:Mem),(m3.add b3 (cs t)).le m4->rowRd m4 a' ((ts++[t]).map cs).flatten->K a' c' m4):
  (P\/Q)/\∃xs ys:List Value,xs.length=ts.length*n/\ys.length=1*n/\rowRd (m3.add b3 (cs t)) a xs/\rowRd (m3.add b3 (cs t)) (some ⟨b3,0,none⟩) ys/\(∀u:Value,u∈ys->u.oneCell'=true)/\(ts.length+1)*sz<=140737488355328/\ts.length+1<=9223372036854775807/\
   ∀(a':Option Addr)(c':Nat)(m4:Mem),(m3.add b3 (cs t)).le m4->rowRd m4 a' (List.append xs ys)->K a' c' m4:=
 ⟨hp,(ts.map cs).flatten,cs t,Zbe hn ts,by rw[hn,Nat.one_mul],aD.mono (Mem.le_add hf _),Zdn,h1 t,bI,by omega,λa' c' m4 hm hr=>k a' c' m4 hm (by rw[Zk1];exact hr)⟩
def ER(φ:E->Prop):Value->Mem->List (List Value)->Prop:=λv m' _=>∃e:E,v=e.v/\RepE m' e/\φ e
theorem Zgp{φ:E->Prop}:∀(v:Value)(m':Mem) (css:List (List Value)),ER φ v m' css->Shape.fits (.agg [.int .u8,.any,.str,.int .i64,.slice]) v=true:=λv _ _ ⟨e,h,_⟩=>by rw[h];rfl
abbrev EK:=Int->Value->ByteArray->Int->Option Addr->Nat->Nat->Mem->Prop
theorem ZrU{e:E}{n:Int}{v:Value}{s:ByteArray}{g:Int}{a:Option Addr}{k c:Nat}(h:Value.agg #[.int .u8 n,v,.string s,.int .i64 g,.slice a k c]=e.v):n=e.k/\v=.float .f64 e.x/\s=e.s/\g=e.g/\a=e.a/\k=e.subs.length/\c=e.c:=by
 simpa[E.v]using h
theorem ZAp{φ:E->Prop}{m:Mem}{K:EK}(k:∀(e:E)(m':Mem),m.le m'->RepE m' e->φ e->K e.k (.float .f64 e.x) e.s e.g e.a e.subs.length e.c m'):
  ∀(n:Int)(v:Value)(s:ByteArray)(g:Int)(a:Option Addr)(n1 c:Nat)(m':Mem),m.le m'->ER φ (.agg #[.int .u8 n,v,.string s,.int .i64 g,.slice a n1 c]) m' []->K n v s g a n1 c m':=by
 rintro n v s g a n1 c m' hm ⟨e,hv,hr,hp⟩
 obtain⟨rfl,rfl,rfl,rfl,rfl,rfl,rfl⟩:=ZrU hv
 exact k e m' hm hr hp
def EF(mb M0:Mem)(φ:E->Prop):Value->Mem->List (List Value)->Prop:=λv M' css=>∃m0,mb.le m0/\m0.le M'/\(∀b o u,M0 b o=some u->∀o',m0 b o'=mb b o')/\ER φ v m0 css
theorem Zs9{mb M0:Mem}{φ:E->Prop}:∀(v:Value)(m':Mem) (css:List (List Value)),EF mb M0 φ v m' css->Shape.fits (.agg [.int .u8,.any,.str,.int .i64,.slice]) v=true:=λv _ _ ⟨_,_,_,_,e,h,_⟩=>by rw[h];rfl
theorem ZDd{mb M0:Mem}{φ:E->Prop}{m:Mem}{K:EK}(k:∀(e:E)(m0 m':Mem),m.le m'->mb.le m0->m0.le m'->(∀b o u,M0 b o=some u->∀o',m0 b o'=mb b o')->RepE m0 e->φ e->K e.k (.float .f64 e.x) e.s e.g e.a e.subs.length e.c m'):
  ∀(n:Int)(v:Value)(s:ByteArray)(g:Int)(a:Option Addr)(n1 c:Nat)(m':Mem),m.le m'->EF mb M0 φ (.agg #[.int .u8 n,v,.string s,.int .i64 g,.slice a n1 c]) m' []->K n v s g a n1 c m':=by
 rintro n v s g a n1 c m' hm ⟨m0,h1,h2,h3,e,hv,hr,hp⟩
 obtain⟨rfl,rfl,rfl,rfl,rfl,rfl,rfl⟩:=ZrU hv
 exact k e m0 m' hm h1 h2 h3 hr hp
theorem E.one(e:E):∀u∈e.cs,u.oneCell'=true:=by
 intro u hu
 simp only[E.cs,E.sl,List.mem_cons,List.not_mem_nil,or_false]at hu
 rcases hu with rfl|rfl|rfl|rfl|rfl <;> rfl
theorem E.len(e:E):e.cs.length=5:=rfl
theorem ZeE{m:Mem}{k:Int}{x:Nat}{s:ByteArray}{g:Int}(hk:0<=k/\k < 256)(hs:s.size<=1000000000000000)(hg : -9223372036854775808<=g/\g<=9223372036854775807):RepE m (.node k x s g none 0 []):=by
 simp only[RepE]
 exact⟨by simp,.inl trivial,hk,hs,hg⟩
theorem Zk2:∀s∈Zgj,s.size<=16:=by decide +kernel
theorem ZzF(m:Mem):CX Tryz.prog 108 #[] m [] (Ret (.float .f64 Zze)):=by
 apply Zp2
 exact⟨_,Zs6 Zze,Zac (Mem.le_refl _) rfl⟩
theorem Zwk(x:Nat)(m:Mem):CX Tryz.prog 109 #[.float .f64 x] m [] (ER (λe=>e=ZBW x)):=by
 apply Zne
 intro b
 exact Zaa rfl (Zaa rfl (ZaH (Mem.le_refl _) ⟨ZBW x,rfl,ZeE (by omega) (by rw[Zax];omega) (by omega),rfl⟩))
theorem ZxA(s:ByteArray)(hs:s.size<=1000000000000000)(m:Mem):CX Tryz.prog 110 #[.string s] m [] (ER (λe=>e=ZAn s)):=by
 apply ZkM
 intro b
 exact ZaH (Mem.le_refl _) ⟨ZAn s,rfl,ZeE (by omega) hs (by omega),rfl⟩
def ZAs(l:List ByteArray):Value->Mem->List (List Value)->Prop:=λv m' _=>∃a c,v=.slice a l.length c/\rowRd m' a (ZcQ l)
theorem ZdK{l}:∀(v:Value)(m':Mem) (css:List (List Value)),ZAs l v m' css->Shape.fits .slice v=true:=λv _ _ ⟨_,_,e,_⟩=>by rw[e];rfl
theorem ZuR(m:Mem):CX Tryz.prog 111 #[] m [] (ZAs Zgj):=by
 apply ZiW
 intro b hf
 exact ZaH (Mem.le_add hf _) ⟨_,_,rfl,Zdn⟩
theorem ZzG(e:E)(m:Mem)(hr:RepE m e):CX Tryz.prog 112 #[e.v] m [] (ER (λu=>∃a d,u=ZAo a d e)):=by
 apply Zng
 intro b m1 aB hb b2 b3 hf
 have bH:=Mem.le_add hf e.cs
 refine ZaH (mLt aB bH) ⟨ZAo (some ⟨b3,0,none⟩) 1 e,rfl,?_,_,_,rfl⟩
 simp only[ZAo,RepE]
 refine⟨by simp,.inr ⟨b3,0,rfl,?_⟩,by omega,by rw[Zax];omega,by omega⟩
 simp only[RepEAt]
 exact⟨λi v hv=>by rw[Nat.zero_add,Mem.add_same];exact hv,hr.mono' (mLt aB bH),trivial⟩
theorem ZzH(k:Int)(x y:E)(hk:0<=k/\k < 256)(m:Mem)(hx:RepE m x)(hy:RepE m y):CX Tryz.prog 113 #[.int .u8 k,x.v,y.v] m [] (ER (λu=>∃a d,u=opE k a d x y)):=by
 apply Zp5
 intro b m1 aB _ b1 m2 aH _ b2 b3 hf
 have bH:=Mem.le_add hf (x.cs++y.cs)
 have eZ:=mLt aB aH
 refine ZaH (mLt eZ bH) ⟨opE k (some ⟨b3,0,none⟩) 2 x y,rfl,?_,_,_,rfl⟩
 simp only[opE,RepE]
 refine⟨by simp,.inr ⟨b3,0,rfl,?_⟩,hk,by rw[Zax];omega,by omega⟩
 simp only[RepEAt]
 refine⟨λi v hv=>?_,hx.mono' (mLt eZ bH),λi v hv=>?_,hy.mono' (mLt eZ bH),trivial⟩
 ·rw[Nat.zero_add]
  exact(Mem.add_same ..).trans (by show(x.cs++y.cs)[i]?=some v;rw[zA5 (zA0 hv).1];exact hv)
 ·rw[show 0+5+i=5+i by omega]
  exact(Mem.add_same ..).trans (by show(x.cs++y.cs)[5+i]?=some v;rw[zA4 (by rw[E.len];omega),E.len,Nat.add_sub_cancel_left];exact hv)
theorem Zwl(T:TypeId){x y r:Nat}(h:FloatKind.f64.format.div x y=some r):BinIs Tryz.prog .quo T (.float .f64 x) (.float .f64 y) (.float .f64 r):=λox oy w=>by
 simp[eqGuard,binOp,Op.floatArith,h]
theorem ZCS(n:Int):ConvIs Tryz.prog 184 49 (.int .i8 n) (.float .f64 (FloatKind.f64.nearest n)):=λw=>by
 simp[convert,Tryz.underlying184,Tryz.underlying49,Conv.intToFloat]
theorem ZBs:∀n:Fin 256,(FloatKind.f64.format.div (FloatKind.f64.nearest (IntKind.i8.wrap (n:Nat))) 4616189618054758400).isSome=true:=by decide +kernel
structure SmE (m:Mem)(a:Option Addr)(l:List (Nat×Nat×Nat)):Prop where
 len:l.length<=9223372036854775807
 byte:∀s∈l,s.1 < 256/\s.2.1 < 256/\s.2.2 < 18446744073709551616
 at':∀i s,l[i]?=some s->∃b o,a=some ⟨b,o,none⟩/\m.reads b (o+i*3) [.int .u8 s.1,.int .u8 s.2.1,.int .u64 s.2.2]
theorem SmE.mono{m m':Mem}{a l}(h:SmE m a l)(hm:m.le m'):SmE m' a l:=
 ⟨h.len,h.byte,λi s hi=>by obtain⟨b,o,h1,h2⟩:=h.at' i s hi;exact⟨b,o,h1,h2.mono hm⟩⟩
theorem ZuS:ZfE Zze=true:=by decide +kernel
set_option maxHeartbeats 2000000 in
theorem ZxB(l:List (Nat×Nat×Nat))(a:Option Addr)(c:Nat)(m:Mem)(hl:SmE m a l)(hc:l.length<=c):CX Tryz.prog 90 #[.slice a l.length c] m [] (ER (MkE 9 (2*l.length+1))):=by
 apply ZkO
 have aQ:=hl.len
 intro b
 have hN:(if(60:Int) < (l.length:Int)then(60:Int)else(l.length:Int))=((min 60 l.length:Nat):Int):=by split <;> omega
 simp only[hN,zA8,Nat.sub_zero]
 generalize rM:min 60 l.length=N
 refine⟨⟨by omega,by omega⟩,λxs css tvs m' q=>∃(i:Nat)(ts:List E)(a:Option Addr)(c:Nat)(mb:Mem),i<=N/\xs=[.slice a ts.length c,.int .i64 i]/\tvs=[.slice a ts.length c]/\ts.length<=c/\m.le mb/\mb.le m'/\Apart mb a/\rowRd m' a (ts.map E.cs).flatten/\(∀t∈ts,RepE mb t)/\PE ts i/\q=N - i,⟨N,0,[],none,0,m,by omega,rfl,rfl,by simp,Mem.le_refl _,Mem.le_refl _,.inl rfl,.inl rfl,by simp,PE.zero,by omega⟩,?_⟩
 rintro a1 n1 c1 z1 a2 n2 c2 m1 q _ ⟨i,ts,a',c',mb,hi,cT,cS,cJ,fJ,dB,eA,aD,bA,hP,hq⟩
 simp only[List.cons.injEq,Value.slice.injEq,Value.int.injEq,true_and,and_true]at cT cS
 obtain⟨⟨rfl,rfl,rfl⟩,rfl⟩:=cT
 obtain⟨rfl,rfl,rfl⟩:=cS
 have jG:ts.length<=60:=by have:=hP.sz;have:=ZeA ts;omega
 refine Zab (λaG=>?_) (λbK=>?_)
 ·have rN:i < N:=by have:=zA6 aG;omega
  obtain⟨s,hs⟩:=ZaL (l:=l) (k:=i) (by omega)
  obtain⟨bs,os,ha,cQ⟩:=(hl.mono (mLt fJ dB)).at' i s hs
  obtain⟨s1,s2,s3⟩:=s
  obtain⟨qr,lp,nt⟩:=hl.byte _ (zA2 hs)
  have hw:IntKind.i64.wrap ((i:Int)+1)=((i+1:Nat):Int):=by rw[Zal (by omega) (by omega)];rfl
  have oP:Int.tmod (s1:Int) 12=((s1 % 12:Nat):Int):=rfl
  simp only[hw,zA8]
  refine⟨bs,os,ha,⟨by omega,by omega⟩,_,_,_,cQ,λb2=>Zaa rfl ⟨_,rfl,by omega,?_⟩⟩
  simp only[oP]
  refine Zav (λh1=>?_) (λh1=>Zav (λh2=>?_) (λh2=>Zab (λh3=>?_) (λh3=>?_)))
  ·have hd:=ZBs ⟨s2,lp⟩
   obtain⟨r,hr⟩:=Option.isSome_iff_exists.1 hd
   have hr:FloatKind.f64.format.div (FloatKind.f64.nearest (IntKind.i8.wrap (s2:Nat))) 4616189618054758400=some r:=hr
   refine⟨_,rfl,_,ZCS _,_,Zwl _ hr,λxs _ _ m'=>(∃x,xs=[.float .f64 x])/\m1.le m',⟨_,rfl,Zab (λ_=>⟨_,rfl,_,Zs6 s3,trivial,trivial,⟨_,rfl⟩,Mem.le_refl _⟩) (λ_=>⟨trivial,trivial,⟨_,rfl⟩,Mem.le_refl _⟩)⟩,?_⟩
   rintro v m2 _ ⟨⟨x,hx⟩,aH⟩
   obtain rfl:v=.float .f64 x:=by simpa using hx
   refine⟨λxs _ _ m'=>(∃y,xs=[.float .f64 y]/\ZfE y=true)/\m1.le m',⟨_,ZzE _ x x,Zab (λh=>?_) (λh=>⟨trivial,trivial,⟨x,rfl,?_⟩,aH⟩)⟩,?_⟩
   ·refine⟨_,trivial,ZzF m2,λ_ _ _ _=>trivial,?_⟩
    intro u m3 aS hu
    exact⟨trivial,trivial,⟨Zze,by rw[show u=_ from hu],ZuS⟩,mLt aH aS⟩
   ·unfold ZfE
    rw[show Op.floatEq .f64 x x=true by simpa using h];rfl
   rintro v m3 _ ⟨⟨y,hy,gK⟩,aS⟩
   obtain rfl:v=.float .f64 y:=by simpa using hy
   refine Zaj (Zwk y m3) Zgp (ZAp λt m4 bM hr ht b3 gZ=>?_)
   subst ht
   have jU:=mLt aS bM
   have eJ:=Mem.le_add gZ (ZBW y).cs
   refine Zdo E.len E.one gZ (ZBW y) (aD.mono jU) 64 (by omega) (by omega) (.inl trivial) λa5 c5 m5 cV cG bD=>⟨trivial,N - (i+1),by omega,i+1,ts++[ZBW y],a5,c5,mb,by omega,by rw[zA1];rfl,by rw[zA1];rfl,by rw[zA1];exact bD.1,fJ,mLt dB (mLt jU (mLt eJ cV)),eA.tok (mLt dB (mLt jU eJ)) bD,cG,?_,hP.push (Zv1 gK),by omega⟩
   intro z hz
   rcases List.mem_append.1 hz with hz|hz
   ·exact bA z hz
   ·rw[List.mem_singleton]at hz;subst hz;exact ZeE (by omega) (by rw[Zax];omega) (by omega)
  ·refine⟨λ_ vs _=>match vs with
    | [.string s]=>ER (λe=>e=ZAn s)
    | _=>ZAs Zgj,_,rfl,ZuR m1,ZdK,?_⟩
   rintro a3 n3 c3 m2 aH ⟨a3',c3',hv,fW⟩
   simp only[Value.slice.injEq]at hv
   obtain⟨rfl,rfl,rfl⟩:=hv
   obtain⟨nm,vA⟩:=ZaL (l:=Zgj) (k:=s2 % 4) (Nat.mod_lt _ (by omega))
   have qs:=zA2 vA
   have bI:nm.size<=1000000000000000:=Nat.le_trans (Zk2 nm qs) (by omega)
   obtain⟨b3,o3,hO,tA⟩:=ZcX fW vA
   have vB:Int.tmod (s2:Int) 4=((s2 % 4:Nat):Int):=rfl
   have h4:s2 % 4 < 4:=Nat.mod_lt _ (by omega)
   refine⟨_,rfl,by omega,b3,o3,hO,by rw[vB];exact⟨by omega,by show((s2 % 4:Nat):Int) < (4:Nat);omega⟩,_,by rw[vB,zA8];exact tA,nm,rfl,_,rfl,ZxA nm bI m2,Zgp,ZAp λt m3 aS hr ht b4 iX=>?_⟩
   subst ht
   have jU:=mLt aH aS
   have eJ:=Mem.le_add iX (ZAn nm).cs
   refine Zdo E.len E.one iX (ZAn nm) (aD.mono jU) 64 (by omega) (by omega) (.inl trivial) λa5 c5 m5 cV cG bD M _ _ _ _ hM=>⟨trivial,N - (i+1),by omega,i+1,ts++[ZAn nm],a5,c5,mb,by omega,by rw[zA1];rfl,by rw[zA1];rfl,by rw[zA1];exact bD.1,fJ,mLt dB (mLt jU (mLt eJ (mLt cV hM))),eA.tok (mLt dB (mLt jU eJ)) bD,cG.mono hM,?_,hP.push (Zv2 qs),by omega⟩
   intro z hz
   rcases List.mem_append.1 hz with hz|hz
   ·exact bA z hz
   ·rw[List.mem_singleton]at hz;subst hz;exact ZeE (by omega) bI (by omega)
  ·refine⟨_,rfl,by omega,λb3 gZ=>?_⟩
   have tB:Int.tmod (s2:Int) 10=((s2 % 10:Nat):Int):=rfl
   have im:s2 % 10 < 10:=Nat.mod_lt _ (by omega)
   have xB:IntKind.i64.wrap (Int.tmod (s2:Int) 10)=((s2 % 10:Nat):Int):=by rw[tB,Zal (by omega) (by omega)]
   simp only[xB]
   have eJ:=Mem.le_add gZ (ZCD ((s2 % 10:Nat):Int)).cs
   refine Zdo E.len E.one gZ (ZCD ((s2 % 10:Nat):Int)) aD 64 (by omega) (by omega) (.inl trivial) λa5 c5 m5 cV cG bD=>⟨trivial,N - (i+1),by omega,i+1,ts++[ZCD ((s2 % 10:Nat):Int)],a5,c5,mb,by omega,by rw[zA1];rfl,by rw[zA1];rfl,by rw[zA1];exact bD.1,fJ,mLt dB (mLt eJ cV),eA.tok (mLt dB eJ) bD,cG,?_,hP.push (Zzg (by omega) (by omega)),by omega⟩
   intro z hz
   rcases List.mem_append.1 hz with hz|hz
   ·exact bA z hz
   ·rw[List.mem_singleton]at hz;subst hz;exact ZeE (by omega) (by rw[Zax];omega) (by omega)
  ·refine⟨decide (s1 % 12=5)&&decide (0 < ts.length),Zab (λh=>⟨trivial,trivial,Zaf ?_⟩) (λh=>⟨trivial,trivial,Zaf ?_⟩),Zab (λhb=>?_) (λhb=>?_)⟩
   ·have:s1 % 12=5:=by have:=h;simp at this;omega
    rw[this,Bool.eq_iff_iff];simp
   ·have:¬s1 % 12=5:=by have:=h;simp at this;omega
    rw[decide_eq_false this];rfl
   ·have gN:0 < ts.length:=by rw[zA7,decide_eq_true_iff,decide_eq_true_iff]at hb;exact hb.2
    obtain⟨r,x,rfl⟩:=ZBr gN
    have gR:(r++[x]).length=r.length+1:=by simp
    have iQ:IntKind.i64.wrap (((r++[x]).length:Int) - 1)=(r.length:Int):=by rw[gR,Zal (by omega) (by omega)];omega
    obtain⟨bb,jY,iY,o',u',hu'⟩:=eA.rbase E.len (by omega) aD (by simp)
    subst jY
    obtain⟨bx,ox,jZ,jh⟩:=Zao E.len aD (k:=r.length) (t:=x) (by simp) (by omega)
    cases jZ
    simp only[iQ,zA8]
    refine⟨_,_,rfl,⟨by omega,by omega⟩,_,jh 0 _ rfl,_,rfl,Zab (λh8=>?_) (λh8=>⟨trivial,N - (i+1),by omega,i+1,r++[x],_,_,mb,by omega,rfl,rfl,cJ,fJ,dB,eA,aD,bA,hP.skip,by omega⟩)⟩
    have qt:x.k≠8:=by simpa using h8
    refine⟨_,_,rfl,⟨by omega,by omega⟩,_,_,_,_,_,jh,Zaj ((ZzG x mb (bA x (by simp))).frame2 dB) (Zs9 (mb:=mb) (M0:=m1)) (ZDd λt m0 m3 aS h0 ji cC gH ht=>?_)⟩
    obtain⟨at',ct,rfl⟩:=ht
    have fA:m0.free bb:=λo=>by rw[cC bb o' u' hu' o];exact iY o
    refine⟨bb,0,rfl,⟨by omega,by omega⟩,Zaa rfl ⟨rfl,by omega,trivial,N - (i+1),by omega,i+1,r++[ZAo at' ct x],_,_,m0,by omega,?_,?_,by rw[zA1];rw[gR]at cJ;exact cJ,mLt fJ h0,Mem.le_upd ji fA _ _,.inr ⟨bb,rfl,fA⟩,Zxz E.len (aD.mono aS) (by omega),?_,hP.neg qt _ _,by omega⟩⟩
    ·rw[gR,zA1];rfl
    ·rw[gR,zA1];rfl
    ·intro z hz
     rcases List.mem_append.1 hz with hz|hz
     ·exact(bA z (by simp[hz])).mono' h0
     ·rw[List.mem_singleton]at hz;subst hz;exact gH
   ·refine⟨decide (5 < s1 % 12)&&decide (1 < ts.length),Zav (λh=>⟨trivial,trivial,Zaf ?_⟩) (λh=>⟨trivial,trivial,Zaf ?_⟩),Zab (λeR=>?_) (λeR=>⟨trivial,N - (i+1),by omega,i+1,ts,_,_,mb,by omega,rfl,rfl,cJ,fJ,dB,eA,aD,bA,hP.skip,by omega⟩)⟩
    ·rw[decide_eq_true (show 5 < s1 % 12 by omega),Bool.true_and,decide_eq_decide];omega
    ·rw[decide_eq_false (show ¬5 < s1 % 12 by omega)];rfl
    obtain⟨h5,xC⟩:5 < s1 % 12/\1 < ts.length:=by rw[zA7,decide_eq_true_iff,decide_eq_true_iff]at eR;exact eR
    have rH:s1 % 12 < 12:=Nat.mod_lt _ (by omega)
    obtain⟨r,x,y,rfl⟩:=ZBq xC
    have gR:(r++[x,y]).length=r.length+2:=by simp
    have iB:IntKind.i64.wrap (((r++[x,y]).length:Int) - 2)=(r.length:Int):=by rw[gR,Zal (by omega) (by omega)];omega
    have iQ:IntKind.i64.wrap (((r++[x,y]).length:Int) - 1)=((r.length+1:Nat):Int):=by rw[gR,Zal (by omega) (by omega)];omega
    have hk:IntKind.u8.wrap (((s1 % 12:Nat):Int) - 4)=((s1 % 12 - 4:Nat):Int):=by
     generalize s1 % 12=k at h5 rH
     have:k=6\/k=7\/k=8\/k=9\/k=10\/k=11:=by omega
     rcases this with rfl|rfl|rfl|rfl|rfl|rfl <;> rfl
    have ii:2<=((s1 % 12 - 4:Nat):Int)/\((s1 % 12 - 4:Nat):Int)<=7:=by omega
    generalize ((s1 % 12 - 4:Nat):Int)=kk at hk ii
    simp only[iB,iQ,hk,zA8,Nat.sub_zero]
    obtain⟨bb,jY,iY,o',u',hu'⟩:=eA.rbase E.len (by omega) aD (by simp)
    obtain⟨bx,ox,jZ,jh⟩:=Zao E.len aD (k:=r.length) (t:=x) (by simp) (by omega)
    obtain⟨by',oy,qu,qv⟩:=Zao E.len aD (k:=r.length+1) (t:=y) (by simp) (by omega)
    refine⟨λ_ _ _=>EF mb m1 (λe=>∃a d,e=opE kk a d x y),⟨by omega,by omega⟩,⟨by omega,by omega⟩,bx,ox,jZ,⟨by omega,by omega⟩,_,_,_,_,_,jh,by',oy,qu,⟨by omega,by omega⟩,_,_,_,_,_,qv,_,rfl,(ZzH kk x y (by omega) mb (bA x (by simp)) (bA y (by simp))).frame2 dB,Zs9,ZDd λt m0 m3 aS h0 ji cC gH ht b6 iZ=>?_⟩
    obtain⟨at',ct,rfl⟩:=ht
    have ir:=Mem.le_add iZ (opE kk at' ct x y).cs
    have fA:Apart m0 _:=.inr ⟨bb,jY,λo=>by rw[cC bb o' u' hu' o];exact iY o⟩
    refine Zdo E.len E.one iZ (opE kk at' ct x y) ((Zxy aD).mono aS) 64 (by omega) (by omega) (.inr (.inr (by omega))) λa4 c4 m4 bM dF bD M _ ic _ j0=>⟨trivial,N - (i+1),by omega,i+1,r++[opE kk at' ct x y],a4,c4,m0,by omega,?_,?_,by have:=bD.1;rw[zA1];exact this,mLt fJ h0,mLt ji ic,fA.tok (mLt ji ir) bD,dF.mono j0,?_,hP.op ii _ _,by omega⟩
    ·rw[zA1];rfl
    ·rw[zA1];rfl
    ·intro z hz
     rcases List.mem_append.1 hz with hz|hz
     ·exact(bA z (by simp[hz])).mono' h0
     ·rw[List.mem_singleton]at hz;subst hz;exact gH
 ·have rN:i=N:=by have:=of_decide_eq_false bK;omega
  have aB:=mLt fJ dB
  refine Zab (λh0=>?_) (λh0=>?_)
  ·refine Zaj (Zwk _ m1) Zgp (ZAp λt m2 aH hr ht=>Zaa rfl (ZaH (mLt aB aH) ⟨t,rfl,hr,?_⟩))
   rw[ht];exact(Zv1 (by decide +kernel)).mono (by omega)
  ·obtain⟨t0,rest,rfl⟩:∃t r,ts=t::r:=by cases ts with
    | nil=>simp at h0
    | cons t r=>exact⟨t,r,rfl⟩
   have hF:=QE.start hP
   obtain⟨bb,jY,iY,o',u',hu'⟩:=eA.rbase E.len (by omega) aD (by simp)
   subst jY
   obtain⟨bx,ox,jZ,jh⟩:=Zao E.len aD (k:=0) (t:=t0) rfl (by omega)
   cases jZ
   rw[List.length_cons]at jG cJ
   refine⟨_,_,rfl,⟨by omega,by simp⟩,_,_,_,_,_,jh,λb2=>Zaa rfl ⟨⟨by omega,by rw[List.length_cons];omega⟩,?_⟩⟩
   refine⟨λxs css tvs m' q=>∃(k:Nat)(t:E),k<=rest.length/\xs=[.int .i64 k]/\css=[t.cs]/\m1.le m'/\RepE m' t/\QE t (rest.drop k) (2*i)/\q=rest.length - k,⟨rest.length,0,t0,by omega,rfl,rfl,Mem.le_refl _,(bA t0 (by simp)).mono' dB,hF,by omega⟩,?_⟩
   rintro z cs m2 q2 _ ⟨k,t,hk,hz,cA,aH,gH,ma,pS⟩
   obtain rfl:z=k:=by simpa using hz
   obtain rfl:cs=t.cs:=by simpa using cA
   have kY:((t0::rest).length - Int.toNat 1)=rest.length:=by simp
   simp only[kY]
   refine Zab (λaG=>?_) (λeI=>Zaa rfl (ZaH (mLt aB aH) ⟨t,rfl,gH,?_⟩))
   ·have aT:k < rest.length:=by have:=zA6 aG;omega
    obtain⟨x,hx⟩:=ZaL aT
    obtain⟨b3,o3,hO,mB⟩:=Zao E.len (aD.mono aH) (k:=k+1) (t:=x) (by simpa using hx) (by omega)
    cases hO
    have iC:IntKind.i64.wrap ((k:Int)+1)=((k+1:Nat):Int):=by rw[Zal (by omega) (by omega)];rfl
    simp only[iC,zA8]
    rw[Zsz hx]at ma
    have jj:Zbb (some (⟨bb,0,none⟩:Addr)) (Int.toNat 1) c2 5=some ⟨bb,0+5,none⟩:=by
     unfold Zbb
     have:Nat.beq c2 1=false:=by
      cases hb:Nat.beq c2 1 with
      | false=>rfl
      | true=>have:=Nat.eq_of_beq_eq_true hb;omega
     show(bif Nat.beq c2 1 then _ else some (Addr.add _ (1*5)))=_
     rw[this,Zcc];rfl
    refine⟨_,_,jj,⟨by omega,by omega⟩,_,_,_,_,_,by rw[show 0+5+k*5=0+(k+1)*5 by omega];exact mB,λb4=>Zaa rfl (Zaj (ZzH 2 t x (by omega) m2 gH ((bA x (by simp[zA2 hx])).mono' (mLt dB aH))) Zgp (ZAp λt' m3 aS hr' ht'=>Zaa rfl ⟨trivial,trivial,rest.length - (k+1),by omega,k+1,t',by omega,rfl,rfl,mLt aH aS,hr',?_,by omega⟩))⟩
    obtain⟨a3,c3,rfl⟩:=ht'
    exact ma.step _ _
   ·have:k=rest.length:=by have:=of_decide_eq_false eI;omega
    rw[this,List.drop_length]at ma
    exact ma.done.mono (by omega)
end Go.Proofs.YtdopppmkbkkmiaaGreatDoor
end
