/- Part of the proof: conditions and contracts of functions of this program. No condition of its own. -/
import Derived.Test.YtiadlgdcbpnmkaaGreatDoorPEnv
set_option linter.unusedVariables false
set_option linter.unusedSimpArgs false
set_option linter.unusedSectionVars false
namespace Go.Proofs.YtiadlgdcbpnmkaaGreatDoor
open Go Go.Eng Go.Proofs Go.RowKit
open Go.Value (int slice agg bool string tuple func)
open Go.IntKind (u8 u64 i64)
set_option maxRecDepth 100000
noncomputable def Zm1:Env:={ EB with
 frzNew:=[1] }
def ZgN(aA:Int)(aC:Value)(aB:ByteArray)(aD:Int)(aS:Option Addr)(aR aT:Nat)(m:Mem)(R:RT):Prop:=
 ∀(b:Nat)(m':Mem),Mem.le m m'->Mem.reads m' b 0 [int u8 aA,aC,string aB,int i64 aD,slice aS aR aT]->∃(m'':Mem),Mem.le m m''/\Mem.le m'' m'/\R (func (Fn.func 99) (Array.mk []) (Array.mk
 [Value.pointer (some (Addr.mk b 0 none))])) m'' []
theorem Zlj(aA:Int)(aC:Value)(aB:ByteArray)(aD:Int)(aS:Option Addr)(aR aT:Nat)(m:Mem)(R:RT)(h:ZgN aA aC aB aD aS aR aT m R):CX Tryz.prog 80 #[.agg #[.int .u8 aA,aC,.string aB,.int .i64 aD,.slice aS aR aT]] m [] R:=
 Zad (E:=Zm1) Zaj mix Tryz.func80 [.v (.agg #[.int .u8 aA,aC,.string aB,.int .i64 aD,.slice aS aR aT])] [] (by kernel_rfl) (Eq.mp (by kernel_rfl) h)
noncomputable def Zjz:Env:={ EB with
 loops:=(λi=>bif Nat.beq i 3 then⟨[(13,.int .i64)],[],[],true⟩ else bif Nat.beq i 7 then⟨[(19,.agg [.int .u8,.any,.str,.int .i64,.slice])],[],[],true⟩ else⟨[],[],[],false⟩)
 frzNew:=[2] }
def ZeN(p0g:Nat)(p0fi p0ca:List Value)(c0b c0o:Nat)(m:Mem)(xs:List (List Value)):Prop:=
 ∀(l b:Nat)(m':Mem),Mem.le m m'->Mem.reads m' b 0 [func (Fn.yield l) (Array.mk []) (Array.mk [])]->∃(v:Value),∃(v_1:Value),∃(v_2:Value),∃(v_3:Value),∃(v_4:Value),Mem.reads m' c0b c0o [v,v_1,
 v_2,v_3,v_4]/\(l=l/\(0:Int)<=(0:Int)/\List.get?Internal xs (Int.toNat (0:Int))=some [agg (Array.mk [v,v_1,v_2,v_3,v_4])])/\(∃(v:Value),m' c0b (c0o+4)=some v/\chk (ZbM v) (∃(I:IT),(∃(n
 : Nat),I [int i64 ((0:Int)+(1:Int)),int i64 0] [] [] m' n)/\∀(y n:Int)(m'_1:Mem)(n_1:Nat),Mem.le m' m'_1->I [int i64 y,int i64 n] [] [] m'_1 n_1->br (decide (n < (↑(slN v):Int))) (chk (ZbM v) (∃
 (b_1:Nat),∃(o:Nat),slA v=some (Addr.mk b_1 o none)/\Zai n (slN v)/\∃(v:Value),∃(v_5:Value),∃(v_6:Value),∃(v_7:Value),∃(v_8:Value),Mem.reads m'_1 b_1 (o+Int.toNat n*5) [v,v_5,v_6,
 v_7,v_8]/\∀(b_2:Nat),chk (Value.oneCell' v&&(Value.oneCell' v_5&&(Value.oneCell' v_6&&(Value.oneCell' v_7&&(Value.oneCell' v_8&&true))))) (∃(R:RT),True/\CX Tryz.prog 80 (Array.mk [agg (Array.mk [v,
 v_5,v_6,v_7,v_8])]) m'_1 [] R/\Zal Shape.fn R/\∀(g:Nat)(fi ca:List Value)(m':Mem),Mem.le m'_1 m'->R (func (Fn.func g) (Array.mk fi) (Array.mk ca)) m' []->∃(xs_1:List (List Value)),IX Tryz.prog g fi
 ca m' xs_1/\(∀(x:List Value),x∈xs_1->Shape.fitsL [Shape.agg [Shape.int u8,Shape.any,Shape.str,Shape.int i64,Shape.slice]] x=true)/\∃(I_1:IT),I_1 [int i64 y] [] [] m' 0/\(∀(y n:Int)(v_9:Value)
 (s:ByteArray) (n_2:Int) (a:Option Addr) (n_3 c:Nat) (m'_2:Mem) (n_4:Nat),Mem.le m' m'_2->List.get?Internal xs_1 n_4=some [agg (Array.mk [int u8 n,v_9,string s,int i64 n_2,slice a n_3 c])]->I_1 [int
 i64 y] [] [] m'_2 n_4->∀(b_3:Nat),chk (Value.oneCell' v_9&&true) ((l=l/\(0:Int)<=y/\List.get?Internal xs (Int.toNat y)=some [agg (Array.mk [int u8 n,v_9,string s,int i64 n_2,slice a n_3 c])])/\
 ([some (Box.mk b_2 [v,v_5,v_6,v_7,v_8] 50 5 false true),some (Box.mk b [func (Fn.yield l) (Array.mk []) (Array.mk [])] 109 1 true true)]=[some (Box.mk b_2 [v,v_5,v_6,v_7,v_8] 50 5 false true),some (Box.mk b
 [func (Fn.yield l) (Array.mk []) (Array.mk [])] 109 1 true true)]/\I_1 [int i64 (y+(1:Int))] [] [] m'_2 (n_4+1))/\[some (Box.mk b_2 [v,v_5,v_6,v_7,v_8] 50 5 false true),some (Box.mk b [func (Fn.yield l)
 (Array.mk []) (Array.mk [])] 109 1 true true)]=[some (Box.mk b_2 [v,v_5,v_6,v_7,v_8] 50 5 false true),some (Box.mk b [func (Fn.yield l) (Array.mk []) (Array.mk [])] 109 1 true true)]/\((-1:Int) =
 (↑(List.length xs):Int)\/(-1:Int)=(-1:Int))))/\∀(y:Int)(m'_2:Mem),Mem.le m' m'_2->I_1 [int i64 y] [] [] m'_2 (List.length xs_1)->[some (Box.mk b [func (Fn.yield l) (Array.mk []) (Array.mk [])] 109 1
 true true)]=[some (Box.mk b [func (Fn.yield l) (Array.mk []) (Array.mk [])] 109 1 true true)]/\∃(n':Nat),n' < n_1/\I [int i64 y,int i64 (IntKind.wrap i64 (n+(1:Int)))] [] [] m'_2 n'))) (y=(↑(List.length
 xs):Int)\/y=(-1:Int))))/\((-1:Int)=(↑(List.length xs):Int)\/(-1:Int)=(-1:Int))
theorem Zif(p0g:Nat)(p0fi p0ca:List Value)(c0b c0o:Nat)(m:Mem)(xs:List (List Value))(h:ZeN p0g p0fi p0ca c0b c0o m xs):IX Tryz.prog 99 [] [.pointer (some ⟨c0b,c0o,none⟩)] m xs:=
 ZkS (E:=Zjz) Zaj mix Tryz.func99 [] [.pointer (some ⟨c0b,c0o,none⟩)] xs (by kernel_rfl) (Eq.mp (by kernel_rfl) h)
noncomputable def Zm2:Env:={ EB with
 loops:=(λi=>bif Nat.beq i 3 then⟨[(6,.agg [.int .u8,.any,.str,.int .i64,.slice])],[3],[],false⟩ else⟨[],[],[],false⟩)
 frzNew:=[1] }
def ZgO(aA:Int)(aC:Value)(aB:ByteArray)(aD:Int)(aS:Option Addr)(aR aT:Nat)(m:Mem)(R:RT):Prop:=
 ∀(b:Nat)(m':Mem),Mem.le m m'->Mem.reads m' b 0 [int u8 aA,aC,string aB,int i64 aD,slice aS aR aT]->∀(b_1:Nat),∃(R_1:RT),True/\CX Tryz.prog 80 (Array.mk [agg (Array.mk [int u8 aA,
 aC,string aB,int i64 aD,slice aS aR aT])]) m' [] R_1/\Zal Shape.fn R_1/\∀(g:Nat)(fi ca:List Value)(m'_1:Mem),Mem.le m' m'_1->R_1 (func (Fn.func g) (Array.mk fi) (Array.mk ca)) m'_1 []->∃
 (xs:List (List Value)),IX Tryz.prog g fi ca m'_1 xs/\(∀(x:List Value),x∈xs->Shape.fitsL [Shape.agg [Shape.int u8,Shape.any,Shape.str,Shape.int i64,Shape.slice]] x=true)/\∃(I:IT),I [] [[int i64 0]]
 [] m'_1 0/\(∀(n:Int)(v:Value)(s:ByteArray)(n_1:Int)(a:Option Addr)(n_2 c:Nat)(cs:List Value)(m':Mem)(n_3:Nat),Mem.le m'_1 m'->List.get?Internal xs n_3=some [agg (Array.mk [int u8 n,v,
 string s,int i64 n_1,slice a n_2 c])]->I [] [cs] [] m' n_3->Eng.ZsZ cs 0 λ(v:Value)=>chk (Za3 i64 v&&decide (i64=i64)) (br (decide (IntKind.wrap i64 (RowKit.intOf v+(1:Int)) > (10000:Int)))
 ([some (Box.mk b_1 [] 3 1 false true),some (Box.mk b [int u8 aA,aC,string aB,int i64 aD,slice aS aR aT] 50 5 true true)]=[some (Box.mk b_1 [] 3 1 false true),some (Box.mk b [int u8 aA,aC,
 string aB,int i64 aD,slice aS aR aT] 50 5 true true)]/\∃(m'':Mem),Mem.le m m''/\Mem.le m'' m'/\R (bool (decide (IntKind.wrap i64 (RowKit.intOf v+(1:Int))<=(10000:Int)))) m'' []) ([some
 (Box.mk b_1 [] 3 1 false true),some (Box.mk b [int u8 aA,aC,string aB,int i64 aD,slice aS aR aT] 50 5 true true)]=[some (Box.mk b_1 [] 3 1 false true),some (Box.mk b [int u8 aA,aC,string
 aB,int i64 aD,slice aS aR aT] 50 5 true true)]/\I [] [[int i64 (IntKind.wrap i64 (RowKit.intOf v+(1:Int)))]] [] m' (n_3+1))))/\∀(cs:List Value)(m':Mem),Mem.le m'_1 m'->I [] [cs] [] m'
 (List.length xs)->Eng.ZsZ cs 0 λ(v:Value)=>chk (Za3 i64 v&&decide (i64=i64)) (∃(m'':Mem),Mem.le m m''/\Mem.le m'' m'/\R (bool (decide (RowKit.intOf v<=(10000:Int)))) m'' [])
theorem Zlk(aA:Int)(aC:Value)(aB:ByteArray)(aD:Int)(aS:Option Addr)(aR aT:Nat)(m:Mem)(R:RT)(h:ZgO aA aC aB aD aS aR aT m R):CX Tryz.prog 45 #[.agg #[.int .u8 aA,aC,.string aB,.int .i64 aD,.slice aS aR aT]] m [] R:=
 Zad (E:=Zm2) Zaj mix Tryz.func45 [.v (.agg #[.int .u8 aA,aC,.string aB,.int .i64 aD,.slice aS aR aT])] [] (by kernel_rfl) (Eq.mp (by kernel_rfl) h)
noncomputable def ZoO:Env:={ EB with
 loops:=(λi=>bif Nat.beq i 4 then⟨[(8,.agg [.int .u8,.any,.str,.int .i64,.slice])],[3],[],false⟩ else⟨[],[],[],false⟩)
 frzNew:=[1] }
def Zig(aA:Int)(aC:Value)(aB:ByteArray)(aD:Int)(aS:Option Addr)(aR aT:Nat)(m:Mem)(R:RT):Prop:=
 ∀(b:Nat)(m':Mem),Mem.le m m'->Mem.reads m' b 0 [int u8 aA,aC,string aB,int i64 aD,slice aS aR aT]->∀(b_1:Nat),∃(R_1:RT),True/\CX Tryz.prog 45 (Array.mk [agg (Array.mk [int u8 aA,
 aC,string aB,int i64 aD,slice aS aR aT])]) m' [] R_1/\Zal Shape.bool R_1/\∀(b_2:Bool)(m'_1:Mem),Mem.le m' m'_1->R_1 (bool b_2) m'_1 []->br b_2 (∃(R_2:RT),True/\CX Tryz.prog 80
 (Array.mk [agg (Array.mk [int u8 aA,aC,string aB,int i64 aD,slice aS aR aT])]) m'_1 [] R_2/\Zal Shape.fn R_2/\∀(g:Nat)(fi ca:List Value)(m':Mem),Mem.le m'_1 m'->R_2 (func (Fn.func g)
 (Array.mk fi) (Array.mk ca)) m' []->∃(xs:List (List Value)),IX Tryz.prog g fi ca m' xs/\(∀(x:List Value),x∈xs->Shape.fitsL [Shape.agg [Shape.int u8,Shape.any,Shape.str,Shape.int i64,Shape.slice]] x =
 true)/\∃(I:IT),I [] [[int i64 0]] [] m' 0/\(∀(n:Int)(v:Value)(s:ByteArray)(n_1:Int)(a:Option Addr)(n_2 c:Nat)(cs:List Value)(m'_2:Mem)(n_3:Nat),Mem.le m' m'_2->List.get?Internal xs n_3
 = some [agg (Array.mk [int u8 n,v,string s,int i64 n_1,slice a n_2 c])]->I [] [cs] [] m'_2 n_3->Eng.ZsZ cs 0 λ(v:Value)=>chk (Za3 i64 v&&decide (i64=i64)) ([some (Box.mk b_1 [] 3 1 false true),some
 (Box.mk b [int u8 aA,aC,string aB,int i64 aD,slice aS aR aT] 50 5 true true)]=[some (Box.mk b_1 [] 3 1 false true),some (Box.mk b [int u8 aA,aC,string aB,int i64 aD,slice aS aR
 aT] 50 5 true true)]/\I [] [[int i64 (IntKind.wrap i64 (RowKit.intOf v+(1:Int)))]] [] m'_2 (n_3+1)))/\∀(cs:List Value)(m'_2:Mem),Mem.le m' m'_2->I [] [cs] [] m'_2 (List.length xs)->Eng.ZsZ cs 0 fun
 (v:Value)=>∃(m'':Mem),Mem.le m m''/\Mem.le m'' m'_2/\R v m'' []) (∃(m'':Mem),Mem.le m m''/\Mem.le m'' m'_1/\R (int i64 0) m'' [])
theorem Zm3(aA:Int)(aC:Value)(aB:ByteArray)(aD:Int)(aS:Option Addr)(aR aT:Nat)(m:Mem)(R:RT)(h:Zig aA aC aB aD aS aR aT m R):CX Tryz.prog 46 #[.agg #[.int .u8 aA,aC,.string aB,.int .i64 aD,.slice aS aR aT]] m [] R:=
 Zad (E:=ZoO) Zaj mix Tryz.func46 [.v (.agg #[.int .u8 aA,aC,.string aB,.int .i64 aD,.slice aS aR aT])] [] (by kernel_rfl) (Eq.mp (by kernel_rfl) h)
noncomputable def Zm4:Env:={ EB with
 exv:=(λi=>bif Nat.beq i 1 then true else false) }
def ZgP  (m:Mem)(R:RT):Prop:=
 ∃(v:Value),ZqH Tryz.prog 136 [int u64 9221120237041090561] v/\∃(m'':Mem),Mem.le m m''/\Mem.le m'' m/\R v m'' []
theorem Zll  (m:Mem)(R:RT)(h:ZgP  m R):CX Tryz.prog 130 #[] m [] R:=
 Zad (E:=Zm4) Zaj mix Tryz.func130 [] [] (by kernel_rfl) (Eq.mp (by kernel_rfl) h)
noncomputable def ZjA:Env:=EB
def ZeO(p0:Value)(m:Mem)(R:RT):Prop:=
 ∃(b:Bool),BinIs Tryz.prog BinOp.neq 47 p0 p0 (bool b)/\br b (∃(R_1:RT),True/\CX Tryz.prog 130 (Array.mk []) m [] R_1/\(∀(v:Value)(m':Mem) (css:List (List Value)),R_1 v m' css->true=true)/\∀(v:
 Value) (m':Mem),Mem.le m m'->R_1 v m' []->∃(m'':Mem),Mem.le m m''/\Mem.le m'' m'/\R v m'' []) (∃(m'':Mem),Mem.le m m''/\Mem.le m'' m/\R p0 m'' [])
theorem Zih(p0:Value)(m:Mem)(R:RT)(h:ZeO p0 m R):CX Tryz.prog 123 #[p0] m [] R:=
 Zad (E:=ZjA) Zaj mix Tryz.func123 [.v (p0)] [] (by kernel_rfl) (Eq.mp (by kernel_rfl) h)
noncomputable def ZjB:Env:={ EB with
 joins:=(λi=>bif Nat.beq i 1 then some [(2,.bool)]else none)
 exv:=(λi=>bif Nat.beq i 8 then true else false) }
def ZeP(p0:Value)(m:Mem)(R:RT):Prop:=
 ∃(b:Bool),(∃(b_1:Bool),BinIs Tryz.prog BinOp.eql 47 p0 p0 (bool b_1)/\br b_1 ([bool true]=[bool b]) (∃(v:Value),ZqH Tryz.prog 84 [p0] v/\chk (Za3 u64 v&&decide (u64=u64)) ([bool (RowKit.intOf v
 == (9221120237041090561:Int))]=[bool b])))/\∃(m'':Mem),Mem.le m m''/\Mem.le m'' m/\R (bool b) m'' []
theorem Zii(p0:Value)(m:Mem)(R:RT)(h:ZeP p0 m R):CX Tryz.prog 83 #[p0] m [] R:=
 Zad (E:=ZjB) Zaj mix Tryz.func83 [.v (p0)] [] (by kernel_rfl) (Eq.mp (by kernel_rfl) h)
noncomputable def Zlm:Env:={ EB with
 exv:=(λi=>bif Nat.beq i 7 then true else bif Nat.beq i 10 then true else false) }
def ZfA(p0 p1:Value)(m:Mem)(R:RT):Prop:=
 ∃(R_1:RT),True/\CX Tryz.prog 123 (Array.mk [p0]) m [] R_1/\(∀(v:Value)(m':Mem) (css:List (List Value)),R_1 v m' css->true=true)/\∀(v:Value)(m':Mem),Mem.le m m'->R_1 v m' []->∃(v_1:Value),
 ZqH Tryz.prog 84 [v] v_1/\∃(R_2:RT),True/\CX Tryz.prog 123 (Array.mk [p1]) m' [] R_2/\(∀(v:Value)(m':Mem) (css:List (List Value)),R_2 v m' css->true=true)/\∀(v:Value)(m'_1:Mem),Mem.le m'
 m'_1->R_2 v m'_1 []->∃(v_2:Value),ZqH Tryz.prog 84 [v] v_2/\chk (Za3 u64 v_1&&Za3 u64 v_2) (∃(m'':Mem),Mem.le m m''/\Mem.le m'' m'_1/\R (bool (RowKit.intOf v_1 == RowKit.intOf v_2)) m'' [])
theorem ZjC(p0 p1:Value)(m:Mem)(R:RT)(h:ZfA p0 p1 m R):CX Tryz.prog 111 #[p0,p1] m [] R:=
 Zad (E:=Zlm) Zaj mix Tryz.func111 [.v (p0),.v (p1)] [] (by kernel_rfl) (Eq.mp (by kernel_rfl) h)
noncomputable def ZbK:Env:={ EB with
 loops:=(λi=>bif Nat.beq i 2 then⟨[(8,.int .i64)],[],[],false⟩ else⟨[],[],[],false⟩) }
def Za1(p0a:Option Addr)(p0n p0c p1g:Nat)(p1fi p1ca:List Value)(m:Mem)(R:RT):Prop:=
 ∃(I:IT),(∃(n:Nat),I [int i64 0] [] [] m n)/\∀(n:Int)(m':Mem)(n_1:Nat),Mem.le m m'->I [int i64 n] [] [] m' n_1->br (decide (n < (↑p0n:Int))) (∃(b:Nat),∃(o:Nat),p0a=some (Addr.mk b o none)
 /\ Zai n p0n/\∃(v:Value),m' b (o+Int.toNat n*1)=some v/\∃(R_1:RT),True/\CX Tryz.prog p1g (Array.mk (List.append (List.append p1fi [v]) p1ca)) m' [] R_1/\Zal Shape.bool R_1/\∀(b:Bool) (m'_1:
 Mem),Mem.le m' m'_1->R_1 (bool b) m'_1 []->br b (∃(m'':Mem),Mem.le m m''/\Mem.le m'' m'_1/\R (int i64 n) m'' []) (∃(n':Nat),n' < n_1/\I [int i64 (IntKind.wrap i64 (n+(1:Int)))] [] [] m'_1 n')) (∃(m''
 : Mem),Mem.le m m''/\Mem.le m'' m'/\R (int i64 (-1:Int)) m'' [])
theorem ZbF(p0a:Option Addr)(p0n p0c p1g:Nat)(p1fi p1ca:List Value)(m:Mem)(R:RT)(h:Za1 p0a p0n p0c p1g p1fi p1ca m R):CX Tryz.prog 114 #[.slice p0a p0n p0c,.func (.func p1g) p1fi.toArray p1ca.toArray] m [] R:=
 Zad (E:=ZbK) Zaj mix Tryz.func114 [.v (.slice p0a p0n p0c),.v (.func (.func p1g) p1fi.toArray p1ca.toArray)] [] (by kernel_rfl) (Eq.mp (by kernel_rfl) h)
noncomputable def Zbv:Env:=EB
def ZaT(p0a:Option Addr)(p0n p0c p1g:Nat)(p1fi p1ca:List Value)(m:Mem)(R:RT):Prop:=
 ∃(R_1:RT),True/\CX Tryz.prog 114 (Array.mk [slice p0a p0n p0c,func (Fn.func p1g) (Array.mk p1fi) (Array.mk p1ca)]) m [] R_1/\Zal (Shape.int i64) R_1/\∀(n:Int)(m':Mem),Mem.le m m'->R_1 (int i64 n) m' []
 -> ∃(m'':Mem),Mem.le m m''/\Mem.le m'' m'/\R (bool (decide (n ≥ (0:Int)))) m'' []
theorem Zbq(p0a:Option Addr)(p0n p0c p1g:Nat)(p1fi p1ca:List Value)(m:Mem)(R:RT)(h:ZaT p0a p0n p0c p1g p1fi p1ca m R):CX Tryz.prog 95 #[.slice p0a p0n p0c,.func (.func p1g) p1fi.toArray p1ca.toArray] m [] R:=
 Zad (E:=Zbv) Zaj mix Tryz.func95 [.v (.slice p0a p0n p0c),.v (.func (.func p1g) p1fi.toArray p1ca.toArray)] [] (by kernel_rfl) (Eq.mp (by kernel_rfl) h)
noncomputable def Zce:Env:={ EB with
 loops:=(λi=>bif Nat.beq i 2 then⟨[(8,.int .i64)],[],[],false⟩ else⟨[],[],[],false⟩) }
def Zbi(p0a:Option Addr)(p0n p0c:Nat)(p1:ByteArray)(m:Mem)(R:RT):Prop:=
 ∃(I:IT),(∃(n:Nat),I [int i64 0] [] [] m n)/\∀(n:Int)(m':Mem)(n_1:Nat),Mem.le m m'->I [int i64 n] [] [] m' n_1->br (decide (n < (↑p0n:Int))) (∃(b:Nat),∃(o:Nat),p0a=some (Addr.mk b o none)
 /\ Zai n p0n/\∃(v:Value),m' b (o+Int.toNat n*1)=some v/\chk (Zeh v) (br (ByteArray.toList p1 == ByteArray.toList (Zbx v)) (∃(m'':Mem),Mem.le m m''/\Mem.le m'' m'/\R (int i64 n) m'' []) (∃(n':
 Nat),n' < n_1/\I [int i64 (IntKind.wrap i64 (n+(1:Int)))] [] [] m' n'))) (∃(m'':Mem),Mem.le m m''/\Mem.le m'' m'/\R (int i64 (-1:Int)) m'' [])
theorem Zb7(p0a:Option Addr)(p0n p0c:Nat)(p1:ByteArray)(m:Mem)(R:RT)(h:Zbi p0a p0n p0c p1 m R):CX Tryz.prog 100 #[.slice p0a p0n p0c,.string p1] m [] R:=
 Zad (E:=Zce) Zaj mix Tryz.func100 [.v (.slice p0a p0n p0c),.v (.string p1)] [] (by kernel_rfl) (Eq.mp (by kernel_rfl) h)
noncomputable def ZbV:Env:=EB
def Za4(p0a:Option Addr)(p0n p0c:Nat)(p1:ByteArray)(m:Mem)(R:RT):Prop:=
 ∃(R_1:RT),True/\CX Tryz.prog 100 (Array.mk [slice p0a p0n p0c,string p1]) m [] R_1/\Zal (Shape.int i64) R_1/\∀(n:Int)(m':Mem),Mem.le m m'->R_1 (int i64 n) m' []->∃(m'':Mem),Mem.le m m''/\Mem.le
 m'' m'/\R (bool (decide (n ≥ (0:Int)))) m'' []
theorem ZbL(p0a:Option Addr)(p0n p0c:Nat)(p1:ByteArray)(m:Mem)(R:RT)(h:Za4 p0a p0n p0c p1 m R):CX Tryz.prog 81 #[.slice p0a p0n p0c,.string p1] m [] R:=
 Zad (E:=ZbV) Zaj mix Tryz.func81 [.v (.slice p0a p0n p0c),.v (.string p1)] [] (by kernel_rfl) (Eq.mp (by kernel_rfl) h)
noncomputable def Zco:Env:=EB
def Zbo(p0b p0o:Nat)(p1:Int)(m:Mem)(R:RT):Prop:=
 Zai p1 256/\∃(v:Value),m p0b (p0o+Int.toNat p1*1)=some v/\∃(m'':Mem),Mem.le m m''/\Mem.le m'' m/\R v m'' []
theorem Zcf(p0b p0o:Nat)(p1:Int)(m:Mem)(R:RT)(h:Zbo p0b p0o p1 m R):CX Tryz.prog 116 #[.pointer (some ⟨p0b,p0o,none⟩),.int .u8 p1] m [] R:=
 Zad (E:=Zco) Zaj mix Tryz.func116 [.v (.pointer (some ⟨p0b,p0o,none⟩)),.v (.int .u8 p1)] [] (by kernel_rfl) (Eq.mp (by kernel_rfl) h)
noncomputable def Zdj:Env:={ EB with
 loops:=(λi=>bif Nat.beq i 2 then⟨[(4,.int .i64)],[2],[],false⟩ else⟨[],[],[],false⟩) }
def Zb3(p0:ByteArray)(m:Mem)(R:RT):Prop:=
 ∀(b:Nat),∃(I:IT),(∃(n:Nat),I [int i64 0] [List.replicate 256 (bool false)] [] m n)/\∀(n:Int)(cs:List Value)(m':Mem)(n_1:Nat),Mem.le m m'->I [int i64 n] [cs] [] m' n_1->br (decide (n <
 (↑(ByteArray.size p0):Int))) (Zai n (ByteArray.size p0)/\br (decide (ZfD p0 (Int.toNat n) ≥ (128:Int))) (chk (Nat.beq (List.length cs) 256&&Zhh cs) (∃(m'':Mem),Mem.le m m''/\Mem.le m'' m'/\R (tuple
 (Array.mk [agg (Array.mk cs),bool false])) m'' [])) (Zai (ZfD p0 (Int.toNat n)) 256/\chk (Nat.ble (0+Int.toNat (ZfD p0 (Int.toNat n))*1+1) (List.length cs)) ([some (Box.mk b [] 146 256 false true)] =
 [some (Box.mk b [] 146 256 false true)]/\∃(n':Nat),n' < n_1/\I [int i64 (IntKind.wrap i64 (n+(1:Int)))] [ZaZ cs (0+Int.toNat (ZfD p0 (Int.toNat n))*1) [bool true]] [] m' n'))) (chk (Nat.beq
 (List.length cs) 256&&Zhh cs) (∃(m'':Mem),Mem.le m m''/\Mem.le m'' m'/\R (tuple (Array.mk [agg (Array.mk cs),bool true])) m'' []))
theorem Zde(p0:ByteArray)(m:Mem)(R:RT)(h:Zb3 p0 m R):CX Tryz.prog 103 #[.string p0] m [] R:=
 Zad (E:=Zdj) Zaj mix Tryz.func103 [.v (.string p0)] [] (by kernel_rfl) (Eq.mp (by kernel_rfl) h)
noncomputable def Zdf:Env:={ EB with
 loops:=(λi=>bif Nat.beq i 1 then⟨[(0,.str)],[],[],false⟩ else⟨[],[],[],false⟩) }
def ZbW(p0:ByteArray)(p1b p1o:Nat)(m:Mem)(R:RT):Prop:=
 ∃(I:IT),(∃(n:Nat),I [string p0] [] [] m n)/\∀(s:ByteArray)(m':Mem)(n:Nat),Mem.le m m'->I [string s] [] [] m' n->br (decide ((↑(ByteArray.size s):Int) > (0:Int))) (Zai (0:Int)
 (ByteArray.size s)/\∃(R_1:RT),True/\CX Tryz.prog 116 (Array.mk [Value.pointer (some (Addr.mk p1b p1o none)),int u8 (ZfD s (Int.toNat (0:Int)))]) m' [] R_1/\Zal Shape.bool R_1/\∀(b:Bool)(m'_1:Mem),
 Mem.le m' m'_1->R_1 (bool b) m'_1 []->br (!b) (∃(m'':Mem),Mem.le m m''/\Mem.le m'' m'_1/\R (string s) m'' []) (((0:Int)<=(1:Int)/\(1:Int)<=(↑(ByteArray.size s):Int))/\∃(n':Nat),n' < n/\I [string
 (ByteArray.extract s (Int.toNat (1:Int)) (ByteArray.size s))] [] [] m'_1 n')) (∃(m'':Mem),Mem.le m m''/\Mem.le m'' m'/\R (string s) m'' [])
theorem Zc1(p0:ByteArray)(p1b p1o:Nat)(m:Mem)(R:RT)(h:ZbW p0 p1b p1o m R):CX Tryz.prog 104 #[.string p0,.pointer (some ⟨p1b,p1o,none⟩)] m [] R:=
 Zad (E:=Zdf) Zaj mix Tryz.func104 [.v (.string p0),.v (.pointer (some ⟨p1b,p1o,none⟩))] [] (by kernel_rfl) (Eq.mp (by kernel_rfl) h)
noncomputable def Zc2:Env:={ EB with
 loops:=(λi=>bif Nat.beq i 1 then⟨[(0,.str)],[],[],false⟩ else⟨[],[],[],false⟩) }
def ZbJ(p0:ByteArray)(p1b p1o:Nat)(m:Mem)(R:RT):Prop:=
 ∃(I:IT),(∃(n:Nat),I [string p0] [] [] m n)/\∀(s:ByteArray)(m':Mem)(n:Nat),Mem.le m m'->I [string s] [] [] m' n->br (decide ((↑(ByteArray.size s):Int) > (0:Int))) (Zai (IntKind.wrap i64
 ((↑(ByteArray.size s):Int) - (1:Int))) (ByteArray.size s)/\∃(R_1:RT),True/\CX Tryz.prog 116 (Array.mk [Value.pointer (some (Addr.mk p1b p1o none)),int u8 (ZfD s (Int.toNat (IntKind.wrap i64
 ((↑(ByteArray.size s):Int) - (1:Int)))))]) m' [] R_1/\Zal Shape.bool R_1/\∀(b:Bool)(m'_1:Mem),Mem.le m' m'_1->R_1 (bool b) m'_1 []->br (!b) (∃(m'':Mem),Mem.le m m''/\Mem.le m'' m'_1/\R (string s)
 m'' []) (((0:Int)<=IntKind.wrap i64 ((↑(ByteArray.size s):Int) - (1:Int))/\IntKind.wrap i64 ((↑(ByteArray.size s):Int) - (1:Int))<=(↑(ByteArray.size s):Int))/\∃(n':Nat),n' < n/\I [string
 (ByteArray.extract s 0 (Int.toNat (IntKind.wrap i64 ((↑(ByteArray.size s):Int) - (1:Int)))))] [] [] m'_1 n')) (∃(m'':Mem),Mem.le m m''/\Mem.le m'' m'/\R (string s) m'' [])
theorem ZcC(p0:ByteArray)(p1b p1o:Nat)(m:Mem)(R:RT)(h:ZbJ p0 p1b p1o m R):CX Tryz.prog 105 #[.string p0,.pointer (some ⟨p1b,p1o,none⟩)] m [] R:=
 Zad (E:=Zc2) Zaj mix Tryz.func105 [.v (.string p0),.v (.pointer (some ⟨p1b,p1o,none⟩))] [] (by kernel_rfl) (Eq.mp (by kernel_rfl) h)
noncomputable def ZjD:Env:={ EB with
 joins:=(λi=>bif Nat.beq i 1 then some [(12,.bool)]else bif Nat.beq i 3 then some [(21,.bool)]else none)
 dr:=(λi=>bif Nat.beq i 4 then[⟨0,[],[],none,[],[]⟩,⟨1,[],[],none,[],[]⟩,⟨2,[],[],none,[1],[]⟩,⟨3,[],[],none,[0,1,2],[]⟩,⟨4,[],[],none,[],[]⟩,⟨5,[],[],none,[4],[]⟩,⟨6,[],[],none,[0,1,2,3,4,5],[3]⟩,⟨7,[],[],none,[0,1,2,3,4,5,6],[]⟩]else[])
 frzAt:=(λi=>bif Nat.beq i 36 then[5]else[]) }
def ZeQ(p0 p1:ByteArray)(m:Mem)(R:RT):Prop:=
 ∃(b:Bool),br (ByteArray.toList p0 == ByteArray.toList (ByteArray.mk (Array.mk []))) ([bool true]=[bool b]) ([bool (ByteArray.toList p1 == ByteArray.toList (ByteArray.mk (Array.mk [])))]=[bool b])/\br b (∃(m''
 : Mem),Mem.le m m''/\Mem.le m'' m/\R (string p0) m'' []) (∃(b:Bool),br ((↑(ByteArray.size p1):Int) == (1:Int)) (Zai (0:Int) (ByteArray.size p1)/\[bool (decide (ZfD p1 (Int.toNat (0:Int)) < (128:
 Int)))]=[bool b]) ([bool false]=[bool b])/\br b (∃(f:Fx),Zai (0:Int) (ByteArray.size p1)/\∃(R_1:RT),R_1=f 3 [string p0,int u8 (ZfD p1 (Int.toNat (0:Int)))] m/\CX Tryz.prog 102 (Array.mk
 [string p0,int u8 (ZfD p1 (Int.toNat (0:Int)))]) m [] R_1/\Zal Shape.str R_1/\∀(s:ByteArray)(m':Mem),Mem.le m m'->R_1 (string s) m' []->Zai (0:Int) (ByteArray.size p1)/\∃(R_2:RT),R_2=f 6
 [string s,int u8 (ZfD p1 (Int.toNat (0:Int)))] m'/\CX Tryz.prog 101 (Array.mk [string s,int u8 (ZfD p1 (Int.toNat (0:Int)))]) m' [] R_2/\Zal Shape.str R_2/\∀(s:ByteArray)(m'_1:Mem),Mem.le m' m'_1->
 R_2 (string s) m'_1 []->∀(M:Mem),Mem.le m M->Mem.le m' M->Mem.le m'_1 M->∃(m'':Mem),Mem.le m m''/\Mem.le m'' M/\R (string s) m'' []) (∃(R_1:RT),True/\CX Tryz.prog 103 (Array.mk [string p1]) m [] R_1/\
 Zal (Shape.tup [Shape.cells,Shape.bool]) R_1/\∀(cs:List Value)(b:Bool)(m':Mem),Mem.le m m'->R_1 (tuple (Array.mk [agg (Array.mk cs),bool b])) m' []->∀(b_1:Nat),chk (Nat.beq (List.length cs) 256 &&
 Zhh cs) (br b (∀(m'_1:Mem),Mem.le m' m'_1->Mem.reads m'_1 b_1 0 cs->∃(R_2:RT),True/\CX Tryz.prog 105 (Array.mk [string p0,Value.pointer (some (Addr.mk b_1 0 none))]) m'_1 [] R_2/\Zal Shape.str R_2/\∀(s
 : ByteArray) (m':Mem),Mem.le m'_1 m'->R_2 (string s) m' []->∃(R_3:RT),True/\CX Tryz.prog 104 (Array.mk [string s,Value.pointer (some (Addr.mk b_1 0 none))]) m' [] R_3/\Zal Shape.str R_3/\∀(s:ByteArray)
 (m'_2:Mem),Mem.le m' m'_2->R_3 (string s) m'_2 []->∃(m'':Mem),Mem.le m m''/\Mem.le m'' m'_2/\R (string s) m'' []) (∃(R_2:RT),True/\CX Tryz.prog 107 (Array.mk [string p0,string p1]) m' [] R_2/\Zal
 Shape.str R_2/\∀(s:ByteArray)(m'_1:Mem),Mem.le m' m'_1->R_2 (string s) m'_1 []->∃(R_3:RT),True/\CX Tryz.prog 106 (Array.mk [string s,string p1]) m'_1 [] R_3/\Zal Shape.str R_3/\∀(s:ByteArray) (m':
 Mem),Mem.le m'_1 m'->R_3 (string s) m' []->∃(m'':Mem),Mem.le m m''/\Mem.le m'' m'/\R (string s) m'' []))))
theorem Zij(p0 p1:ByteArray)(m:Mem)(R:RT)(h:ZeQ p0 p1 m R):CX Tryz.prog 82 #[.string p0,.string p1] m [] R:=
 Zad (E:=ZjD) Zaj mix Tryz.func82 [.v (.string p0),.v (.string p1)] [] (by kernel_rfl) (Eq.mp (by kernel_rfl) h)
noncomputable def Zln:Env:=EB
def ZfB(p0:ByteArray)(m:Mem)(R:RT):Prop:=
 br (ByteArray.toList p0 == ByteArray.toList (ByteArray.mk (Array.mk []))) (∃(m'':Mem),Mem.le m m''/\Mem.le m'' m/\R (bool false) m'' []) (br (decide ((↑(ByteArray.size p0):Int) > (16:Int))) (∃(m'':Mem),
 Mem.le m m''/\Mem.le m'' m/\R (bool false) m'' []) (Zai (0:Int) (ByteArray.size p0)/\br (decide (ZfD p0 (Int.toNat (0:Int)) < (97:Int))) (∃(m'':Mem),Mem.le m m''/\Mem.le m'' m/\R (bool false) m''
 []) (Zai (0:Int) (ByteArray.size p0)/\br (decide (ZfD p0 (Int.toNat (0:Int)) > (122:Int))) (∃(m'':Mem),Mem.le m m''/\Mem.le m'' m/\R (bool false) m'' []) (∀(b:Nat),Mem.free m b->∃(R_1:RT),
 True/\CX Tryz.prog 81 (Array.mk [slice (some (Addr.mk b 0 none)) 3 3,string p0]) (Mem.add m b [string (ByteArray.mk (Array.mk [(109:UInt8),(105:UInt8),(110:UInt8)])),string (ByteArray.mk (Array.mk [(109:
 UInt8),(97:UInt8),(120:UInt8)])),string (ByteArray.mk (Array.mk [(110:UInt8),(117:UInt8),(109:UInt8)]))]) [] R_1/\Zal Shape.bool R_1/\∀(b_1:Bool)(m':Mem),Mem.le (Mem.add m b [string
 (ByteArray.mk (Array.mk [(109:UInt8),(105:UInt8),(110:UInt8)])),string (ByteArray.mk (Array.mk [(109:UInt8),(97:UInt8),(120:UInt8)])),string (ByteArray.mk (Array.mk [(110:UInt8),(117:UInt8),(109
 : UInt8)]))]) m'->R_1 (bool b_1) m' []->br b_1 (∃(m'':Mem),Mem.le m m''/\Mem.le m'' m'/\R (bool false) m'' []) (∃(R_2:RT),True/\CX Tryz.prog 82 (Array.mk [string p0,string (ByteArray.mk (Array.mk [(97:
 UInt8),(98:UInt8),(99:UInt8),(100:UInt8),(101:UInt8),(102:UInt8),(103:UInt8),(104:UInt8),(105:UInt8),(106:UInt8),(107:UInt8),(108:UInt8),(109:UInt8),(110:UInt8),(111:UInt8),
 (112:UInt8),(113:UInt8),(114:UInt8),(115:UInt8),(116:UInt8),(117:UInt8),(118:UInt8),(119:UInt8),(120:UInt8),(121:UInt8),(122:UInt8),(48:UInt8),(49:UInt8),(50:UInt8),(51:
 UInt8),(52:UInt8),(53:UInt8),(54:UInt8),(55:UInt8),(56:UInt8),(57:UInt8),(95:UInt8)]))]) m' [] R_2/\Zal Shape.str R_2/\∀(s:ByteArray)(m'_1:Mem),Mem.le m' m'_1->R_2 (string s) m'_1 []->∃
 (m'':Mem),Mem.le m m''/\Mem.le m'' m'_1/\R (bool (ByteArray.toList s == ByteArray.toList (ByteArray.mk (Array.mk [])))) m'' [])))))
theorem ZjE(p0:ByteArray)(m:Mem)(R:RT)(h:ZfB p0 m R):CX Tryz.prog 50 #[.string p0] m [] R:=
 Zad (E:=Zln) Zaj mix Tryz.func50 [.v (.string p0)] [] (by kernel_rfl) (Eq.mp (by kernel_rfl) h)
noncomputable def ZoP:Env:={ EB with
 joins:=(λi=>bif Nat.beq i 3 then some [(6,.bool)]else none) }
def Zik(p0:Int)(m:Mem)(R:RT):Prop:=
 br (p0 == (1:Int)) (∃(m'':Mem),Mem.le m m''/\Mem.le m'' m/\R (int i64 1) m'' []) (∃(b:Bool),br (decide (p0 ≥ (2:Int))) ([bool (decide (p0<=(7:Int)))]=[bool b]) ([bool false]=[bool b])/\br b (∃(m''
 : Mem),Mem.le m m''/\Mem.le m'' m/\R (int i64 2) m'' []) (∃(m'':Mem),Mem.le m m''/\Mem.le m'' m/\R (int i64 0) m'' []))
theorem Zm5(p0:Int)(m:Mem)(R:RT)(h:Zik p0 m R):CX Tryz.prog 112 #[.int .u8 p0] m [] R:=
 Zad (E:=ZoP) Zaj mix Tryz.func112 [.v (.int .u8 p0)] [] (by kernel_rfl) (Eq.mp (by kernel_rfl) h)
noncomputable def Zm6:Env:={ EB with
 joins:=(λi=>bif Nat.beq i 8 then some [(5,.bool)]else bif Nat.beq i 11 then some [(6,.bool)]else none)
 dr:=(λi=>bif Nat.beq i 1 then[⟨0,[1],[],none,[],[]⟩,⟨1,[1],[],none,[0],[]⟩,⟨2,[],[],none,[0,1],[]⟩,⟨3,[1],[],none,[],[]⟩,⟨4,[1],[],none,[3],[]⟩,⟨5,[],[],none,[3,4],[]⟩,⟨6,[1],[],none,[],[]⟩,⟨7,[1],[],none,[6],[]⟩,⟨8,[],[],none,[6,7],[]⟩,⟨9,[],[],none,[0,1,2,3,4,5],[]⟩,⟨10,[],[],none,[0,1,2,3,4,5,9],[]⟩,⟨11,[],[],none,[0,1,2,3,4,5,6,7,8,9,10],[]⟩]else bif Nat.beq i 12 then[⟨0,[1],[],none,[],[]⟩,⟨1,[1],[],none,[0],[]⟩,⟨2,[],[],none,[0,1],[]⟩,⟨3,[],[],none,[0,1,2],[]⟩,⟨4,[],[],none,[0,1,2,3],[]⟩,⟨5,[],[],none,[0,1,2,3,4],[]⟩,⟨6,[],[],none,[0,1,2,3,4,5],[]⟩,⟨7,[],[],none,[0,1,2,3,4,5,6],[]⟩,⟨8,[],[],none,[0,1,2,3,4,5,6,7],[]⟩,⟨9,[],[],none,[0,1,2,3,4,5,6,7,8],[]⟩,⟨10,[],[],none,[0,1,2,3,4,5,6,7,8,9],[]⟩,⟨11,[],[],none,[0,1,2,3,4,5,6,7,8,9,10],[]⟩,⟨12,[],[],none,rg 0 12,[]⟩,⟨13,[1],[],none,rg 0 13,[]⟩,⟨14,[1],[],none,rg 0 14,[]⟩,⟨15,[],[],none,rg 0 15,[]⟩,⟨16,[1],[],none,rg 0 13,[]⟩,⟨17,[1],[],none,rg 0 13++[16],[]⟩,⟨18,[],[],none,rg 0 13++[16,17],[]⟩,⟨19,[],[],none,rg 0 19,[]⟩,⟨20,[],[],none,rg 0 20,[]⟩,⟨21,[],[],none,rg 0 21,[]⟩,⟨22,[],[],none,rg 0 22,[]⟩,⟨23,[],[],none,rg 0 23,[]⟩,⟨24,[],[],none,rg 0 24,[]⟩,⟨25,[],[],none,rg 0 25,[]⟩]else[])
 frzNew:=[1]
 gb:=true }
def ZgQ(aA:Int)(aC:Value)(aB:ByteArray)(aD:Int)(aS:Option Addr)(aR aT:Nat)(m:Mem)(R:RT):Prop:=
 ∀(b:Nat)(m':Mem),Mem.le m m'->Mem.reads m' b 0 [int u8 aA,aC,string aB,int i64 aD,slice aS aR aT]->∃(f:Fx),∃(R_1:RT),R_1=f 5 [aC,Value.float FloatKind.f64 0] m'/\CX Tryz.prog
 111 (Array.mk [aC,Value.float FloatKind.f64 0]) m' [] R_1/\Zal Shape.bool R_1/\∀(af:Bool)(ag:Mem),Mem.le m' ag->R_1 (bool af) ag []->∀(M:Mem),Mem.le m' M->Mem.le ag M->br (aA == (8:Int)) (∃(R_2
 : RT),True/\CX Tryz.prog 83 (Array.mk [aC]) M [] R_2/\Zal Shape.bool R_2/\∀(ac:Bool)(m':Mem),Mem.le M m'->R_2 (bool ac) m' []->∃(ab:Bool),br (aA == (1:Int)) (br ((↑aR:Int) == (1:Int)) (∃
 (ae:Nat),∃(o:Nat),aS=some (Addr.mk ae o none)/\Zai (0:Int) aR/\∃(v:Value),m' ae (o+0+0)=some v/\chk (Za3 u8 v&&decide (u8=u8)) ([some (Box.mk b [int u8 aA,aC,string aB,
 int i64 aD,slice aS aR aT] 50 5 true true)]=[some (Box.mk b [int u8 aA,aC,string aB,int i64 aD,slice aS aR aT] 50 5 true true)]/\[bool (RowKit.intOf v == (8:Int))]=[bool ab]))
 ([some (Box.mk b [int u8 aA,aC,string aB,int i64 aD,slice aS aR aT] 50 5 true true)]=[some (Box.mk b [int u8 aA,aC,string aB,int i64 aD,slice aS aR aT] 50 5 true true)]/\
 [bool false]=[bool ab])) ([some (Box.mk b [int u8 aA,aC,string aB,int i64 aD,slice aS aR aT] 50 5 true true)]=[some (Box.mk b [int u8 aA,aC,string aB,int i64 aD,slice aS aR
 aT] 50 5 true true)]/\[bool false]=[bool ab])/\∃(f:Fx),br (decide (aA<=(10:Int))) (br (ByteArray.toList aB == ByteArray.toList (ByteArray.mk (Array.mk []))) (br ac (br (aD == (0:Int)) (∃(R_3:
 RT),R_3=f 18 [int u8 aA] m'/\CX Tryz.prog 112 (Array.mk [int u8 aA]) m' [] R_3/\Zal (Shape.int i64) R_3/\∀(n:Int)(ad:Mem),Mem.le m' ad->R_3 (int i64 n) ad []->br ((↑aR:Int) == n) (∀(M:Mem),
 Mem.le m' M->Mem.le ad M->∃(m'':Mem),Mem.le m m''/\Mem.le m'' M/\R (bool !ab) m'' []) (∀(M:Mem),Mem.le m' M->Mem.le ad M->∃(m'':Mem),Mem.le m m''/\Mem.le m'' M/\R (bool false) m'' [])) (∀(M:Mem),
 Mem.le m' M->Mem.le m' M->∃(m'':Mem),Mem.le m m''/\Mem.le m'' M/\R (bool false) m'' [])) (∀(M:Mem),Mem.le m' M->Mem.le m' M->∃(m'':Mem),Mem.le m m''/\Mem.le m'' M/\R (bool false) m'' [])) (∀(M:
 Mem),Mem.le m' M->Mem.le m' M->∃(m'':Mem),Mem.le m m''/\Mem.le m'' M/\R (bool false) m'' [])) (∀(M:Mem),Mem.le m' M->Mem.le m' M->∃(m'':Mem),Mem.le m m''/\Mem.le m'' M/\R (bool false) m'' [])) (br
 (aA == (9:Int)) (∃(R_2:RT),True/\CX Tryz.prog 50 (Array.mk [string aB]) M [] R_2/\Zal Shape.bool R_2/\∀(ac:Bool)(m':Mem),Mem.le M m'->R_2 (bool ac) m' []->∃(ab:Bool),br (aA == (1:Int)) (br
 ((↑aR:Int) == (1:Int)) (∃(ae:Nat),∃(o:Nat),aS=some (Addr.mk ae o none)/\Zai (0:Int) aR/\∃(v:Value),m' ae (o+0+0)=some v/\chk (Za3 u8 v&&decide (u8=u8)) ([some (Box.mk b
 [int u8 aA,aC,string aB,int i64 aD,slice aS aR aT] 50 5 true true)]=[some (Box.mk b [int u8 aA,aC,string aB,int i64 aD,slice aS aR aT] 50 5 true true)]/\[bool (RowKit.intOf v
 == (8:Int))]=[bool ab])) ([some (Box.mk b [int u8 aA,aC,string aB,int i64 aD,slice aS aR aT] 50 5 true true)]=[some (Box.mk b [int u8 aA,aC,string aB,int i64 aD,slice aS aR
 aT] 50 5 true true)]/\[bool false]=[bool ab])) ([some (Box.mk b [int u8 aA,aC,string aB,int i64 aD,slice aS aR aT] 50 5 true true)]=[some (Box.mk b [int u8 aA,aC,string aB,int i64
 aD,slice aS aR aT] 50 5 true true)]/\[bool false]=[bool ab])/\∃(f:Fx),br (decide (aA<=(10:Int))) (br ac (br af (br (aD == (0:Int)) (∃(R_3:RT),R_3=f 18 [int u8 aA] m'/\CX Tryz.prog
 112 (Array.mk [int u8 aA]) m' [] R_3/\Zal (Shape.int i64) R_3/\∀(n:Int)(ad:Mem),Mem.le m' ad->R_3 (int i64 n) ad []->br ((↑aR:Int) == n) (∀(M:Mem),Mem.le m' M->Mem.le ad M->∃(m'':Mem),Mem.le
 m m''/\Mem.le m'' M/\R (bool !ab) m'' []) (∀(M:Mem),Mem.le m' M->Mem.le ad M->∃(m'':Mem),Mem.le m m''/\Mem.le m'' M/\R (bool false) m'' [])) (∀(M:Mem),Mem.le m' M->Mem.le m' M->∃(m'':Mem),Mem.le
 m m''/\Mem.le m'' M/\R (bool false) m'' [])) (∀(M:Mem),Mem.le m' M->Mem.le m' M->∃(m'':Mem),Mem.le m m''/\Mem.le m'' M/\R (bool false) m'' [])) (∀(M:Mem),Mem.le m' M->Mem.le m' M->∃(m'':Mem),
 Mem.le m m''/\Mem.le m'' M/\R (bool false) m'' [])) (∀(M:Mem),Mem.le m' M->Mem.le m' M->∃(m'':Mem),Mem.le m m''/\Mem.le m'' M/\R (bool false) m'' [])) (br (aA == (10:Int)) (∃(ac:Bool),br (decide
 (aD ≥ (0:Int))) ([some (Box.mk b [int u8 aA,aC,string aB,int i64 aD,slice aS aR aT] 50 5 true true)]=[some (Box.mk b [int u8 aA,aC,string aB,int i64 aD,slice aS aR aT] 50
 5 true true)]/\[bool (decide (aD<=(9:Int)))]=[bool ac]) ([some (Box.mk b [int u8 aA,aC,string aB,int i64 aD,slice aS aR aT] 50 5 true true)]=[some (Box.mk b [int u8 aA,aC,string
 aB,int i64 aD,slice aS aR aT] 50 5 true true)]/\[bool false]=[bool ac])/\∃(ab:Bool),br (aA == (1:Int)) (br ((↑aR:Int) == (1:Int)) (∃(ae:Nat),∃(o:Nat),aS=some (Addr.mk ae o
 none)/\Zai (0:Int) aR/\∃(v:Value),M ae (o+0+0)=some v/\chk (Za3 u8 v&&decide (u8=u8)) ([some (Box.mk b [int u8 aA,aC,string aB,int i64 aD,slice aS aR aT] 50 5 true true)]
 = [some (Box.mk b [int u8 aA,aC,string aB,int i64 aD,slice aS aR aT] 50 5 true true)]/\[bool (RowKit.intOf v == (8:Int))]=[bool ab])) ([some (Box.mk b [int u8 aA,aC,string aB,int i64
 aD,slice aS aR aT] 50 5 true true)]=[some (Box.mk b [int u8 aA,aC,string aB,int i64 aD,slice aS aR aT] 50 5 true true)]/\[bool false]=[bool ab])) ([some (Box.mk b [int u8 aA,
 aC,string aB,int i64 aD,slice aS aR aT] 50 5 true true)]=[some (Box.mk b [int u8 aA,aC,string aB,int i64 aD,slice aS aR aT] 50 5 true true)]/\[bool false]=[bool ab])/\∃(f:
 Fx),br (decide (aA<=(10:Int))) (br (ByteArray.toList aB == ByteArray.toList (ByteArray.mk (Array.mk []))) (br af (br ac (∃(R_2:RT),R_2=f 18 [int u8 aA] M/\CX Tryz.prog 112 (Array.mk [int u8 aA]) M []
 R_2/\Zal (Shape.int i64) R_2/\∀(n:Int)(m':Mem),Mem.le M m'->R_2 (int i64 n) m' []->br ((↑aR:Int) == n) (∀(aa:Mem),Mem.le M aa->Mem.le m' aa->∃(m'':Mem),Mem.le m m''/\Mem.le m'' aa/\R (bool
 !ab) m'' []) (∀(aa:Mem),Mem.le M aa->Mem.le m' aa->∃(m'':Mem),Mem.le m m''/\Mem.le m'' aa/\R (bool false) m'' [])) (∀(aa:Mem),Mem.le M aa->Mem.le M aa->∃(m'':Mem),Mem.le m m''/\Mem.le m'' aa/\R
 (bool false) m'' [])) (∀(aa:Mem),Mem.le M aa->Mem.le M aa->∃(m'':Mem),Mem.le m m''/\Mem.le m'' aa/\R (bool false) m'' [])) (∀(aa:Mem),Mem.le M aa->Mem.le M aa->∃(m'':Mem),Mem.le m m''/\Mem.le m''
 aa/\R (bool false) m'' [])) (∀(aa:Mem),Mem.le M aa->Mem.le M aa->∃(m'':Mem),Mem.le m m''/\Mem.le m'' aa/\R (bool false) m'' [])) (br (aA == (0:Int)) (∃(m'':Mem),Mem.le m m''/\Mem.le m'' M/\R (bool
 false) m'' []) (∃(ac:Bool),br (aA == (1:Int)) (br ((↑aR:Int) == (1:Int)) (∃(ab:Nat),∃(o:Nat),aS=some (Addr.mk ab o none)/\Zai (0:Int) aR/\∃(v:Value),M ab (o+0+0)=some v/\
 chk (Za3 u8 v&&decide (u8=u8)) ([some (Box.mk b [int u8 aA,aC,string aB,int i64 aD,slice aS aR aT] 50 5 true true)]=[some (Box.mk b [int u8 aA,aC,string aB,int i64 aD,slice aS
 aR aT] 50 5 true true)]/\[bool (RowKit.intOf v == (8:Int))]=[bool ac])) ([some (Box.mk b [int u8 aA,aC,string aB,int i64 aD,slice aS aR aT] 50 5 true true)]=[some (Box.mk b [int u8
 aA,aC,string aB,int i64 aD,slice aS aR aT] 50 5 true true)]/\[bool false]=[bool ac])) ([some (Box.mk b [int u8 aA,aC,string aB,int i64 aD,slice aS aR aT] 50 5 true true)] =
 [some (Box.mk b [int u8 aA,aC,string aB,int i64 aD,slice aS aR aT] 50 5 true true)]/\[bool false]=[bool ac])/\∃(f:Fx),br (decide (aA<=(10:Int))) (br (ByteArray.toList aB ==
 ByteArray.toList (ByteArray.mk (Array.mk []))) (br af (br (aD == (0:Int)) (∃(R_2:RT),R_2=f 18 [int u8 aA] M/\CX Tryz.prog 112 (Array.mk [int u8 aA]) M [] R_2/\Zal (Shape.int i64) R_2/\∀(n:Int) (m':
 Mem),Mem.le M m'->R_2 (int i64 n) m' []->br ((↑aR:Int) == n) (∀(aa:Mem),Mem.le M aa->Mem.le m' aa->∃(m'':Mem),Mem.le m m''/\Mem.le m'' aa/\R (bool !ac) m'' []) (∀(aa:Mem),Mem.le M aa->Mem.le m'
 aa->∃(m'':Mem),Mem.le m m''/\Mem.le m'' aa/\R (bool false) m'' [])) (∀(aa:Mem),Mem.le M aa->Mem.le M aa->∃(m'':Mem),Mem.le m m''/\Mem.le m'' aa/\R (bool false) m'' [])) (∀(aa:Mem),Mem.le M aa->
 Mem.le M aa->∃(m'':Mem),Mem.le m m''/\Mem.le m'' aa/\R (bool false) m'' [])) (∀(aa:Mem),Mem.le M aa->Mem.le M aa->∃(m'':Mem),Mem.le m m''/\Mem.le m'' aa/\R (bool false) m'' [])) (∀(aa:Mem),Mem.le
 M aa->Mem.le M aa->∃(m'':Mem),Mem.le m m''/\Mem.le m'' aa/\R (bool false) m'' [])))))
theorem Zlo(aA:Int)(aC:Value)(aB:ByteArray)(aD:Int)(aS:Option Addr)(aR aT:Nat)(m:Mem)(R:RT)(h:ZgQ aA aC aB aD aS aR aT m R):CX Tryz.prog 92 #[.agg #[.int .u8 aA,aC,.string aB,.int .i64 aD,.slice aS aR aT]] m [] R:=
 Zad (E:=Zm6) Zaj mix Tryz.func92 [.v (.agg #[.int .u8 aA,aC,.string aB,.int .i64 aD,.slice aS aR aT])] [] (by kernel_rfl) (Eq.mp (by kernel_rfl) h)
noncomputable def Zm7:Env:={ EB with
 loops:=(λi=>bif Nat.beq i 5 then⟨[(9,.agg [.int .u8,.any,.str,.int .i64,.slice])],[2],[],false⟩ else⟨[],[],[],false⟩)
 frzNew:=[1] }
def ZgR(aA:Int)(aC:Value)(aB:ByteArray)(aD:Int)(aS:Option Addr)(aR aT:Nat)(m:Mem)(R:RT):Prop:=
 ∀(b:Nat)(m':Mem),Mem.le m m'->Mem.reads m' b 0 [int u8 aA,aC,string aB,int i64 aD,slice aS aR aT]->∀(b_1:Nat),∃(R_1:RT),True/\CX Tryz.prog 45 (Array.mk [agg (Array.mk [int u8 aA,
 aC,string aB,int i64 aD,slice aS aR aT])]) m' [] R_1/\Zal Shape.bool R_1/\∀(b_2:Bool)(m'_1:Mem),Mem.le m' m'_1->R_1 (bool b_2) m'_1 []->br (!b_2) (∃(m'':Mem),Mem.le m m''/\Mem.le m''
 m'_1/\R (bool false) m'' []) (∃(R_2:RT),True/\CX Tryz.prog 80 (Array.mk [agg (Array.mk [int u8 aA,aC,string aB,int i64 aD,slice aS aR aT])]) m'_1 [] R_2/\Zal Shape.fn R_2/\∀(g:Nat) (fi
 ca:List Value) (m':Mem),Mem.le m'_1 m'->R_2 (func (Fn.func g) (Array.mk fi) (Array.mk ca)) m' []->∃(xs:List (List Value)),IX Tryz.prog g fi ca m' xs/\(∀(x:List Value),x∈xs->Shape.fitsL [Shape.agg
 [Shape.int u8,Shape.any,Shape.str,Shape.int i64,Shape.slice]] x=true)/\∃(I:IT),I [] [[bool false]] [] m' 0/\(∀(n:Int)(v:Value)(s:ByteArray)(n_1:Int)(a:Option Addr)(n_2 c:Nat) (cs:List
 Value) (m'_2:Mem) (n_3:Nat),Mem.le m' m'_2->List.get?Internal xs n_3=some [agg (Array.mk [int u8 n,v,string s,int i64 n_1,slice a n_2 c])]->I [] [cs] [] m'_2 n_3->∀(b_3:Nat),chk (Value.oneCell' v &&
 true) (∃(R_3:RT),True/\CX Tryz.prog 92 (Array.mk [agg (Array.mk [int u8 n,v,string s,int i64 n_1,slice a n_2 c])]) m'_2 [] R_3/\Zal Shape.bool R_3/\∀(b_4:Bool)(m':Mem),Mem.le m'_2 m'->R_3 (bool b_4)
 m' []->br (!b_4) ([some (Box.mk b_1 [] 4 1 false true),some (Box.mk b [int u8 aA,aC,string aB,int i64 aD,slice aS aR aT] 50 5 true true)]=[some (Box.mk b_1 [] 4 1 false true),some (Box.mk b
 [int u8 aA,aC,string aB,int i64 aD,slice aS aR aT] 50 5 true true)]/\∃(m'':Mem),Mem.le m m''/\Mem.le m'' m'/\R (bool false) m'' []) ([some (Box.mk b_1 [] 4 1 false true),some (Box.mk b [int
 u8 aA,aC,string aB,int i64 aD,slice aS aR aT] 50 5 true true)]=[some (Box.mk b_1 [] 4 1 false true),some (Box.mk b [int u8 aA,aC,string aB,int i64 aD,slice aS aR aT] 50 5
 true true)]/\I [] [cs] [] m' (n_3+1))))/\∀(cs:List Value)(m'_2:Mem),Mem.le m' m'_2->I [] [cs] [] m'_2 (List.length xs)->∃(m'':Mem),Mem.le m m''/\Mem.le m'' m'_2/\R (bool true) m'' [])
theorem Zlp(aA:Int)(aC:Value)(aB:ByteArray)(aD:Int)(aS:Option Addr)(aR aT:Nat)(m:Mem)(R:RT)(h:ZgR aA aC aB aD aS aR aT m R):CX Tryz.prog 67 #[.agg #[.int .u8 aA,aC,.string aB,.int .i64 aD,.slice aS aR aT]] m [] R:=
 Zad (E:=Zm7) Zaj mix Tryz.func67 [.v (.agg #[.int .u8 aA,aC,.string aB,.int .i64 aD,.slice aS aR aT])] [] (by kernel_rfl) (Eq.mp (by kernel_rfl) h)
noncomputable def ZaB:Env:={ EB with
 loops:=(λi=>bif Nat.beq i 4 then⟨[(17,.int .i64)],[],[],false⟩ else⟨[],[],[],false⟩) }
def Zak(p0a:Option Addr)(p0n p0c:Nat)(p1a:Option Addr)(p1n p1c p2g:Nat)(p2fi p2ca:List Value)(m:Mem)(R:RT):Prop:=
 br (!(↑p0n:Int) == (↑p1n:Int)) (∃(m'':Mem),Mem.le m m''/\Mem.le m'' m/\R (bool false) m'' []) (∃(I:IT),(∃(n:Nat),I [int i64 0] [] [] m n)/\∀(n:Int)(m':Mem)(n_1:Nat),Mem.le m m'->I [int i64
 n] [] [] m' n_1->br (decide (n < (↑p0n:Int))) (∃(b:Nat),∃(o:Nat),p0a=some (Addr.mk b o none)/\Zai n p0n/\∃(v:Value),∃(v_1:Value),∃(v_2:Value),∃(v_3:Value),∃(v_4:Value),Mem.reads m'
 b (o+Int.toNat n*5) [v,v_1,v_2,v_3,v_4]/\∀(b:Nat),chk (Value.oneCell' v&&(Value.oneCell' v_1&&(Value.oneCell' v_2&&(Value.oneCell' v_3&&(Value.oneCell' v_4&&true))))) (∃(b:Nat),∃(o:Nat),
 p1a=some (Addr.mk b o none)/\Zai n p1n/\∃(v_5:Value),∃(v_6:Value),∃(v_7:Value),∃(v_8:Value),∃(v_9:Value),Mem.reads m' b (o+Int.toNat n*5) [v_5,v_6,v_7,v_8,v_9]/\∀(b:Nat),chk
 (Value.oneCell' v_5&&(Value.oneCell' v_6&&(Value.oneCell' v_7&&(Value.oneCell' v_8&&(Value.oneCell' v_9&&true))))) (∃(R_1:RT),True/\CX Tryz.prog p2g (Array.mk (List.append (List.append p2fi [agg (Array.mk
 [v,v_1,v_2,v_3,v_4]),agg (Array.mk [v_5,v_6,v_7,v_8,v_9])]) p2ca)) m' [] R_1/\Zal Shape.bool R_1/\∀(b:Bool)(m'_1:Mem),Mem.le m' m'_1->R_1 (bool b) m'_1 []->br (!b) (∃(m'':Mem),Mem.le m m''/\
 Mem.le m'' m'_1/\R (bool false) m'' []) (∃(n':Nat),n' < n_1/\I [int i64 (IntKind.wrap i64 (n+(1:Int)))] [] [] m'_1 n')))) (∃(m'':Mem),Mem.le m m''/\Mem.le m'' m'/\R (bool true) m'' []))
theorem Zay(p0a:Option Addr)(p0n p0c:Nat)(p1a:Option Addr)(p1n p1c p2g:Nat)(p2fi p2ca:List Value)(m:Mem)(R:RT)(h:Zak p0a p0n p0c p1a p1n p1c p2g p2fi p2ca m R):CX Tryz.prog 124 #[.slice p0a p0n p0c,.slice p1a p1n p1c,.func (.func p2g) p2fi.toArray p2ca.toArray] m [] R:=
 Zad (E:=ZaB) Zaj mix Tryz.func124 [.v (.slice p0a p0n p0c),.v (.slice p1a p1n p1c),.v (.func (.func p2g) p2fi.toArray p2ca.toArray)] [] (by kernel_rfl) (Eq.mp (by kernel_rfl) h)
noncomputable def ZoQ:Env:={ EB with
 joins:=(λi=>bif Nat.beq i 1 then some [(4,.bool)]else none)
 frzNew:=[2,3] }
def Zil(aA:Int)(aC:Value)(aB:ByteArray)(aD:Int)(aS:Option Addr)(aR aT:Nat)(aW:Int)(aX:Value)(aV:ByteArray)(aY:Int)(bV:Option Addr)(bU bW:Nat)(m:Mem)(R:RT):Prop:=
 ∀(b:Nat)(m':Mem),Mem.le m m'->Mem.reads m' b 0 [int u8 aA,aC,string aB,int i64 aD,slice aS aR aT]->∀(aa:Nat)(ac:Mem),Mem.le m' ac->Mem.reads ac aa 0 [int u8 aW,aX,string aV,
 int i64 aY,slice bV bU bW]->∃(ab:Bool),br (aA == aW) (∃(R:RT),True/\CX Tryz.prog 111 (Array.mk [aC,aX]) ac [] R/\Zal Shape.bool R/\∀(ad:Bool)(m':Mem),Mem.le ac m'->R (bool ad)
 m' []->br ad (br (ByteArray.toList aB == ByteArray.toList aV) (br (aD == aY) (∃(R:RT),True/\CX Tryz.prog 124 (Array.mk [slice aS aR aT,slice bV bU bW,func (Fn.func 113) (Array.mk [])
 (Array.mk [])]) m' [] R/\Zal Shape.bool R/\∀(ae:Bool)(af:Mem),Mem.le m' af->R (bool ae) af []->[some (Box.mk aa [int u8 aW,aX,string aV,int i64 aY,slice bV bU bW] 50 5 true true),some
 (Box.mk b [int u8 aA,aC,string aB,int i64 aD,slice aS aR aT] 50 5 true true)]=[some (Box.mk aa [int u8 aW,aX,string aV,int i64 aY,slice bV bU bW] 50 5 true true),some (Box.mk
 b [int u8 aA,aC,string aB,int i64 aD,slice aS aR aT] 50 5 true true)]/\[bool ae]=[bool ab]) ([some (Box.mk aa [int u8 aW,aX,string aV,int i64 aY,slice bV bU bW] 50 5 true
 true),some (Box.mk b [int u8 aA,aC,string aB,int i64 aD,slice aS aR aT] 50 5 true true)]=[some (Box.mk aa [int u8 aW,aX,string aV,int i64 aY,slice bV bU bW] 50 5 true true),
 some (Box.mk b [int u8 aA,aC,string aB,int i64 aD,slice aS aR aT] 50 5 true true)]/\[bool false]=[bool ab])) ([some (Box.mk aa [int u8 aW,aX,string aV,int i64 aY,slice bV bU
 bW] 50 5 true true),some (Box.mk b [int u8 aA,aC,string aB,int i64 aD,slice aS aR aT] 50 5 true true)]=[some (Box.mk aa [int u8 aW,aX,string aV,int i64 aY,slice bV bU bW]
 50 5 true true),some (Box.mk b [int u8 aA,aC,string aB,int i64 aD,slice aS aR aT] 50 5 true true)]/\[bool false]=[bool ab])) ([some (Box.mk aa [int u8 aW,aX,string aV,int i64 aY,
 slice bV bU bW] 50 5 true true),some (Box.mk b [int u8 aA,aC,string aB,int i64 aD,slice aS aR aT] 50 5 true true)]=[some (Box.mk aa [int u8 aW,aX,string aV,int i64 aY,slice
 bV bU bW] 50 5 true true),some (Box.mk b [int u8 aA,aC,string aB,int i64 aD,slice aS aR aT] 50 5 true true)]/\[bool false]=[bool ab])) ([some (Box.mk aa [int u8 aW,aX,string aV,
 int i64 aY,slice bV bU bW] 50 5 true true),some (Box.mk b [int u8 aA,aC,string aB,int i64 aD,slice aS aR aT] 50 5 true true)]=[some (Box.mk aa [int u8 aW,aX,string aV,int i64
 aY,slice bV bU bW] 50 5 true true),some (Box.mk b [int u8 aA,aC,string aB,int i64 aD,slice aS aR aT] 50 5 true true)]/\[bool false]=[bool ab])/\∃(m'':Mem),Mem.le m m''/\Mem.le
 m'' ac/\R (bool ab) m'' []
theorem Zm8(aA:Int)(aC:Value)(aB:ByteArray)(aD:Int)(aS:Option Addr)(aR aT:Nat)(aW:Int)(aX:Value)(aV:ByteArray)(aY:Int)(bV:Option Addr)(bU bW:Nat)(m:Mem)(R:RT)(h:Zil aA aC aB aD aS aR aT aW aX aV aY bV bU bW m R):CX Tryz.prog 113 #[.agg #[.int .u8 aA,aC,.string aB,.int .i64 aD,.slice aS aR aT],.agg #[.int .u8 aW,aX,.string aV,.int .i64 aY,.slice bV bU bW]] m [] R:=
 Zad (E:=ZoQ) Zaj mix Tryz.func113 [.v (.agg #[.int .u8 aA,aC,.string aB,.int .i64 aD,.slice aS aR aT]),.v (.agg #[.int .u8 aW,aX,.string aV,.int .i64 aY,.slice bV bU bW])] [] (by kernel_rfl) (Eq.mp (by kernel_rfl) h)
noncomputable def ZoR:Env:={ EB with
 joins:=(λi=>bif Nat.beq i 1 then some [(4,.bool)]else none)
 frzNew:=[2,3] }
def Zim(aA:Int)(aC:Value)(aB:ByteArray)(aD:Int)(aS:Option Addr)(aR aT:Nat)(aW:Int)(aX:Value)(aV:ByteArray)(aY:Int)(bV:Option Addr)(bU bW:Nat)(m:Mem)(R:RT):Prop:=
 ∀(b:Nat)(m':Mem),Mem.le m m'->Mem.reads m' b 0 [int u8 aA,aC,string aB,int i64 aD,slice aS aR aT]->∀(b_1:Nat)(m'_1:Mem),Mem.le m' m'_1->Mem.reads m'_1 b_1 0 [int u8 aW,aX,
 string aV,int i64 aY,slice bV bU bW]->∃(b_2:Bool),(∃(R:RT),True/\CX Tryz.prog 45 (Array.mk [agg (Array.mk [int u8 aA,aC,string aB,int i64 aD,slice aS aR aT])]) m'_1 [] R/\
 Zal Shape.bool R/\∀(b_3:Bool)(m':Mem),Mem.le m'_1 m'->R (bool b_3) m' []->br b_3 (∃(R:RT),True/\CX Tryz.prog 45 (Array.mk [agg (Array.mk [int u8 aW,aX,string aV,int i64 aY,slice bV bU
 bW])]) m' [] R/\Zal Shape.bool R/\∀(b_4:Bool)(m'_2:Mem),Mem.le m' m'_2->R (bool b_4) m'_2 []->br b_4 (∃(R:RT),True/\CX Tryz.prog 113 (Array.mk [agg (Array.mk [int u8 aA,aC,string aB,int i64
 aD,slice aS aR aT]),agg (Array.mk [int u8 aW,aX,string aV,int i64 aY,slice bV bU bW])]) m'_2 [] R/\Zal Shape.bool R/\∀(b_5:Bool)(m':Mem),Mem.le m'_2 m'->R (bool b_5) m' []->
 [some (Box.mk b_1 [int u8 aW,aX,string aV,int i64 aY,slice bV bU bW] 50 5 true true),some (Box.mk b [int u8 aA,aC,string aB,int i64 aD,slice aS aR aT] 50 5 true true)]=[some
 (Box.mk b_1 [int u8 aW,aX,string aV,int i64 aY,slice bV bU bW] 50 5 true true),some (Box.mk b [int u8 aA,aC,string aB,int i64 aD,slice aS aR aT] 50 5 true true)]/\[bool b_5] =
 [bool b_2]) ([some (Box.mk b_1 [int u8 aW,aX,string aV,int i64 aY,slice bV bU bW] 50 5 true true),some (Box.mk b [int u8 aA,aC,string aB,int i64 aD,slice aS aR aT] 50 5 true
 true)]=[some (Box.mk b_1 [int u8 aW,aX,string aV,int i64 aY,slice bV bU bW] 50 5 true true),some (Box.mk b [int u8 aA,aC,string aB,int i64 aD,slice aS aR aT] 50 5 true true)]
 /\ [bool false]=[bool b_2])) ([some (Box.mk b_1 [int u8 aW,aX,string aV,int i64 aY,slice bV bU bW] 50 5 true true),some (Box.mk b [int u8 aA,aC,string aB,int i64 aD,slice aS aR
 aT] 50 5 true true)]=[some (Box.mk b_1 [int u8 aW,aX,string aV,int i64 aY,slice bV bU bW] 50 5 true true),some (Box.mk b [int u8 aA,aC,string aB,int i64 aD,slice aS aR aT]
 50 5 true true)]/\[bool false]=[bool b_2]))/\∃(m'':Mem),Mem.le m m''/\Mem.le m'' m'_1/\R (bool b_2) m'' []
theorem Zm9(aA:Int)(aC:Value)(aB:ByteArray)(aD:Int)(aS:Option Addr)(aR aT:Nat)(aW:Int)(aX:Value)(aV:ByteArray)(aY:Int)(bV:Option Addr)(bU bW:Nat)(m:Mem)(R:RT)(h:Zim aA aC aB aD aS aR aT aW aX aV aY bV bU bW m R):CX Tryz.prog 93 #[.agg #[.int .u8 aA,aC,.string aB,.int .i64 aD,.slice aS aR aT],.agg #[.int .u8 aW,aX,.string aV,.int .i64 aY,.slice bV bU bW]] m [] R:=
 Zad (E:=ZoR) Zaj mix Tryz.func93 [.v (.agg #[.int .u8 aA,aC,.string aB,.int .i64 aD,.slice aS aR aT]),.v (.agg #[.int .u8 aW,aX,.string aV,.int .i64 aY,.slice bV bU bW])] [] (by kernel_rfl) (Eq.mp (by kernel_rfl) h)
noncomputable def ZoS:Env:={ EB with
 frzNew:=[1] }
def Zin(aA:Int)(aC:Value)(aB:ByteArray)(aD:Int)(aS:Option Addr)(aR aT:Nat)(m:Mem)(R:RT):Prop:=
 ∀(b:Nat)(m':Mem),Mem.le m m'->Mem.reads m' b 0 [int u8 aA,aC,string aB,int i64 aD,slice aS aR aT]->∃(R_1:RT),True/\CX Tryz.prog 45 (Array.mk [agg (Array.mk [int u8 aA,aC,string
 aB,int i64 aD,slice aS aR aT])]) m' [] R_1/\Zal Shape.bool R_1/\∀(b:Bool)(m'_1:Mem),Mem.le m' m'_1->R_1 (bool b) m'_1 []->br (!b) (∃(m'':Mem),Mem.le m m''/\Mem.le m'' m'_1/\R (slice none
 0 0) m'' []) (∃(R_2:RT),True/\CX Tryz.prog 115 (Array.mk [slice none 0 0,agg (Array.mk [int u8 aA,aC,string aB,int i64 aD,slice aS aR aT])]) m'_1 [] R_2/\Zal Shape.slice R_2/\∀(a:Option
 Addr) (n c:Nat) (m':Mem),Mem.le m'_1 m'->R_2 (slice a n c) m' []->∃(m'':Mem),Mem.le m m''/\Mem.le m'' m'/\R (slice a n c) m'' [])
theorem Zna(aA:Int)(aC:Value)(aB:ByteArray)(aD:Int)(aS:Option Addr)(aR aT:Nat)(m:Mem)(R:RT)(h:Zin aA aC aB aD aS aR aT m R):CX Tryz.prog 96 #[.agg #[.int .u8 aA,aC,.string aB,.int .i64 aD,.slice aS aR aT]] m [] R:=
 Zad (E:=ZoS) Zaj mix Tryz.func96 [.v (.agg #[.int .u8 aA,aC,.string aB,.int .i64 aD,.slice aS aR aT])] [] (by kernel_rfl) (Eq.mp (by kernel_rfl) h)
noncomputable def ZoT:Env:={ EB with
 loops:=(λi=>bif Nat.beq i 5 then⟨[(9,.agg [.int .u8,.any,.str,.int .i64,.slice])],[3],[],false⟩ else⟨[],[],[],false⟩)
 frzNew:=[1] }
def Zio(aA:Int)(aC:Value)(aB:ByteArray)(aD:Int)(aS:Option Addr)(aR aT:Nat)(m:Mem)(R:RT):Prop:=
 ∀(b:Nat)(m':Mem),Mem.le m m'->Mem.reads m' b 0 [int u8 aA,aC,string aB,int i64 aD,slice aS aR aT]->∀(b_1:Nat),∃(R_1:RT),True/\CX Tryz.prog 45 (Array.mk [agg (Array.mk [int u8 aA,
 aC,string aB,int i64 aD,slice aS aR aT])]) m' [] R_1/\Zal Shape.bool R_1/\∀(b_2:Bool)(m'_1:Mem),Mem.le m' m'_1->R_1 (bool b_2) m'_1 []->br b_2 (∃(R_2:RT),True/\CX Tryz.prog 80
 (Array.mk [agg (Array.mk [int u8 aA,aC,string aB,int i64 aD,slice aS aR aT])]) m'_1 [] R_2/\Zal Shape.fn R_2/\∀(g:Nat)(fi ca:List Value)(m':Mem),Mem.le m'_1 m'->R_2 (func (Fn.func g)
 (Array.mk fi) (Array.mk ca)) m' []->∃(xs:List (List Value)),IX Tryz.prog g fi ca m' xs/\(∀(x:List Value),x∈xs->Shape.fitsL [Shape.agg [Shape.int u8,Shape.any,Shape.str,Shape.int i64,Shape.slice]] x =
 true)/\∃(I:IT),I [] [[int i64 (-1:Int)]] [] m' 0/\(∀(n:Int)(v:Value)(s:ByteArray)(n_1:Int)(a:Option Addr)(n_2 c:Nat)(cs:List Value)(m'_2:Mem)(n_3:Nat),Mem.le m' m'_2->
 List.get?Internal xs n_3=some [agg (Array.mk [int u8 n,v,string s,int i64 n_1,slice a n_2 c])]->I [] [cs] [] m'_2 n_3->∀(b_3:Nat),chk (Value.oneCell' v&&true) (br (n == (10:Int)) (Eng.ZsZ cs 0 λ(v:
 Value)=>chk (Za3 i64 v&&decide (i64=i64)) ([some (Box.mk b_1 [] 3 1 false true),some (Box.mk b [int u8 aA,aC,string aB,int i64 aD,slice aS aR aT] 50 5 true true)]=[some (Box.mk b_1 [] 3 1
 false true),some (Box.mk b [int u8 aA,aC,string aB,int i64 aD,slice aS aR aT] 50 5 true true)]/\I [] [[int i64 (if n_1 > RowKit.intOf v then n_1 else RowKit.intOf v)]] [] m'_2 (n_3+1))) ([some
 (Box.mk b_1 [] 3 1 false true),some (Box.mk b [int u8 aA,aC,string aB,int i64 aD,slice aS aR aT] 50 5 true true)]=[some (Box.mk b_1 [] 3 1 false true),some (Box.mk b [int u8 aA,aC,string
 aB,int i64 aD,slice aS aR aT] 50 5 true true)]/\I [] [cs] [] m'_2 (n_3+1))))/\∀(cs:List Value)(m'_2:Mem),Mem.le m' m'_2->I [] [cs] [] m'_2 (List.length xs)->Eng.ZsZ cs 0 λ(v:Value)=>∃
 (m'':Mem),Mem.le m m''/\Mem.le m'' m'_2/\R v m'' []) (∃(m'':Mem),Mem.le m m''/\Mem.le m'' m'_1/\R (int i64 (-1:Int)) m'' [])
theorem Znb(aA:Int)(aC:Value)(aB:ByteArray)(aD:Int)(aS:Option Addr)(aR aT:Nat)(m:Mem)(R:RT)(h:Zio aA aC aB aD aS aR aT m R):CX Tryz.prog 73 #[.agg #[.int .u8 aA,aC,.string aB,.int .i64 aD,.slice aS aR aT]] m [] R:=
 Zad (E:=ZoT) Zaj mix Tryz.func73 [.v (.agg #[.int .u8 aA,aC,.string aB,.int .i64 aD,.slice aS aR aT])] [] (by kernel_rfl) (Eq.mp (by kernel_rfl) h)
end Go.Proofs.YtiadlgdcbpnmkaaGreatDoor