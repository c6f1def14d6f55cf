/- Part of the proof: conditions and contracts of functions of this program. No condition of its own. -/
import Derived.Test.YthiefodednaikaaPEnv
import Derived.Test.YthiefodednaikaaMr
import Derived.Test.YthiefodednaikaaMc
import Derived.Laws.StructEq
import Derived.Laws.Tables
import Derived.Laws.Cover2
set_option linter.unusedVariables false
namespace Go.Proofs.Ythiefodednaikaa
open Go Go.Eng Go.Proofs Go.RowKit
open Go.Value (int slice agg)
open Go.IntKind (u8 u64 i64)
set_option maxRecDepth 100000
noncomputable def Zo0:Env:={ EB with
 frzNew:=[1] }
def Zjs(aF aB aH aI aJ aE aG:Int)(aC:Option Addr)(aA aD:Nat)(m:Mem)(R:RT):Prop:=
 ∀(b:Nat)(m':Mem),Mem.le m m'→Mem.reads m' b 0 [int u8 aF,int u64 aB,int u64 aH,int u64 aI,int u64 aJ,int i64 aE,int i64 aG,slice aC aA aD]→∃(m'':Mem),Mem.le m m''∧Mem.le
 m'' m'∧R (Value.func (Fn.func 115) (Array.mk []) (Array.mk [Value.pointer (some (Addr.mk b 0 none))])) m'' []
theorem ZnX(aF aB aH aI aJ aE aG:Int)(aC:Option Addr)(aA aD:Nat)(m:Mem)(R:RT)(h:Zjs aF aB aH aI aJ aE aG aC aA aD m R):CX Try.prog 93 #[.agg #[.int .u8 aF,.int .u64 aB,.int .u64 aH,.int .u64 aI,.int .u64 aJ,.int .i64 aE,.int .i64 aG,.slice aC aA aD]] m [] R:=
 Zad (E:=Zo0) ZaA mix Try.func93 [.v (.agg #[.int .u8 aF,.int .u64 aB,.int .u64 aH,.int .u64 aI,.int .u64 aJ,.int .i64 aE,.int .i64 aG,.slice aC aA aD])] [] (by kernel_rfl) (Eq.mp (by kernel_rfl) h)
noncomputable def Zl5:Env:={ EB with
 loops:=(fun i=>bif Nat.beq i 3 then⟨[(13,.int .i64)],[],[],true⟩ else bif Nat.beq i 7 then⟨[(19,.agg [.int .u8,.int .u64,.int .u64,.int .u64,.int .u64,.int .i64,.int .i64,.slice])],[],[],true⟩ else⟨[],[],[],false⟩)
 frzNew:=[2] }
def Zgr(p0g:Nat)(p0fi p0ca:List Value)(c0b c0o:Nat)(m:Mem)(xs:List (List Value)):Prop:=
 ∀(l b:Nat)(m':Mem),Mem.le m m'→Mem.reads m' b 0 [Value.func (Fn.yield l) (Array.mk []) (Array.mk [])]→∃(v:Value),∃(an:Value),∃(ao:Value),∃(ap:Value),∃(aq:Value),∃(ar:Value),∃(au:
 Value),∃(av:Value),Mem.reads m' c0b c0o [v,an,ao,ap,aq,ar,au,av]∧(l=l∧(0:Int)≤(0:Int)∧List.get?Internal xs (Int.toNat (0:Int))=some [agg (Array.mk [v,an,ao,ap,aq,ar,au,av])])∧(∃(v
 : Value),m' c0b (c0o+7)=some v∧chk (ZbS v) (∃(I:IT),(∃(n:Nat),I [int i64 ((0:Int)+(1:Int)),int i64 0] [] [] m' n)∧∀(y n:Int)(ai:Mem)(aw:Nat),Mem.le m' ai→I [int i64 y,int i64 n] []
 [] ai aw→br (decide (n < (↑(slN v):Int))) (chk (ZbS v) (∃(ax:Nat),∃(o:Nat),slA v=some (Addr.mk ax o none)∧Zaf n (slN v)∧∃(v:Value),∃(aa:Value),∃(ab:Value),∃(ac:Value),∃(ad:
 Value),∃(ae:Value),∃(af:Value),∃(ag:Value),Mem.reads ai ax (o+Int.toNat n*8) [v,aa,ab,ac,ad,ae,af,ag]∧∀(aj:Nat),chk (Value.oneCell' v&&(Value.oneCell' aa&&(Value.oneCell' ab &&
 (Value.oneCell' ac&&(Value.oneCell' ad&&(Value.oneCell' ae&&(Value.oneCell' af&&(Value.oneCell' ag&&true)))))))) (∃(R:RT),True∧CX Try.prog 93 (Array.mk [agg (Array.mk [v,aa,ab,ac,ad,ae,af,ag])])
 ai [] R∧Zax Shape.fn R∧∀(g:Nat)(fi ca:List Value)(m':Mem),Mem.le ai m'→R (Value.func (Fn.func g) (Array.mk fi) (Array.mk ca)) m' []→∃(ak:List (List Value)),IX Try.prog g fi ca m' ak∧(∀(x:List
 Value),x∈ak→Shape.fitsL [shT] x=true)∧∃(al:IT),al [int i64 y] [] [] m' 0∧(∀(y n ay az a0 a1 a2 a3:Int)(a:Option Addr)(a4 c:Nat)(ah:Mem)(am:Nat),Mem.le m' ah→List.get?Internal ak am =
 some [agg (Array.mk [int u8 n,int u64 ay,int u64 az,int u64 a0,int u64 a1,int i64 a2,int i64 a3,slice a a4 c])]→al [int i64 y] [] [] ah am→∀(a5:Nat),(l=l∧(0:Int)≤y∧List.get?Internal xs
 (Int.toNat y)=some [agg (Array.mk [int u8 n,int u64 ay,int u64 az,int u64 a0,int u64 a1,int i64 a2,int i64 a3,slice a a4 c])])∧([some (Box.mk aj [v,aa,ab,ac,ad,ae,af,ag] 29 8 false true),some (Box.mk
 b [Value.func (Fn.yield l) (Array.mk []) (Array.mk [])] 127 1 true true)]=[some (Box.mk aj [v,aa,ab,ac,ad,ae,af,ag] 29 8 false true),some (Box.mk b [Value.func (Fn.yield l) (Array.mk []) (Array.mk [])] 127 1
 true true)]∧al [int i64 (y+(1:Int))] [] [] ah (am+1))∧[some (Box.mk aj [v,aa,ab,ac,ad,ae,af,ag] 29 8 false true),some (Box.mk b [Value.func (Fn.yield l) (Array.mk []) (Array.mk [])] 127 1 true true)] =
 [some (Box.mk aj [v,aa,ab,ac,ad,ae,af,ag] 29 8 false true),some (Box.mk b [Value.func (Fn.yield l) (Array.mk []) (Array.mk [])] 127 1 true true)]∧((-1:Int)=(↑(List.length xs):Int)∨(-1:Int)=(-1:
 Int)))∧∀(y:Int)(ah:Mem),Mem.le m' ah→al [int i64 y] [] [] ah (List.length ak)→[some (Box.mk b [Value.func (Fn.yield l) (Array.mk []) (Array.mk [])] 127 1 true true)]=[some (Box.mk b [Value.func (Fn.yield
 l) (Array.mk []) (Array.mk [])] 127 1 true true)]∧∃(n':Nat),n' < aw∧I [int i64 y,int i64 (IntKind.wrap i64 (n+(1:Int)))] [] [] ah n'))) (y=(↑(List.length xs):Int)∨y=(-1:Int))))∧((-1:Int) =
 (↑(List.length xs):Int)∨(-1:Int)=(-1:Int))
theorem Zkj(p0g:Nat)(p0fi p0ca:List Value)(c0b c0o:Nat)(m:Mem)(xs:List (List Value))(h:Zgr p0g p0fi p0ca c0b c0o m xs):IX Try.prog 115 [] [.pointer (some ⟨c0b,c0o,none⟩)] m xs:=
 Znt (E:=Zl5) ZaA mix Try.func115 [] [.pointer (some ⟨c0b,c0o,none⟩)] xs (by kernel_rfl) (Eq.mp (by kernel_rfl) h)
noncomputable def Zo1:Env:={ EB with
 loops:=(fun i=>bif Nat.beq i 3 then⟨[(6,.agg [.int .u8,.int .u64,.int .u64,.int .u64,.int .u64,.int .i64,.int .i64,.slice])],[3],[],false⟩ else⟨[],[],[],false⟩)
 frzNew:=[1] }
def Zjt(aF aB aH aI aJ aE aG:Int)(aC:Option Addr)(aA aD:Nat)(m:Mem)(R:RT):Prop:=
 ∀(b:Nat)(m':Mem),Mem.le m m'→Mem.reads m' b 0 [int u8 aF,int u64 aB,int u64 aH,int u64 aI,int u64 aJ,int i64 aE,int i64 aG,slice aC aA aD]→∀(b_1:Nat),∃(R_1:RT),True∧CX
 Try.prog 93 (Array.mk [agg (Array.mk [int u8 aF,int u64 aB,int u64 aH,int u64 aI,int u64 aJ,int i64 aE,int i64 aG,slice aC aA aD])]) m' [] R_1∧Zax Shape.fn R_1∧∀(g:Nat) (fi ca:
 List Value) (m'_1:Mem),Mem.le m' m'_1→R_1 (Value.func (Fn.func g) (Array.mk fi) (Array.mk ca)) m'_1 []→∃(xs:List (List Value)),IX Try.prog g fi ca m'_1 xs∧(∀(x:List Value),x∈xs→Shape.fitsL [shT] x =
 true)∧∃(I:IT),I [] [[int i64 0]] [] m'_1 0∧(∀(n n_1 n_2 n_3 n_4 n_5 n_6:Int)(a:Option Addr)(n_7 c:Nat)(cs:List Value)(m':Mem)(n_8:Nat),Mem.le m'_1 m'→List.get?Internal xs n_8=some [agg
 (Array.mk [int u8 n,int u64 n_1,int u64 n_2,int u64 n_3,int u64 n_4,int i64 n_5,int i64 n_6,slice a n_7 c])]→I [] [cs] [] m' n_8→Eng.ZrO cs 0 fun(v:Value)=>chk (Zal i64 v&&decide (i64=i64)) (br
 (decide (IntKind.wrap i64 (RowKit.intOf v+(1:Int)) > (10000:Int))) ([some (Box.mk b_1 [] 3 1 false true),some (Box.mk b [int u8 aF,int u64 aB,int u64 aH,int u64 aI,int u64 aJ,int i64 aE,int i64
 aG,slice aC aA aD] 29 8 true true)]=[some (Box.mk b_1 [] 3 1 false true),some (Box.mk b [int u8 aF,int u64 aB,int u64 aH,int u64 aI,int u64 aJ,int i64 aE,int i64 aG,slice aC aA
 aD] 29 8 true true)]∧∃(m'':Mem),Mem.le m m''∧Mem.le m'' m'∧R (Value.bool (decide (IntKind.wrap i64 (RowKit.intOf v+(1:Int))≤(10000:Int)))) m'' []) ([some (Box.mk b_1 [] 3 1 false true),some (Box.mk
 b [int u8 aF,int u64 aB,int u64 aH,int u64 aI,int u64 aJ,int i64 aE,int i64 aG,slice aC aA aD] 29 8 true true)]=[some (Box.mk b_1 [] 3 1 false true),some (Box.mk b [int u8 aF,int u64
 aB,int u64 aH,int u64 aI,int u64 aJ,int i64 aE,int i64 aG,slice aC aA aD] 29 8 true true)]∧I [] [[int i64 (IntKind.wrap i64 (RowKit.intOf v+(1:Int)))]] [] m' (n_8+1))))∧∀(cs:List
 Value) (m':Mem),Mem.le m'_1 m'→I [] [cs] [] m' (List.length xs)→Eng.ZrO cs 0 fun(v:Value)=>chk (Zal i64 v&&decide (i64=i64)) (∃(m'':Mem),Mem.le m m''∧Mem.le m'' m'∧R (Value.bool (decide
 (RowKit.intOf v≤(10000:Int)))) m'' [])
theorem ZnY(aF aB aH aI aJ aE aG:Int)(aC:Option Addr)(aA aD:Nat)(m:Mem)(R:RT)(h:Zjt aF aB aH aI aJ aE aG aC aA aD m R):CX Try.prog 92 #[.agg #[.int .u8 aF,.int .u64 aB,.int .u64 aH,.int .u64 aI,.int .u64 aJ,.int .i64 aE,.int .i64 aG,.slice aC aA aD]] m [] R:=
 Zad (E:=Zo1) ZaA mix Try.func92 [.v (.agg #[.int .u8 aF,.int .u64 aB,.int .u64 aH,.int .u64 aI,.int .u64 aJ,.int .i64 aE,.int .i64 aG,.slice aC aA aD])] [] (by kernel_rfl) (Eq.mp (by kernel_rfl) h)
noncomputable def ZnZ:Env:={ EB with
 joins:=(fun i=>bif Nat.beq i 1 then some [(18,.bool)]else bif Nat.beq i 3 then some [(4,.bool)]else none) }
def Zhk(p0 p1:Int)(m:Mem)(R:RT):Prop:=
 ∃(b:Bool),br (decide (p0 < (0:Int))) ([Value.bool true]=[Value.bool b]) (br (decide (p0 > (16:Int))) ([Value.bool true]=[Value.bool b]) (br (p0 == (1:Int)) ([Value.bool (p1 == (1:Int))]=[Value.bool b])
 ([Value.bool false]=[Value.bool b])))∧br b (∃(m'':Mem),Mem.le m m''∧Mem.le m'' m∧R (Value.bool false) m'' []) (∃(b:Bool),br (p1 == (-1:Int)) ([Value.bool true]=[Value.bool b]) (br (decide (p1 ≥ (1:
 Int))) (br (decide (p1≤(16:Int))) ([Value.bool (decide (p1 ≥ p0))]=[Value.bool b]) ([Value.bool false]=[Value.bool b])) ([Value.bool false]=[Value.bool b]))∧∃(m'':Mem),Mem.le m m''∧Mem.le m'' m∧R
 (Value.bool b) m'' [])
theorem Zl6(p0 p1:Int)(m:Mem)(R:RT)(h:Zhk p0 p1 m R):CX Try.prog 75 #[.int .i64 p0,.int .i64 p1] m [] R:=
 Zad (E:=ZnZ) ZaA mix Try.func75 [.v (.int .i64 p0),.v (.int .i64 p1)] [] (by kernel_rfl) (Eq.mp (by kernel_rfl) h)
noncomputable def Zo2:Env:={ EB with
 frzNew:=[2] }
def Zju(aF aB aH aI aJ aE aG:Int)(aC:Option Addr)(aA aD c0b c0o:Nat)(m:Mem)(R:RT):Prop:=
 ∀(b:Nat)(m':Mem),Mem.le m m'→Mem.reads m' b 0 [int u8 aF,int u64 aB,int u64 aH,int u64 aI,int u64 aJ,int i64 aE,int i64 aG,slice aC aA aD]→∃(v:Value),m' c0b c0o=some v∧
 chk (Zal u8 v) (∃(m'':Mem),Mem.le m m''∧Mem.le m'' m'∧R (Value.bool (aF == RowKit.intOf v)) m'' [])
theorem Zn0(aF aB aH aI aJ aE aG:Int)(aC:Option Addr)(aA aD c0b c0o:Nat)(m:Mem)(R:RT)(h:Zju aF aB aH aI aJ aE aG aC aA aD c0b c0o m R):CX Try.prog 126 #[.agg #[.int .u8 aF,.int .u64 aB,.int .u64 aH,.int .u64 aI,.int .u64 aJ,.int .i64 aE,.int .i64 aG,.slice aC aA aD],.pointer (some ⟨c0b,c0o,none⟩)] m [] R:=
 Zad (E:=Zo2) ZaA mix Try.func126 [.v (.agg #[.int .u8 aF,.int .u64 aB,.int .u64 aH,.int .u64 aI,.int .u64 aJ,.int .i64 aE,.int .i64 aG,.slice aC aA aD]),.v (.pointer (some ⟨c0b,c0o,none⟩))] [] (by kernel_rfl) (Eq.mp (by kernel_rfl) h)
noncomputable def Zbh:Env:={ EB with
 loops:=(fun i=>bif Nat.beq i 2 then⟨[(8,.int .i64)],[],[],false⟩ else⟨[],[],[],false⟩) }
def ZaR(p0a:Option Addr)(p0n p0c p1g:Nat)(p1fi p1ca:List Value)(m:Mem)(R:RT):Prop:=
 ∃(I:IT),(∃(n:Nat),I [int i64 0] [] [] m n)∧∀(n:Int)(m':Mem)(n_1:Nat),Mem.le m m'→I [int i64 n] [] [] m' n_1→br (decide (n < (↑p0n:Int))) (∃(b:Nat),∃(o:Nat),p0a=some (Addr.mk b o none)
 ∧ Zaf n p0n∧∃(v:Value),∃(v_1:Value),∃(v_2:Value),∃(v_3:Value),∃(v_4:Value),∃(v_5:Value),∃(v_6:Value),∃(v_7:Value),Mem.reads m' b (o+Int.toNat n*8) [v,v_1,v_2,v_3,v_4,v_5,
 v_6,v_7]∧∃(R_1:RT),True∧CX Try.prog p1g (Array.mk (List.append (List.append p1fi [agg (Array.mk [v,v_1,v_2,v_3,v_4,v_5,v_6,v_7])]) p1ca)) m' [] R_1∧Zax Shape.bool R_1∧∀(b:Bool)(m'_1:Mem),
 Mem.le m' m'_1→R_1 (Value.bool b) m'_1 []→br b (∃(m'':Mem),Mem.le m m''∧Mem.le m'' m'_1∧R (int i64 n) m'' []) (∃(n':Nat),n' < n_1∧I [int i64 (IntKind.wrap i64 (n+(1:Int)))] [] [] m'_1 n')) (∃(m''
 : Mem),Mem.le m m''∧Mem.le m'' m'∧R (int i64 (-1:Int)) m'' [])
theorem Zbe(p0a:Option Addr)(p0n p0c p1g:Nat)(p1fi p1ca:List Value)(m:Mem)(R:RT)(h:ZaR p0a p0n p0c p1g p1fi p1ca m R):CX Try.prog 128 #[.slice p0a p0n p0c,.func (.func p1g) p1fi.toArray p1ca.toArray] m [] R:=
 Zad (E:=Zbh) ZaA mix Try.func128 [.v (.slice p0a p0n p0c),.v (.func (.func p1g) p1fi.toArray p1ca.toArray)] [] (by kernel_rfl) (Eq.mp (by kernel_rfl) h)
noncomputable def Za8:Env:=EB
def ZaM(p0a:Option Addr)(p0n p0c p1g:Nat)(p1fi p1ca:List Value)(m:Mem)(R:RT):Prop:=
 ∃(R_1:RT),True∧CX Try.prog 128 (Array.mk [slice p0a p0n p0c,Value.func (Fn.func p1g) (Array.mk p1fi) (Array.mk p1ca)]) m [] R_1∧Zax (Shape.int i64) R_1∧∀(n:Int)(m':Mem),Mem.le m m'→R_1 (int i64 n)
 m' []→∃(m'':Mem),Mem.le m m''∧Mem.le m'' m'∧R (Value.bool (decide (n ≥ (0:Int)))) m'' []
theorem Za4(p0a:Option Addr)(p0n p0c p1g:Nat)(p1fi p1ca:List Value)(m:Mem)(R:RT)(h:ZaM p0a p0n p0c p1g p1fi p1ca m R):CX Try.prog 125 #[.slice p0a p0n p0c,.func (.func p1g) p1fi.toArray p1ca.toArray] m [] R:=
 Zad (E:=Za8) ZaA mix Try.func125 [.v (.slice p0a p0n p0c),.v (.func (.func p1g) p1fi.toArray p1ca.toArray)] [] (by kernel_rfl) (Eq.mp (by kernel_rfl) h)
noncomputable def Zte:Env:={ EB with
 frzNew:=[2,3] }
def Zn1(aF aB aH aI aJ aE aG:Int)(aC:Option Addr)(aA aD:Nat)(p1:Int)(m:Mem)(R:RT):Prop:=
 ∀(b:Nat)(m':Mem),Mem.le m m'→Mem.reads m' b 0 [int u8 aF,int u64 aB,int u64 aH,int u64 aI,int u64 aJ,int i64 aE,int i64 aG,slice aC aA aD]→∀(b:Nat)(m'_1:Mem),Mem.le m'
 m'_1→Mem.reads m'_1 b 0 [int u8 p1]→∃(R_1:RT),True∧CX Try.prog 125 (Array.mk [slice aC aA aD,Value.func (Fn.func 126) (Array.mk []) (Array.mk [Value.pointer (some (Addr.mk b 0 none))])]) m'_1 [] R_1
 ∧ Zax Shape.bool R_1∧∀(b:Bool)(m':Mem),Mem.le m'_1 m'→R_1 (Value.bool b) m' []→∃(m'':Mem),Mem.le m m''∧Mem.le m'' m'∧R (Value.bool b) m'' []
theorem Zrr(aF aB aH aI aJ aE aG:Int)(aC:Option Addr)(aA aD:Nat)(p1:Int)(m:Mem)(R:RT)(h:Zn1 aF aB aH aI aJ aE aG aC aA aD p1 m R):CX Try.prog 116 #[.agg #[.int .u8 aF,.int .u64 aB,.int .u64 aH,.int .u64 aI,.int .u64 aJ,.int .i64 aE,.int .i64 aG,.slice aC aA aD],.int .u8 p1] m [] R:=
 Zad (E:=Zte) ZaA mix Try.func116 [.v (.agg #[.int .u8 aF,.int .u64 aB,.int .u64 aH,.int .u64 aI,.int .u64 aJ,.int .i64 aE,.int .i64 aG,.slice aC aA aD]),.v (.int .u8 p1)] [] (by kernel_rfl) (Eq.mp (by kernel_rfl) h)
noncomputable def Zo3:Env:={ EB with
 joins:=(fun i=>bif Nat.beq i 1 then some [(37,.bool)]else bif Nat.beq i 9 then some [(2,.bool)]else bif Nat.beq i 11 then some [(2,.bool)]else bif Nat.beq i 13 then some [(2,.bool)]else bif Nat.beq i 14 then some [(2,.bool)]else none)
 frzNew:=[1] }
def Zjv(aF aB aH aI aJ aE aG:Int)(aC:Option Addr)(aA aD:Nat)(m:Mem)(R:RT):Prop:=
 ∀(b:Nat)(m':Mem),Mem.le m m'→Mem.reads m' b 0 [int u8 aF,int u64 aB,int u64 aH,int u64 aI,int u64 aJ,int i64 aE,int i64 aG,slice aC aA aD]→∃(ab:Bool),br (!aF == (2:Int))
 (∃(aa:Bool),EqIs Try.prog 26 (agg (Array.mk [int u64 aB,int u64 aH,int u64 aI,int u64 aJ])) (agg (Array.mk [int u64 0,int u64 0,int u64 0,int u64 0])) aa∧br (!aa) ([some (Box.mk b [int u8 aF,int
 u64 aB,int u64 aH,int u64 aI,int u64 aJ,int i64 aE,int i64 aG,slice aC aA aD] 29 8 true true)]=[some (Box.mk b [int u8 aF,int u64 aB,int u64 aH,int u64 aI,int u64 aJ,int i64
 aE,int i64 aG,slice aC aA aD] 29 8 true true)]∧[Value.bool true]=[Value.bool ab]) (br (!aF == (5:Int)) (br (!aE == (0:Int)) ([some (Box.mk b [int u8 aF,int u64 aB,int u64 aH,int u64
 aI,int u64 aJ,int i64 aE,int i64 aG,slice aC aA aD] 29 8 true true)]=[some (Box.mk b [int u8 aF,int u64 aB,int u64 aH,int u64 aI,int u64 aJ,int i64 aE,int i64 aG,slice aC
 aA aD] 29 8 true true)]∧[Value.bool true]=[Value.bool ab]) (br (!aG == (0:Int)) ([some (Box.mk b [int u8 aF,int u64 aB,int u64 aH,int u64 aI,int u64 aJ,int i64 aE,int i64 aG,slice
 aC aA aD] 29 8 true true)]=[some (Box.mk b [int u8 aF,int u64 aB,int u64 aH,int u64 aI,int u64 aJ,int i64 aE,int i64 aG,slice aC aA aD] 29 8 true true)]∧[Value.bool true] =
 [Value.bool ab]) (br (decide (aF < (3:Int))) ([some (Box.mk b [int u8 aF,int u64 aB,int u64 aH,int u64 aI,int u64 aJ,int i64 aE,int i64 aG,slice aC aA aD] 29 8 true true)]=[some
 (Box.mk b [int u8 aF,int u64 aB,int u64 aH,int u64 aI,int u64 aJ,int i64 aE,int i64 aG,slice aC aA aD] 29 8 true true)]∧[Value.bool (decide ((↑aA:Int) > (0:Int)))]=[Value.bool
 ab]) ([some (Box.mk b [int u8 aF,int u64 aB,int u64 aH,int u64 aI,int u64 aJ,int i64 aE,int i64 aG,slice aC aA aD] 29 8 true true)]=[some (Box.mk b [int u8 aF,int u64 aB,int u64
 aH,int u64 aI,int u64 aJ,int i64 aE,int i64 aG,slice aC aA aD] 29 8 true true)]∧[Value.bool false]=[Value.bool ab])))) (br (decide (aF < (3:Int))) ([some (Box.mk b [int u8 aF,int u64
 aB,int u64 aH,int u64 aI,int u64 aJ,int i64 aE,int i64 aG,slice aC aA aD] 29 8 true true)]=[some (Box.mk b [int u8 aF,int u64 aB,int u64 aH,int u64 aI,int u64 aJ,int i64 aE,
 int i64 aG,slice aC aA aD] 29 8 true true)]∧[Value.bool (decide ((↑aA:Int) > (0:Int)))]=[Value.bool ab]) ([some (Box.mk b [int u8 aF,int u64 aB,int u64 aH,int u64 aI,int u64 aJ,int
 i64 aE,int i64 aG,slice aC aA aD] 29 8 true true)]=[some (Box.mk b [int u8 aF,int u64 aB,int u64 aH,int u64 aI,int u64 aJ,int i64 aE,int i64 aG,slice aC aA aD] 29 8 true
 true)]∧[Value.bool false]=[Value.bool ab])))) (br (!aF == (5:Int)) (br (!aE == (0:Int)) ([some (Box.mk b [int u8 aF,int u64 aB,int u64 aH,int u64 aI,int u64 aJ,int i64 aE,int i64 aG,
 slice aC aA aD] 29 8 true true)]=[some (Box.mk b [int u8 aF,int u64 aB,int u64 aH,int u64 aI,int u64 aJ,int i64 aE,int i64 aG,slice aC aA aD] 29 8 true true)]∧[Value.bool true]
 = [Value.bool ab]) (br (!aG == (0:Int)) ([some (Box.mk b [int u8 aF,int u64 aB,int u64 aH,int u64 aI,int u64 aJ,int i64 aE,int i64 aG,slice aC aA aD] 29 8 true true)]=[some (Box.mk b
 [int u8 aF,int u64 aB,int u64 aH,int u64 aI,int u64 aJ,int i64 aE,int i64 aG,slice aC aA aD] 29 8 true true)]∧[Value.bool true]=[Value.bool ab]) (br (decide (aF < (3:Int))) ([some
 (Box.mk b [int u8 aF,int u64 aB,int u64 aH,int u64 aI,int u64 aJ,int i64 aE,int i64 aG,slice aC aA aD] 29 8 true true)]=[some (Box.mk b [int u8 aF,int u64 aB,int u64 aH,int u64
 aI,int u64 aJ,int i64 aE,int i64 aG,slice aC aA aD] 29 8 true true)]∧[Value.bool (decide ((↑aA:Int) > (0:Int)))]=[Value.bool ab]) ([some (Box.mk b [int u8 aF,int u64 aB,int u64
 aH,int u64 aI,int u64 aJ,int i64 aE,int i64 aG,slice aC aA aD] 29 8 true true)]=[some (Box.mk b [int u8 aF,int u64 aB,int u64 aH,int u64 aI,int u64 aJ,int i64 aE,int i64 aG,
 slice aC aA aD] 29 8 true true)]∧[Value.bool false]=[Value.bool ab])))) (br (decide (aF < (3:Int))) ([some (Box.mk b [int u8 aF,int u64 aB,int u64 aH,int u64 aI,int u64 aJ,int i64 aE,
 int i64 aG,slice aC aA aD] 29 8 true true)]=[some (Box.mk b [int u8 aF,int u64 aB,int u64 aH,int u64 aI,int u64 aJ,int i64 aE,int i64 aG,slice aC aA aD] 29 8 true true)]∧
 [Value.bool (decide ((↑aA:Int) > (0:Int)))]=[Value.bool ab]) ([some (Box.mk b [int u8 aF,int u64 aB,int u64 aH,int u64 aI,int u64 aJ,int i64 aE,int i64 aG,slice aC aA aD] 29 8 true
 true)]=[some (Box.mk b [int u8 aF,int u64 aB,int u64 aH,int u64 aI,int u64 aJ,int i64 aE,int i64 aG,slice aC aA aD] 29 8 true true)]∧[Value.bool false]=[Value.bool ab])))∧br ab (∃
 (m'':Mem),Mem.le m m''∧Mem.le m'' m'∧R (Value.bool false) m'' []) (br (aF == (1:Int)) (∃(m'':Mem),Mem.le m m''∧Mem.le m'' m'∧R (Value.bool true) m'' []) (br (aF == (2:Int)) (∃(b:Bool),EqIs
 Try.prog 26 (agg (Array.mk [int u64 aB,int u64 aH,int u64 aI,int u64 aJ])) (agg (Array.mk [int u64 0,int u64 0,int u64 0,int u64 0])) b∧∃(m'':Mem),Mem.le m m''∧Mem.le m'' m'∧R (Value.bool !b) m''
 []) (br (aF == (3:Int)) (∃(aa:Bool),br (decide ((↑aA:Int) > (1:Int))) (∃(R:RT),True∧CX Try.prog 116 (Array.mk [agg (Array.mk [int u8 aF,int u64 aB,int u64 aH,int u64 aI,int u64 aJ,int
 i64 aE,int i64 aG,slice aC aA aD]),int u8 1]) m' [] R∧Zax Shape.bool R∧∀(ad:Bool)(ac:Mem),Mem.le m' ac→R (Value.bool ad) ac []→br (!ad) (∃(R:RT),True∧CX Try.prog 116 (Array.mk [agg
 (Array.mk [int u8 aF,int u64 aB,int u64 aH,int u64 aI,int u64 aJ,int i64 aE,int i64 aG,slice aC aA aD]),int u8 3]) ac [] R∧Zax Shape.bool R∧∀(ae:Bool)(m':Mem),Mem.le ac m'→R
 (Value.bool ae) m' []→[some (Box.mk b [int u8 aF,int u64 aB,int u64 aH,int u64 aI,int u64 aJ,int i64 aE,int i64 aG,slice aC aA aD] 29 8 true true)]=[some (Box.mk b [int u8 aF,int u64
 aB,int u64 aH,int u64 aI,int u64 aJ,int i64 aE,int i64 aG,slice aC aA aD] 29 8 true true)]∧[Value.bool !ae]=[Value.bool aa]) ([some (Box.mk b [int u8 aF,int u64 aB,int u64 aH,int
 u64 aI,int u64 aJ,int i64 aE,int i64 aG,slice aC aA aD] 29 8 true true)]=[some (Box.mk b [int u8 aF,int u64 aB,int u64 aH,int u64 aI,int u64 aJ,int i64 aE,int i64 aG,slice
 aC aA aD] 29 8 true true)]∧[Value.bool false]=[Value.bool aa])) ([some (Box.mk b [int u8 aF,int u64 aB,int u64 aH,int u64 aI,int u64 aJ,int i64 aE,int i64 aG,slice aC aA aD] 29
 8 true true)]=[some (Box.mk b [int u8 aF,int u64 aB,int u64 aH,int u64 aI,int u64 aJ,int i64 aE,int i64 aG,slice aC aA aD] 29 8 true true)]∧[Value.bool false]=[Value.bool aa])∧∃
 (m'':Mem),Mem.le m m''∧Mem.le m'' m'∧R (Value.bool aa) m'' []) (br (aF == (4:Int)) (∃(aa:Bool),br (decide ((↑aA:Int) > (1:Int))) (∃(R:RT),True∧CX Try.prog 116 (Array.mk [agg (Array.mk [int u8
 aF,int u64 aB,int u64 aH,int u64 aI,int u64 aJ,int i64 aE,int i64 aG,slice aC aA aD]),int u8 4]) m' [] R∧Zax Shape.bool R∧∀(ad:Bool)(ac:Mem),Mem.le m' ac→R (Value.bool ad) ac
 []→[some (Box.mk b [int u8 aF,int u64 aB,int u64 aH,int u64 aI,int u64 aJ,int i64 aE,int i64 aG,slice aC aA aD] 29 8 true true)]=[some (Box.mk b [int u8 aF,int u64 aB,int u64
 aH,int u64 aI,int u64 aJ,int i64 aE,int i64 aG,slice aC aA aD] 29 8 true true)]∧[Value.bool !ad]=[Value.bool aa]) ([some (Box.mk b [int u8 aF,int u64 aB,int u64 aH,int u64 aI,int
 u64 aJ,int i64 aE,int i64 aG,slice aC aA aD] 29 8 true true)]=[some (Box.mk b [int u8 aF,int u64 aB,int u64 aH,int u64 aI,int u64 aJ,int i64 aE,int i64 aG,slice aC aA
 aD] 29 8 true true)]∧[Value.bool false]=[Value.bool aa])∧∃(m'':Mem),Mem.le m m''∧Mem.le m'' m'∧R (Value.bool aa) m'' []) (br (aF == (5:Int)) (∃(aa:Bool),br ((↑aA:Int) == (1:Int)) (∃(R:
 RT),True∧CX Try.prog 75 (Array.mk [int i64 aE,int i64 aG]) m' [] R∧Zax Shape.bool R∧∀(ad:Bool)(ac:Mem),Mem.le m' ac→R (Value.bool ad) ac []→br ad (∃(R:RT),True∧CX Try.prog 116 (Array.mk
 [agg (Array.mk [int u8 aF,int u64 aB,int u64 aH,int u64 aI,int u64 aJ,int i64 aE,int i64 aG,slice aC aA aD]),int u8 1]) ac [] R∧Zax Shape.bool R∧∀(ae:Bool)(m':Mem),Mem.le ac m'
 → R (Value.bool ae) m' []→[some (Box.mk b [int u8 aF,int u64 aB,int u64 aH,int u64 aI,int u64 aJ,int i64 aE,int i64 aG,slice aC aA aD] 29 8 true true)]=[some (Box.mk b [int u8 aF,int
 u64 aB,int u64 aH,int u64 aI,int u64 aJ,int i64 aE,int i64 aG,slice aC aA aD] 29 8 true true)]∧[Value.bool !ae]=[Value.bool aa]) ([some (Box.mk b [int u8 aF,int u64 aB,int u64 aH,
 int u64 aI,int u64 aJ,int i64 aE,int i64 aG,slice aC aA aD] 29 8 true true)]=[some (Box.mk b [int u8 aF,int u64 aB,int u64 aH,int u64 aI,int u64 aJ,int i64 aE,int i64 aG,slice
 aC aA aD] 29 8 true true)]∧[Value.bool false]=[Value.bool aa])) ([some (Box.mk b [int u8 aF,int u64 aB,int u64 aH,int u64 aI,int u64 aJ,int i64 aE,int i64 aG,slice aC aA aD] 29
 8 true true)]=[some (Box.mk b [int u8 aF,int u64 aB,int u64 aH,int u64 aI,int u64 aJ,int i64 aE,int i64 aG,slice aC aA aD] 29 8 true true)]∧[Value.bool false]=[Value.bool aa])∧∃
 (m'':Mem),Mem.le m m''∧Mem.le m'' m'∧R (Value.bool aa) m'' []) (∃(aa:Bool),br (aF == (6:Int)) ([some (Box.mk b [int u8 aF,int u64 aB,int u64 aH,int u64 aI,int u64 aJ,int i64 aE,int i64
 aG,slice aC aA aD] 29 8 true true)]=[some (Box.mk b [int u8 aF,int u64 aB,int u64 aH,int u64 aI,int u64 aJ,int i64 aE,int i64 aG,slice aC aA aD] 29 8 true true)]∧[Value.bool
 ((↑aA:Int) == (1:Int))]=[Value.bool aa]) ([some (Box.mk b [int u8 aF,int u64 aB,int u64 aH,int u64 aI,int u64 aJ,int i64 aE,int i64 aG,slice aC aA aD] 29 8 true true)]=[some
 (Box.mk b [int u8 aF,int u64 aB,int u64 aH,int u64 aI,int u64 aJ,int i64 aE,int i64 aG,slice aC aA aD] 29 8 true true)]∧[Value.bool false]=[Value.bool aa])∧∃(m'':Mem),Mem.le m m''
 ∧ Mem.le m'' m'∧R (Value.bool aa) m'' []))))))
theorem Zn2(aF aB aH aI aJ aE aG:Int)(aC:Option Addr)(aA aD:Nat)(m:Mem)(R:RT)(h:Zjv aF aB aH aI aJ aE aG aC aA aD m R):CX Try.prog 94 #[.agg #[.int .u8 aF,.int .u64 aB,.int .u64 aH,.int .u64 aI,.int .u64 aJ,.int .i64 aE,.int .i64 aG,.slice aC aA aD]] m [] R:=
 Zad (E:=Zo3) ZaA mix Try.func94 [.v (.agg #[.int .u8 aF,.int .u64 aB,.int .u64 aH,.int .u64 aI,.int .u64 aJ,.int .i64 aE,.int .i64 aG,.slice aC aA aD])] [] (by kernel_rfl) (Eq.mp (by kernel_rfl) h)
noncomputable def Zo4:Env:={ EB with
 loops:=(fun i=>bif Nat.beq i 5 then⟨[(9,.agg [.int .u8,.int .u64,.int .u64,.int .u64,.int .u64,.int .i64,.int .i64,.slice])],[2],[],false⟩ else⟨[],[],[],false⟩)
 frzNew:=[1] }
def Zjw(aF aB aH aI aJ aE aG:Int)(aC:Option Addr)(aA aD:Nat)(m:Mem)(R:RT):Prop:=
 ∀(b:Nat)(m':Mem),Mem.le m m'→Mem.reads m' b 0 [int u8 aF,int u64 aB,int u64 aH,int u64 aI,int u64 aJ,int i64 aE,int i64 aG,slice aC aA aD]→∀(ac:Nat),∃(R_1:RT),True∧CX
 Try.prog 92 (Array.mk [agg (Array.mk [int u8 aF,int u64 aB,int u64 aH,int u64 aI,int u64 aJ,int i64 aE,int i64 aG,slice aC aA aD])]) m' [] R_1∧Zax Shape.bool R_1∧∀(ae:Bool) (ab:
 Mem),Mem.le m' ab→R_1 (Value.bool ae) ab []→br (!ae) (∃(m'':Mem),Mem.le m m''∧Mem.le m'' ab∧R (Value.bool false) m'' []) (∃(R_2:RT),True∧CX Try.prog 93 (Array.mk [agg (Array.mk [int u8 aF,int u64
 aB,int u64 aH,int u64 aI,int u64 aJ,int i64 aE,int i64 aG,slice aC aA aD])]) ab [] R_2∧Zax Shape.fn R_2∧∀(g:Nat)(fi ca:List Value)(m':Mem),Mem.le ab m'→R_2 (Value.func
 (Fn.func g) (Array.mk fi) (Array.mk ca)) m' []→∃(xs:List (List Value)),IX Try.prog g fi ca m' xs∧(∀(x:List Value),x∈xs→Shape.fitsL [shT] x=true)∧∃(I:IT),I [] [[Value.bool false]] [] m' 0∧(∀(n
 af ag ah ai aj ak:Int) (a:Option Addr) (al c:Nat) (cs:List Value) (aa:Mem) (ad:Nat),Mem.le m' aa→List.get?Internal xs ad=some [agg (Array.mk [int u8 n,int u64 af,int u64 ag,int u64 ah,int u64 ai,
 int i64 aj,int i64 ak,slice a al c])]→I [] [cs] [] aa ad→∀(an:Nat),∃(R_3:RT),True∧CX Try.prog 94 (Array.mk [agg (Array.mk [int u8 n,int u64 af,int u64 ag,int u64 ah,int u64 ai,int i64 aj,int i64
 ak,slice a al c])]) aa [] R_3∧Zax Shape.bool R_3∧∀(am:Bool)(m':Mem),Mem.le aa m'→R_3 (Value.bool am) m' []→br (!am) ([some (Box.mk ac [] 4 1 false true),some (Box.mk b [int u8 aF,int u64 aB,int
 u64 aH,int u64 aI,int u64 aJ,int i64 aE,int i64 aG,slice aC aA aD] 29 8 true true)]=[some (Box.mk ac [] 4 1 false true),some (Box.mk b [int u8 aF,int u64 aB,int u64 aH,int u64 aI,
 int u64 aJ,int i64 aE,int i64 aG,slice aC aA aD] 29 8 true true)]∧∃(m'':Mem),Mem.le m m''∧Mem.le m'' m'∧R (Value.bool false) m'' []) ([some (Box.mk ac [] 4 1 false true),some (Box.mk b [int
 u8 aF,int u64 aB,int u64 aH,int u64 aI,int u64 aJ,int i64 aE,int i64 aG,slice aC aA aD] 29 8 true true)]=[some (Box.mk ac [] 4 1 false true),some (Box.mk b [int u8 aF,int u64 aB,
 int u64 aH,int u64 aI,int u64 aJ,int i64 aE,int i64 aG,slice aC aA aD] 29 8 true true)]∧I [] [cs] [] m' (ad+1)))∧∀(cs:List Value)(aa:Mem),Mem.le m' aa→I [] [cs] [] aa (List.length
 xs)→∃(m'':Mem),Mem.le m m''∧Mem.le m'' aa∧R (Value.bool true) m'' [])
theorem Zn3(aF aB aH aI aJ aE aG:Int)(aC:Option Addr)(aA aD:Nat)(m:Mem)(R:RT)(h:Zjw aF aB aH aI aJ aE aG aC aA aD m R):CX Try.prog 74 #[.agg #[.int .u8 aF,.int .u64 aB,.int .u64 aH,.int .u64 aI,.int .u64 aJ,.int .i64 aE,.int .i64 aG,.slice aC aA aD]] m [] R:=
 Zad (E:=Zo4) ZaA mix Try.func74 [.v (.agg #[.int .u8 aF,.int .u64 aB,.int .u64 aH,.int .u64 aI,.int .u64 aJ,.int .i64 aE,.int .i64 aG,.slice aC aA aD])] [] (by kernel_rfl) (Eq.mp (by kernel_rfl) h)
noncomputable def Zrs:Env:={ EB with
 loops:=(fun i=>bif Nat.beq i 5 then⟨[(9,.agg [.int .u8,.int .u64,.int .u64,.int .u64,.int .u64,.int .i64,.int .i64,.slice])],[3],[],false⟩ else⟨[],[],[],false⟩)
 frzNew:=[1] }
def Zlu(aF aB aH aI aJ aE aG:Int)(aC:Option Addr)(aA aD:Nat)(m:Mem)(R:RT):Prop:=
 ∀(b:Nat)(m':Mem),Mem.le m m'→Mem.reads m' b 0 [int u8 aF,int u64 aB,int u64 aH,int u64 aI,int u64 aJ,int i64 aE,int i64 aG,slice aC aA aD]→∃(R_1:RT),True∧CX Try.prog 92
 (Array.mk [agg (Array.mk [int u8 aF,int u64 aB,int u64 aH,int u64 aI,int u64 aJ,int i64 aE,int i64 aG,slice aC aA aD])]) m' [] R_1∧Zax Shape.bool R_1∧∀(b_1:Bool)(m'_1:Mem),
 Mem.le m' m'_1→R_1 (Value.bool b_1) m'_1 []→br (!b_1) (∃(m'':Mem),Mem.le m m''∧Mem.le m'' m'_1∧R (int i64 10001) m'' []) (∀(b_2:Nat),∃(R_2:RT),True∧CX Try.prog 93 (Array.mk [agg (Array.mk [int u8
 aF,int u64 aB,int u64 aH,int u64 aI,int u64 aJ,int i64 aE,int i64 aG,slice aC aA aD])]) m'_1 [] R_2∧Zax Shape.fn R_2∧∀(g:Nat)(fi ca:List Value)(m':Mem),Mem.le m'_1 m'→R_2
 (Value.func (Fn.func g) (Array.mk fi) (Array.mk ca)) m' []→∃(xs:List (List Value)),IX Try.prog g fi ca m' xs∧(∀(x:List Value),x∈xs→Shape.fitsL [shT] x=true)∧∃(I:IT),I [] [[int i64 0]] [] m' 0∧
 (∀(n n_1 n_2 n_3 n_4 n_5 n_6:Int)(a:Option Addr)(n_7 c:Nat)(cs:List Value)(m'_2:Mem)(n_8:Nat),Mem.le m' m'_2→List.get?Internal xs n_8=some [agg (Array.mk [int u8 n,int u64 n_1,int u64 n_2,int
 u64 n_3,int u64 n_4,int i64 n_5,int i64 n_6,slice a n_7 c])]→I [] [cs] [] m'_2 n_8→Eng.ZrO cs 0 fun(v:Value)=>chk (Zal i64 v&&decide (i64=i64)) ([some (Box.mk b_2 [] 3 1 false true),some (Box.mk b
 [int u8 aF,int u64 aB,int u64 aH,int u64 aI,int u64 aJ,int i64 aE,int i64 aG,slice aC aA aD] 29 8 true true)]=[some (Box.mk b_2 [] 3 1 false true),some (Box.mk b [int u8 aF,int u64
 aB,int u64 aH,int u64 aI,int u64 aJ,int i64 aE,int i64 aG,slice aC aA aD] 29 8 true true)]∧I [] [[int i64 (IntKind.wrap i64 (RowKit.intOf v+(1:Int)))]] [] m'_2 (n_8+1)))∧∀(cs:List
 Value) (m'_2:Mem),Mem.le m' m'_2→I [] [cs] [] m'_2 (List.length xs)→Eng.ZrO cs 0 fun(v:Value)=>∃(m'':Mem),Mem.le m m''∧Mem.le m'' m'_2∧R v m'' [])
theorem Zo5(aF aB aH aI aJ aE aG:Int)(aC:Option Addr)(aA aD:Nat)(m:Mem)(R:RT)(h:Zlu aF aB aH aI aJ aE aG aC aA aD m R):CX Try.prog 78 #[.agg #[.int .u8 aF,.int .u64 aB,.int .u64 aH,.int .u64 aI,.int .u64 aJ,.int .i64 aE,.int .i64 aG,.slice aC aA aD]] m [] R:=
 Zad (E:=Zrs) ZaA mix Try.func78 [.v (.agg #[.int .u8 aF,.int .u64 aB,.int .u64 aH,.int .u64 aI,.int .u64 aJ,.int .i64 aE,.int .i64 aG,.slice aC aA aD])] [] (by kernel_rfl) (Eq.mp (by kernel_rfl) h)
noncomputable def Ziq:Env:={ EB with
 loops:=(fun i=>bif Nat.beq i 5 then⟨[(3,.int .i64),(14,.int .i64)],[],[],false⟩ else⟨[],[],[],false⟩)
 frzNew:=[1] }
def Zem(aF aB aH aI aJ aE aG:Int)(aC:Option Addr)(aA aD:Nat)(m:Mem)(R:RT):Prop:=
 ∀(b:Nat)(m':Mem),Mem.le m m'→Mem.reads m' b 0 [int u8 aF,int u64 aB,int u64 aH,int u64 aI,int u64 aJ,int i64 aE,int i64 aG,slice aC aA aD]→br (aF == (2:Int)) (∃(I:IT),(∃
 (n:Nat),I [int i64 1,int i64 0] [] [] m' n)∧∀(n ab:Int)(aa:Mem)(aj:Nat),Mem.le m' aa→I [int i64 n,int i64 ab] [] [] aa aj→br (decide (ab < (↑aA:Int))) (∃(ak:Nat),∃(o:Nat),aC=some
 (Addr.mk ak o none)∧Zaf ab aA∧∃(v:Value),∃(ac:Value),∃(ad:Value),∃(ae:Value),∃(af:Value),∃(ag:Value),∃(ah:Value),∃(ai:Value),Mem.reads aa ak (o+Int.toNat ab*8) [v,ac,ad,
 ae,af,ag,ah,ai]∧∀(am:Nat),chk (Value.oneCell' v&&(Value.oneCell' ac&&(Value.oneCell' ad&&(Value.oneCell' ae&&(Value.oneCell' af&&(Value.oneCell' ag&&(Value.oneCell' ah&&(Value.oneCell' ai &&
 true)))))))) (∃(R:RT),True∧CX Try.prog 95 (Array.mk [agg (Array.mk [v,ac,ad,ae,af,ag,ah,ai])]) aa [] R∧Zax (Shape.int i64) R∧∀(al:Int)(m':Mem),Mem.le aa m'→R (int i64 al) m' []→[some (Box.mk
 b [int u8 aF,int u64 aB,int u64 aH,int u64 aI,int u64 aJ,int i64 aE,int i64 aG,slice aC aA aD] 29 8 true true)]=[some (Box.mk b [int u8 aF,int u64 aB,int u64 aH,int u64 aI,int
 u64 aJ,int i64 aE,int i64 aG,slice aC aA aD] 29 8 true true)]∧∃(n':Nat),n' < aj∧I [int i64 (IntKind.wrap i64 (n+al)),int i64 (IntKind.wrap i64 (ab+(1:Int)))] [] [] m' n')) (br (aF ==
 (5:Int)) (br (aG == (-1:Int)) (∃(m'':Mem),Mem.le m m''∧Mem.le m'' aa∧R (int i64 (if(10001:Int) < IntKind.wrap i64 (n*if(10001:Int) < if(1:Int) > if(0:Int) > aE then(0:Int)else aE then
 (1:Int)else if(0:Int) > aE then(0:Int)else aE then(10001:Int)else if(1:Int) > if(0:Int) > aE then(0:Int)else aE then(1:Int)else if(0:Int) > aE then(0:Int)else aE)then
 (10001:Int)else IntKind.wrap i64 (n*if(10001:Int) < if(1:Int) > if(0:Int) > aE then(0:Int)else aE then(1:Int)else if(0:Int) > aE then(0:Int)else aE then(10001:Int)else if(1:
 Int) > if(0:Int) > aE then(0:Int)else aE then(1:Int)else if(0:Int) > aE then(0:Int)else aE))) m'' []) (∃(m'':Mem),Mem.le m m''∧Mem.le m'' aa∧R (int i64 (if(10001:Int) < IntKind.wrap
 i64 (n*if(10001:Int) < if aG > if(0:Int) > aE then(0:Int)else aE then aG else if(0:Int) > aE then(0:Int)else aE then(10001:Int)else if aG > if(0:Int) > aE then(0:Int)else
 aE then aG else if(0:Int) > aE then(0:Int)else aE)then(10001:Int)else IntKind.wrap i64 (n*if(10001:Int) < if aG > if(0:Int) > aE then(0:Int)else aE then aG else if(0:Int) >
 aE then(0:Int)else aE then(10001:Int)else if aG > if(0:Int) > aE then(0:Int)else aE then aG else if(0:Int) > aE then(0:Int)else aE))) m'' [])) (∃(m'':Mem),Mem.le m m''∧Mem.le
 m'' aa∧R (int i64 (if(10001:Int) < n then(10001:Int)else n)) m'' []))) (∃(I:IT),(∃(n:Nat),I [int i64 0,int i64 0] [] [] m' n)∧∀(n ab:Int)(aa:Mem)(aj:Nat),Mem.le m' aa→I [int i64 n,int
 i64 ab] [] [] aa aj→br (decide (ab < (↑aA:Int))) (∃(ak:Nat),∃(o:Nat),aC=some (Addr.mk ak o none)∧Zaf ab aA∧∃(v:Value),∃(ac:Value),∃(ad:Value),∃(ae:Value),∃(af:Value),∃
 (ag:Value),∃(ah:Value),∃(ai:Value),Mem.reads aa ak (o+Int.toNat ab*8) [v,ac,ad,ae,af,ag,ah,ai]∧∀(am:Nat),chk (Value.oneCell' v&&(Value.oneCell' ac&&(Value.oneCell' ad&&(Value.oneCell'
 ae&&(Value.oneCell' af&&(Value.oneCell' ag&&(Value.oneCell' ah&&(Value.oneCell' ai&&true)))))))) (∃(R:RT),True∧CX Try.prog 95 (Array.mk [agg (Array.mk [v,ac,ad,ae,af,ag,ah,ai])]) aa [] R∧Zax
 (Shape.int i64) R∧∀(al:Int)(m':Mem),Mem.le aa m'→R (int i64 al) m' []→[some (Box.mk b [int u8 aF,int u64 aB,int u64 aH,int u64 aI,int u64 aJ,int i64 aE,int i64 aG,slice aC aA
 aD] 29 8 true true)]=[some (Box.mk b [int u8 aF,int u64 aB,int u64 aH,int u64 aI,int u64 aJ,int i64 aE,int i64 aG,slice aC aA aD] 29 8 true true)]∧∃(n':Nat),n' < aj∧I [int i64
 (IntKind.wrap i64 (n+al)),int i64 (IntKind.wrap i64 (ab+(1:Int)))] [] [] m' n')) (br (aF == (5:Int)) (br (aG == (-1:Int)) (∃(m'':Mem),Mem.le m m''∧Mem.le m'' aa∧R (int i64 (if(10001:Int) <
 IntKind.wrap i64 (n*if(10001:Int) < if(1:Int) > if(0:Int) > aE then(0:Int)else aE then(1:Int)else if(0:Int) > aE then(0:Int)else aE then(10001:Int)else if(1:Int) > if(0:Int) >
 aE then(0:Int)else aE then(1:Int)else if(0:Int) > aE then(0:Int)else aE)then(10001:Int)else IntKind.wrap i64 (n*if(10001:Int) < if(1:Int) > if(0:Int) > aE then(0:Int)else
 aE then(1:Int)else if(0:Int) > aE then(0:Int)else aE then(10001:Int)else if(1:Int) > if(0:Int) > aE then(0:Int)else aE then(1:Int)else if(0:Int) > aE then(0:Int)else
 aE))) m'' []) (∃(m'':Mem),Mem.le m m''∧Mem.le m'' aa∧R (int i64 (if(10001:Int) < IntKind.wrap i64 (n*if(10001:Int) < if aG > if(0:Int) > aE then(0:Int)else aE then aG else if(0:Int) >
 aE then(0:Int)else aE then(10001:Int)else if aG > if(0:Int) > aE then(0:Int)else aE then aG else if(0:Int) > aE then(0:Int)else aE)then(10001:Int)else IntKind.wrap i64 (n*if
 (10001:Int) < if aG > if(0:Int) > aE then(0:Int)else aE then aG else if(0:Int) > aE then(0:Int)else aE then(10001:Int)else if aG > if(0:Int) > aE then(0:Int)else aE then aG
 else if(0:Int) > aE then(0:Int)else aE))) m'' [])) (∃(m'':Mem),Mem.le m m''∧Mem.le m'' aa∧R (int i64 (if(10001:Int) < n then(10001:Int)else n)) m'' [])))
theorem Zhl(aF aB aH aI aJ aE aG:Int)(aC:Option Addr)(aA aD:Nat)(m:Mem)(R:RT)(h:Zem aF aB aH aI aJ aE aG aC aA aD m R):CX Try.prog 95 #[.agg #[.int .u8 aF,.int .u64 aB,.int .u64 aH,.int .u64 aI,.int .u64 aJ,.int .i64 aE,.int .i64 aG,.slice aC aA aD]] m [] R:=
 Zad (E:=Ziq) ZaA mix Try.func95 [.v (.agg #[.int .u8 aF,.int .u64 aB,.int .u64 aH,.int .u64 aI,.int .u64 aJ,.int .i64 aE,.int .i64 aG,.slice aC aA aD])] [] (by kernel_rfl) (Eq.mp (by kernel_rfl) h)
noncomputable def Zir:Env:={ EB with
 frzNew:=[1] }
def Zen(aF aB aH aI aJ aE aG:Int)(aC:Option Addr)(aA aD:Nat)(m:Mem)(R:RT):Prop:=
 ∀(b:Nat)(m':Mem),Mem.le m m'→Mem.reads m' b 0 [int u8 aF,int u64 aB,int u64 aH,int u64 aI,int u64 aJ,int i64 aE,int i64 aG,slice aC aA aD]→∃(R_1:RT),True∧CX Try.prog 92
 (Array.mk [agg (Array.mk [int u8 aF,int u64 aB,int u64 aH,int u64 aI,int u64 aJ,int i64 aE,int i64 aG,slice aC aA aD])]) m' [] R_1∧Zax Shape.bool R_1∧∀(b:Bool)(m'_1:Mem),Mem.le
 m' m'_1→R_1 (Value.bool b) m'_1 []→br (!b) (∃(m'':Mem),Mem.le m m''∧Mem.le m'' m'_1∧R (int i64 10001) m'' []) (∃(R_2:RT),True∧CX Try.prog 95 (Array.mk [agg (Array.mk [int u8 aF,int u64 aB,int u64
 aH,int u64 aI,int u64 aJ,int i64 aE,int i64 aG,slice aC aA aD])]) m'_1 [] R_2∧Zax (Shape.int i64) R_2∧∀(n:Int)(m':Mem),Mem.le m'_1 m'→R_2 (int i64 n) m' []→∃(m'':Mem),Mem.le m
 m''∧Mem.le m'' m'∧R (int i64 n) m'' [])
theorem Zhm(aF aB aH aI aJ aE aG:Int)(aC:Option Addr)(aA aD:Nat)(m:Mem)(R:RT)(h:Zen aF aB aH aI aJ aE aG aC aA aD m R):CX Try.prog 79 #[.agg #[.int .u8 aF,.int .u64 aB,.int .u64 aH,.int .u64 aI,.int .u64 aJ,.int .i64 aE,.int .i64 aG,.slice aC aA aD]] m [] R:=
 Zad (E:=Zir) ZaA mix Try.func79 [.v (.agg #[.int .u8 aF,.int .u64 aB,.int .u64 aH,.int .u64 aI,.int .u64 aJ,.int .i64 aE,.int .i64 aG,.slice aC aA aD])] [] (by kernel_rfl) (Eq.mp (by kernel_rfl) h)
noncomputable def Zn4:Env:={ EB with
 loops:=(fun i=>bif Nat.beq i 6 then⟨[(10,.agg [.int .u8,.int .u64,.int .u64,.int .u64,.int .u64,.int .i64,.int .i64,.slice])],[3],[],false⟩ else⟨[],[],[],false⟩)
 frzNew:=[1] }
def Zhn(aF aB aH aI aJ aE aG:Int)(aC:Option Addr)(aA aD:Nat)(m:Mem)(R:RT):Prop:=
 ∀(b:Nat)(m':Mem),Mem.le m m'→Mem.reads m' b 0 [int u8 aF,int u64 aB,int u64 aH,int u64 aI,int u64 aJ,int i64 aE,int i64 aG,slice aC aA aD]→∃(R_1:RT),True∧CX Try.prog 92
 (Array.mk [agg (Array.mk [int u8 aF,int u64 aB,int u64 aH,int u64 aI,int u64 aJ,int i64 aE,int i64 aG,slice aC aA aD])]) m' [] R_1∧Zax Shape.bool R_1∧∀(ae:Bool)(ab:Mem),Mem.le
 m' ab→R_1 (Value.bool ae) ab []→br (!ae) (∃(m'':Mem),Mem.le m m''∧Mem.le m'' ab∧R (int i64 10001) m'' []) (∀(ac:Nat),∃(R_2:RT),True∧CX Try.prog 93 (Array.mk [agg (Array.mk [int u8 aF,int u64
 aB,int u64 aH,int u64 aI,int u64 aJ,int i64 aE,int i64 aG,slice aC aA aD])]) ab [] R_2∧Zax Shape.fn R_2∧∀(g:Nat)(fi ca:List Value)(m':Mem),Mem.le ab m'→R_2 (Value.func
 (Fn.func g) (Array.mk fi) (Array.mk ca)) m' []→∃(xs:List (List Value)),IX Try.prog g fi ca m' xs∧(∀(x:List Value),x∈xs→Shape.fitsL [shT] x=true)∧∃(I:IT),I [] [[int i64 0]] [] m' 0∧(∀(n af ag
 ah ai aj ak:Int) (a:Option Addr) (al c:Nat) (cs:List Value) (aa:Mem) (ad:Nat),Mem.le m' aa→List.get?Internal xs ad=some [agg (Array.mk [int u8 n,int u64 af,int u64 ag,int u64 ah,int u64 ai,int i64
 aj,int i64 ak,slice a al c])]→I [] [cs] [] aa ad→∀(am:Nat),br (n == (6:Int)) (Eng.ZrO cs 0 fun(v:Value)=>chk (Zal i64 v&&decide (i64=i64)) ([some (Box.mk ac [] 3 1 false true),some (Box.mk b
 [int u8 aF,int u64 aB,int u64 aH,int u64 aI,int u64 aJ,int i64 aE,int i64 aG,slice aC aA aD] 29 8 true true)]=[some (Box.mk ac [] 3 1 false true),some (Box.mk b [int u8 aF,int u64
 aB,int u64 aH,int u64 aI,int u64 aJ,int i64 aE,int i64 aG,slice aC aA aD] 29 8 true true)]∧I [] [[int i64 (IntKind.wrap i64 (RowKit.intOf v+(1:Int)))]] [] aa (ad+1))) ([some (Box.mk ac
 [] 3 1 false true),some (Box.mk b [int u8 aF,int u64 aB,int u64 aH,int u64 aI,int u64 aJ,int i64 aE,int i64 aG,slice aC aA aD] 29 8 true true)]=[some (Box.mk ac [] 3 1 false true),some
 (Box.mk b [int u8 aF,int u64 aB,int u64 aH,int u64 aI,int u64 aJ,int i64 aE,int i64 aG,slice aC aA aD] 29 8 true true)]∧I [] [cs] [] aa (ad+1)))∧∀(cs:List Value)(aa:Mem),Mem.le
 m' aa→I [] [cs] [] aa (List.length xs)→Eng.ZrO cs 0 fun(v:Value)=>∃(m'':Mem),Mem.le m m''∧Mem.le m'' aa∧R v m'' [])
theorem Zl7(aF aB aH aI aJ aE aG:Int)(aC:Option Addr)(aA aD:Nat)(m:Mem)(R:RT)(h:Zhn aF aB aH aI aJ aE aG aC aA aD m R):CX Try.prog 80 #[.agg #[.int .u8 aF,.int .u64 aB,.int .u64 aH,.int .u64 aI,.int .u64 aJ,.int .i64 aE,.int .i64 aG,.slice aC aA aD]] m [] R:=
 Zad (E:=Zn4) ZaA mix Try.func80 [.v (.agg #[.int .u8 aF,.int .u64 aB,.int .u64 aH,.int .u64 aI,.int .u64 aJ,.int .i64 aE,.int .i64 aG,.slice aC aA aD])] [] (by kernel_rfl) (Eq.mp (by kernel_rfl) h)
noncomputable def Zo6:Env:={ EB with
 frzNew:=[1] }
def Zjx(aF aB:Bool)(aH aI aJ aE aG bU bW:Int)(bN:Option Addr)(bO bP:Nat)(m:Mem)(R:RT):Prop:=
 ∀(b:Nat)(m':Mem),Mem.le m m'→Mem.reads m' b 0 [Value.bool aF,Value.bool aB,int u8 aH,int u64 aI,int u64 aJ,int u64 aE,int u64 aG,int i64 bU,int i64 bW,slice bN bO bP]→∃
 (R_1:RT),True∧CX Try.prog 74 (Array.mk [agg (Array.mk [int u8 aH,int u64 aI,int u64 aJ,int u64 aE,int u64 aG,int i64 bU,int i64 bW,slice bN bO bP])]) m' [] R_1∧Zax Shape.bool R_1∧
 ∀(b:Bool)(m'_1:Mem),Mem.le m' m'_1→R_1 (Value.bool b) m'_1 []→br (!b) (∃(m'':Mem),Mem.le m m''∧Mem.le m'' m'_1∧R (int i64 80) m'' []) (∃(R_2:RT),True∧CX Try.prog 78 (Array.mk [agg (Array.mk [int
 u8 aH,int u64 aI,int u64 aJ,int u64 aE,int u64 aG,int i64 bU,int i64 bW,slice bN bO bP])]) m'_1 [] R_2∧Zax (Shape.int i64) R_2∧∀(n:Int)(m':Mem),Mem.le m'_1 m'→R_2 (int i64 n)
 m' []→br (decide (n > (120:Int))) (∃(m'':Mem),Mem.le m m''∧Mem.le m'' m'∧R (int i64 81) m'' []) (∃(R_3:RT),True∧CX Try.prog 79 (Array.mk [agg (Array.mk [int u8 aH,int u64 aI,int u64 aJ,int u64
 aE,int u64 aG,int i64 bU,int i64 bW,slice bN bO bP])]) m' [] R_3∧Zax (Shape.int i64) R_3∧∀(n:Int)(m'_2:Mem),Mem.le m' m'_2→R_3 (int i64 n) m'_2 []→br (decide (n > (400:Int))) (∃
 (m'':Mem),Mem.le m m''∧Mem.le m'' m'_2∧R (int i64 82) m'' []) (∃(R_4:RT),True∧CX Try.prog 80 (Array.mk [agg (Array.mk [int u8 aH,int u64 aI,int u64 aJ,int u64 aE,int u64 aG,int i64 bU,int
 i64 bW,slice bN bO bP])]) m'_2 [] R_4∧Zax (Shape.int i64) R_4∧∀(n:Int)(m':Mem),Mem.le m'_2 m'→R_4 (int i64 n) m' []→br (decide (n > (9:Int))) (∃(m'':Mem),Mem.le m m''∧Mem.le m'' m'∧
 R (int i64 83) m'' []) (∃(m'':Mem),Mem.le m m''∧Mem.le m'' m'∧R (int i64 0) m'' []))))
theorem Zn5(aF aB:Bool)(aH aI aJ aE aG bU bW:Int)(bN:Option Addr)(bO bP:Nat)(m:Mem)(R:RT)(h:Zjx aF aB aH aI aJ aE aG bU bW bN bO bP m R):CX Try.prog 34 #[.agg #[.bool aF,.bool aB,.int .u8 aH,.int .u64 aI,.int .u64 aJ,.int .u64 aE,.int .u64 aG,.int .i64 bU,.int .i64 bW,.slice bN bO bP]] m [] R:=
 Zad (E:=Zo6) ZaA mix Try.func34 [.v (.agg #[.bool aF,.bool aB,.int .u8 aH,.int .u64 aI,.int .u64 aJ,.int .u64 aE,.int .u64 aG,.int .i64 bU,.int .i64 bW,.slice bN bO bP])] [] (by kernel_rfl) (Eq.mp (by kernel_rfl) h)
noncomputable def ZaK:Env:={ EB with
 loops:=(fun i=>bif Nat.beq i 4 then⟨[(17,.int .i64)],[],[],false⟩ else⟨[],[],[],false⟩) }
def Zaw(p0a:Option Addr)(p0n p0c:Nat)(p1a:Option Addr)(p1n p1c p2g:Nat)(p2fi p2ca:List Value)(m:Mem)(R:RT):Prop:=
 br (!(↑p0n:Int) == (↑p1n:Int)) (∃(m'':Mem),Mem.le m m''∧Mem.le m'' m∧R (Value.bool false) m'' []) (∃(I:IT),(∃(n:Nat),I [int i64 0] [] [] m n)∧∀(n:Int)(m':Mem)(n_1:Nat),Mem.le m m'→I
 [int i64 n] [] [] m' n_1→br (decide (n < (↑p0n:Int))) (∃(b:Nat),∃(o:Nat),p0a=some (Addr.mk b o none)∧Zaf n p0n∧∃(v:Value),∃(v_1:Value),∃(v_2:Value),∃(v_3:Value),∃(v_4:Value),∃
 (v_5:Value),∃(v_6:Value),∃(v_7:Value),Mem.reads m' b (o+Int.toNat n*8) [v,v_1,v_2,v_3,v_4,v_5,v_6,v_7]∧∀(b:Nat),chk (Value.oneCell' v&&(Value.oneCell' v_1&&(Value.oneCell' v_2 &&
 (Value.oneCell' v_3&&(Value.oneCell' v_4&&(Value.oneCell' v_5&&(Value.oneCell' v_6&&(Value.oneCell' v_7&&true)))))))) (∃(b:Nat),∃(o:Nat),p1a=some (Addr.mk b o none)∧Zaf n p1n∧∃(v_8:Value),
 ∃(v_9:Value),∃(v_10:Value),∃(v_11:Value),∃(v_12:Value),∃(v_13:Value),∃(v_14:Value),∃(v_15:Value),Mem.reads m' b (o+Int.toNat n*8) [v_8,v_9,v_10,v_11,v_12,v_13,v_14,v_15]∧∀(b:
 Nat),chk (Value.oneCell' v_8&&(Value.oneCell' v_9&&(Value.oneCell' v_10&&(Value.oneCell' v_11&&(Value.oneCell' v_12&&(Value.oneCell' v_13&&(Value.oneCell' v_14&&(Value.oneCell' v_15&&true)))))))) (∃
 (R_1:RT),True∧CX Try.prog p2g (Array.mk (List.append (List.append p2fi [agg (Array.mk [v,v_1,v_2,v_3,v_4,v_5,v_6,v_7]),agg (Array.mk [v_8,v_9,v_10,v_11,v_12,v_13,v_14,v_15])]) p2ca)) m' [] R_1∧Zax
 Shape.bool R_1∧∀(b:Bool)(m'_1:Mem),Mem.le m' m'_1→R_1 (Value.bool b) m'_1 []→br (!b) (∃(m'':Mem),Mem.le m m''∧Mem.le m'' m'_1∧R (Value.bool false) m'' []) (∃(n':Nat),n' < n_1∧I [int i64
 (IntKind.wrap i64 (n+(1:Int)))] [] [] m'_1 n')))) (∃(m'':Mem),Mem.le m m''∧Mem.le m'' m'∧R (Value.bool true) m'' []))
theorem ZaI(p0a:Option Addr)(p0n p0c:Nat)(p1a:Option Addr)(p1n p1c p2g:Nat)(p2fi p2ca:List Value)(m:Mem)(R:RT)(h:Zaw p0a p0n p0c p1a p1n p1c p2g p2fi p2ca m R):CX Try.prog 114 #[.slice p0a p0n p0c,.slice p1a p1n p1c,.func (.func p2g) p2fi.toArray p2ca.toArray] m [] R:=
 Zad (E:=ZaK) ZaA mix Try.func114 [.v (.slice p0a p0n p0c),.v (.slice p1a p1n p1c),.v (.func (.func p2g) p2fi.toArray p2ca.toArray)] [] (by kernel_rfl) (Eq.mp (by kernel_rfl) h)
noncomputable def Zrt:Env:={ EB with
 joins:=(fun i=>bif Nat.beq i 1 then some [(4,.bool)]else none)
 frzNew:=[2,3] }
def Zlv(aF aB aH aI aJ aE aG:Int)(aC:Option Addr)(aA aD:Nat)(aZ aN aO aP aQ aR aS:Int)(aK:Option Addr)(aL aM:Nat)(m:Mem)(R:RT):Prop:=
 ∀(b:Nat)(m':Mem),Mem.le m m'→Mem.reads m' b 0 [int u8 aF,int u64 aB,int u64 aH,int u64 aI,int u64 aJ,int i64 aE,int i64 aG,slice aC aA aD]→∀(aa:Nat)(ac:Mem),Mem.le m' ac→
 Mem.reads ac aa 0 [int u8 aZ,int u64 aN,int u64 aO,int u64 aP,int u64 aQ,int i64 aR,int i64 aS,slice aK aL aM]→∃(ab:Bool),br (aF == aZ) (∃(ad:Bool),EqIs Try.prog 26 (agg
 (Array.mk [int u64 aB,int u64 aH,int u64 aI,int u64 aJ])) (agg (Array.mk [int u64 aN,int u64 aO,int u64 aP,int u64 aQ])) ad∧br ad (br (aE == aR) (br (aG == aS) (∃(R:RT),True∧CX
 Try.prog 114 (Array.mk [slice aC aA aD,slice aK aL aM,Value.func (Fn.func 91) (Array.mk []) (Array.mk [])]) ac [] R∧Zax Shape.bool R∧∀(ae:Bool)(m':Mem),Mem.le ac m'→R (Value.bool ae) m'
 []→[some (Box.mk aa [int u8 aZ,int u64 aN,int u64 aO,int u64 aP,int u64 aQ,int i64 aR,int i64 aS,slice aK aL aM] 29 8 true true),some (Box.mk b [int u8 aF,int u64 aB,int u64 aH,
 int u64 aI,int u64 aJ,int i64 aE,int i64 aG,slice aC aA aD] 29 8 true true)]=[some (Box.mk aa [int u8 aZ,int u64 aN,int u64 aO,int u64 aP,int u64 aQ,int i64 aR,int i64 aS,
 slice aK aL aM] 29 8 true true),some (Box.mk b [int u8 aF,int u64 aB,int u64 aH,int u64 aI,int u64 aJ,int i64 aE,int i64 aG,slice aC aA aD] 29 8 true true)]∧[Value.bool ae] =
 [Value.bool ab]) ([some (Box.mk aa [int u8 aZ,int u64 aN,int u64 aO,int u64 aP,int u64 aQ,int i64 aR,int i64 aS,slice aK aL aM] 29 8 true true),some (Box.mk b [int u8 aF,int u64 aB,
 int u64 aH,int u64 aI,int u64 aJ,int i64 aE,int i64 aG,slice aC aA aD] 29 8 true true)]=[some (Box.mk aa [int u8 aZ,int u64 aN,int u64 aO,int u64 aP,int u64 aQ,int i64 aR,int
 i64 aS,slice aK aL aM] 29 8 true true),some (Box.mk b [int u8 aF,int u64 aB,int u64 aH,int u64 aI,int u64 aJ,int i64 aE,int i64 aG,slice aC aA aD] 29 8 true true)]∧
 [Value.bool false]=[Value.bool ab])) ([some (Box.mk aa [int u8 aZ,int u64 aN,int u64 aO,int u64 aP,int u64 aQ,int i64 aR,int i64 aS,slice aK aL aM] 29 8 true true),some (Box.mk b [int u8
 aF,int u64 aB,int u64 aH,int u64 aI,int u64 aJ,int i64 aE,int i64 aG,slice aC aA aD] 29 8 true true)]=[some (Box.mk aa [int u8 aZ,int u64 aN,int u64 aO,int u64 aP,int u64
 aQ,int i64 aR,int i64 aS,slice aK aL aM] 29 8 true true),some (Box.mk b [int u8 aF,int u64 aB,int u64 aH,int u64 aI,int u64 aJ,int i64 aE,int i64 aG,slice aC aA aD] 29 8
 true true)]∧[Value.bool false]=[Value.bool ab])) ([some (Box.mk aa [int u8 aZ,int u64 aN,int u64 aO,int u64 aP,int u64 aQ,int i64 aR,int i64 aS,slice aK aL aM] 29 8 true true),some
 (Box.mk b [int u8 aF,int u64 aB,int u64 aH,int u64 aI,int u64 aJ,int i64 aE,int i64 aG,slice aC aA aD] 29 8 true true)]=[some (Box.mk aa [int u8 aZ,int u64 aN,int u64 aO,int u64
 aP,int u64 aQ,int i64 aR,int i64 aS,slice aK aL aM] 29 8 true true),some (Box.mk b [int u8 aF,int u64 aB,int u64 aH,int u64 aI,int u64 aJ,int i64 aE,int i64 aG,slice aC
 aA aD] 29 8 true true)]∧[Value.bool false]=[Value.bool ab])) ([some (Box.mk aa [int u8 aZ,int u64 aN,int u64 aO,int u64 aP,int u64 aQ,int i64 aR,int i64 aS,slice aK aL aM] 29 8
 true true),some (Box.mk b [int u8 aF,int u64 aB,int u64 aH,int u64 aI,int u64 aJ,int i64 aE,int i64 aG,slice aC aA aD] 29 8 true true)]=[some (Box.mk aa [int u8 aZ,int u64 aN,int
 u64 aO,int u64 aP,int u64 aQ,int i64 aR,int i64 aS,slice aK aL aM] 29 8 true true),some (Box.mk b [int u8 aF,int u64 aB,int u64 aH,int u64 aI,int u64 aJ,int i64 aE,int i64
 aG,slice aC aA aD] 29 8 true true)]∧[Value.bool false]=[Value.bool ab])∧∃(m'':Mem),Mem.le m m''∧Mem.le m'' ac∧R (Value.bool ab) m'' []
theorem Zo7(aF aB aH aI aJ aE aG:Int)(aC:Option Addr)(aA aD:Nat)(aZ aN aO aP aQ aR aS:Int)(aK:Option Addr)(aL aM:Nat)(m:Mem)(R:RT)(h:Zlv aF aB aH aI aJ aE aG aC aA aD aZ aN aO aP aQ aR aS aK aL aM m R):CX Try.prog 91 #[.agg #[.int .u8 aF,.int .u64 aB,.int .u64 aH,.int .u64 aI,.int .u64 aJ,.int .i64 aE,.int .i64 aG,.slice aC aA aD],.agg #[.int .u8 aZ,.int .u64 aN,.int .u64 aO,.int .u64 aP,.int .u64 aQ,.int .i64 aR,.int .i64 aS,.slice aK aL aM]] m [] R:=
 Zad (E:=Zrt) ZaA mix Try.func91 [.v (.agg #[.int .u8 aF,.int .u64 aB,.int .u64 aH,.int .u64 aI,.int .u64 aJ,.int .i64 aE,.int .i64 aG,.slice aC aA aD]),.v (.agg #[.int .u8 aZ,.int .u64 aN,.int .u64 aO,.int .u64 aP,.int .u64 aQ,.int .i64 aR,.int .i64 aS,.slice aK aL aM])] [] (by kernel_rfl) (Eq.mp (by kernel_rfl) h)
noncomputable def Zru:Env:={ EB with
 joins:=(fun i=>bif Nat.beq i 1 then some [(4,.bool)]else none)
 frzNew:=[2,3] }
def Zlw(aF aB aH aI aJ aE aG:Int)(aC:Option Addr)(aA aD:Nat)(aZ aN aO aP aQ aR aS:Int)(aK:Option Addr)(aL aM:Nat)(m:Mem)(R:RT):Prop:=
 ∀(b:Nat)(m':Mem),Mem.le m m'→Mem.reads m' b 0 [int u8 aF,int u64 aB,int u64 aH,int u64 aI,int u64 aJ,int i64 aE,int i64 aG,slice aC aA aD]→∀(aa:Nat)(ab:Mem),Mem.le m' ab→
 Mem.reads ab aa 0 [int u8 aZ,int u64 aN,int u64 aO,int u64 aP,int u64 aQ,int i64 aR,int i64 aS,slice aK aL aM]→∃(ac:Bool),(∃(R:RT),True∧CX Try.prog 92 (Array.mk [agg (Array.mk
 [int u8 aF,int u64 aB,int u64 aH,int u64 aI,int u64 aJ,int i64 aE,int i64 aG,slice aC aA aD])]) ab [] R∧Zax Shape.bool R∧∀(ae:Bool)(m':Mem),Mem.le ab m'→R (Value.bool ae) m'
 []→br ae (∃(R:RT),True∧CX Try.prog 92 (Array.mk [agg (Array.mk [int u8 aZ,int u64 aN,int u64 aO,int u64 aP,int u64 aQ,int i64 aR,int i64 aS,slice aK aL aM])]) m' [] R∧Zax
 Shape.bool R∧∀(af:Bool)(ad:Mem),Mem.le m' ad→R (Value.bool af) ad []→br af (∃(R:RT),True∧CX Try.prog 91 (Array.mk [agg (Array.mk [int u8 aF,int u64 aB,int u64 aH,int u64 aI,int u64 aJ,
 int i64 aE,int i64 aG,slice aC aA aD]),agg (Array.mk [int u8 aZ,int u64 aN,int u64 aO,int u64 aP,int u64 aQ,int i64 aR,int i64 aS,slice aK aL aM])]) ad [] R∧Zax
 Shape.bool R∧∀(ag:Bool)(m':Mem),Mem.le ad m'→R (Value.bool ag) m' []→[some (Box.mk aa [int u8 aZ,int u64 aN,int u64 aO,int u64 aP,int u64 aQ,int i64 aR,int i64 aS,slice aK aL
 aM] 29 8 true true),some (Box.mk b [int u8 aF,int u64 aB,int u64 aH,int u64 aI,int u64 aJ,int i64 aE,int i64 aG,slice aC aA aD] 29 8 true true)]=[some (Box.mk aa [int u8 aZ,int u64
 aN,int u64 aO,int u64 aP,int u64 aQ,int i64 aR,int i64 aS,slice aK aL aM] 29 8 true true),some (Box.mk b [int u8 aF,int u64 aB,int u64 aH,int u64 aI,int u64 aJ,int i64 aE,
 int i64 aG,slice aC aA aD] 29 8 true true)]∧[Value.bool ag]=[Value.bool ac]) ([some (Box.mk aa [int u8 aZ,int u64 aN,int u64 aO,int u64 aP,int u64 aQ,int i64 aR,int i64 aS,slice
 aK aL aM] 29 8 true true),some (Box.mk b [int u8 aF,int u64 aB,int u64 aH,int u64 aI,int u64 aJ,int i64 aE,int i64 aG,slice aC aA aD] 29 8 true true)]=[some (Box.mk aa [int u8
 aZ,int u64 aN,int u64 aO,int u64 aP,int u64 aQ,int i64 aR,int i64 aS,slice aK aL aM] 29 8 true true),some (Box.mk b [int u8 aF,int u64 aB,int u64 aH,int u64 aI,int u64 aJ,
 int i64 aE,int i64 aG,slice aC aA aD] 29 8 true true)]∧[Value.bool false]=[Value.bool ac])) ([some (Box.mk aa [int u8 aZ,int u64 aN,int u64 aO,int u64 aP,int u64 aQ,int i64 aR,int
 i64 aS,slice aK aL aM] 29 8 true true),some (Box.mk b [int u8 aF,int u64 aB,int u64 aH,int u64 aI,int u64 aJ,int i64 aE,int i64 aG,slice aC aA aD] 29 8 true true)]=[some
 (Box.mk aa [int u8 aZ,int u64 aN,int u64 aO,int u64 aP,int u64 aQ,int i64 aR,int i64 aS,slice aK aL aM] 29 8 true true),some (Box.mk b [int u8 aF,int u64 aB,int u64 aH,int u64
 aI,int u64 aJ,int i64 aE,int i64 aG,slice aC aA aD] 29 8 true true)]∧[Value.bool false]=[Value.bool ac]))∧∃(m'':Mem),Mem.le m m''∧Mem.le m'' ab∧R (Value.bool ac) m'' []
theorem Zo8(aF aB aH aI aJ aE aG:Int)(aC:Option Addr)(aA aD:Nat)(aZ aN aO aP aQ aR aS:Int)(aK:Option Addr)(aL aM:Nat)(m:Mem)(R:RT)(h:Zlw aF aB aH aI aJ aE aG aC aA aD aZ aN aO aP aQ aR aS aK aL aM m R):CX Try.prog 83 #[.agg #[.int .u8 aF,.int .u64 aB,.int .u64 aH,.int .u64 aI,.int .u64 aJ,.int .i64 aE,.int .i64 aG,.slice aC aA aD],.agg #[.int .u8 aZ,.int .u64 aN,.int .u64 aO,.int .u64 aP,.int .u64 aQ,.int .i64 aR,.int .i64 aS,.slice aK aL aM]] m [] R:=
 Zad (E:=Zru) ZaA mix Try.func83 [.v (.agg #[.int .u8 aF,.int .u64 aB,.int .u64 aH,.int .u64 aI,.int .u64 aJ,.int .i64 aE,.int .i64 aG,.slice aC aA aD]),.v (.agg #[.int .u8 aZ,.int .u64 aN,.int .u64 aO,.int .u64 aP,.int .u64 aQ,.int .i64 aR,.int .i64 aS,.slice aK aL aM])] [] (by kernel_rfl) (Eq.mp (by kernel_rfl) h)
end Go.Proofs.Ythiefodednaikaa
set_option linter.unusedVariables false
set_option linter.unusedSimpArgs false
namespace Go.Proofs.Ythiefodednaikaa
open Go Go.Eng Go.Rx Go.Proofs Go.RowKit
set_option maxRecDepth 100000
theorem Zh9(t:T)(m:Mem):CX Try.prog 93 #[t.v] m [] (fun v m' _=>∃b,v=.func (.func 115) #[] #[.pointer (some ⟨b,0,none⟩)]∧m'.reads b 0 t.cs):=by
 apply ZnX
 unfold Zjs
 intro b m' hm hb
 exact⟨m',hm,Mem.le_refl _,b,rfl,hb⟩
theorem ZfN(t:T)(m:Mem)(c0b:Nat)(cH:m.reads c0b 0 t.cs)(gO:Rep m t):IX Try.prog 115 [] [.pointer (some ⟨c0b,0,none⟩)] m (t.nodes.map fun x=>[x.v]):=by
 apply Zkj 0 [] [] c0b 0
 unfold Zgr
 intro l b m' hm hb
 have jD:=cH.mono hm
 refine⟨_,_,_,_,_,_,_,_,jD,⟨rfl,by omega,?_⟩,?_,.inr rfl⟩
 ·rw[Zbf];rfl
 refine⟨t.sl,jD 7 _ rfl,Zaa rfl ?_⟩
 refine⟨fun xs _ _ m'' q=>∃i:Nat,i≤t.subs.length∧xs=[.int .i64 ((1+(Zay (t.subs.take i)).length:Nat):Int),.int .i64 i]∧m'.le m''∧q=t.subs.length - i,⟨t.subs.length,0,by omega,?_,Mem.le_refl _,by omega⟩,?_⟩
 ·simp[Zay]
 rintro y n m2 q aY ⟨i,hi,eY,iQ,hq⟩
 simp only[List.cons.injEq,Value.int.injEq,true_and,and_true]at eY
 obtain⟨rfl,rfl⟩:=eY
 have bQ:slN t.sl=t.subs.length:=rfl
 rw[bQ]
 refine Zab (fun bA=>?_) (fun cN=>?_)
 ·have aX:i < t.subs.length:=by simpa using bA
  obtain⟨x,hx⟩:∃x,t.subs[i]?=some x:=⟨_,List.getElem?_eq_getElem aX⟩
  have bZ:x∈t.subs:=List.mem_of_getElem? hx
  have bT:=Zeh bZ
  obtain⟨pg,h0|⟨b1,o1,ha,dR⟩⟩:=ZdC gO
  ·rw[h0]at aX;simp at aX
  obtain⟨iq,fK⟩:=(dR.mono ((Mem.le_trans hm iQ))).get hx
  refine Zaa rfl ⟨b1,o1,ha,⟨by omega,by omega⟩,_,_,_,_,_,_,_,_,iq,fun b2=>Zaa rfl ?_⟩
  refine⟨_,trivial,Zh9 x m2,fun v m' css h=>?_,?_⟩
  ·obtain⟨b3,rfl,_⟩:=h;rfl
  rintro g fi ca m3 bR ⟨b3,hv,fB⟩
  obtain⟨rfl,rfl,rfl⟩:=Zh5 hv
  refine⟨_,ZfN x m3 b3 fB (fK.mono bR),fun y hy=>?_,?_⟩
  ·obtain⟨z,_,rfl⟩:=List.mem_map.1 hy;exact ZoM z
  refine⟨fun xs _ _ m'' q=>q≤x.nodes.length∧xs=[.int .i64 ((1+(Zay (t.subs.take i)).length+q:Nat):Int)]∧m3.le m'',⟨Nat.zero_le _,rfl,Mem.le_refl _⟩,?_,?_⟩
  ·rintro y n0 n1 n2 n3 n4 n5 n6 a n7 c m4 q cF hq ⟨iu,hy,_⟩ b4
   simp only[List.cons.injEq,Value.int.injEq,true_and,and_true]at hy
   subst hy
   have hq':(List.map (fun z:T=>[z.v]) x.nodes)[(q:Nat)]?=some [Value.agg #[.int .u8 n0,.int .u64 n1,.int .u64 n2,.int .u64 n3,.int .u64 n4,.int .i64 n5,.int .i64 n6,.slice a n7 c]]:=hq
   rw[List.getElem?_map]at hq'
   obtain⟨z,hz,mq⟩:=Option.map_eq_some_iff.1 hq'
   have sZ:q < x.nodes.length:=(List.getElem?_eq_some_iff.1 hz).1
   refine⟨⟨rfl,by omega,?_⟩,⟨rfl,by omega,?_,cF⟩,rfl,.inr rfl⟩
   ·rw[Int.toNat_natCast]
    show(t.nodes.map fun x=>[x.v])[1+(Zay (t.subs.take i)).length+q]?=_
    rw[List.getElem?_map,ZsW hx hz,←mq];rfl
   ·congr 2
  ·rintro y m4 cF ⟨iu,hy,_⟩
   simp only[List.cons.injEq,Value.int.injEq,true_and,and_true]at hy
   subst hy
   refine⟨rfl,t.subs.length - (i+1),by omega,i+1,by omega,?_,Mem.le_trans iQ (Mem.le_trans bR cF),rfl⟩
   rw[Zap (by omega) (by omega),Zgg hx,List.length_append]
   simp[T.v,Nat.add_assoc]
 ·have hi':i=t.subs.length:=by
   have:¬((i:Int) < (t.subs.length:Int)):=by simpa using cN
   omega
  subst hi'
  left
  rw[List.take_length,Zbf]
  simp
  omega
termination_by SizeOf.sizeOf t
decreasing_by exact bT
theorem Zrv(least most:Int)(m:Mem):CX Try.prog 75 #[.int .i64 least,.int .i64 most] m [] (Ret (.bool (Zdh least most))):=by
 apply Zl6
 unfold Zhk
 refine⟨decide (least < 0)||decide (least > 16)||(least == 1&&most == 1),?_,Zab (fun h=>Zac (Mem.le_refl _) ?_) (fun h=>⟨most == -1||(decide (most ≥ 1)&&decide (most≤16)&&decide (most ≥ least)),?_,Zac (Mem.le_refl _) ?_⟩)⟩
 ·simp only[ZqZ];(repeat' split) <;> simp_all <;> omega
 ·simp[Ret,Zdh,h]
 ·simp only[ZqZ];(repeat' split) <;> simp_all <;> omega
 ·simp[Ret,Zdh,h]
theorem Zl8(l:List T)(a:Option Addr)(c:Nat)(g:Nat)(ca:List Value)(p:T→Bool)(m:Mem)(hl:l.length≤1000000000000000)(hr:l=[]∨∃b o,a=some ⟨b,o,none⟩∧RepAt m b o l)
  (hp:∀x∈l,∀m',m.le m'→Rep m' x→CX Try.prog g (x.v::ca).toArray m' [] (Ret (.bool (p x)))):
  CX Try.prog 128 #[.slice a l.length c,.func (.func g) #[] ca.toArray] m [] (Ret (.int .i64 (if l.any p then(l.findIdx p:Nat)else(-1:Int)))):=by
 apply Zbe a l.length c g [] ca
 unfold ZaR
 refine⟨fun xs _ _ m'' q=>∃i:Nat,i≤l.length∧xs=[.int .i64 i]∧(∀x∈l.take i,p x=false)∧m.le m''∧q=l.length - i,⟨l.length,0,by omega,rfl,by simp,Mem.le_refl _,by omega⟩,?_⟩
 rintro n m' q hm ⟨i,hi,hn,gw,cI,hq⟩
 obtain rfl:n=i:=by simpa using hn
 refine Zab (fun bA=>?_) (fun cN=>?_)
 ·have aX:i < l.length:=by simpa using bA
  obtain⟨x,hx⟩:∃x,l[i]?=some x:=⟨_,List.getElem?_eq_getElem aX⟩
  have bZ:x∈l:=List.mem_of_getElem? hx
  rcases hr with h0|⟨b1,o1,ha,dR⟩
  ·rw[h0]at aX;simp at aX
  obtain⟨iq,fK⟩:=(dR.mono hm).get hx
  refine⟨b1,o1,ha,⟨by omega,by omega⟩,_,_,_,_,_,_,_,_,iq,Zak (hp x bZ m' hm fK) fun m1 aW=>Zab (fun j1=>?_) (fun j1=>?_)⟩
  ·refine Zac (Mem.le_trans hm aW) ?_
   have kQ:l.any p=true:=List.any_eq_true.2 ⟨x,bZ,j1⟩
   have mr:l.findIdx p=i:=by
    rw[List.findIdx_eq aX]
    refine⟨by rw[(List.getElem?_eq_some_iff.1 hx).2];exact j1,fun j hj=>?_⟩
    exact gw _ (List.mem_of_getElem? (i:=j) (by rw[List.getElem?_take_of_lt hj];exact List.getElem?_eq_getElem (by omega)))
   simp[Ret,kQ,mr]
  ·refine⟨l.length - (i+1),by omega,i+1,by omega,by rw[Zap (by omega) (by omega)];rfl,?_,Mem.le_trans hm aW,rfl⟩
   intro y hy
   rw[List.take_add_one,hx]at hy
   rcases List.mem_append.1 hy with hy|hy
   ·exact gw y hy
   ·simp at hy;rw[hy];exact j1
 ·have hi':i=l.length:=by
   have:¬((i:Int) < (l.length:Int)):=by simpa using cN
   omega
  subst hi'
  refine Zac hm ?_
  have kQ:l.any p=false:=by
   rw[List.any_eq_false]
   rw[List.take_length]at gw
   exact fun x hx=>by simp[gw x hx]
  simp[Ret,kQ]
theorem Zho(l:List T)(a:Option Addr)(c:Nat)(g:Nat)(ca:List Value)(p:T→Bool)(m:Mem)(hl:l.length≤1000000000000000)(hr:l=[]∨∃b o,a=some ⟨b,o,none⟩∧RepAt m b o l)
  (hp:∀x∈l,∀m',m.le m'→Rep m' x→CX Try.prog g (x.v::ca).toArray m' [] (Ret (.bool (p x)))):
  CX Try.prog 125 #[.slice a l.length c,.func (.func g) #[] ca.toArray] m [] (Ret (.bool (l.any p))):=by
 apply Za4 a l.length c g [] ca
 unfold ZaM
 refine Zat (Zl8 l a c g ca p m hl hr hp) fun m' hm=>Zac hm ?_
 cases h:l.any p <;> simp[Ret]
theorem ZuM(t:T)(k:Int)(b:Nat)(m:Mem)(hb:m.reads b 0 [.int .u8 k]):CX Try.prog 126 #[t.v,.pointer (some ⟨b,0,none⟩)] m [] (Ret (.bool (t.k == k))):=by
 apply Zn0 (c0b:=b) (c0o:=0)
 unfold Zju
 intro b' m' hm _
 exact⟨_,hm _ _ _ (hb 0 _ rfl),Zaa rfl (Zac hm rfl)⟩
theorem Zrw(t:T)(k:Int)(m:Mem)(hr:Rep m t):CX Try.prog 116 #[t.v,.int .u8 k] m [] (Ret (.bool (t.has k))):=by
 apply Zrr
 unfold Zn1
 intro b m1 aW _ b2 m2 aY dT
 have hr':=ZdC (hr.mono (Mem.le_trans aW aY))
 exact Zak (Zho t.subs t.a t.c _ [.pointer (some ⟨b2,0,none⟩)] (fun x=>x.k == k) m2 hr'.1 hr'.2 fun x _ m' hm' _=>ZuM x k b2 m' (dT.mono hm')) fun m3 bR=>Zac (Mem.le_trans aW (Mem.le_trans aY bR)) rfl
theorem Zgs(t:T)(m:Mem)(hr:Rep m t):CX Try.prog 92 #[t.v] m [] (Ret (.bool t.light)):=by
 apply ZnY
 unfold Zjt
 intro b m1 aW _ b2
 refine Zan (Zh9 t m1) (fun v m' css h=>by obtain⟨_,rfl,_⟩:=h;rfl) ?_
 rintro g fi ca m2 aY ⟨b3,hv,fB⟩
 obtain⟨rfl,rfl,rfl⟩:=Zh5 hv
 have cI:=Mem.le_trans aW aY
 refine⟨_,ZfN t m2 b3 fB (hr.mono cI),fun y hy=>?_,fun _ css _ m' q=>css=[[.int .i64 q]]∧q≤10000∧q≤t.nodes.length,⟨rfl,by omega,by omega⟩,?_,?_⟩
 ·obtain⟨z,_,rfl⟩:=List.mem_map.1 hy;exact ZoM z
 ·rintro n0 n1 n2 n3 n4 n5 n6 a n7 c cs m3 q bR hq ⟨cR,iu,_⟩
  obtain rfl:cs=[.int .i64 q]:=by simpa using cR
  have bA:q < t.nodes.length:=by
   have:=(List.getElem?_eq_some_iff.1 (show(List.map (fun z:T=>[z.v]) t.nodes)[(q:Nat)]?=some _ from hq)).1
   simpa using this
  refine Zag rfl (Zaa rfl ?_)
  have hw:IntKind.i64.wrap (intOf (Value.int .i64 (q:Int))+1)=(q:Int)+1:=Zap (n:=(q:Int)+1) (by omega) (by omega)
  simp only[hw]
  refine Zab (fun h=>⟨by trivial,Zac (Mem.le_trans cI bR) ?_⟩) (fun h=>⟨by trivial,?_,?_,by omega⟩)
  ·have:((q:Int)+1 > 10000):=by simpa using h
   simp[Ret,T.light];omega
  ·simp
  ·have:¬((q:Int)+1 > 10000):=by simpa using h
   omega
 ·rintro cs m3 bR ⟨cR,iu,_⟩
  obtain rfl:cs=[.int .i64 t.nodes.length]:=by simpa using cR
  refine Zag rfl (Zaa rfl (Zac (Mem.le_trans cI bR) ?_))
  show Value.bool (decide ((t.nodes.length:Int)≤10000))=Value.bool t.light
  congr 1
  rw[T.light,decide_eq_decide];omega
end Go.Proofs.Ythiefodednaikaa
set_option linter.unusedVariables false
set_option linter.unusedSimpArgs false
namespace Go.Proofs.Ythiefodednaikaa
open Go Go.Eng Go.Proofs Go.RowKit
theorem Zdi{P:Program}{T:TypeId}(hg:P.eqGuardType P.depth T=false)(op:BinOp)(ox oy:Operand)(xs ys:Array Value)(w:World):(eqGuard op T ox oy (.agg xs) (.agg ys)).run P w=.ok () w:=by
 unfold eqGuard
 have h1:(P.eqGuardType P.depth T)=true→False:=fun h=>by rw[hg]at h;cases h
 split
 ·simp[go_sem];exact fun h=>(h1 h).elim
 ·simp[go_sem];exact fun h=>(h1 h).elim
 ·simp
theorem Ztf(a b c d a' b' c' d':Int):EqIs Try.prog 26 (.agg #[.int .u64 a,.int .u64 b,.int .u64 c,.int .u64 d]) (.agg #[.int .u64 a',.int .u64 b',.int .u64 c',.int .u64 d']) (a == a'&&b == b'&&c == c'&&d == d'):=by
 refine⟨fun w=>?_,fun op ox oy w=>Zdi (by kernel_rfl) op ox oy _ _ w⟩
 have u3:=Try.underlying24
 have a3:=Try.isAgg24
 have z3:=Try.sizeOf24
 rw[Op.equal,Op.maxDepth,show(10000:Nat)=9999+1 from rfl,Op.equalIn]
 simp only[Sem.run_bind,run_underlying Try.underlying26,Result.andThen_ok]
 simp only[Std.Legacy.Range.forIn_eq_forIn_range',Std.Legacy.Range.size,Nat.sub_zero,Nat.add_sub_cancel,Nat.div_one,List.range'_succ,List.range'_zero,List.forIn_cons,List.forIn_nil]
 go_simp
 by_cases h1:a=a' <;> by_cases h2:b=b' <;> by_cases h3:c=c' <;> by_cases h4:d=d' <;> simp[h1,h2,h3,h4]
end Go.Proofs.Ythiefodednaikaa
