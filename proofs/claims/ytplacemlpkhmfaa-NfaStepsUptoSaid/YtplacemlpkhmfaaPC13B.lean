/- Part of the proof: conditions and contracts of functions of this program. No condition of its own. -/
import Derived.Test.YtplacemlpkhmfaaPEnv
import Derived.Test.YtplacemlpkhmfaaMr
import Derived.Test.YtplacemlpkhmfaaMc
import Derived.Laws.StructEq
import Derived.Laws.Tables
import Derived.Laws.Cover2
set_option linter.unusedVariables false
namespace Go.Proofs.Ytplacemlpkhmfaa
open Go Go.Eng Go.Proofs Go.RowKit
open Go.Value (int slice agg)
open Go.IntKind (u8 u64 i64)
set_option maxRecDepth 100000
end Go.Proofs.Ytplacemlpkhmfaa
set_option linter.unusedVariables false
namespace Go.Proofs.Ytplacemlpkhmfaa
open Go Go.Eng Go.Proofs Go.RowKit
open Go.Value (int slice agg)
open Go.IntKind (u8 u64 i64)
set_option maxRecDepth 100000
end Go.Proofs.Ytplacemlpkhmfaa
set_option linter.unusedVariables false
namespace Go.Proofs.Ytplacemlpkhmfaa
open Go Go.Eng Go.Proofs Go.RowKit
open Go.Value (int slice agg)
open Go.IntKind (u8 u64 i64)
set_option maxRecDepth 100000
noncomputable def ZoM:Env:={ EB with
 frzNew:=[1] }
def Zjb(aR aS aT aU aA aQ aV:Int)(aO:Option Addr)(aN aP:Nat)(m:Mem)(R:RT):Prop:=
 ∀(b:Nat)(m':Mem),Mem.le m m'→Mem.reads m' b 0 [int u8 aR,int u64 aS,int u64 aT,int u64 aU,int u64 aA,int i64 aQ,int i64 aV,slice aO aN aP]→∃(m'':Mem),Mem.le m m''∧Mem.le
 m'' m'∧R (Value.func (Fn.func 133) (Array.mk []) (Array.mk [Value.pointer (some (Addr.mk b 0 none))])) m'' []
theorem Zns(aR aS aT aU aA aQ aV:Int)(aO:Option Addr)(aN aP:Nat)(m:Mem)(R:RT)(h:Zjb aR aS aT aU aA aQ aV aO aN aP m R):CX Try.prog 107 #[.agg #[.int .u8 aR,.int .u64 aS,.int .u64 aT,.int .u64 aU,.int .u64 aA,.int .i64 aQ,.int .i64 aV,.slice aO aN aP]] m [] R:=
 Zal (E:=ZoM) Zaz mix Try.func107 [.v (.agg #[.int .u8 aR,.int .u64 aS,.int .u64 aT,.int .u64 aU,.int .u64 aA,.int .i64 aQ,.int .i64 aV,.slice aO aN aP])] [] (by kernel_rfl) (Eq.mp (by kernel_rfl) h)
noncomputable def ZlF:Env:={ EB with
 loops:=(fun i=>bif Nat.beq i 3 then⟨[(13,.int .i64)],[],[],true⟩ else bif Nat.beq i 7 then⟨[(19,.agg [.int .u8,.int .u64,.int .u64,.int .u64,.int .u64,.int .i64,.int .i64,.slice])],[],[],true⟩ else⟨[],[],[],false⟩)
 frzNew:=[2] }
def Zgl(p0g:Nat)(p0fi p0ca:List Value)(c0b c0o:Nat)(m:Mem)(xs:List (List Value)):Prop:=
 ∀(l b:Nat)(m':Mem),Mem.le m m'→Mem.reads m' b 0 [Value.func (Fn.yield l) (Array.mk []) (Array.mk [])]→∃(v:Value),∃(an:Value),∃(ao:Value),∃(ap:Value),∃(aq:Value),∃(ar:Value),∃(au:
 Value),∃(av:Value),Mem.reads m' c0b c0o [v,an,ao,ap,aq,ar,au,av]∧(l=l∧(0:Int)≤(0:Int)∧List.get?Internal xs (Int.toNat (0:Int))=some [agg (Array.mk [v,an,ao,ap,aq,ar,au,av])])∧(∃(v
 : Value),m' c0b (c0o+7)=some v∧chk (Zdm v) (∃(I:IT),(∃(n:Nat),I [int i64 ((0:Int)+(1:Int)),int i64 0] [] [] m' n)∧∀(y n:Int)(ai:Mem)(aw:Nat),Mem.le m' ai→I [int i64 y,int i64 n] []
 [] ai aw→br (decide (n < (↑(slN v):Int))) (chk (Zdm v) (∃(ax:Nat),∃(o:Nat),slA v=some (Addr.mk ax o none)∧Zag n (slN v)∧∃(v:Value),∃(aa:Value),∃(ab:Value),∃(ac:Value),∃(ad:
 Value),∃(ae:Value),∃(af:Value),∃(ag:Value),Mem.reads ai ax (o+Int.toNat n*8) [v,aa,ab,ac,ad,ae,af,ag]∧∀(aj:Nat),chk (Value.oneCell' v&&(Value.oneCell' aa&&(Value.oneCell' ab &&
 (Value.oneCell' ac&&(Value.oneCell' ad&&(Value.oneCell' ae&&(Value.oneCell' af&&(Value.oneCell' ag&&true)))))))) (∃(R:RT),True∧CX Try.prog 107 (Array.mk [agg (Array.mk [v,aa,ab,ac,ad,ae,af,ag])])
 ai [] R∧ZaF Shape.fn R∧∀(g:Nat)(fi ca:List Value)(m':Mem),Mem.le ai m'→R (Value.func (Fn.func g) (Array.mk fi) (Array.mk ca)) m' []→∃(ak:List (List Value)),IX Try.prog g fi ca m' ak∧(∀(x:List
 Value),x∈ak→Shape.fitsL [shT] x=true)∧∃(al:IT),al [int i64 y] [] [] m' 0∧(∀(y n ay az a0 a1 a2 a3:Int)(a:Option Addr)(a4 c:Nat)(ah:Mem)(am:Nat),Mem.le m' ah→List.get?Internal ak am =
 some [agg (Array.mk [int u8 n,int u64 ay,int u64 az,int u64 a0,int u64 a1,int i64 a2,int i64 a3,slice a a4 c])]→al [int i64 y] [] [] ah am→∀(a5:Nat),(l=l∧(0:Int)≤y∧List.get?Internal xs
 (Int.toNat y)=some [agg (Array.mk [int u8 n,int u64 ay,int u64 az,int u64 a0,int u64 a1,int i64 a2,int i64 a3,slice a a4 c])])∧([some (Box.mk aj [v,aa,ab,ac,ad,ae,af,ag] 41 8 false true),some (Box.mk
 b [Value.func (Fn.yield l) (Array.mk []) (Array.mk [])] 94 1 true true)]=[some (Box.mk aj [v,aa,ab,ac,ad,ae,af,ag] 41 8 false true),some (Box.mk b [Value.func (Fn.yield l) (Array.mk []) (Array.mk [])] 94 1
 true true)]∧al [int i64 (y+(1:Int))] [] [] ah (am+1))∧[some (Box.mk aj [v,aa,ab,ac,ad,ae,af,ag] 41 8 false true),some (Box.mk b [Value.func (Fn.yield l) (Array.mk []) (Array.mk [])] 94 1 true true)] =
 [some (Box.mk aj [v,aa,ab,ac,ad,ae,af,ag] 41 8 false true),some (Box.mk b [Value.func (Fn.yield l) (Array.mk []) (Array.mk [])] 94 1 true true)]∧((-1:Int)=(↑(List.length xs):Int)∨(-1:Int)=(-1:
 Int)))∧∀(y:Int)(ah:Mem),Mem.le m' ah→al [int i64 y] [] [] ah (List.length ak)→[some (Box.mk b [Value.func (Fn.yield l) (Array.mk []) (Array.mk [])] 94 1 true true)]=[some (Box.mk b [Value.func (Fn.yield
 l) (Array.mk []) (Array.mk [])] 94 1 true true)]∧∃(n':Nat),n' < aw∧I [int i64 y,int i64 (IntKind.wrap i64 (n+(1:Int)))] [] [] ah n'))) (y=(↑(List.length xs):Int)∨y=(-1:Int))))∧((-1:Int) =
 (↑(List.length xs):Int)∨(-1:Int)=(-1:Int))
theorem ZjY(p0g:Nat)(p0fi p0ca:List Value)(c0b c0o:Nat)(m:Mem)(xs:List (List Value))(h:Zgl p0g p0fi p0ca c0b c0o m xs):IX Try.prog 133 [] [.pointer (some ⟨c0b,c0o,none⟩)] m xs:=
 Zm6 (E:=ZlF) Zaz mix Try.func133 [] [.pointer (some ⟨c0b,c0o,none⟩)] xs (by kernel_rfl) (Eq.mp (by kernel_rfl) h)
noncomputable def ZoN:Env:={ EB with
 loops:=(fun i=>bif Nat.beq i 3 then⟨[(6,.agg [.int .u8,.int .u64,.int .u64,.int .u64,.int .u64,.int .i64,.int .i64,.slice])],[3],[],false⟩ else⟨[],[],[],false⟩)
 frzNew:=[1] }
def Zjc(aR aS aT aU aA aQ aV:Int)(aO:Option Addr)(aN aP:Nat)(m:Mem)(R:RT):Prop:=
 ∀(b:Nat)(m':Mem),Mem.le m m'→Mem.reads m' b 0 [int u8 aR,int u64 aS,int u64 aT,int u64 aU,int u64 aA,int i64 aQ,int i64 aV,slice aO aN aP]→∀(b_1:Nat),∃(R_1:RT),True∧CX
 Try.prog 107 (Array.mk [agg (Array.mk [int u8 aR,int u64 aS,int u64 aT,int u64 aU,int u64 aA,int i64 aQ,int i64 aV,slice aO aN aP])]) m' [] R_1∧ZaF Shape.fn R_1∧∀(g:Nat) (fi ca:
 List Value) (m'_1:Mem),Mem.le m' m'_1→R_1 (Value.func (Fn.func g) (Array.mk fi) (Array.mk ca)) m'_1 []→∃(xs:List (List Value)),IX Try.prog g fi ca m'_1 xs∧(∀(x:List Value),x∈xs→Shape.fitsL [shT] x =
 true)∧∃(I:IT),I [] [[int i64 0]] [] m'_1 0∧(∀(n n_1 n_2 n_3 n_4 n_5 n_6:Int)(a:Option Addr)(n_7 c:Nat)(cs:List Value)(m':Mem)(n_8:Nat),Mem.le m'_1 m'→List.get?Internal xs n_8=some [agg
 (Array.mk [int u8 n,int u64 n_1,int u64 n_2,int u64 n_3,int u64 n_4,int i64 n_5,int i64 n_6,slice a n_7 c])]→I [] [cs] [] m' n_8→Eng.Zrv cs 0 fun(v:Value)=>chk (Zbv i64 v&&decide (i64=i64)) (br
 (decide (IntKind.wrap i64 (RowKit.intOf v+(1:Int)) > (10000:Int))) ([some (Box.mk b_1 [] 3 1 false true),some (Box.mk b [int u8 aR,int u64 aS,int u64 aT,int u64 aU,int u64 aA,int i64 aQ,int i64
 aV,slice aO aN aP] 41 8 true true)]=[some (Box.mk b_1 [] 3 1 false true),some (Box.mk b [int u8 aR,int u64 aS,int u64 aT,int u64 aU,int u64 aA,int i64 aQ,int i64 aV,slice aO aN
 aP] 41 8 true true)]∧∃(m'':Mem),Mem.le m m''∧Mem.le m'' m'∧R (Value.bool (decide (IntKind.wrap i64 (RowKit.intOf v+(1:Int))≤(10000:Int)))) m'' []) ([some (Box.mk b_1 [] 3 1 false true),some (Box.mk
 b [int u8 aR,int u64 aS,int u64 aT,int u64 aU,int u64 aA,int i64 aQ,int i64 aV,slice aO aN aP] 41 8 true true)]=[some (Box.mk b_1 [] 3 1 false true),some (Box.mk b [int u8 aR,int u64
 aS,int u64 aT,int u64 aU,int u64 aA,int i64 aQ,int i64 aV,slice aO aN aP] 41 8 true true)]∧I [] [[int i64 (IntKind.wrap i64 (RowKit.intOf v+(1:Int)))]] [] m' (n_8+1))))∧∀(cs:List
 Value) (m':Mem),Mem.le m'_1 m'→I [] [cs] [] m' (List.length xs)→Eng.Zrv cs 0 fun(v:Value)=>chk (Zbv i64 v&&decide (i64=i64)) (∃(m'':Mem),Mem.le m m''∧Mem.le m'' m'∧R (Value.bool (decide
 (RowKit.intOf v≤(10000:Int)))) m'' [])
theorem Znt(aR aS aT aU aA aQ aV:Int)(aO:Option Addr)(aN aP:Nat)(m:Mem)(R:RT)(h:Zjc aR aS aT aU aA aQ aV aO aN aP m R):CX Try.prog 92 #[.agg #[.int .u8 aR,.int .u64 aS,.int .u64 aT,.int .u64 aU,.int .u64 aA,.int .i64 aQ,.int .i64 aV,.slice aO aN aP]] m [] R:=
 Zal (E:=ZoN) Zaz mix Try.func92 [.v (.agg #[.int .u8 aR,.int .u64 aS,.int .u64 aT,.int .u64 aU,.int .u64 aA,.int .i64 aQ,.int .i64 aV,.slice aO aN aP])] [] (by kernel_rfl) (Eq.mp (by kernel_rfl) h)
noncomputable def Znu:Env:={ EB with
 joins:=(fun i=>bif Nat.beq i 1 then some [(18,.bool)]else bif Nat.beq i 3 then some [(4,.bool)]else none) }
def Zhg(p0 p1:Int)(m:Mem)(R:RT):Prop:=
 ∃(b:Bool),br (decide (p0 < (0:Int))) ([Value.bool true]=[Value.bool b]) (br (decide (p0 > (16:Int))) ([Value.bool true]=[Value.bool b]) (br (p0 == (1:Int)) ([Value.bool (p1 == (1:Int))]=[Value.bool b])
 ([Value.bool false]=[Value.bool b])))∧br b (∃(m'':Mem),Mem.le m m''∧Mem.le m'' m∧R (Value.bool false) m'' []) (∃(b:Bool),br (p1 == (-1:Int)) ([Value.bool true]=[Value.bool b]) (br (decide (p1 ≥ (1:
 Int))) (br (decide (p1≤(16:Int))) ([Value.bool (decide (p1 ≥ p0))]=[Value.bool b]) ([Value.bool false]=[Value.bool b])) ([Value.bool false]=[Value.bool b]))∧∃(m'':Mem),Mem.le m m''∧Mem.le m'' m∧R
 (Value.bool b) m'' [])
theorem ZlG(p0 p1:Int)(m:Mem)(R:RT)(h:Zhg p0 p1 m R):CX Try.prog 84 #[.int .i64 p0,.int .i64 p1] m [] R:=
 Zal (E:=Znu) Zaz mix Try.func84 [.v (.int .i64 p0),.v (.int .i64 p1)] [] (by kernel_rfl) (Eq.mp (by kernel_rfl) h)
noncomputable def ZoO:Env:={ EB with
 frzNew:=[2] }
def Zjd(aR aS aT aU aA aQ aV:Int)(aO:Option Addr)(aN aP c0b c0o:Nat)(m:Mem)(R:RT):Prop:=
 ∀(b:Nat)(m':Mem),Mem.le m m'→Mem.reads m' b 0 [int u8 aR,int u64 aS,int u64 aT,int u64 aU,int u64 aA,int i64 aQ,int i64 aV,slice aO aN aP]→∃(v:Value),m' c0b c0o=some v∧
 chk (Zbv u8 v) (∃(m'':Mem),Mem.le m m''∧Mem.le m'' m'∧R (Value.bool (aR == RowKit.intOf v)) m'' [])
theorem Znv(aR aS aT aU aA aQ aV:Int)(aO:Option Addr)(aN aP c0b c0o:Nat)(m:Mem)(R:RT)(h:Zjd aR aS aT aU aA aQ aV aO aN aP c0b c0o m R):CX Try.prog 163 #[.agg #[.int .u8 aR,.int .u64 aS,.int .u64 aT,.int .u64 aU,.int .u64 aA,.int .i64 aQ,.int .i64 aV,.slice aO aN aP],.pointer (some ⟨c0b,c0o,none⟩)] m [] R:=
 Zal (E:=ZoO) Zaz mix Try.func163 [.v (.agg #[.int .u8 aR,.int .u64 aS,.int .u64 aT,.int .u64 aU,.int .u64 aA,.int .i64 aQ,.int .i64 aV,.slice aO aN aP]),.v (.pointer (some ⟨c0b,c0o,none⟩))] [] (by kernel_rfl) (Eq.mp (by kernel_rfl) h)
noncomputable def Zbr:Env:={ EB with
 loops:=(fun i=>bif Nat.beq i 2 then⟨[(8,.int .i64)],[],[],false⟩ else⟨[],[],[],false⟩) }
def ZaP(p0a:Option Addr)(p0n p0c p1g:Nat)(p1fi p1ca:List Value)(m:Mem)(R:RT):Prop:=
 ∃(I:IT),(∃(n:Nat),I [int i64 0] [] [] m n)∧∀(n:Int)(m':Mem)(n_1:Nat),Mem.le m m'→I [int i64 n] [] [] m' n_1→br (decide (n < (↑p0n:Int))) (∃(b:Nat),∃(o:Nat),p0a=some (Addr.mk b o none)
 ∧ Zag n p0n∧∃(v:Value),∃(v_1:Value),∃(v_2:Value),∃(v_3:Value),∃(v_4:Value),∃(v_5:Value),∃(v_6:Value),∃(v_7:Value),Mem.reads m' b (o+Int.toNat n*8) [v,v_1,v_2,v_3,v_4,v_5,
 v_6,v_7]∧∃(R_1:RT),True∧CX Try.prog p1g (Array.mk (List.append (List.append p1fi [agg (Array.mk [v,v_1,v_2,v_3,v_4,v_5,v_6,v_7])]) p1ca)) m' [] R_1∧ZaF Shape.bool R_1∧∀(b:Bool)(m'_1:Mem),
 Mem.le m' m'_1→R_1 (Value.bool b) m'_1 []→br b (∃(m'':Mem),Mem.le m m''∧Mem.le m'' m'_1∧R (int i64 n) m'' []) (∃(n':Nat),n' < n_1∧I [int i64 (IntKind.wrap i64 (n+(1:Int)))] [] [] m'_1 n')) (∃(m''
 : Mem),Mem.le m m''∧Mem.le m'' m'∧R (int i64 (-1:Int)) m'' [])
theorem Zbi(p0a:Option Addr)(p0n p0c p1g:Nat)(p1fi p1ca:List Value)(m:Mem)(R:RT)(h:ZaP p0a p0n p0c p1g p1fi p1ca m R):CX Try.prog 166 #[.slice p0a p0n p0c,.func (.func p1g) p1fi.toArray p1ca.toArray] m [] R:=
 Zal (E:=Zbr) Zaz mix Try.func166 [.v (.slice p0a p0n p0c),.v (.func (.func p1g) p1fi.toArray p1ca.toArray)] [] (by kernel_rfl) (Eq.mp (by kernel_rfl) h)
noncomputable def Za6:Env:=EB
def ZaM(p0a:Option Addr)(p0n p0c p1g:Nat)(p1fi p1ca:List Value)(m:Mem)(R:RT):Prop:=
 ∃(R_1:RT),True∧CX Try.prog 166 (Array.mk [slice p0a p0n p0c,Value.func (Fn.func p1g) (Array.mk p1fi) (Array.mk p1ca)]) m [] R_1∧ZaF (Shape.int i64) R_1∧∀(n:Int)(m':Mem),Mem.le m m'→R_1 (int i64 n)
 m' []→∃(m'':Mem),Mem.le m m''∧Mem.le m'' m'∧R (Value.bool (decide (n ≥ (0:Int)))) m'' []
theorem Za3(p0a:Option Addr)(p0n p0c p1g:Nat)(p1fi p1ca:List Value)(m:Mem)(R:RT)(h:ZaM p0a p0n p0c p1g p1fi p1ca m R):CX Try.prog 162 #[.slice p0a p0n p0c,.func (.func p1g) p1fi.toArray p1ca.toArray] m [] R:=
 Zal (E:=Za6) Zaz mix Try.func162 [.v (.slice p0a p0n p0c),.v (.func (.func p1g) p1fi.toArray p1ca.toArray)] [] (by kernel_rfl) (Eq.mp (by kernel_rfl) h)
noncomputable def ZsC:Env:={ EB with
 frzNew:=[2,3] }
def Znw(aR aS aT aU aA aQ aV:Int)(aO:Option Addr)(aN aP:Nat)(p1:Int)(m:Mem)(R:RT):Prop:=
 ∀(b:Nat)(m':Mem),Mem.le m m'→Mem.reads m' b 0 [int u8 aR,int u64 aS,int u64 aT,int u64 aU,int u64 aA,int i64 aQ,int i64 aV,slice aO aN aP]→∀(b:Nat)(m'_1:Mem),Mem.le m'
 m'_1→Mem.reads m'_1 b 0 [int u8 p1]→∃(R_1:RT),True∧CX Try.prog 162 (Array.mk [slice aO aN aP,Value.func (Fn.func 163) (Array.mk []) (Array.mk [Value.pointer (some (Addr.mk b 0 none))])]) m'_1 [] R_1
 ∧ ZaF Shape.bool R_1∧∀(b:Bool)(m':Mem),Mem.le m'_1 m'→R_1 (Value.bool b) m' []→∃(m'':Mem),Mem.le m m''∧Mem.le m'' m'∧R (Value.bool b) m'' []
theorem Zq0(aR aS aT aU aA aQ aV:Int)(aO:Option Addr)(aN aP:Nat)(p1:Int)(m:Mem)(R:RT)(h:Znw aR aS aT aU aA aQ aV aO aN aP p1 m R):CX Try.prog 134 #[.agg #[.int .u8 aR,.int .u64 aS,.int .u64 aT,.int .u64 aU,.int .u64 aA,.int .i64 aQ,.int .i64 aV,.slice aO aN aP],.int .u8 p1] m [] R:=
 Zal (E:=ZsC) Zaz mix Try.func134 [.v (.agg #[.int .u8 aR,.int .u64 aS,.int .u64 aT,.int .u64 aU,.int .u64 aA,.int .i64 aQ,.int .i64 aV,.slice aO aN aP]),.v (.int .u8 p1)] [] (by kernel_rfl) (Eq.mp (by kernel_rfl) h)
noncomputable def ZoP:Env:={ EB with
 joins:=(fun i=>bif Nat.beq i 1 then some [(37,.bool)]else bif Nat.beq i 9 then some [(2,.bool)]else bif Nat.beq i 11 then some [(2,.bool)]else bif Nat.beq i 13 then some [(2,.bool)]else bif Nat.beq i 14 then some [(2,.bool)]else none)
 frzNew:=[1] }
def Zje(aR aS aT aU aA aQ aV:Int)(aO:Option Addr)(aN aP:Nat)(m:Mem)(R:RT):Prop:=
 ∀(b:Nat)(m':Mem),Mem.le m m'→Mem.reads m' b 0 [int u8 aR,int u64 aS,int u64 aT,int u64 aU,int u64 aA,int i64 aQ,int i64 aV,slice aO aN aP]→∃(ab:Bool),br (!aR == (2:Int))
 (∃(aa:Bool),EqIs Try.prog 38 (agg (Array.mk [int u64 aS,int u64 aT,int u64 aU,int u64 aA])) (agg (Array.mk [int u64 0,int u64 0,int u64 0,int u64 0])) aa∧br (!aa) ([some (Box.mk b [int u8 aR,int
 u64 aS,int u64 aT,int u64 aU,int u64 aA,int i64 aQ,int i64 aV,slice aO aN aP] 41 8 true true)]=[some (Box.mk b [int u8 aR,int u64 aS,int u64 aT,int u64 aU,int u64 aA,int i64
 aQ,int i64 aV,slice aO aN aP] 41 8 true true)]∧[Value.bool true]=[Value.bool ab]) (br (!aR == (5:Int)) (br (!aQ == (0:Int)) ([some (Box.mk b [int u8 aR,int u64 aS,int u64 aT,int u64
 aU,int u64 aA,int i64 aQ,int i64 aV,slice aO aN aP] 41 8 true true)]=[some (Box.mk b [int u8 aR,int u64 aS,int u64 aT,int u64 aU,int u64 aA,int i64 aQ,int i64 aV,slice aO
 aN aP] 41 8 true true)]∧[Value.bool true]=[Value.bool ab]) (br (!aV == (0:Int)) ([some (Box.mk b [int u8 aR,int u64 aS,int u64 aT,int u64 aU,int u64 aA,int i64 aQ,int i64 aV,slice
 aO aN aP] 41 8 true true)]=[some (Box.mk b [int u8 aR,int u64 aS,int u64 aT,int u64 aU,int u64 aA,int i64 aQ,int i64 aV,slice aO aN aP] 41 8 true true)]∧[Value.bool true] =
 [Value.bool ab]) (br (decide (aR < (3:Int))) ([some (Box.mk b [int u8 aR,int u64 aS,int u64 aT,int u64 aU,int u64 aA,int i64 aQ,int i64 aV,slice aO aN aP] 41 8 true true)]=[some
 (Box.mk b [int u8 aR,int u64 aS,int u64 aT,int u64 aU,int u64 aA,int i64 aQ,int i64 aV,slice aO aN aP] 41 8 true true)]∧[Value.bool (decide ((↑aN:Int) > (0:Int)))]=[Value.bool
 ab]) ([some (Box.mk b [int u8 aR,int u64 aS,int u64 aT,int u64 aU,int u64 aA,int i64 aQ,int i64 aV,slice aO aN aP] 41 8 true true)]=[some (Box.mk b [int u8 aR,int u64 aS,int u64
 aT,int u64 aU,int u64 aA,int i64 aQ,int i64 aV,slice aO aN aP] 41 8 true true)]∧[Value.bool false]=[Value.bool ab])))) (br (decide (aR < (3:Int))) ([some (Box.mk b [int u8 aR,int u64
 aS,int u64 aT,int u64 aU,int u64 aA,int i64 aQ,int i64 aV,slice aO aN aP] 41 8 true true)]=[some (Box.mk b [int u8 aR,int u64 aS,int u64 aT,int u64 aU,int u64 aA,int i64 aQ,
 int i64 aV,slice aO aN aP] 41 8 true true)]∧[Value.bool (decide ((↑aN:Int) > (0:Int)))]=[Value.bool ab]) ([some (Box.mk b [int u8 aR,int u64 aS,int u64 aT,int u64 aU,int u64 aA,int
 i64 aQ,int i64 aV,slice aO aN aP] 41 8 true true)]=[some (Box.mk b [int u8 aR,int u64 aS,int u64 aT,int u64 aU,int u64 aA,int i64 aQ,int i64 aV,slice aO aN aP] 41 8 true
 true)]∧[Value.bool false]=[Value.bool ab])))) (br (!aR == (5:Int)) (br (!aQ == (0:Int)) ([some (Box.mk b [int u8 aR,int u64 aS,int u64 aT,int u64 aU,int u64 aA,int i64 aQ,int i64 aV,
 slice aO aN aP] 41 8 true true)]=[some (Box.mk b [int u8 aR,int u64 aS,int u64 aT,int u64 aU,int u64 aA,int i64 aQ,int i64 aV,slice aO aN aP] 41 8 true true)]∧[Value.bool true]
 = [Value.bool ab]) (br (!aV == (0:Int)) ([some (Box.mk b [int u8 aR,int u64 aS,int u64 aT,int u64 aU,int u64 aA,int i64 aQ,int i64 aV,slice aO aN aP] 41 8 true true)]=[some (Box.mk b
 [int u8 aR,int u64 aS,int u64 aT,int u64 aU,int u64 aA,int i64 aQ,int i64 aV,slice aO aN aP] 41 8 true true)]∧[Value.bool true]=[Value.bool ab]) (br (decide (aR < (3:Int))) ([some
 (Box.mk b [int u8 aR,int u64 aS,int u64 aT,int u64 aU,int u64 aA,int i64 aQ,int i64 aV,slice aO aN aP] 41 8 true true)]=[some (Box.mk b [int u8 aR,int u64 aS,int u64 aT,int u64
 aU,int u64 aA,int i64 aQ,int i64 aV,slice aO aN aP] 41 8 true true)]∧[Value.bool (decide ((↑aN:Int) > (0:Int)))]=[Value.bool ab]) ([some (Box.mk b [int u8 aR,int u64 aS,int u64
 aT,int u64 aU,int u64 aA,int i64 aQ,int i64 aV,slice aO aN aP] 41 8 true true)]=[some (Box.mk b [int u8 aR,int u64 aS,int u64 aT,int u64 aU,int u64 aA,int i64 aQ,int i64 aV,
 slice aO aN aP] 41 8 true true)]∧[Value.bool false]=[Value.bool ab])))) (br (decide (aR < (3:Int))) ([some (Box.mk b [int u8 aR,int u64 aS,int u64 aT,int u64 aU,int u64 aA,int i64 aQ,
 int i64 aV,slice aO aN aP] 41 8 true true)]=[some (Box.mk b [int u8 aR,int u64 aS,int u64 aT,int u64 aU,int u64 aA,int i64 aQ,int i64 aV,slice aO aN aP] 41 8 true true)]∧
 [Value.bool (decide ((↑aN:Int) > (0:Int)))]=[Value.bool ab]) ([some (Box.mk b [int u8 aR,int u64 aS,int u64 aT,int u64 aU,int u64 aA,int i64 aQ,int i64 aV,slice aO aN aP] 41 8 true
 true)]=[some (Box.mk b [int u8 aR,int u64 aS,int u64 aT,int u64 aU,int u64 aA,int i64 aQ,int i64 aV,slice aO aN aP] 41 8 true true)]∧[Value.bool false]=[Value.bool ab])))∧br ab (∃
 (m'':Mem),Mem.le m m''∧Mem.le m'' m'∧R (Value.bool false) m'' []) (br (aR == (1:Int)) (∃(m'':Mem),Mem.le m m''∧Mem.le m'' m'∧R (Value.bool true) m'' []) (br (aR == (2:Int)) (∃(b:Bool),EqIs
 Try.prog 38 (agg (Array.mk [int u64 aS,int u64 aT,int u64 aU,int u64 aA])) (agg (Array.mk [int u64 0,int u64 0,int u64 0,int u64 0])) b∧∃(m'':Mem),Mem.le m m''∧Mem.le m'' m'∧R (Value.bool !b) m''
 []) (br (aR == (3:Int)) (∃(aa:Bool),br (decide ((↑aN:Int) > (1:Int))) (∃(R:RT),True∧CX Try.prog 134 (Array.mk [agg (Array.mk [int u8 aR,int u64 aS,int u64 aT,int u64 aU,int u64 aA,int
 i64 aQ,int i64 aV,slice aO aN aP]),int u8 1]) m' [] R∧ZaF Shape.bool R∧∀(ad:Bool)(ac:Mem),Mem.le m' ac→R (Value.bool ad) ac []→br (!ad) (∃(R:RT),True∧CX Try.prog 134 (Array.mk [agg
 (Array.mk [int u8 aR,int u64 aS,int u64 aT,int u64 aU,int u64 aA,int i64 aQ,int i64 aV,slice aO aN aP]),int u8 3]) ac [] R∧ZaF Shape.bool R∧∀(ae:Bool)(m':Mem),Mem.le ac m'→R
 (Value.bool ae) m' []→[some (Box.mk b [int u8 aR,int u64 aS,int u64 aT,int u64 aU,int u64 aA,int i64 aQ,int i64 aV,slice aO aN aP] 41 8 true true)]=[some (Box.mk b [int u8 aR,int u64
 aS,int u64 aT,int u64 aU,int u64 aA,int i64 aQ,int i64 aV,slice aO aN aP] 41 8 true true)]∧[Value.bool !ae]=[Value.bool aa]) ([some (Box.mk b [int u8 aR,int u64 aS,int u64 aT,int
 u64 aU,int u64 aA,int i64 aQ,int i64 aV,slice aO aN aP] 41 8 true true)]=[some (Box.mk b [int u8 aR,int u64 aS,int u64 aT,int u64 aU,int u64 aA,int i64 aQ,int i64 aV,slice
 aO aN aP] 41 8 true true)]∧[Value.bool false]=[Value.bool aa])) ([some (Box.mk b [int u8 aR,int u64 aS,int u64 aT,int u64 aU,int u64 aA,int i64 aQ,int i64 aV,slice aO aN aP] 41
 8 true true)]=[some (Box.mk b [int u8 aR,int u64 aS,int u64 aT,int u64 aU,int u64 aA,int i64 aQ,int i64 aV,slice aO aN aP] 41 8 true true)]∧[Value.bool false]=[Value.bool aa])∧∃
 (m'':Mem),Mem.le m m''∧Mem.le m'' m'∧R (Value.bool aa) m'' []) (br (aR == (4:Int)) (∃(aa:Bool),br (decide ((↑aN:Int) > (1:Int))) (∃(R:RT),True∧CX Try.prog 134 (Array.mk [agg (Array.mk [int u8
 aR,int u64 aS,int u64 aT,int u64 aU,int u64 aA,int i64 aQ,int i64 aV,slice aO aN aP]),int u8 4]) m' [] R∧ZaF Shape.bool R∧∀(ad:Bool)(ac:Mem),Mem.le m' ac→R (Value.bool ad) ac
 []→[some (Box.mk b [int u8 aR,int u64 aS,int u64 aT,int u64 aU,int u64 aA,int i64 aQ,int i64 aV,slice aO aN aP] 41 8 true true)]=[some (Box.mk b [int u8 aR,int u64 aS,int u64
 aT,int u64 aU,int u64 aA,int i64 aQ,int i64 aV,slice aO aN aP] 41 8 true true)]∧[Value.bool !ad]=[Value.bool aa]) ([some (Box.mk b [int u8 aR,int u64 aS,int u64 aT,int u64 aU,int
 u64 aA,int i64 aQ,int i64 aV,slice aO aN aP] 41 8 true true)]=[some (Box.mk b [int u8 aR,int u64 aS,int u64 aT,int u64 aU,int u64 aA,int i64 aQ,int i64 aV,slice aO aN
 aP] 41 8 true true)]∧[Value.bool false]=[Value.bool aa])∧∃(m'':Mem),Mem.le m m''∧Mem.le m'' m'∧R (Value.bool aa) m'' []) (br (aR == (5:Int)) (∃(aa:Bool),br ((↑aN:Int) == (1:Int)) (∃(R:
 RT),True∧CX Try.prog 84 (Array.mk [int i64 aQ,int i64 aV]) m' [] R∧ZaF Shape.bool R∧∀(ad:Bool)(ac:Mem),Mem.le m' ac→R (Value.bool ad) ac []→br ad (∃(R:RT),True∧CX Try.prog 134 (Array.mk
 [agg (Array.mk [int u8 aR,int u64 aS,int u64 aT,int u64 aU,int u64 aA,int i64 aQ,int i64 aV,slice aO aN aP]),int u8 1]) ac [] R∧ZaF Shape.bool R∧∀(ae:Bool)(m':Mem),Mem.le ac m'
 → R (Value.bool ae) m' []→[some (Box.mk b [int u8 aR,int u64 aS,int u64 aT,int u64 aU,int u64 aA,int i64 aQ,int i64 aV,slice aO aN aP] 41 8 true true)]=[some (Box.mk b [int u8 aR,int
 u64 aS,int u64 aT,int u64 aU,int u64 aA,int i64 aQ,int i64 aV,slice aO aN aP] 41 8 true true)]∧[Value.bool !ae]=[Value.bool aa]) ([some (Box.mk b [int u8 aR,int u64 aS,int u64 aT,
 int u64 aU,int u64 aA,int i64 aQ,int i64 aV,slice aO aN aP] 41 8 true true)]=[some (Box.mk b [int u8 aR,int u64 aS,int u64 aT,int u64 aU,int u64 aA,int i64 aQ,int i64 aV,slice
 aO aN aP] 41 8 true true)]∧[Value.bool false]=[Value.bool aa])) ([some (Box.mk b [int u8 aR,int u64 aS,int u64 aT,int u64 aU,int u64 aA,int i64 aQ,int i64 aV,slice aO aN aP] 41
 8 true true)]=[some (Box.mk b [int u8 aR,int u64 aS,int u64 aT,int u64 aU,int u64 aA,int i64 aQ,int i64 aV,slice aO aN aP] 41 8 true true)]∧[Value.bool false]=[Value.bool aa])∧∃
 (m'':Mem),Mem.le m m''∧Mem.le m'' m'∧R (Value.bool aa) m'' []) (∃(aa:Bool),br (aR == (6:Int)) ([some (Box.mk b [int u8 aR,int u64 aS,int u64 aT,int u64 aU,int u64 aA,int i64 aQ,int i64
 aV,slice aO aN aP] 41 8 true true)]=[some (Box.mk b [int u8 aR,int u64 aS,int u64 aT,int u64 aU,int u64 aA,int i64 aQ,int i64 aV,slice aO aN aP] 41 8 true true)]∧[Value.bool
 ((↑aN:Int) == (1:Int))]=[Value.bool aa]) ([some (Box.mk b [int u8 aR,int u64 aS,int u64 aT,int u64 aU,int u64 aA,int i64 aQ,int i64 aV,slice aO aN aP] 41 8 true true)]=[some
 (Box.mk b [int u8 aR,int u64 aS,int u64 aT,int u64 aU,int u64 aA,int i64 aQ,int i64 aV,slice aO aN aP] 41 8 true true)]∧[Value.bool false]=[Value.bool aa])∧∃(m'':Mem),Mem.le m m''
 ∧ Mem.le m'' m'∧R (Value.bool aa) m'' []))))))
theorem Znx(aR aS aT aU aA aQ aV:Int)(aO:Option Addr)(aN aP:Nat)(m:Mem)(R:RT)(h:Zje aR aS aT aU aA aQ aV aO aN aP m R):CX Try.prog 108 #[.agg #[.int .u8 aR,.int .u64 aS,.int .u64 aT,.int .u64 aU,.int .u64 aA,.int .i64 aQ,.int .i64 aV,.slice aO aN aP]] m [] R:=
 Zal (E:=ZoP) Zaz mix Try.func108 [.v (.agg #[.int .u8 aR,.int .u64 aS,.int .u64 aT,.int .u64 aU,.int .u64 aA,.int .i64 aQ,.int .i64 aV,.slice aO aN aP])] [] (by kernel_rfl) (Eq.mp (by kernel_rfl) h)
noncomputable def ZoQ:Env:={ EB with
 loops:=(fun i=>bif Nat.beq i 5 then⟨[(9,.agg [.int .u8,.int .u64,.int .u64,.int .u64,.int .u64,.int .i64,.int .i64,.slice])],[2],[],false⟩ else⟨[],[],[],false⟩)
 frzNew:=[1] }
def Zjf(aR aS aT aU aA aQ aV:Int)(aO:Option Addr)(aN aP:Nat)(m:Mem)(R:RT):Prop:=
 ∀(b:Nat)(m':Mem),Mem.le m m'→Mem.reads m' b 0 [int u8 aR,int u64 aS,int u64 aT,int u64 aU,int u64 aA,int i64 aQ,int i64 aV,slice aO aN aP]→∀(ac:Nat),∃(R_1:RT),True∧CX
 Try.prog 92 (Array.mk [agg (Array.mk [int u8 aR,int u64 aS,int u64 aT,int u64 aU,int u64 aA,int i64 aQ,int i64 aV,slice aO aN aP])]) m' [] R_1∧ZaF Shape.bool R_1∧∀(ae:Bool) (ab:
 Mem),Mem.le m' ab→R_1 (Value.bool ae) ab []→br (!ae) (∃(m'':Mem),Mem.le m m''∧Mem.le m'' ab∧R (Value.bool false) m'' []) (∃(R_2:RT),True∧CX Try.prog 107 (Array.mk [agg (Array.mk [int u8 aR,int u64
 aS,int u64 aT,int u64 aU,int u64 aA,int i64 aQ,int i64 aV,slice aO aN aP])]) ab [] R_2∧ZaF Shape.fn R_2∧∀(g:Nat)(fi ca:List Value)(m':Mem),Mem.le ab m'→R_2 (Value.func
 (Fn.func g) (Array.mk fi) (Array.mk ca)) m' []→∃(xs:List (List Value)),IX Try.prog g fi ca m' xs∧(∀(x:List Value),x∈xs→Shape.fitsL [shT] x=true)∧∃(I:IT),I [] [[Value.bool false]] [] m' 0∧(∀(n
 af ag ah ai aj ak:Int) (a:Option Addr) (al c:Nat) (cs:List Value) (aa:Mem) (ad:Nat),Mem.le m' aa→List.get?Internal xs ad=some [agg (Array.mk [int u8 n,int u64 af,int u64 ag,int u64 ah,int u64 ai,
 int i64 aj,int i64 ak,slice a al c])]→I [] [cs] [] aa ad→∀(an:Nat),∃(R_3:RT),True∧CX Try.prog 108 (Array.mk [agg (Array.mk [int u8 n,int u64 af,int u64 ag,int u64 ah,int u64 ai,int i64 aj,int i64
 ak,slice a al c])]) aa [] R_3∧ZaF Shape.bool R_3∧∀(am:Bool)(m':Mem),Mem.le aa m'→R_3 (Value.bool am) m' []→br (!am) ([some (Box.mk ac [] 4 1 false true),some (Box.mk b [int u8 aR,int u64 aS,int
 u64 aT,int u64 aU,int u64 aA,int i64 aQ,int i64 aV,slice aO aN aP] 41 8 true true)]=[some (Box.mk ac [] 4 1 false true),some (Box.mk b [int u8 aR,int u64 aS,int u64 aT,int u64 aU,
 int u64 aA,int i64 aQ,int i64 aV,slice aO aN aP] 41 8 true true)]∧∃(m'':Mem),Mem.le m m''∧Mem.le m'' m'∧R (Value.bool false) m'' []) ([some (Box.mk ac [] 4 1 false true),some (Box.mk b [int
 u8 aR,int u64 aS,int u64 aT,int u64 aU,int u64 aA,int i64 aQ,int i64 aV,slice aO aN aP] 41 8 true true)]=[some (Box.mk ac [] 4 1 false true),some (Box.mk b [int u8 aR,int u64 aS,
 int u64 aT,int u64 aU,int u64 aA,int i64 aQ,int i64 aV,slice aO aN aP] 41 8 true true)]∧I [] [cs] [] m' (ad+1)))∧∀(cs:List Value)(aa:Mem),Mem.le m' aa→I [] [cs] [] aa (List.length
 xs)→∃(m'':Mem),Mem.le m m''∧Mem.le m'' aa∧R (Value.bool true) m'' [])
theorem Zny(aR aS aT aU aA aQ aV:Int)(aO:Option Addr)(aN aP:Nat)(m:Mem)(R:RT)(h:Zjf aR aS aT aU aA aQ aV aO aN aP m R):CX Try.prog 59 #[.agg #[.int .u8 aR,.int .u64 aS,.int .u64 aT,.int .u64 aU,.int .u64 aA,.int .i64 aQ,.int .i64 aV,.slice aO aN aP]] m [] R:=
 Zal (E:=ZoQ) Zaz mix Try.func59 [.v (.agg #[.int .u8 aR,.int .u64 aS,.int .u64 aT,.int .u64 aU,.int .u64 aA,.int .i64 aQ,.int .i64 aV,.slice aO aN aP])] [] (by kernel_rfl) (Eq.mp (by kernel_rfl) h)
noncomputable def Zq1:Env:={ EB with
 loops:=(fun i=>bif Nat.beq i 5 then⟨[(9,.agg [.int .u8,.int .u64,.int .u64,.int .u64,.int .u64,.int .i64,.int .i64,.slice])],[3],[],false⟩ else⟨[],[],[],false⟩)
 frzNew:=[1] }
def Zk5(aR aS aT aU aA aQ aV:Int)(aO:Option Addr)(aN aP:Nat)(m:Mem)(R:RT):Prop:=
 ∀(b:Nat)(m':Mem),Mem.le m m'→Mem.reads m' b 0 [int u8 aR,int u64 aS,int u64 aT,int u64 aU,int u64 aA,int i64 aQ,int i64 aV,slice aO aN aP]→∃(R_1:RT),True∧CX Try.prog 92
 (Array.mk [agg (Array.mk [int u8 aR,int u64 aS,int u64 aT,int u64 aU,int u64 aA,int i64 aQ,int i64 aV,slice aO aN aP])]) m' [] R_1∧ZaF Shape.bool R_1∧∀(b_1:Bool)(m'_1:Mem),
 Mem.le m' m'_1→R_1 (Value.bool b_1) m'_1 []→br (!b_1) (∃(m'':Mem),Mem.le m m''∧Mem.le m'' m'_1∧R (int i64 10001) m'' []) (∀(b_2:Nat),∃(R_2:RT),True∧CX Try.prog 107 (Array.mk [agg (Array.mk [int u8
 aR,int u64 aS,int u64 aT,int u64 aU,int u64 aA,int i64 aQ,int i64 aV,slice aO aN aP])]) m'_1 [] R_2∧ZaF Shape.fn R_2∧∀(g:Nat)(fi ca:List Value)(m':Mem),Mem.le m'_1 m'→R_2
 (Value.func (Fn.func g) (Array.mk fi) (Array.mk ca)) m' []→∃(xs:List (List Value)),IX Try.prog g fi ca m' xs∧(∀(x:List Value),x∈xs→Shape.fitsL [shT] x=true)∧∃(I:IT),I [] [[int i64 0]] [] m' 0∧
 (∀(n n_1 n_2 n_3 n_4 n_5 n_6:Int)(a:Option Addr)(n_7 c:Nat)(cs:List Value)(m'_2:Mem)(n_8:Nat),Mem.le m' m'_2→List.get?Internal xs n_8=some [agg (Array.mk [int u8 n,int u64 n_1,int u64 n_2,int
 u64 n_3,int u64 n_4,int i64 n_5,int i64 n_6,slice a n_7 c])]→I [] [cs] [] m'_2 n_8→Eng.Zrv cs 0 fun(v:Value)=>chk (Zbv i64 v&&decide (i64=i64)) ([some (Box.mk b_2 [] 3 1 false true),some (Box.mk b
 [int u8 aR,int u64 aS,int u64 aT,int u64 aU,int u64 aA,int i64 aQ,int i64 aV,slice aO aN aP] 41 8 true true)]=[some (Box.mk b_2 [] 3 1 false true),some (Box.mk b [int u8 aR,int u64
 aS,int u64 aT,int u64 aU,int u64 aA,int i64 aQ,int i64 aV,slice aO aN aP] 41 8 true true)]∧I [] [[int i64 (IntKind.wrap i64 (RowKit.intOf v+(1:Int)))]] [] m'_2 (n_8+1)))∧∀(cs:List
 Value) (m'_2:Mem),Mem.le m' m'_2→I [] [cs] [] m'_2 (List.length xs)→Eng.Zrv cs 0 fun(v:Value)=>∃(m'':Mem),Mem.le m m''∧Mem.le m'' m'_2∧R v m'' [])
theorem ZoR(aR aS aT aU aA aQ aV:Int)(aO:Option Addr)(aN aP:Nat)(m:Mem)(R:RT)(h:Zk5 aR aS aT aU aA aQ aV aO aN aP m R):CX Try.prog 60 #[.agg #[.int .u8 aR,.int .u64 aS,.int .u64 aT,.int .u64 aU,.int .u64 aA,.int .i64 aQ,.int .i64 aV,.slice aO aN aP]] m [] R:=
 Zal (E:=Zq1) Zaz mix Try.func60 [.v (.agg #[.int .u8 aR,.int .u64 aS,.int .u64 aT,.int .u64 aU,.int .u64 aA,.int .i64 aQ,.int .i64 aV,.slice aO aN aP])] [] (by kernel_rfl) (Eq.mp (by kernel_rfl) h)
noncomputable def Zik:Env:={ EB with
 loops:=(fun i=>bif Nat.beq i 5 then⟨[(3,.int .i64),(14,.int .i64)],[],[],false⟩ else⟨[],[],[],false⟩)
 frzNew:=[1] }
def Zet(aR aS aT aU aA aQ aV:Int)(aO:Option Addr)(aN aP:Nat)(m:Mem)(R:RT):Prop:=
 ∀(b:Nat)(m':Mem),Mem.le m m'→Mem.reads m' b 0 [int u8 aR,int u64 aS,int u64 aT,int u64 aU,int u64 aA,int i64 aQ,int i64 aV,slice aO aN aP]→br (aR == (2:Int)) (∃(I:IT),(∃
 (n:Nat),I [int i64 1,int i64 0] [] [] m' n)∧∀(n ab:Int)(aa:Mem)(aj:Nat),Mem.le m' aa→I [int i64 n,int i64 ab] [] [] aa aj→br (decide (ab < (↑aN:Int))) (∃(ak:Nat),∃(o:Nat),aO=some
 (Addr.mk ak o none)∧Zag ab aN∧∃(v:Value),∃(ac:Value),∃(ad:Value),∃(ae:Value),∃(af:Value),∃(ag:Value),∃(ah:Value),∃(ai:Value),Mem.reads aa ak (o+Int.toNat ab*8) [v,ac,ad,
 ae,af,ag,ah,ai]∧∀(am:Nat),chk (Value.oneCell' v&&(Value.oneCell' ac&&(Value.oneCell' ad&&(Value.oneCell' ae&&(Value.oneCell' af&&(Value.oneCell' ag&&(Value.oneCell' ah&&(Value.oneCell' ai &&
 true)))))))) (∃(R:RT),True∧CX Try.prog 93 (Array.mk [agg (Array.mk [v,ac,ad,ae,af,ag,ah,ai])]) aa [] R∧ZaF (Shape.int i64) R∧∀(al:Int)(m':Mem),Mem.le aa m'→R (int i64 al) m' []→[some (Box.mk
 b [int u8 aR,int u64 aS,int u64 aT,int u64 aU,int u64 aA,int i64 aQ,int i64 aV,slice aO aN aP] 41 8 true true)]=[some (Box.mk b [int u8 aR,int u64 aS,int u64 aT,int u64 aU,int
 u64 aA,int i64 aQ,int i64 aV,slice aO aN aP] 41 8 true true)]∧∃(n':Nat),n' < aj∧I [int i64 (IntKind.wrap i64 (n+al)),int i64 (IntKind.wrap i64 (ab+(1:Int)))] [] [] m' n')) (br (aR ==
 (5:Int)) (br (aV == (-1:Int)) (∃(m'':Mem),Mem.le m m''∧Mem.le m'' aa∧R (int i64 (if(10001:Int) < IntKind.wrap i64 (n*if(10001:Int) < if(1:Int) > if(0:Int) > aQ then(0:Int)else aQ then
 (1:Int)else if(0:Int) > aQ then(0:Int)else aQ then(10001:Int)else if(1:Int) > if(0:Int) > aQ then(0:Int)else aQ then(1:Int)else if(0:Int) > aQ then(0:Int)else aQ)then
 (10001:Int)else IntKind.wrap i64 (n*if(10001:Int) < if(1:Int) > if(0:Int) > aQ then(0:Int)else aQ then(1:Int)else if(0:Int) > aQ then(0:Int)else aQ then(10001:Int)else if(1:
 Int) > if(0:Int) > aQ then(0:Int)else aQ then(1:Int)else if(0:Int) > aQ then(0:Int)else aQ))) m'' []) (∃(m'':Mem),Mem.le m m''∧Mem.le m'' aa∧R (int i64 (if(10001:Int) < IntKind.wrap
 i64 (n*if(10001:Int) < if aV > if(0:Int) > aQ then(0:Int)else aQ then aV else if(0:Int) > aQ then(0:Int)else aQ then(10001:Int)else if aV > if(0:Int) > aQ then(0:Int)else
 aQ then aV else if(0:Int) > aQ then(0:Int)else aQ)then(10001:Int)else IntKind.wrap i64 (n*if(10001:Int) < if aV > if(0:Int) > aQ then(0:Int)else aQ then aV else if(0:Int) >
 aQ then(0:Int)else aQ then(10001:Int)else if aV > if(0:Int) > aQ then(0:Int)else aQ then aV else if(0:Int) > aQ then(0:Int)else aQ))) m'' [])) (∃(m'':Mem),Mem.le m m''∧Mem.le
 m'' aa∧R (int i64 (if(10001:Int) < n then(10001:Int)else n)) m'' []))) (∃(I:IT),(∃(n:Nat),I [int i64 0,int i64 0] [] [] m' n)∧∀(n ab:Int)(aa:Mem)(aj:Nat),Mem.le m' aa→I [int i64 n,int
 i64 ab] [] [] aa aj→br (decide (ab < (↑aN:Int))) (∃(ak:Nat),∃(o:Nat),aO=some (Addr.mk ak o none)∧Zag ab aN∧∃(v:Value),∃(ac:Value),∃(ad:Value),∃(ae:Value),∃(af:Value),∃
 (ag:Value),∃(ah:Value),∃(ai:Value),Mem.reads aa ak (o+Int.toNat ab*8) [v,ac,ad,ae,af,ag,ah,ai]∧∀(am:Nat),chk (Value.oneCell' v&&(Value.oneCell' ac&&(Value.oneCell' ad&&(Value.oneCell'
 ae&&(Value.oneCell' af&&(Value.oneCell' ag&&(Value.oneCell' ah&&(Value.oneCell' ai&&true)))))))) (∃(R:RT),True∧CX Try.prog 93 (Array.mk [agg (Array.mk [v,ac,ad,ae,af,ag,ah,ai])]) aa [] R∧ZaF
 (Shape.int i64) R∧∀(al:Int)(m':Mem),Mem.le aa m'→R (int i64 al) m' []→[some (Box.mk b [int u8 aR,int u64 aS,int u64 aT,int u64 aU,int u64 aA,int i64 aQ,int i64 aV,slice aO aN
 aP] 41 8 true true)]=[some (Box.mk b [int u8 aR,int u64 aS,int u64 aT,int u64 aU,int u64 aA,int i64 aQ,int i64 aV,slice aO aN aP] 41 8 true true)]∧∃(n':Nat),n' < aj∧I [int i64
 (IntKind.wrap i64 (n+al)),int i64 (IntKind.wrap i64 (ab+(1:Int)))] [] [] m' n')) (br (aR == (5:Int)) (br (aV == (-1:Int)) (∃(m'':Mem),Mem.le m m''∧Mem.le m'' aa∧R (int i64 (if(10001:Int) <
 IntKind.wrap i64 (n*if(10001:Int) < if(1:Int) > if(0:Int) > aQ then(0:Int)else aQ then(1:Int)else if(0:Int) > aQ then(0:Int)else aQ then(10001:Int)else if(1:Int) > if(0:Int) >
 aQ then(0:Int)else aQ then(1:Int)else if(0:Int) > aQ then(0:Int)else aQ)then(10001:Int)else IntKind.wrap i64 (n*if(10001:Int) < if(1:Int) > if(0:Int) > aQ then(0:Int)else
 aQ then(1:Int)else if(0:Int) > aQ then(0:Int)else aQ then(10001:Int)else if(1:Int) > if(0:Int) > aQ then(0:Int)else aQ then(1:Int)else if(0:Int) > aQ then(0:Int)else
 aQ))) m'' []) (∃(m'':Mem),Mem.le m m''∧Mem.le m'' aa∧R (int i64 (if(10001:Int) < IntKind.wrap i64 (n*if(10001:Int) < if aV > if(0:Int) > aQ then(0:Int)else aQ then aV else if(0:Int) >
 aQ then(0:Int)else aQ then(10001:Int)else if aV > if(0:Int) > aQ then(0:Int)else aQ then aV else if(0:Int) > aQ then(0:Int)else aQ)then(10001:Int)else IntKind.wrap i64 (n*if
 (10001:Int) < if aV > if(0:Int) > aQ then(0:Int)else aQ then aV else if(0:Int) > aQ then(0:Int)else aQ then(10001:Int)else if aV > if(0:Int) > aQ then(0:Int)else aQ then aV
 else if(0:Int) > aQ then(0:Int)else aQ))) m'' [])) (∃(m'':Mem),Mem.le m m''∧Mem.le m'' aa∧R (int i64 (if(10001:Int) < n then(10001:Int)else n)) m'' [])))
theorem Zhh(aR aS aT aU aA aQ aV:Int)(aO:Option Addr)(aN aP:Nat)(m:Mem)(R:RT)(h:Zet aR aS aT aU aA aQ aV aO aN aP m R):CX Try.prog 93 #[.agg #[.int .u8 aR,.int .u64 aS,.int .u64 aT,.int .u64 aU,.int .u64 aA,.int .i64 aQ,.int .i64 aV,.slice aO aN aP]] m [] R:=
 Zal (E:=Zik) Zaz mix Try.func93 [.v (.agg #[.int .u8 aR,.int .u64 aS,.int .u64 aT,.int .u64 aU,.int .u64 aA,.int .i64 aQ,.int .i64 aV,.slice aO aN aP])] [] (by kernel_rfl) (Eq.mp (by kernel_rfl) h)
noncomputable def Zil:Env:={ EB with
 frzNew:=[1] }
def Zeu(aR aS aT aU aA aQ aV:Int)(aO:Option Addr)(aN aP:Nat)(m:Mem)(R:RT):Prop:=
 ∀(b:Nat)(m':Mem),Mem.le m m'→Mem.reads m' b 0 [int u8 aR,int u64 aS,int u64 aT,int u64 aU,int u64 aA,int i64 aQ,int i64 aV,slice aO aN aP]→∃(R_1:RT),True∧CX Try.prog 92
 (Array.mk [agg (Array.mk [int u8 aR,int u64 aS,int u64 aT,int u64 aU,int u64 aA,int i64 aQ,int i64 aV,slice aO aN aP])]) m' [] R_1∧ZaF Shape.bool R_1∧∀(b:Bool)(m'_1:Mem),Mem.le
 m' m'_1→R_1 (Value.bool b) m'_1 []→br (!b) (∃(m'':Mem),Mem.le m m''∧Mem.le m'' m'_1∧R (int i64 10001) m'' []) (∃(R_2:RT),True∧CX Try.prog 93 (Array.mk [agg (Array.mk [int u8 aR,int u64 aS,int u64
 aT,int u64 aU,int u64 aA,int i64 aQ,int i64 aV,slice aO aN aP])]) m'_1 [] R_2∧ZaF (Shape.int i64) R_2∧∀(n:Int)(m':Mem),Mem.le m'_1 m'→R_2 (int i64 n) m' []→∃(m'':Mem),Mem.le m
 m''∧Mem.le m'' m'∧R (int i64 n) m'' [])
theorem Zhi(aR aS aT aU aA aQ aV:Int)(aO:Option Addr)(aN aP:Nat)(m:Mem)(R:RT)(h:Zeu aR aS aT aU aA aQ aV aO aN aP m R):CX Try.prog 37 #[.agg #[.int .u8 aR,.int .u64 aS,.int .u64 aT,.int .u64 aU,.int .u64 aA,.int .i64 aQ,.int .i64 aV,.slice aO aN aP]] m [] R:=
 Zal (E:=Zil) Zaz mix Try.func37 [.v (.agg #[.int .u8 aR,.int .u64 aS,.int .u64 aT,.int .u64 aU,.int .u64 aA,.int .i64 aQ,.int .i64 aV,.slice aO aN aP])] [] (by kernel_rfl) (Eq.mp (by kernel_rfl) h)
noncomputable def ZaK:Env:={ EB with
 loops:=(fun i=>bif Nat.beq i 4 then⟨[(17,.int .i64)],[],[],false⟩ else⟨[],[],[],false⟩) }
def Zaw(p0a:Option Addr)(p0n p0c:Nat)(p1a:Option Addr)(p1n p1c p2g:Nat)(p2fi p2ca:List Value)(m:Mem)(R:RT):Prop:=
 br (!(↑p0n:Int) == (↑p1n:Int)) (∃(m'':Mem),Mem.le m m''∧Mem.le m'' m∧R (Value.bool false) m'' []) (∃(I:IT),(∃(n:Nat),I [int i64 0] [] [] m n)∧∀(n:Int)(m':Mem)(n_1:Nat),Mem.le m m'→I
 [int i64 n] [] [] m' n_1→br (decide (n < (↑p0n:Int))) (∃(b:Nat),∃(o:Nat),p0a=some (Addr.mk b o none)∧Zag n p0n∧∃(v:Value),∃(v_1:Value),∃(v_2:Value),∃(v_3:Value),∃(v_4:Value),∃
 (v_5:Value),∃(v_6:Value),∃(v_7:Value),Mem.reads m' b (o+Int.toNat n*8) [v,v_1,v_2,v_3,v_4,v_5,v_6,v_7]∧∀(b:Nat),chk (Value.oneCell' v&&(Value.oneCell' v_1&&(Value.oneCell' v_2 &&
 (Value.oneCell' v_3&&(Value.oneCell' v_4&&(Value.oneCell' v_5&&(Value.oneCell' v_6&&(Value.oneCell' v_7&&true)))))))) (∃(b:Nat),∃(o:Nat),p1a=some (Addr.mk b o none)∧Zag n p1n∧∃(v_8:Value),
 ∃(v_9:Value),∃(v_10:Value),∃(v_11:Value),∃(v_12:Value),∃(v_13:Value),∃(v_14:Value),∃(v_15:Value),Mem.reads m' b (o+Int.toNat n*8) [v_8,v_9,v_10,v_11,v_12,v_13,v_14,v_15]∧∀(b:
 Nat),chk (Value.oneCell' v_8&&(Value.oneCell' v_9&&(Value.oneCell' v_10&&(Value.oneCell' v_11&&(Value.oneCell' v_12&&(Value.oneCell' v_13&&(Value.oneCell' v_14&&(Value.oneCell' v_15&&true)))))))) (∃
 (R_1:RT),True∧CX Try.prog p2g (Array.mk (List.append (List.append p2fi [agg (Array.mk [v,v_1,v_2,v_3,v_4,v_5,v_6,v_7]),agg (Array.mk [v_8,v_9,v_10,v_11,v_12,v_13,v_14,v_15])]) p2ca)) m' [] R_1∧ZaF
 Shape.bool R_1∧∀(b:Bool)(m'_1:Mem),Mem.le m' m'_1→R_1 (Value.bool b) m'_1 []→br (!b) (∃(m'':Mem),Mem.le m m''∧Mem.le m'' m'_1∧R (Value.bool false) m'' []) (∃(n':Nat),n' < n_1∧I [int i64
 (IntKind.wrap i64 (n+(1:Int)))] [] [] m'_1 n')))) (∃(m'':Mem),Mem.le m m''∧Mem.le m'' m'∧R (Value.bool true) m'' []))
theorem ZaI(p0a:Option Addr)(p0n p0c:Nat)(p1a:Option Addr)(p1n p1c p2g:Nat)(p2fi p2ca:List Value)(m:Mem)(R:RT)(h:Zaw p0a p0n p0c p1a p1n p1c p2g p2fi p2ca m R):CX Try.prog 132 #[.slice p0a p0n p0c,.slice p1a p1n p1c,.func (.func p2g) p2fi.toArray p2ca.toArray] m [] R:=
 Zal (E:=ZaK) Zaz mix Try.func132 [.v (.slice p0a p0n p0c),.v (.slice p1a p1n p1c),.v (.func (.func p2g) p2fi.toArray p2ca.toArray)] [] (by kernel_rfl) (Eq.mp (by kernel_rfl) h)
noncomputable def Zq2:Env:={ EB with
 joins:=(fun i=>bif Nat.beq i 1 then some [(4,.bool)]else none)
 frzNew:=[2,3] }
def Zk6(aR aS aT aU aA aQ aV:Int)(aO:Option Addr)(aN aP:Nat)(bX bG bH bI aW aZ bD:Int)(aX:Option Addr)(aY bC:Nat)(m:Mem)(R:RT):Prop:=
 ∀(b:Nat)(m':Mem),Mem.le m m'→Mem.reads m' b 0 [int u8 aR,int u64 aS,int u64 aT,int u64 aU,int u64 aA,int i64 aQ,int i64 aV,slice aO aN aP]→∀(aa:Nat)(ac:Mem),Mem.le m' ac→
 Mem.reads ac aa 0 [int u8 bX,int u64 bG,int u64 bH,int u64 bI,int u64 aW,int i64 aZ,int i64 bD,slice aX aY bC]→∃(ab:Bool),br (aR == bX) (∃(ad:Bool),EqIs Try.prog 38 (agg
 (Array.mk [int u64 aS,int u64 aT,int u64 aU,int u64 aA])) (agg (Array.mk [int u64 bG,int u64 bH,int u64 bI,int u64 aW])) ad∧br ad (br (aQ == aZ) (br (aV == bD) (∃(R:RT),True∧CX
 Try.prog 132 (Array.mk [slice aO aN aP,slice aX aY bC,Value.func (Fn.func 106) (Array.mk []) (Array.mk [])]) ac [] R∧ZaF Shape.bool R∧∀(ae:Bool)(m':Mem),Mem.le ac m'→R (Value.bool ae)
 m' []→[some (Box.mk aa [int u8 bX,int u64 bG,int u64 bH,int u64 bI,int u64 aW,int i64 aZ,int i64 bD,slice aX aY bC] 41 8 true true),some (Box.mk b [int u8 aR,int u64 aS,int u64
 aT,int u64 aU,int u64 aA,int i64 aQ,int i64 aV,slice aO aN aP] 41 8 true true)]=[some (Box.mk aa [int u8 bX,int u64 bG,int u64 bH,int u64 bI,int u64 aW,int i64 aZ,int i64
 bD,slice aX aY bC] 41 8 true true),some (Box.mk b [int u8 aR,int u64 aS,int u64 aT,int u64 aU,int u64 aA,int i64 aQ,int i64 aV,slice aO aN aP] 41 8 true true)]∧[Value.bool
 ae]=[Value.bool ab]) ([some (Box.mk aa [int u8 bX,int u64 bG,int u64 bH,int u64 bI,int u64 aW,int i64 aZ,int i64 bD,slice aX aY bC] 41 8 true true),some (Box.mk b [int u8 aR,int u64
 aS,int u64 aT,int u64 aU,int u64 aA,int i64 aQ,int i64 aV,slice aO aN aP] 41 8 true true)]=[some (Box.mk aa [int u8 bX,int u64 bG,int u64 bH,int u64 bI,int u64 aW,int i64
 aZ,int i64 bD,slice aX aY bC] 41 8 true true),some (Box.mk b [int u8 aR,int u64 aS,int u64 aT,int u64 aU,int u64 aA,int i64 aQ,int i64 aV,slice aO aN aP] 41 8 true true)]∧
 [Value.bool false]=[Value.bool ab])) ([some (Box.mk aa [int u8 bX,int u64 bG,int u64 bH,int u64 bI,int u64 aW,int i64 aZ,int i64 bD,slice aX aY bC] 41 8 true true),some (Box.mk b [int u8
 aR,int u64 aS,int u64 aT,int u64 aU,int u64 aA,int i64 aQ,int i64 aV,slice aO aN aP] 41 8 true true)]=[some (Box.mk aa [int u8 bX,int u64 bG,int u64 bH,int u64 bI,int u64
 aW,int i64 aZ,int i64 bD,slice aX aY bC] 41 8 true true),some (Box.mk b [int u8 aR,int u64 aS,int u64 aT,int u64 aU,int u64 aA,int i64 aQ,int i64 aV,slice aO aN aP] 41 8
 true true)]∧[Value.bool false]=[Value.bool ab])) ([some (Box.mk aa [int u8 bX,int u64 bG,int u64 bH,int u64 bI,int u64 aW,int i64 aZ,int i64 bD,slice aX aY bC] 41 8 true true),some
 (Box.mk b [int u8 aR,int u64 aS,int u64 aT,int u64 aU,int u64 aA,int i64 aQ,int i64 aV,slice aO aN aP] 41 8 true true)]=[some (Box.mk aa [int u8 bX,int u64 bG,int u64 bH,int u64
 bI,int u64 aW,int i64 aZ,int i64 bD,slice aX aY bC] 41 8 true true),some (Box.mk b [int u8 aR,int u64 aS,int u64 aT,int u64 aU,int u64 aA,int i64 aQ,int i64 aV,slice aO
 aN aP] 41 8 true true)]∧[Value.bool false]=[Value.bool ab])) ([some (Box.mk aa [int u8 bX,int u64 bG,int u64 bH,int u64 bI,int u64 aW,int i64 aZ,int i64 bD,slice aX aY bC] 41 8
 true true),some (Box.mk b [int u8 aR,int u64 aS,int u64 aT,int u64 aU,int u64 aA,int i64 aQ,int i64 aV,slice aO aN aP] 41 8 true true)]=[some (Box.mk aa [int u8 bX,int u64 bG,int
 u64 bH,int u64 bI,int u64 aW,int i64 aZ,int i64 bD,slice aX aY bC] 41 8 true true),some (Box.mk b [int u8 aR,int u64 aS,int u64 aT,int u64 aU,int u64 aA,int i64 aQ,int i64
 aV,slice aO aN aP] 41 8 true true)]∧[Value.bool false]=[Value.bool ab])∧∃(m'':Mem),Mem.le m m''∧Mem.le m'' ac∧R (Value.bool ab) m'' []
theorem ZoS(aR aS aT aU aA aQ aV:Int)(aO:Option Addr)(aN aP:Nat)(bX bG bH bI aW aZ bD:Int)(aX:Option Addr)(aY bC:Nat)(m:Mem)(R:RT)(h:Zk6 aR aS aT aU aA aQ aV aO aN aP bX bG bH bI aW aZ bD aX aY bC m R):CX Try.prog 106 #[.agg #[.int .u8 aR,.int .u64 aS,.int .u64 aT,.int .u64 aU,.int .u64 aA,.int .i64 aQ,.int .i64 aV,.slice aO aN aP],.agg #[.int .u8 bX,.int .u64 bG,.int .u64 bH,.int .u64 bI,.int .u64 aW,.int .i64 aZ,.int .i64 bD,.slice aX aY bC]] m [] R:=
 Zal (E:=Zq2) Zaz mix Try.func106 [.v (.agg #[.int .u8 aR,.int .u64 aS,.int .u64 aT,.int .u64 aU,.int .u64 aA,.int .i64 aQ,.int .i64 aV,.slice aO aN aP]),.v (.agg #[.int .u8 bX,.int .u64 bG,.int .u64 bH,.int .u64 bI,.int .u64 aW,.int .i64 aZ,.int .i64 bD,.slice aX aY bC])] [] (by kernel_rfl) (Eq.mp (by kernel_rfl) h)
noncomputable def Zq3:Env:={ EB with
 joins:=(fun i=>bif Nat.beq i 1 then some [(4,.bool)]else none)
 frzNew:=[2,3] }
def Zk7(aR aS aT aU aA aQ aV:Int)(aO:Option Addr)(aN aP:Nat)(bX bG bH bI aW aZ bD:Int)(aX:Option Addr)(aY bC:Nat)(m:Mem)(R:RT):Prop:=
 ∀(b:Nat)(m':Mem),Mem.le m m'→Mem.reads m' b 0 [int u8 aR,int u64 aS,int u64 aT,int u64 aU,int u64 aA,int i64 aQ,int i64 aV,slice aO aN aP]→∀(aa:Nat)(ab:Mem),Mem.le m' ab→
 Mem.reads ab aa 0 [int u8 bX,int u64 bG,int u64 bH,int u64 bI,int u64 aW,int i64 aZ,int i64 bD,slice aX aY bC]→∃(ac:Bool),(∃(R:RT),True∧CX Try.prog 92 (Array.mk [agg (Array.mk
 [int u8 aR,int u64 aS,int u64 aT,int u64 aU,int u64 aA,int i64 aQ,int i64 aV,slice aO aN aP])]) ab [] R∧ZaF Shape.bool R∧∀(ae:Bool)(m':Mem),Mem.le ab m'→R (Value.bool ae) m'
 []→br ae (∃(R:RT),True∧CX Try.prog 92 (Array.mk [agg (Array.mk [int u8 bX,int u64 bG,int u64 bH,int u64 bI,int u64 aW,int i64 aZ,int i64 bD,slice aX aY bC])]) m' [] R∧ZaF
 Shape.bool R∧∀(af:Bool)(ad:Mem),Mem.le m' ad→R (Value.bool af) ad []→br af (∃(R:RT),True∧CX Try.prog 106 (Array.mk [agg (Array.mk [int u8 aR,int u64 aS,int u64 aT,int u64 aU,int u64 aA,
 int i64 aQ,int i64 aV,slice aO aN aP]),agg (Array.mk [int u8 bX,int u64 bG,int u64 bH,int u64 bI,int u64 aW,int i64 aZ,int i64 bD,slice aX aY bC])]) ad [] R∧ZaF
 Shape.bool R∧∀(ag:Bool)(m':Mem),Mem.le ad m'→R (Value.bool ag) m' []→[some (Box.mk aa [int u8 bX,int u64 bG,int u64 bH,int u64 bI,int u64 aW,int i64 aZ,int i64 bD,slice aX aY
 bC] 41 8 true true),some (Box.mk b [int u8 aR,int u64 aS,int u64 aT,int u64 aU,int u64 aA,int i64 aQ,int i64 aV,slice aO aN aP] 41 8 true true)]=[some (Box.mk aa [int u8 bX,int u64
 bG,int u64 bH,int u64 bI,int u64 aW,int i64 aZ,int i64 bD,slice aX aY bC] 41 8 true true),some (Box.mk b [int u8 aR,int u64 aS,int u64 aT,int u64 aU,int u64 aA,int i64 aQ,
 int i64 aV,slice aO aN aP] 41 8 true true)]∧[Value.bool ag]=[Value.bool ac]) ([some (Box.mk aa [int u8 bX,int u64 bG,int u64 bH,int u64 bI,int u64 aW,int i64 aZ,int i64 bD,slice
 aX aY bC] 41 8 true true),some (Box.mk b [int u8 aR,int u64 aS,int u64 aT,int u64 aU,int u64 aA,int i64 aQ,int i64 aV,slice aO aN aP] 41 8 true true)]=[some (Box.mk aa [int u8
 bX,int u64 bG,int u64 bH,int u64 bI,int u64 aW,int i64 aZ,int i64 bD,slice aX aY bC] 41 8 true true),some (Box.mk b [int u8 aR,int u64 aS,int u64 aT,int u64 aU,int u64 aA,
 int i64 aQ,int i64 aV,slice aO aN aP] 41 8 true true)]∧[Value.bool false]=[Value.bool ac])) ([some (Box.mk aa [int u8 bX,int u64 bG,int u64 bH,int u64 bI,int u64 aW,int i64 aZ,int
 i64 bD,slice aX aY bC] 41 8 true true),some (Box.mk b [int u8 aR,int u64 aS,int u64 aT,int u64 aU,int u64 aA,int i64 aQ,int i64 aV,slice aO aN aP] 41 8 true true)]=[some
 (Box.mk aa [int u8 bX,int u64 bG,int u64 bH,int u64 bI,int u64 aW,int i64 aZ,int i64 bD,slice aX aY bC] 41 8 true true),some (Box.mk b [int u8 aR,int u64 aS,int u64 aT,int u64
 aU,int u64 aA,int i64 aQ,int i64 aV,slice aO aN aP] 41 8 true true)]∧[Value.bool false]=[Value.bool ac]))∧∃(m'':Mem),Mem.le m m''∧Mem.le m'' ab∧R (Value.bool ac) m'' []
theorem ZoT(aR aS aT aU aA aQ aV:Int)(aO:Option Addr)(aN aP:Nat)(bX bG bH bI aW aZ bD:Int)(aX:Option Addr)(aY bC:Nat)(m:Mem)(R:RT)(h:Zk7 aR aS aT aU aA aQ aV aO aN aP bX bG bH bI aW aZ bD aX aY bC m R):CX Try.prog 58 #[.agg #[.int .u8 aR,.int .u64 aS,.int .u64 aT,.int .u64 aU,.int .u64 aA,.int .i64 aQ,.int .i64 aV,.slice aO aN aP],.agg #[.int .u8 bX,.int .u64 bG,.int .u64 bH,.int .u64 bI,.int .u64 aW,.int .i64 aZ,.int .i64 bD,.slice aX aY bC]] m [] R:=
 Zal (E:=Zq3) Zaz mix Try.func58 [.v (.agg #[.int .u8 aR,.int .u64 aS,.int .u64 aT,.int .u64 aU,.int .u64 aA,.int .i64 aQ,.int .i64 aV,.slice aO aN aP]),.v (.agg #[.int .u8 bX,.int .u64 bG,.int .u64 bH,.int .u64 bI,.int .u64 aW,.int .i64 aZ,.int .i64 bD,.slice aX aY bC])] [] (by kernel_rfl) (Eq.mp (by kernel_rfl) h)
end Go.Proofs.Ytplacemlpkhmfaa
set_option linter.unusedVariables false
set_option linter.unusedSimpArgs false
namespace Go.Proofs.Ytplacemlpkhmfaa
open Go Go.Eng Go.Rx Go.Proofs Go.RowKit
set_option maxRecDepth 100000
theorem ZjZ(t:T)(m:Mem):CX Try.prog 107 #[t.v] m [] (fun v m' _=>∃b,v=.func (.func 133) #[] #[.pointer (some ⟨b,0,none⟩)]∧m'.reads b 0 t.cs):=by
 apply Zns
 unfold Zjb
 intro b m' hm hb
 exact⟨m',hm,Mem.le_refl _,b,rfl,hb⟩
theorem Zhj(t:T)(m:Mem)(c0b:Nat)(cN:m.reads c0b 0 t.cs)(mg:Rep m t):IX Try.prog 133 [] [.pointer (some ⟨c0b,0,none⟩)] m (t.nodes.map fun x=>[x.v]):=by
 apply ZjY 0 [] [] c0b 0
 unfold Zgl
 intro l b m' hm hb
 have gJ:=cN.mono hm
 refine⟨_,_,_,_,_,_,_,_,gJ,⟨rfl,by omega,?_⟩,?_,.inr rfl⟩
 ·rw[Zcp];rfl
 refine⟨t.sl,gJ 7 _ rfl,Zaa rfl ?_⟩
 refine⟨fun xs _ _ m'' q=>∃i:Nat,i≤t.subs.length∧xs=[.int .i64 ((1+(ZaG (t.subs.take i)).length:Nat):Int),.int .i64 i]∧m'.le m''∧q=t.subs.length - i,⟨t.subs.length,0,by omega,?_,Mem.le_refl _,by omega⟩,?_⟩
 ·simp[ZaG]
 rintro y n m2 q bZ ⟨i,hi,ja,jU,hq⟩
 simp only[List.cons.injEq,Value.int.injEq,true_and,and_true]at ja
 obtain⟨rfl,rfl⟩:=ja
 have bY:slN t.sl=t.subs.length:=rfl
 rw[bY]
 refine Zab (fun bV=>?_) (fun cM=>?_)
 ·have bF:i < t.subs.length:=by simpa using bV
  obtain⟨x,hx⟩:∃x,t.subs[i]?=some x:=⟨_,List.getElem?_eq_getElem bF⟩
  have cT:x∈t.subs:=List.mem_of_getElem? hx
  have cK:=ZqG cT
  obtain⟨ve,h0|⟨b1,o1,ha,gf⟩⟩:=Zdd mg
  ·rw[h0]at bF;simp at bF
  obtain⟨iI,gK⟩:=(gf.mono ((Mem.le_trans hm jU))).get hx
  refine Zaa rfl ⟨b1,o1,ha,⟨by omega,by omega⟩,_,_,_,_,_,_,_,_,iI,fun b2=>Zaa rfl ?_⟩
  refine⟨_,trivial,ZjZ x m2,fun v m' css h=>?_,?_⟩
  ·obtain⟨b3,rfl,_⟩:=h;rfl
  rintro g fi ca m3 cD ⟨b3,hv,fP⟩
  obtain⟨rfl,rfl,rfl⟩:=ZjP hv
  refine⟨_,Zhj x m3 b3 fP (gK.mono cD),fun y hy=>?_,?_⟩
  ·obtain⟨z,_,rfl⟩:=List.mem_map.1 hy;exact ZqH z
  refine⟨fun xs _ _ m'' q=>q≤x.nodes.length∧xs=[.int .i64 ((1+(ZaG (t.subs.take i)).length+q:Nat):Int)]∧m3.le m'',⟨Nat.zero_le _,rfl,Mem.le_refl _⟩,?_,?_⟩
  ·rintro y n0 n1 n2 n3 n4 n5 n6 a n7 c m4 q cZ hq ⟨jc,hy,_⟩ b4
   simp only[List.cons.injEq,Value.int.injEq,true_and,and_true]at hy
   subst hy
   have hq':(List.map (fun z:T=>[z.v]) x.nodes)[(q:Nat)]?=some [Value.agg #[.int .u8 n0,.int .u64 n1,.int .u64 n2,.int .u64 n3,.int .u64 n4,.int .i64 n5,.int .i64 n6,.slice a n7 c]]:=hq
   rw[List.getElem?_map]at hq'
   obtain⟨z,hz,rx⟩:=Option.map_eq_some_iff.1 hq'
   have ry:q < x.nodes.length:=(List.getElem?_eq_some_iff.1 hz).1
   refine⟨⟨rfl,by omega,?_⟩,⟨rfl,by omega,?_,cZ⟩,rfl,.inr rfl⟩
   ·rw[Int.toNat_natCast]
    show(t.nodes.map fun x=>[x.v])[1+(ZaG (t.subs.take i)).length+q]?=_
    rw[List.getElem?_map,Zst hx hz,←rx];rfl
   ·congr 2
  ·rintro y m4 cZ ⟨jc,hy,_⟩
   simp only[List.cons.injEq,Value.int.injEq,true_and,and_true]at hy
   subst hy
   refine⟨rfl,t.subs.length - (i+1),by omega,i+1,by omega,?_,Mem.le_trans jU (Mem.le_trans cD cZ),rfl⟩
   rw[Zau (by omega) (by omega),Zm7 hx,List.length_append]
   simp[T.v,Nat.add_assoc]
 ·have hi':i=t.subs.length:=by
   have:¬((i:Int) < (t.subs.length:Int)):=by simpa using cM
   omega
  subst hi'
  left
  rw[List.take_length,Zcp]
  simp
  omega
termination_by SizeOf.sizeOf t
decreasing_by exact cK
theorem Zq4(least most:Int)(m:Mem):CX Try.prog 84 #[.int .i64 least,.int .i64 most] m [] (Ret (.bool (ZfB least most))):=by
 apply ZlG
 unfold Zhg
 refine⟨decide (least < 0)||decide (least > 16)||(least == 1&&most == 1),?_,Zab (fun h=>Zad (Mem.le_refl _) ?_) (fun h=>⟨most == -1||(decide (most ≥ 1)&&decide (most≤16)&&decide (most ≥ least)),?_,Zad (Mem.le_refl _) ?_⟩)⟩
 ·simp only[ZqE];(repeat' split) <;> simp_all <;> omega
 ·simp[Ret,ZfB,h]
 ·simp only[ZqE];(repeat' split) <;> simp_all <;> omega
 ·simp[Ret,ZfB,h]
theorem ZlH(l:List T)(a:Option Addr)(c:Nat)(g:Nat)(ca:List Value)(p:T→Bool)(m:Mem)(hl:l.length≤1000000000000000)(hr:l=[]∨∃b o,a=some ⟨b,o,none⟩∧RepAt m b o l)
  (hp:∀x∈l,∀m',m.le m'→Rep m' x→CX Try.prog g (x.v::ca).toArray m' [] (Ret (.bool (p x)))):
  CX Try.prog 166 #[.slice a l.length c,.func (.func g) #[] ca.toArray] m [] (Ret (.int .i64 (if l.any p then(l.findIdx p:Nat)else(-1:Int)))):=by
 apply Zbi a l.length c g [] ca
 unfold ZaP
 refine⟨fun xs _ _ m'' q=>∃i:Nat,i≤l.length∧xs=[.int .i64 i]∧(∀x∈l.take i,p x=false)∧m.le m''∧q=l.length - i,⟨l.length,0,by omega,rfl,by simp,Mem.le_refl _,by omega⟩,?_⟩
 rintro n m' q hm ⟨i,hi,hn,jo,cP,hq⟩
 obtain rfl:n=i:=by simpa using hn
 refine Zab (fun bV=>?_) (fun cM=>?_)
 ·have bF:i < l.length:=by simpa using bV
  obtain⟨x,hx⟩:∃x,l[i]?=some x:=⟨_,List.getElem?_eq_getElem bF⟩
  have cT:x∈l:=List.mem_of_getElem? hx
  rcases hr with h0|⟨b1,o1,ha,gf⟩
  ·rw[h0]at bF;simp at bF
  obtain⟨iI,gK⟩:=(gf.mono hm).get hx
  refine⟨b1,o1,ha,⟨by omega,by omega⟩,_,_,_,_,_,_,_,_,iI,Zah (hp x cT m' hm gK) fun m1 bE=>Zab (fun lp=>?_) (fun lp=>?_)⟩
  ·refine Zad (Mem.le_trans hm bE) ?_
   have mh:l.any p=true:=List.any_eq_true.2 ⟨x,cT,lp⟩
   have ov:l.findIdx p=i:=by
    rw[List.findIdx_eq bF]
    refine⟨by rw[(List.getElem?_eq_some_iff.1 hx).2];exact lp,fun j hj=>?_⟩
    exact jo _ (List.mem_of_getElem? (i:=j) (by rw[List.getElem?_take_of_lt hj];exact List.getElem?_eq_getElem (by omega)))
   simp[Ret,mh,ov]
  ·refine⟨l.length - (i+1),by omega,i+1,by omega,by rw[Zau (by omega) (by omega)];rfl,?_,Mem.le_trans hm bE,rfl⟩
   intro y hy
   rw[List.take_add_one,hx]at hy
   rcases List.mem_append.1 hy with hy|hy
   ·exact jo y hy
   ·simp at hy;rw[hy];exact lp
 ·have hi':i=l.length:=by
   have:¬((i:Int) < (l.length:Int)):=by simpa using cM
   omega
  subst hi'
  refine Zad hm ?_
  have mh:l.any p=false:=by
   rw[List.any_eq_false]
   rw[List.take_length]at jo
   exact fun x hx=>by simp[jo x hx]
  simp[Ret,mh]
theorem Zhk(l:List T)(a:Option Addr)(c:Nat)(g:Nat)(ca:List Value)(p:T→Bool)(m:Mem)(hl:l.length≤1000000000000000)(hr:l=[]∨∃b o,a=some ⟨b,o,none⟩∧RepAt m b o l)
  (hp:∀x∈l,∀m',m.le m'→Rep m' x→CX Try.prog g (x.v::ca).toArray m' [] (Ret (.bool (p x)))):
  CX Try.prog 162 #[.slice a l.length c,.func (.func g) #[] ca.toArray] m [] (Ret (.bool (l.any p))):=by
 apply Za3 a l.length c g [] ca
 unfold ZaM
 refine Zdo (ZlH l a c g ca p m hl hr hp) fun m' hm=>Zad hm ?_
 cases h:l.any p <;> simp[Ret]
theorem ZtP(t:T)(k:Int)(b:Nat)(m:Mem)(hb:m.reads b 0 [.int .u8 k]):CX Try.prog 163 #[t.v,.pointer (some ⟨b,0,none⟩)] m [] (Ret (.bool (t.k == k))):=by
 apply Znv (c0b:=b) (c0o:=0)
 unfold Zjd
 intro b' m' hm _
 exact⟨_,hm _ _ _ (hb 0 _ rfl),Zaa rfl (Zad hm rfl)⟩
theorem Zq5(t:T)(k:Int)(m:Mem)(hr:Rep m t):CX Try.prog 134 #[t.v,.int .u8 k] m [] (Ret (.bool (t.has k))):=by
 apply Zq0
 unfold Znw
 intro b m1 bE _ b2 m2 bZ ip
 have hr':=Zdd (hr.mono (Mem.le_trans bE bZ))
 exact Zah (Zhk t.subs t.a t.c _ [.pointer (some ⟨b2,0,none⟩)] (fun x=>x.k == k) m2 hr'.1 hr'.2 fun x _ m' hm' _=>ZtP x k b2 m' (ip.mono hm')) fun m3 cD=>Zad (Mem.le_trans bE (Mem.le_trans bZ cD)) rfl
theorem Zh0(t:T)(m:Mem)(hr:Rep m t):CX Try.prog 92 #[t.v] m [] (Ret (.bool t.light)):=by
 apply Znt
 unfold Zjc
 intro b m1 bE _ b2
 refine Zas (ZjZ t m1) (fun v m' css h=>by obtain⟨_,rfl,_⟩:=h;rfl) ?_
 rintro g fi ca m2 bZ ⟨b3,hv,fP⟩
 obtain⟨rfl,rfl,rfl⟩:=ZjP hv
 have cP:=Mem.le_trans bE bZ
 refine⟨_,Zhj t m2 b3 fP (hr.mono cP),fun y hy=>?_,fun _ css _ m' q=>css=[[.int .i64 q]]∧q≤10000∧q≤t.nodes.length,⟨rfl,by omega,by omega⟩,?_,?_⟩
 ·obtain⟨z,_,rfl⟩:=List.mem_map.1 hy;exact ZqH z
 ·rintro n0 n1 n2 n3 n4 n5 n6 a n7 c cs m3 q cD hq ⟨cG,jc,_⟩
  obtain rfl:cs=[.int .i64 q]:=by simpa using cG
  have bV:q < t.nodes.length:=by
   have:=(List.getElem?_eq_some_iff.1 (show(List.map (fun z:T=>[z.v]) t.nodes)[(q:Nat)]?=some _ from hq)).1
   simpa using this
  refine Zat rfl (Zaa rfl ?_)
  have hw:IntKind.i64.wrap (intOf (Value.int .i64 (q:Int))+1)=(q:Int)+1:=Zau (n:=(q:Int)+1) (by omega) (by omega)
  simp only[hw]
  refine Zab (fun h=>⟨by trivial,Zad (Mem.le_trans cP cD) ?_⟩) (fun h=>⟨by trivial,?_,?_,by omega⟩)
  ·have:((q:Int)+1 > 10000):=by simpa using h
   simp[Ret,T.light];omega
  ·simp
  ·have:¬((q:Int)+1 > 10000):=by simpa using h
   omega
 ·rintro cs m3 cD ⟨cG,jc,_⟩
  obtain rfl:cs=[.int .i64 t.nodes.length]:=by simpa using cG
  refine Zat rfl (Zaa rfl (Zad (Mem.le_trans cP cD) ?_))
  show Value.bool (decide ((t.nodes.length:Int)≤10000))=Value.bool t.light
  congr 1
  rw[T.light,decide_eq_decide];omega
end Go.Proofs.Ytplacemlpkhmfaa
set_option linter.unusedVariables false
set_option linter.unusedSimpArgs false
namespace Go.Proofs.Ytplacemlpkhmfaa
open Go Go.Eng Go.Proofs Go.RowKit
theorem Zhl{P:Program}{T:TypeId}(hg:P.eqGuardType P.depth T=false)(op:BinOp)(ox oy:Operand)(xs ys:Array Value)(w:World):(eqGuard op T ox oy (.agg xs) (.agg ys)).run P w=.ok () w:=by
 unfold eqGuard
 have h1:(P.eqGuardType P.depth T)=true→False:=fun h=>by rw[hg]at h;cases h
 split
 ·simp[go_sem];exact fun h=>(h1 h).elim
 ·simp[go_sem];exact fun h=>(h1 h).elim
 ·simp
theorem ZoU(a b c d a' b' c' d':Int):EqIs Try.prog 38 (.agg #[.int .u64 a,.int .u64 b,.int .u64 c,.int .u64 d]) (.agg #[.int .u64 a',.int .u64 b',.int .u64 c',.int .u64 d']) (a == a'&&b == b'&&c == c'&&d == d'):=by
 refine⟨fun w=>?_,fun op ox oy w=>Zhl (by kernel_rfl) op ox oy _ _ w⟩
 have u3:=Try.underlying36
 have a3:=Try.isAgg36
 have z3:=Try.sizeOf36
 rw[Op.equal,Op.maxDepth,show(10000:Nat)=9999+1 from rfl,Op.equalIn]
 simp only[Sem.run_bind,run_underlying Try.underlying38,Result.andThen_ok]
 simp only[Std.Legacy.Range.forIn_eq_forIn_range',Std.Legacy.Range.size,Nat.sub_zero,Nat.add_sub_cancel,Nat.div_one,List.range'_succ,List.range'_zero,List.forIn_cons,List.forIn_nil]
 go_simp
 by_cases h1:a=a' <;> by_cases h2:b=b' <;> by_cases h3:c=c' <;> by_cases h4:d=d' <;> simp[h1,h2,h3,h4]
end Go.Proofs.Ytplacemlpkhmfaa
set_option linter.unusedVariables false
set_option linter.unusedSimpArgs false
namespace Go.Proofs.Ytplacemlpkhmfaa
open Go Go.Eng Go.Rx Go.Proofs Go.RowKit
set_option maxRecDepth 100000
theorem ZsD(t:T)(m:Mem)(hr:Rep m t):CX Try.prog 108 #[t.v] m [] (Ret (.bool t.right)):=by
 apply Znx
 unfold Zje
 intro b m1 bE _
 have dS:=hr.mono bE
 refine⟨t.k != 2&&!t.setZ||(t.k != 5&&(t.mn != 0||t.mx != 0)||(decide (t.k < 3)&&decide (0 < t.subs.length))),?_,Zab (fun h=>Zad bE ?_) (fun h=>?_)⟩
 ·refine Zab (fun h1=>?_) (fun h1=>?_)
  ·refine⟨t.setZ,ZoU _ _ _ _ _ _ _ _,?_⟩
   simp only[ZqE]
   (repeat' split) <;> simp_all <;> omega
  ·simp only[ZqE]
   (repeat' split) <;> simp_all <;> omega
 ·simp[Ret,T.right,h]
 ·refine Zab (fun h1=>Zad bE ?_) (fun h1=>Zab (fun h2=>⟨t.setZ,ZoU _ _ _ _ _ _ _ _,Zad bE ?_⟩) (fun h2=>Zab (fun h3=>?_) (fun h3=>Zab (fun h4=>?_) (fun h4=>Zab (fun h5=>?_) (fun h5=>?_)))))
  ·have:t.k=1:=by simpa using h1
   show Value.bool _=Value.bool t.right;rw[T.right,h];simp[this]
  ·have:t.k=2:=by simpa using h2
   show Value.bool _=Value.bool t.right;rw[T.right,h];simp[this]
  ·have:t.k=3:=by simpa using h3
   refine⟨decide (1 < t.subs.length)&&(!t.has 1&&!t.has 3),Zab (fun h4=>?_) (fun h4=>?_),Zad bE ?_⟩
   ·refine Zah (Zq5 t 1 m1 dS) fun m2 bZ=>Zab (fun h5=>?_) (fun h5=>?_)
    ·refine Zah (Zq5 t 3 m2 (dS.mono bZ)) fun m3 cD=>⟨rfl,Za9 ?_⟩
     simp_all <;> (intros;omega)
    ·refine⟨rfl,Za9 ?_⟩
     simp_all <;> (intros;omega)
   ·refine⟨rfl,Za9 ?_⟩
    simp_all <;> (intros;omega)
   ·show Value.bool _=Value.bool t.right;rw[T.right,h];simp[this]
  ·have:t.k=4:=by simpa using h4
   refine⟨decide (1 < t.subs.length)&&!t.has 4,Zab (fun h4=>?_) (fun h4=>?_),Zad bE ?_⟩
   ·refine Zah (Zq5 t 4 m1 dS) fun m2 bZ=>⟨rfl,Za9 ?_⟩
    simp_all <;> (intros;omega)
   ·refine⟨rfl,Za9 ?_⟩
    simp_all <;> (intros;omega)
   ·show Value.bool _=Value.bool t.right;rw[T.right,h];simp[this]
  ·have:t.k=5:=by simpa using h5
   refine⟨t.subs.length == 1&&(ZfB t.mn t.mx&&!t.has 1),Zab (fun h4=>?_) (fun h4=>?_),Zad bE ?_⟩
   ·refine Zah (Zq4 t.mn t.mx m1) fun m2 bZ=>Zab (fun h5=>?_) (fun h5=>?_)
    ·refine Zah (Zq5 t 1 m2 (dS.mono bZ)) fun m3 cD=>⟨rfl,Za9 ?_⟩
     have h4':((t.subs.length:Int) == 1)=true:=h4
     have:t.subs.length=1:=by have:=of_decide_eq_true h4';omega
     simp_all <;> (intros;omega)
    ·refine⟨rfl,Za9 ?_⟩
     simp_all <;> (intros;omega)
   ·refine⟨rfl,Za9 ?_⟩
    have h4':((t.subs.length:Int) == 1)=false:=h4
    have:¬t.subs.length=1:=by have:=of_decide_eq_false h4';omega
    simp_all <;> (intros;omega)
   ·show Value.bool _=Value.bool t.right;rw[T.right,h];simp[this]
  ·refine⟨t.k == 6&&t.subs.length == 1,Zab (fun h4=>⟨rfl,Za9 ?_⟩) (fun h4=>⟨rfl,Za9 ?_⟩),Zad bE ?_⟩
   ·have:(t.k == 6)=true:=h4
    rw[this,Bool.true_and]
    show(decide ((t.subs.length:Int)=1))=decide (t.subs.length=1)
    rw[decide_eq_decide];omega
   ·have:(t.k == 6)=false:=h4
    simp[this]
   ·show Value.bool _=Value.bool t.right;rw[T.right,h]
    have e1:¬t.k=1:=by simpa using h1
    have e2:¬t.k=2:=by simpa using h2
    have e3:¬t.k=3:=by simpa using h3
    have e4:¬t.k=4:=by simpa using h4
    have e5:¬t.k=5:=by simpa using h5
    simp[e1,e2,e3,e4,e5]
theorem ZsE(t:T)(m:Mem)(hr:Rep m t):CX Try.prog 59 #[t.v] m [] (Ret (.bool t.clean)):=by
 apply Zny
 unfold Zjf
 intro b m1 bE _ b2
 refine Zah (Zh0 t m1 (hr.mono bE)) fun m2 bZ=>Zab (fun h=>Zad (Mem.le_trans bE bZ) ?_) (fun h=>?_)
 ·have:t.light=false:=by simpa using h
  simp[Ret,T.clean,this]
 have hl:t.light=true:=by simpa using h
 refine Zas (ZjZ t m2) (fun v m' css h=>by obtain⟨_,rfl,_⟩:=h;rfl) ?_
 rintro g fi ca m3 cD ⟨b3,hv,fP⟩
 obtain⟨rfl,rfl,rfl⟩:=ZjP hv
 have cP:=Mem.le_trans bE (Mem.le_trans bZ cD)
 refine⟨_,Zhj t m3 b3 fP (hr.mono cP),fun y hy=>?_,fun _ css _ m' q=>m3.le m'∧∀x∈t.nodes.take q,x.right=true,⟨Mem.le_refl _,by simp⟩,?_,?_⟩
 ·obtain⟨z,_,rfl⟩:=List.mem_map.1 hy;exact ZqH z
 ·rintro n0 n1 n2 n3 n4 n5 n6 a n7 c cs m4 q cZ hq ⟨_,jc⟩ b4
  have hq':(List.map (fun z:T=>[z.v]) t.nodes)[(q:Nat)]?=some [Value.agg #[.int .u8 n0,.int .u64 n1,.int .u64 n2,.int .u64 n3,.int .u64 n4,.int .i64 n5,.int .i64 n6,.slice a n7 c]]:=hq
  rw[List.getElem?_map]at hq'
  obtain⟨z,hz,rx⟩:=Option.map_eq_some_iff.1 hq'
  have rz:z.v=Value.agg #[.int .u8 n0,.int .u64 n1,.int .u64 n2,.int .u64 n3,.int .u64 n4,.int .i64 n5,.int .i64 n6,.slice a n7 c]:=by simpa using rx
  have vf:Rep m4 z:=(ZqI (hr.mono cP) (List.mem_of_getElem? hz)).mono cZ
  have iz:=ZsD z m4 vf
  rw[rz]at iz
  refine Zah iz fun m5 dB=>Zab (fun h=>⟨rfl,Zad (Mem.le_trans cP (Mem.le_trans cZ dB)) ?_⟩) (fun h=>⟨rfl,Mem.le_trans cZ dB,fun x hx=>?_⟩)
  ·have qB:z.right=false:=by simpa using h
   have:t.nodes.all T.right=false:=by
    rw[List.all_eq_false];exact⟨z,List.mem_of_getElem? hz,by simp[qB]⟩
   simp[Ret,T.clean,this]
  ·rw[List.take_add_one,hz]at hx
   rcases List.mem_append.1 hx with hx|hx
   ·exact jc x hx
   ·simp at hx;rw[hx];simpa using h
 ·rintro cs m4 cZ ⟨_,jc⟩
  refine Zad (Mem.le_trans cP cZ) ?_
  rw[List.length_map,List.take_length]at jc
  have:t.nodes.all T.right=true:=List.all_eq_true.2 jc
  simp[Ret,T.clean,this,hl]
theorem ZtQ(t:T)(m:Mem)(hr:Rep m t):CX Try.prog 60 #[t.v] m [] (Ret (.int .i64 t.size)):=by
 apply ZoR
 unfold Zk5
 intro b m1 bE _
 refine Zah (Zh0 t m1 (hr.mono bE)) fun m2 bZ=>Zab (fun h=>Zad (Mem.le_trans bE bZ) ?_) (fun h=>?_)
 ·have:t.light=false:=by simpa using h
  simp[Ret,T.size,this]
 have hl:t.light=true:=by simpa using h
 have tC:t.nodes.length≤10000:=of_decide_eq_true hl
 intro b2
 refine Zas (ZjZ t m2) (fun v m' css h=>by obtain⟨_,rfl,_⟩:=h;rfl) ?_
 rintro g fi ca m3 cD ⟨b3,hv,fP⟩
 obtain⟨rfl,rfl,rfl⟩:=ZjP hv
 have cP:=Mem.le_trans bE (Mem.le_trans bZ cD)
 refine⟨_,Zhj t m3 b3 fP (hr.mono cP),fun y hy=>?_,fun _ css _ m' q=>css=[[.int .i64 q]]∧q≤t.nodes.length,⟨rfl,by omega⟩,?_,?_⟩
 ·obtain⟨z,_,rfl⟩:=List.mem_map.1 hy;exact ZqH z
 ·rintro n0 n1 n2 n3 n4 n5 n6 a n7 c cs m4 q cZ hq ⟨cG,_⟩
  obtain rfl:cs=[.int .i64 q]:=by simpa using cG
  have bV:q < t.nodes.length:=by
   have:=(List.getElem?_eq_some_iff.1 (show(List.map (fun z:T=>[z.v]) t.nodes)[(q:Nat)]?=some _ from hq)).1
   simpa using this
  have hw:IntKind.i64.wrap (intOf (Value.int .i64 (q:Int))+1)=(q:Int)+1:=Zau (n:=(q:Int)+1) (by omega) (by omega)
  refine Zat rfl (Zaa rfl ?_)
  simp only[hw]
  exact⟨by trivial,by simp,by omega⟩
 ·rintro cs m4 cZ ⟨cG,jc⟩
  obtain rfl:cs=[.int .i64 t.nodes.length]:=by simpa using cG
  refine Zat rfl (Zad (Mem.le_trans cP cZ) ?_)
  simp[Ret,T.size,hl]
theorem Zhm(t:T)(m:Mem)(hr:Rep m t)(hl:t.nodes.length≤10000):CX Try.prog 93 #[t.v] m [] (Ret (.int .i64 t.pos)):=by
 apply Zhh
 unfold Zet
 intro b m1 bE _
 have dP:=ZtC t
 have hQ:=Zsu t
 refine Zab (fun hk=>?_) (fun hk=>?_)
 all_goals
  have hk':(if t.k=2 then(1:Int)else 0)=1∧t.k=2∨(if t.k=2 then(1:Int)else 0)=0∧t.k≠2:=by split <;> simp_all
  refine⟨fun xs _ _ m'' q=>∃i:Nat,i≤t.subs.length∧xs=[.int .i64 ((if t.k=2 then 1 else 0)+Zdp (t.subs.take i)),.int .i64 i]∧m1.le m''∧q=t.subs.length - i,⟨t.subs.length,0,by omega,by simp_all [Zdp],Mem.le_refl _,by omega⟩,?_⟩
  rintro n n1 m2 q bZ ⟨i,hi,ja,_,hq⟩
  have eI:=Zgh (t.subs.take i)
  have ip:=ZrN (t.subs.take i)
  have fP:(t.subs.take i).length≤i:=List.length_take_le _ _
  clear hk'
  generalize hc:(if t.k=2 then(1:Int)else 0)=c at *
  have wm:0≤c∧c≤1:=by rw[←hc];split <;> omega
  simp only[List.cons.injEq,Value.int.injEq,true_and,and_true]at ja
  obtain⟨rfl,rfl⟩:=ja
  refine Zab (fun bV=>?_) (fun cM=>?_)
  ·have bF:i < t.subs.length:=by simpa using bV
   obtain⟨x,hx⟩:∃x,t.subs[i]?=some x:=⟨_,List.getElem?_eq_getElem bF⟩
   have cT:x∈t.subs:=List.mem_of_getElem? hx
   have cK:=ZqG cT
   have gz:=ZqK cT
   obtain⟨_,h0|⟨b1,o1,ha,gf⟩⟩:=Zdd hr
   ·rw[h0]at bF;simp at bF
   obtain⟨iI,gK⟩:=(gf.mono ((Mem.le_trans bE bZ))).get hx
   have nk:=ZjQ x
   refine⟨b1,o1,ha,⟨by omega,by omega⟩,_,_,_,_,_,_,_,_,iI,fun b2=>Zaa rfl ?_⟩
   refine Zdo (Zhm x m2 gK (by omega)) fun m3 cD=>⟨rfl,t.subs.length - (i+1),by omega,i+1,by omega,?_,Mem.le_trans bZ cD,rfl⟩
   rw[Zau (by omega) (by omega),Zau (by omega) (by omega),ZqJ hx,Int.add_assoc]
   rfl
  ·have hi':i=t.subs.length:=by
    have:¬((i:Int) < (t.subs.length:Int)):=by simpa using cM
    omega
   subst hi'
   rw[List.take_length]at eI ip ⊢
   have hF:=ZrM t.mn t.mx
   have vg:0≤(c+Zdp t.subs)*Zui t.mn t.mx∧(c+Zdp t.subs)*Zui t.mn t.mx≤100020001*10001:=by
    constructor
    ·exact Int.mul_nonneg (by omega) hF.1
    ·exact Int.mul_le_mul (by omega) hF.2 hF.1 (by omega)
   refine Zab (fun h5=>Zab (fun hx=>Zad (Mem.le_trans bE bZ) ?_) (fun hx=>Zad (Mem.le_trans bE bZ) ?_)) (fun h5=>Zad (Mem.le_trans bE bZ) ?_)
   ·have e1:t.k=5:=by simpa using h5
    have e2:t.mx=-1:=by simpa using hx
    have hF':Zui t.mn t.mx=Zl6 (ZkS (ZkS t.mn 0) 1) 10001:=by simp[Zui,e2]
    show Value.int .i64 (Zl6 (IntKind.i64.wrap ((c+Zdp t.subs)*Zl6 (ZkS (ZkS t.mn 0) 1) 10001)) 10001)=Value.int .i64 t.pos
    rw[←hF',Zau (by omega) (by omega),hQ,Zs7,if_pos e1];rfl
   ·have e1:t.k=5:=by simpa using h5
    have e2:¬t.mx=-1:=by simpa using hx
    have hF':Zui t.mn t.mx=Zl6 (ZkS (ZkS t.mn 0) t.mx) 10001:=by simp[Zui,e2]
    show Value.int .i64 (Zl6 (IntKind.i64.wrap ((c+Zdp t.subs)*Zl6 (ZkS (ZkS t.mn 0) t.mx) 10001)) 10001)=Value.int .i64 t.pos
    rw[←hF',Zau (by omega) (by omega),hQ,Zs7,if_pos e1];rfl
   ·have e1:¬t.k=5:=by simpa using h5
    show Value.int .i64 (Zl6 (c+Zdp t.subs) 10001)=Value.int .i64 t.pos
    rw[hQ,Zs7,if_neg e1]
termination_by SizeOf.sizeOf t
decreasing_by all_goals exact cK
theorem ZlI(t:T)(m:Mem)(hr:Rep m t):CX Try.prog 37 #[t.v] m [] (Ret (.int .i64 t.positions)):=by
 apply Zhi
 unfold Zeu
 intro b m1 bE _
 refine Zah (Zh0 t m1 (hr.mono bE)) fun m2 bZ=>Zab (fun h=>Zad (Mem.le_trans bE bZ) ?_) (fun h=>?_)
 ·have:t.light=false:=by simpa using h
  simp[Ret,T.positions,this]
 have hl:t.light=true:=by simpa using h
 refine Zdo (Zhm t m2 (hr.mono (Mem.le_trans bE bZ)) (of_decide_eq_true hl)) fun m3 cD=>Zad (Mem.le_trans bE (Mem.le_trans bZ cD)) ?_
 simp[Ret,T.positions,hl]
theorem ZlJ(l l':List T)(a a':Option Addr)(c c':Nat)(m:Mem)(hl:l.length≤1000000000000000)(hr:l=[]∨∃b o,a=some ⟨b,o,none⟩∧RepAt m b o l)(hr':l'=[]∨∃b o,a'=some ⟨b,o,none⟩∧RepAt m b o l')
  (hp:∀x∈l,∀y∈l',∀m',m.le m'→Rep m' x→Rep m' y→CX Try.prog 106 #[x.v,y.v] m' [] (Ret (.bool (x.same y)))):
  CX Try.prog 132 #[.slice a l.length c,.slice a' l'.length c',.func (.func 106) #[] #[]] m [] (Ret (.bool (ZgG l l'))):=by
 apply ZaI a l.length c a' l'.length c' _ [] []
 unfold Zaw
 refine Zab (fun h=>Zad (Mem.le_refl _) ?_) (fun h=>?_)
 ·have:¬l.length=l'.length:=by
   intro e;rw[e]at h;simp at h
  show Value.bool false=_
  rw[Zm9 this]
 have dL:l.length=l'.length:=by
  have h2:((l.length:Int) == (l'.length:Int))=true:=by simpa using h
  have:=of_decide_eq_true h2;omega
 refine⟨fun xs _ _ m'' q=>∃i:Nat,i≤l.length∧xs=[.int .i64 i]∧ZgG (l.take i) (l'.take i)=true∧m.le m''∧q=l.length - i,⟨l.length,0,by omega,rfl,by simp[ZgG],Mem.le_refl _,by omega⟩,?_⟩
 rintro n m' q hm ⟨i,hi,hn,fI,cP,hq⟩
 obtain rfl:n=i:=by simpa using hn
 refine Zab (fun bV=>?_) (fun cM=>?_)
 ·have bF:i < l.length:=by simpa using bV
  obtain⟨x,hx⟩:∃x,l[i]?=some x:=⟨_,List.getElem?_eq_getElem bF⟩
  obtain⟨y,hy⟩:∃y,l'[i]?=some y:=⟨_,List.getElem?_eq_getElem (by omega)⟩
  have jv:x∈l:=List.mem_of_getElem? hx
  have vh:y∈l':=List.mem_of_getElem? hy
  rcases hr with h0|⟨b1,o1,ha,gf⟩
  ·rw[h0]at bF;simp at bF
  rcases hr' with h0|⟨b2,o2,ha',rA⟩
  ·rw[h0]at dL;simp at dL;rw[dL]at bF;simp at bF
  obtain⟨iI,gK⟩:=(gf.mono hm).get hx
  obtain⟨kw,ow⟩:=(rA.mono hm).get hy
  refine⟨b1,o1,ha,⟨by omega,by omega⟩,_,_,_,_,_,_,_,_,iI,fun b3=>Zaa rfl ⟨b2,o2,ha',⟨by omega,by omega⟩,_,_,_,_,_,_,_,_,kw,fun b4=>Zaa rfl ?_⟩⟩
  refine Zah (hp x jv y vh m' hm gK ow) fun m1 bE=>Zab (fun lp=>?_) (fun lp=>?_)
  ·have hf:x.same y=false:=by simpa using lp
   refine Zad (Mem.le_trans hm bE) ?_
   show Value.bool false=_
   rw[Zpy hx hy hf]
  ·have hf:x.same y=true:=by simpa using lp
   refine⟨l.length - (i+1),by omega,i+1,by omega,by rw[Zau (by omega) (by omega)];rfl,ZkT hx hy fI hf trivial,Mem.le_trans hm bE,rfl⟩
 ·have hi':i=l.length:=by
   have:¬((i:Int) < (l.length:Int)):=by simpa using cM
   omega
  subst hi'
  refine Zad hm ?_
  rw[List.take_length,dL,List.take_length]at fI
  show Value.bool true=_
  rw[fI]
theorem ZrS(t u:T)(m:Mem)(hr:Rep m t)(hu:Rep m u):CX Try.prog 106 #[t.v,u.v] m [] (Ret (.bool (t.same u))):=by
 apply ZoS
 unfold Zk6
 intro b m1 bE _ b' m2 bZ _
 have hm:=Mem.le_trans bE bZ
 refine⟨t.same u,?_,Zad hm rfl⟩
 rw[ZtA]
 refine Zab (fun h1=>⟨_,ZoU _ _ _ _ _ _ _ _,Zab (fun h2=>Zab (fun h3=>Zab (fun h4=>?_) (fun h4=>⟨rfl,Za9 ?_⟩)) (fun h3=>⟨rfl,Za9 ?_⟩)) (fun h2=>⟨rfl,Za9 ?_⟩)⟩) (fun h1=>⟨rfl,Za9 ?_⟩)
 ·have hr':=Zdd (hr.mono hm)
  have hu':=Zdd (hu.mono hm)
  refine Zah (ZlJ t.subs u.subs t.a u.a t.c u.c m2 hr'.1 hr'.2 hu'.2 fun x hx y hy m' _ iI kw=>?_) fun m3 cD=>⟨rfl,Za9 ?_⟩
  ·have cK:=ZqG hx
   exact ZrS x y m' iI kw
  ·rw[h1,h2,h3,h4];rfl
 ·rw[h1,h2,h3,h4];rfl
 ·rw[h1,h2,h3];rfl
 ·rw[h1,h2];rfl
 ·rw[h1];rfl
termination_by SizeOf.sizeOf t
decreasing_by exact cK
theorem ZtR(t u:T)(m:Mem)(hr:Rep m t)(hu:Rep m u):CX Try.prog 58 #[t.v,u.v] m [] (Ret (.bool (t.light&&(u.light&&t.same u)))):=by
 apply ZoT
 unfold Zk7
 intro b m1 bE _ b' m2 bZ _
 have hm:=Mem.le_trans bE bZ
 refine⟨t.light&&(u.light&&t.same u),?_,Zad hm rfl⟩
 refine Zah (Zh0 t m2 (hr.mono hm)) fun m3 cD=>Zab (fun h1=>?_) (fun h1=>⟨rfl,Za9 ?_⟩)
 ·refine Zah (Zh0 u m3 (hu.mono (Mem.le_trans hm cD))) fun m4 cZ=>Zab (fun h2=>?_) (fun h2=>?_)
  ·have dB:=Mem.le_trans (Mem.le_trans hm cD) cZ
   refine Zah (ZrS t u m4 (hr.mono dB) (hu.mono dB)) fun m6 gd=>⟨rfl,Za9 ?_⟩
   rw[h1,h2];rfl
  ·refine⟨rfl,Za9 ?_⟩
   rw[h1,h2];rfl
 ·rw[h1];rfl
end Go.Proofs.Ytplacemlpkhmfaa
