/- Part of the proof: conditions and contracts of functions of this program. No condition of its own. -/
import Derived.Test.YtplacemlpkhmfaaPEnv
set_option linter.unusedVariables false
namespace Go.Proofs.Ytplacemlpkhmfaa
open Go Go.Eng Go.Proofs Go.RowKit
open Go.Value (int slice agg)
open Go.IntKind (u8 u64 i64)
set_option maxRecDepth 100000
noncomputable def ZoQ:Env:={ EB with
 frzNew:=[1] }
def Zji(aR aS aT aU aA aQ aV:Int)(aO:Option Addr)(aN aP:Nat)(m:Mem)(R:RT):Prop:=
 ∀(b:Nat)(m':Mem),Mem.le m m'→Mem.reads m' b 0 [int u8 aR,int u64 aS,int u64 aT,int u64 aU,int u64 aA,int i64 aQ,int i64 aV,slice aO aN aP]→∃(m'':Mem),Mem.le m m''∧Mem.le
 m'' m'∧R (Value.func (Fn.func 133) (Array.mk []) (Array.mk [Value.pointer (some (Addr.mk b 0 none))])) m'' []
theorem Znx(aR aS aT aU aA aQ aV:Int)(aO:Option Addr)(aN aP:Nat)(m:Mem)(R:RT)(h:Zji aR aS aT aU aA aQ aV aO aN aP m R):CX Try.prog 107 #[.agg #[.int .u8 aR,.int .u64 aS,.int .u64 aT,.int .u64 aU,.int .u64 aA,.int .i64 aQ,.int .i64 aV,.slice aO aN aP]] m [] R:=
 Zal (E:=ZoQ) Zaz mix Try.func107 [.v (.agg #[.int .u8 aR,.int .u64 aS,.int .u64 aT,.int .u64 aU,.int .u64 aA,.int .i64 aQ,.int .i64 aV,.slice aO aN aP])] [] (by kernel_rfl) (Eq.mp (by kernel_rfl) h)
noncomputable def ZlL:Env:={ EB with
 loops:=(fun i=>bif Nat.beq i 3 then⟨[(13,.int .i64)],[],[],true⟩ else bif Nat.beq i 7 then⟨[(19,.agg [.int .u8,.int .u64,.int .u64,.int .u64,.int .u64,.int .i64,.int .i64,.slice])],[],[],true⟩ else⟨[],[],[],false⟩)
 frzNew:=[2] }
def Zgp(p0g:Nat)(p0fi p0ca:List Value)(c0b c0o:Nat)(m:Mem)(xs:List (List Value)):Prop:=
 ∀(l b:Nat)(m':Mem),Mem.le m m'→Mem.reads m' b 0 [Value.func (Fn.yield l) (Array.mk []) (Array.mk [])]→∃(v:Value),∃(an:Value),∃(ao:Value),∃(ap:Value),∃(aq:Value),∃(ar:Value),∃(au:
 Value),∃(av:Value),Mem.reads m' c0b c0o [v,an,ao,ap,aq,ar,au,av]∧(l=l∧(0:Int)≤(0:Int)∧List.get?Internal xs (Int.toNat (0:Int))=some [agg (Array.mk [v,an,ao,ap,aq,ar,au,av])])∧(∃(v
 : Value),m' c0b (c0o+7)=some v∧chk (Zdm v) (∃(I:IT),(∃(n:Nat),I [int i64 ((0:Int)+(1:Int)),int i64 0] [] [] m' n)∧∀(y n:Int)(ai:Mem)(aw:Nat),Mem.le m' ai→I [int i64 y,int i64 n] []
 [] ai aw→br (decide (n < (↑(slN v):Int))) (chk (Zdm v) (∃(ax:Nat),∃(o:Nat),slA v=some (Addr.mk ax o none)∧Zag n (slN v)∧∃(v:Value),∃(aa:Value),∃(ab:Value),∃(ac:Value),∃(ad:
 Value),∃(ae:Value),∃(af:Value),∃(ag:Value),Mem.reads ai ax (o+Int.toNat n*8) [v,aa,ab,ac,ad,ae,af,ag]∧∀(aj:Nat),chk (Value.oneCell' v&&(Value.oneCell' aa&&(Value.oneCell' ab &&
 (Value.oneCell' ac&&(Value.oneCell' ad&&(Value.oneCell' ae&&(Value.oneCell' af&&(Value.oneCell' ag&&true)))))))) (∃(R:RT),True∧CX Try.prog 107 (Array.mk [agg (Array.mk [v,aa,ab,ac,ad,ae,af,ag])])
 ai [] R∧ZaF Shape.fn R∧∀(g:Nat)(fi ca:List Value)(m':Mem),Mem.le ai m'→R (Value.func (Fn.func g) (Array.mk fi) (Array.mk ca)) m' []→∃(ak:List (List Value)),IX Try.prog g fi ca m' ak∧(∀(x:List
 Value),x∈ak→Shape.fitsL [shT] x=true)∧∃(al:IT),al [int i64 y] [] [] m' 0∧(∀(y n ay az a0 a1 a2 a3:Int)(a:Option Addr)(a4 c:Nat)(ah:Mem)(am:Nat),Mem.le m' ah→List.get?Internal ak am =
 some [agg (Array.mk [int u8 n,int u64 ay,int u64 az,int u64 a0,int u64 a1,int i64 a2,int i64 a3,slice a a4 c])]→al [int i64 y] [] [] ah am→∀(a5:Nat),(l=l∧(0:Int)≤y∧List.get?Internal xs
 (Int.toNat y)=some [agg (Array.mk [int u8 n,int u64 ay,int u64 az,int u64 a0,int u64 a1,int i64 a2,int i64 a3,slice a a4 c])])∧([some (Box.mk aj [v,aa,ab,ac,ad,ae,af,ag] 41 8 false true),some (Box.mk
 b [Value.func (Fn.yield l) (Array.mk []) (Array.mk [])] 94 1 true true)]=[some (Box.mk aj [v,aa,ab,ac,ad,ae,af,ag] 41 8 false true),some (Box.mk b [Value.func (Fn.yield l) (Array.mk []) (Array.mk [])] 94 1
 true true)]∧al [int i64 (y+(1:Int))] [] [] ah (am+1))∧[some (Box.mk aj [v,aa,ab,ac,ad,ae,af,ag] 41 8 false true),some (Box.mk b [Value.func (Fn.yield l) (Array.mk []) (Array.mk [])] 94 1 true true)] =
 [some (Box.mk aj [v,aa,ab,ac,ad,ae,af,ag] 41 8 false true),some (Box.mk b [Value.func (Fn.yield l) (Array.mk []) (Array.mk [])] 94 1 true true)]∧((-1:Int)=(↑(List.length xs):Int)∨(-1:Int)=(-1:
 Int)))∧∀(y:Int)(ah:Mem),Mem.le m' ah→al [int i64 y] [] [] ah (List.length ak)→[some (Box.mk b [Value.func (Fn.yield l) (Array.mk []) (Array.mk [])] 94 1 true true)]=[some (Box.mk b [Value.func (Fn.yield
 l) (Array.mk []) (Array.mk [])] 94 1 true true)]∧∃(n':Nat),n' < aw∧I [int i64 y,int i64 (IntKind.wrap i64 (n+(1:Int)))] [] [] ah n'))) (y=(↑(List.length xs):Int)∨y=(-1:Int))))∧((-1:Int) =
 (↑(List.length xs):Int)∨(-1:Int)=(-1:Int))
theorem Zj5(p0g:Nat)(p0fi p0ca:List Value)(c0b c0o:Nat)(m:Mem)(xs:List (List Value))(h:Zgp p0g p0fi p0ca c0b c0o m xs):IX Try.prog 133 [] [.pointer (some ⟨c0b,c0o,none⟩)] m xs:=
 Znb (E:=ZlL) Zaz mix Try.func133 [] [.pointer (some ⟨c0b,c0o,none⟩)] xs (by kernel_rfl) (Eq.mp (by kernel_rfl) h)
noncomputable def ZoR:Env:={ EB with
 loops:=(fun i=>bif Nat.beq i 3 then⟨[(6,.agg [.int .u8,.int .u64,.int .u64,.int .u64,.int .u64,.int .i64,.int .i64,.slice])],[3],[],false⟩ else⟨[],[],[],false⟩)
 frzNew:=[1] }
def Zjj(aR aS aT aU aA aQ aV:Int)(aO:Option Addr)(aN aP:Nat)(m:Mem)(R:RT):Prop:=
 ∀(b:Nat)(m':Mem),Mem.le m m'→Mem.reads m' b 0 [int u8 aR,int u64 aS,int u64 aT,int u64 aU,int u64 aA,int i64 aQ,int i64 aV,slice aO aN aP]→∀(b_1:Nat),∃(R_1:RT),True∧CX
 Try.prog 107 (Array.mk [agg (Array.mk [int u8 aR,int u64 aS,int u64 aT,int u64 aU,int u64 aA,int i64 aQ,int i64 aV,slice aO aN aP])]) m' [] R_1∧ZaF Shape.fn R_1∧∀(g:Nat) (fi ca:
 List Value) (m'_1:Mem),Mem.le m' m'_1→R_1 (Value.func (Fn.func g) (Array.mk fi) (Array.mk ca)) m'_1 []→∃(xs:List (List Value)),IX Try.prog g fi ca m'_1 xs∧(∀(x:List Value),x∈xs→Shape.fitsL [shT] x =
 true)∧∃(I:IT),I [] [[int i64 0]] [] m'_1 0∧(∀(n n_1 n_2 n_3 n_4 n_5 n_6:Int)(a:Option Addr)(n_7 c:Nat)(cs:List Value)(m':Mem)(n_8:Nat),Mem.le m'_1 m'→List.get?Internal xs n_8=some [agg
 (Array.mk [int u8 n,int u64 n_1,int u64 n_2,int u64 n_3,int u64 n_4,int i64 n_5,int i64 n_6,slice a n_7 c])]→I [] [cs] [] m' n_8→Eng.ZrB cs 0 fun(v:Value)=>chk (Zbv i64 v&&decide (i64=i64)) (br
 (decide (IntKind.wrap i64 (RowKit.intOf v+(1:Int)) > (10000:Int))) ([some (Box.mk b_1 [] 3 1 false true),some (Box.mk b [int u8 aR,int u64 aS,int u64 aT,int u64 aU,int u64 aA,int i64 aQ,int i64
 aV,slice aO aN aP] 41 8 true true)]=[some (Box.mk b_1 [] 3 1 false true),some (Box.mk b [int u8 aR,int u64 aS,int u64 aT,int u64 aU,int u64 aA,int i64 aQ,int i64 aV,slice aO aN
 aP] 41 8 true true)]∧∃(m'':Mem),Mem.le m m''∧Mem.le m'' m'∧R (Value.bool (decide (IntKind.wrap i64 (RowKit.intOf v+(1:Int))≤(10000:Int)))) m'' []) ([some (Box.mk b_1 [] 3 1 false true),some (Box.mk
 b [int u8 aR,int u64 aS,int u64 aT,int u64 aU,int u64 aA,int i64 aQ,int i64 aV,slice aO aN aP] 41 8 true true)]=[some (Box.mk b_1 [] 3 1 false true),some (Box.mk b [int u8 aR,int u64
 aS,int u64 aT,int u64 aU,int u64 aA,int i64 aQ,int i64 aV,slice aO aN aP] 41 8 true true)]∧I [] [[int i64 (IntKind.wrap i64 (RowKit.intOf v+(1:Int)))]] [] m' (n_8+1))))∧∀(cs:List
 Value) (m':Mem),Mem.le m'_1 m'→I [] [cs] [] m' (List.length xs)→Eng.ZrB cs 0 fun(v:Value)=>chk (Zbv i64 v&&decide (i64=i64)) (∃(m'':Mem),Mem.le m m''∧Mem.le m'' m'∧R (Value.bool (decide
 (RowKit.intOf v≤(10000:Int)))) m'' [])
theorem Zny(aR aS aT aU aA aQ aV:Int)(aO:Option Addr)(aN aP:Nat)(m:Mem)(R:RT)(h:Zjj aR aS aT aU aA aQ aV aO aN aP m R):CX Try.prog 92 #[.agg #[.int .u8 aR,.int .u64 aS,.int .u64 aT,.int .u64 aU,.int .u64 aA,.int .i64 aQ,.int .i64 aV,.slice aO aN aP]] m [] R:=
 Zal (E:=ZoR) Zaz mix Try.func92 [.v (.agg #[.int .u8 aR,.int .u64 aS,.int .u64 aT,.int .u64 aU,.int .u64 aA,.int .i64 aQ,.int .i64 aV,.slice aO aN aP])] [] (by kernel_rfl) (Eq.mp (by kernel_rfl) h)
noncomputable def Znz:Env:={ EB with
 joins:=(fun i=>bif Nat.beq i 1 then some [(18,.bool)]else bif Nat.beq i 3 then some [(4,.bool)]else none) }
def Zhk(p0 p1:Int)(m:Mem)(R:RT):Prop:=
 ∃(b:Bool),br (decide (p0 < (0:Int))) ([Value.bool true]=[Value.bool b]) (br (decide (p0 > (16:Int))) ([Value.bool true]=[Value.bool b]) (br (p0 == (1:Int)) ([Value.bool (p1 == (1:Int))]=[Value.bool b])
 ([Value.bool false]=[Value.bool b])))∧br b (∃(m'':Mem),Mem.le m m''∧Mem.le m'' m∧R (Value.bool false) m'' []) (∃(b:Bool),br (p1 == (-1:Int)) ([Value.bool true]=[Value.bool b]) (br (decide (p1 ≥ (1:
 Int))) (br (decide (p1≤(16:Int))) ([Value.bool (decide (p1 ≥ p0))]=[Value.bool b]) ([Value.bool false]=[Value.bool b])) ([Value.bool false]=[Value.bool b]))∧∃(m'':Mem),Mem.le m m''∧Mem.le m'' m∧R
 (Value.bool b) m'' [])
theorem ZlM(p0 p1:Int)(m:Mem)(R:RT)(h:Zhk p0 p1 m R):CX Try.prog 84 #[.int .i64 p0,.int .i64 p1] m [] R:=
 Zal (E:=Znz) Zaz mix Try.func84 [.v (.int .i64 p0),.v (.int .i64 p1)] [] (by kernel_rfl) (Eq.mp (by kernel_rfl) h)
noncomputable def ZoS:Env:={ EB with
 frzNew:=[2] }
def Zjk(aR aS aT aU aA aQ aV:Int)(aO:Option Addr)(aN aP c0b c0o:Nat)(m:Mem)(R:RT):Prop:=
 ∀(b:Nat)(m':Mem),Mem.le m m'→Mem.reads m' b 0 [int u8 aR,int u64 aS,int u64 aT,int u64 aU,int u64 aA,int i64 aQ,int i64 aV,slice aO aN aP]→∃(v:Value),m' c0b c0o=some v∧
 chk (Zbv u8 v) (∃(m'':Mem),Mem.le m m''∧Mem.le m'' m'∧R (Value.bool (aR == RowKit.intOf v)) m'' [])
theorem ZnA(aR aS aT aU aA aQ aV:Int)(aO:Option Addr)(aN aP c0b c0o:Nat)(m:Mem)(R:RT)(h:Zjk aR aS aT aU aA aQ aV aO aN aP c0b c0o m R):CX Try.prog 163 #[.agg #[.int .u8 aR,.int .u64 aS,.int .u64 aT,.int .u64 aU,.int .u64 aA,.int .i64 aQ,.int .i64 aV,.slice aO aN aP],.pointer (some ⟨c0b,c0o,none⟩)] m [] R:=
 Zal (E:=ZoS) Zaz mix Try.func163 [.v (.agg #[.int .u8 aR,.int .u64 aS,.int .u64 aT,.int .u64 aU,.int .u64 aA,.int .i64 aQ,.int .i64 aV,.slice aO aN aP]),.v (.pointer (some ⟨c0b,c0o,none⟩))] [] (by kernel_rfl) (Eq.mp (by kernel_rfl) h)
noncomputable def Zbr:Env:={ EB with
 loops:=(fun i=>bif Nat.beq i 2 then⟨[(8,.int .i64)],[],[],false⟩ else⟨[],[],[],false⟩) }
def ZaP(p0a:Option Addr)(p0n p0c p1g:Nat)(p1fi p1ca:List Value)(m:Mem)(R:RT):Prop:=
 ∃(I:IT),(∃(n:Nat),I [int i64 0] [] [] m n)∧∀(n:Int)(m':Mem)(n_1:Nat),Mem.le m m'→I [int i64 n] [] [] m' n_1→br (decide (n < (↑p0n:Int))) (∃(b:Nat),∃(o:Nat),p0a=some (Addr.mk b o none)
 ∧ Zag n p0n∧∃(v:Value),∃(v_1:Value),∃(v_2:Value),∃(v_3:Value),∃(v_4:Value),∃(v_5:Value),∃(v_6:Value),∃(v_7:Value),Mem.reads m' b (o+Int.toNat n*8) [v,v_1,v_2,v_3,v_4,v_5,
 v_6,v_7]∧∃(R_1:RT),True∧CX Try.prog p1g (Array.mk (List.append (List.append p1fi [agg (Array.mk [v,v_1,v_2,v_3,v_4,v_5,v_6,v_7])]) p1ca)) m' [] R_1∧ZaF Shape.bool R_1∧∀(b:Bool)(m'_1:Mem),
 Mem.le m' m'_1→R_1 (Value.bool b) m'_1 []→br b (∃(m'':Mem),Mem.le m m''∧Mem.le m'' m'_1∧R (int i64 n) m'' []) (∃(n':Nat),n' < n_1∧I [int i64 (IntKind.wrap i64 (n+(1:Int)))] [] [] m'_1 n')) (∃(m''
 : Mem),Mem.le m m''∧Mem.le m'' m'∧R (int i64 (-1:Int)) m'' [])
theorem Zbi(p0a:Option Addr)(p0n p0c p1g:Nat)(p1fi p1ca:List Value)(m:Mem)(R:RT)(h:ZaP p0a p0n p0c p1g p1fi p1ca m R):CX Try.prog 166 #[.slice p0a p0n p0c,.func (.func p1g) p1fi.toArray p1ca.toArray] m [] R:=
 Zal (E:=Zbr) Zaz mix Try.func166 [.v (.slice p0a p0n p0c),.v (.func (.func p1g) p1fi.toArray p1ca.toArray)] [] (by kernel_rfl) (Eq.mp (by kernel_rfl) h)
noncomputable def Za6:Env:=EB
def ZaM(p0a:Option Addr)(p0n p0c p1g:Nat)(p1fi p1ca:List Value)(m:Mem)(R:RT):Prop:=
 ∃(R_1:RT),True∧CX Try.prog 166 (Array.mk [slice p0a p0n p0c,Value.func (Fn.func p1g) (Array.mk p1fi) (Array.mk p1ca)]) m [] R_1∧ZaF (Shape.int i64) R_1∧∀(n:Int)(m':Mem),Mem.le m m'→R_1 (int i64 n)
 m' []→∃(m'':Mem),Mem.le m m''∧Mem.le m'' m'∧R (Value.bool (decide (n ≥ (0:Int)))) m'' []
theorem Za3(p0a:Option Addr)(p0n p0c p1g:Nat)(p1fi p1ca:List Value)(m:Mem)(R:RT)(h:ZaM p0a p0n p0c p1g p1fi p1ca m R):CX Try.prog 162 #[.slice p0a p0n p0c,.func (.func p1g) p1fi.toArray p1ca.toArray] m [] R:=
 Zal (E:=Za6) Zaz mix Try.func162 [.v (.slice p0a p0n p0c),.v (.func (.func p1g) p1fi.toArray p1ca.toArray)] [] (by kernel_rfl) (Eq.mp (by kernel_rfl) h)
noncomputable def ZsI:Env:={ EB with
 frzNew:=[2,3] }
def ZnB(aR aS aT aU aA aQ aV:Int)(aO:Option Addr)(aN aP:Nat)(p1:Int)(m:Mem)(R:RT):Prop:=
 ∀(b:Nat)(m':Mem),Mem.le m m'→Mem.reads m' b 0 [int u8 aR,int u64 aS,int u64 aT,int u64 aU,int u64 aA,int i64 aQ,int i64 aV,slice aO aN aP]→∀(b:Nat)(m'_1:Mem),Mem.le m'
 m'_1→Mem.reads m'_1 b 0 [int u8 p1]→∃(R_1:RT),True∧CX Try.prog 162 (Array.mk [slice aO aN aP,Value.func (Fn.func 163) (Array.mk []) (Array.mk [Value.pointer (some (Addr.mk b 0 none))])]) m'_1 [] R_1
 ∧ ZaF Shape.bool R_1∧∀(b:Bool)(m':Mem),Mem.le m'_1 m'→R_1 (Value.bool b) m' []→∃(m'':Mem),Mem.le m m''∧Mem.le m'' m'∧R (Value.bool b) m'' []
theorem Zq6(aR aS aT aU aA aQ aV:Int)(aO:Option Addr)(aN aP:Nat)(p1:Int)(m:Mem)(R:RT)(h:ZnB aR aS aT aU aA aQ aV aO aN aP p1 m R):CX Try.prog 134 #[.agg #[.int .u8 aR,.int .u64 aS,.int .u64 aT,.int .u64 aU,.int .u64 aA,.int .i64 aQ,.int .i64 aV,.slice aO aN aP],.int .u8 p1] m [] R:=
 Zal (E:=ZsI) Zaz mix Try.func134 [.v (.agg #[.int .u8 aR,.int .u64 aS,.int .u64 aT,.int .u64 aU,.int .u64 aA,.int .i64 aQ,.int .i64 aV,.slice aO aN aP]),.v (.int .u8 p1)] [] (by kernel_rfl) (Eq.mp (by kernel_rfl) h)
noncomputable def ZoT:Env:={ EB with
 joins:=(fun i=>bif Nat.beq i 1 then some [(37,.bool)]else bif Nat.beq i 9 then some [(2,.bool)]else bif Nat.beq i 11 then some [(2,.bool)]else bif Nat.beq i 13 then some [(2,.bool)]else bif Nat.beq i 14 then some [(2,.bool)]else none)
 frzNew:=[1] }
def Zjl(aR aS aT aU aA aQ aV:Int)(aO:Option Addr)(aN aP:Nat)(m:Mem)(R:RT):Prop:=
 ∀(b:Nat)(m':Mem),Mem.le m m'→Mem.reads m' b 0 [int u8 aR,int u64 aS,int u64 aT,int u64 aU,int u64 aA,int i64 aQ,int i64 aV,slice aO aN aP]→∃(ab:Bool),br (!aR == (2:Int))
 (∃(aa:Bool),EqIs Try.prog 38 (agg (Array.mk [int u64 aS,int u64 aT,int u64 aU,int u64 aA])) (agg (Array.mk [int u64 0,int u64 0,int u64 0,int u64 0])) aa∧br (!aa) ([some (Box.mk b [int u8 aR,int
 u64 aS,int u64 aT,int u64 aU,int u64 aA,int i64 aQ,int i64 aV,slice aO aN aP] 41 8 true true)]=[some (Box.mk b [int u8 aR,int u64 aS,int u64 aT,int u64 aU,int u64 aA,int i64
 aQ,int i64 aV,slice aO aN aP] 41 8 true true)]∧[Value.bool true]=[Value.bool ab]) (br (!aR == (5:Int)) (br (!aQ == (0:Int)) ([some (Box.mk b [int u8 aR,int u64 aS,int u64 aT,int u64
 aU,int u64 aA,int i64 aQ,int i64 aV,slice aO aN aP] 41 8 true true)]=[some (Box.mk b [int u8 aR,int u64 aS,int u64 aT,int u64 aU,int u64 aA,int i64 aQ,int i64 aV,slice aO
 aN aP] 41 8 true true)]∧[Value.bool true]=[Value.bool ab]) (br (!aV == (0:Int)) ([some (Box.mk b [int u8 aR,int u64 aS,int u64 aT,int u64 aU,int u64 aA,int i64 aQ,int i64 aV,slice
 aO aN aP] 41 8 true true)]=[some (Box.mk b [int u8 aR,int u64 aS,int u64 aT,int u64 aU,int u64 aA,int i64 aQ,int i64 aV,slice aO aN aP] 41 8 true true)]∧[Value.bool true] =
 [Value.bool ab]) (br (decide (aR < (3:Int))) ([some (Box.mk b [int u8 aR,int u64 aS,int u64 aT,int u64 aU,int u64 aA,int i64 aQ,int i64 aV,slice aO aN aP] 41 8 true true)]=[some
 (Box.mk b [int u8 aR,int u64 aS,int u64 aT,int u64 aU,int u64 aA,int i64 aQ,int i64 aV,slice aO aN aP] 41 8 true true)]∧[Value.bool (decide ((↑aN:Int) > (0:Int)))]=[Value.bool
 ab]) ([some (Box.mk b [int u8 aR,int u64 aS,int u64 aT,int u64 aU,int u64 aA,int i64 aQ,int i64 aV,slice aO aN aP] 41 8 true true)]=[some (Box.mk b [int u8 aR,int u64 aS,int u64
 aT,int u64 aU,int u64 aA,int i64 aQ,int i64 aV,slice aO aN aP] 41 8 true true)]∧[Value.bool false]=[Value.bool ab])))) (br (decide (aR < (3:Int))) ([some (Box.mk b [int u8 aR,int u64
 aS,int u64 aT,int u64 aU,int u64 aA,int i64 aQ,int i64 aV,slice aO aN aP] 41 8 true true)]=[some (Box.mk b [int u8 aR,int u64 aS,int u64 aT,int u64 aU,int u64 aA,int i64 aQ,
 int i64 aV,slice aO aN aP] 41 8 true true)]∧[Value.bool (decide ((↑aN:Int) > (0:Int)))]=[Value.bool ab]) ([some (Box.mk b [int u8 aR,int u64 aS,int u64 aT,int u64 aU,int u64 aA,int
 i64 aQ,int i64 aV,slice aO aN aP] 41 8 true true)]=[some (Box.mk b [int u8 aR,int u64 aS,int u64 aT,int u64 aU,int u64 aA,int i64 aQ,int i64 aV,slice aO aN aP] 41 8 true
 true)]∧[Value.bool false]=[Value.bool ab])))) (br (!aR == (5:Int)) (br (!aQ == (0:Int)) ([some (Box.mk b [int u8 aR,int u64 aS,int u64 aT,int u64 aU,int u64 aA,int i64 aQ,int i64 aV,
 slice aO aN aP] 41 8 true true)]=[some (Box.mk b [int u8 aR,int u64 aS,int u64 aT,int u64 aU,int u64 aA,int i64 aQ,int i64 aV,slice aO aN aP] 41 8 true true)]∧[Value.bool true]
 = [Value.bool ab]) (br (!aV == (0:Int)) ([some (Box.mk b [int u8 aR,int u64 aS,int u64 aT,int u64 aU,int u64 aA,int i64 aQ,int i64 aV,slice aO aN aP] 41 8 true true)]=[some (Box.mk b
 [int u8 aR,int u64 aS,int u64 aT,int u64 aU,int u64 aA,int i64 aQ,int i64 aV,slice aO aN aP] 41 8 true true)]∧[Value.bool true]=[Value.bool ab]) (br (decide (aR < (3:Int))) ([some
 (Box.mk b [int u8 aR,int u64 aS,int u64 aT,int u64 aU,int u64 aA,int i64 aQ,int i64 aV,slice aO aN aP] 41 8 true true)]=[some (Box.mk b [int u8 aR,int u64 aS,int u64 aT,int u64
 aU,int u64 aA,int i64 aQ,int i64 aV,slice aO aN aP] 41 8 true true)]∧[Value.bool (decide ((↑aN:Int) > (0:Int)))]=[Value.bool ab]) ([some (Box.mk b [int u8 aR,int u64 aS,int u64
 aT,int u64 aU,int u64 aA,int i64 aQ,int i64 aV,slice aO aN aP] 41 8 true true)]=[some (Box.mk b [int u8 aR,int u64 aS,int u64 aT,int u64 aU,int u64 aA,int i64 aQ,int i64 aV,
 slice aO aN aP] 41 8 true true)]∧[Value.bool false]=[Value.bool ab])))) (br (decide (aR < (3:Int))) ([some (Box.mk b [int u8 aR,int u64 aS,int u64 aT,int u64 aU,int u64 aA,int i64 aQ,
 int i64 aV,slice aO aN aP] 41 8 true true)]=[some (Box.mk b [int u8 aR,int u64 aS,int u64 aT,int u64 aU,int u64 aA,int i64 aQ,int i64 aV,slice aO aN aP] 41 8 true true)]∧
 [Value.bool (decide ((↑aN:Int) > (0:Int)))]=[Value.bool ab]) ([some (Box.mk b [int u8 aR,int u64 aS,int u64 aT,int u64 aU,int u64 aA,int i64 aQ,int i64 aV,slice aO aN aP] 41 8 true
 true)]=[some (Box.mk b [int u8 aR,int u64 aS,int u64 aT,int u64 aU,int u64 aA,int i64 aQ,int i64 aV,slice aO aN aP] 41 8 true true)]∧[Value.bool false]=[Value.bool ab])))∧br ab (∃
 (m'':Mem),Mem.le m m''∧Mem.le m'' m'∧R (Value.bool false) m'' []) (br (aR == (1:Int)) (∃(m'':Mem),Mem.le m m''∧Mem.le m'' m'∧R (Value.bool true) m'' []) (br (aR == (2:Int)) (∃(b:Bool),EqIs
 Try.prog 38 (agg (Array.mk [int u64 aS,int u64 aT,int u64 aU,int u64 aA])) (agg (Array.mk [int u64 0,int u64 0,int u64 0,int u64 0])) b∧∃(m'':Mem),Mem.le m m''∧Mem.le m'' m'∧R (Value.bool !b) m''
 []) (br (aR == (3:Int)) (∃(aa:Bool),br (decide ((↑aN:Int) > (1:Int))) (∃(R:RT),True∧CX Try.prog 134 (Array.mk [agg (Array.mk [int u8 aR,int u64 aS,int u64 aT,int u64 aU,int u64 aA,int
 i64 aQ,int i64 aV,slice aO aN aP]),int u8 1]) m' [] R∧ZaF Shape.bool R∧∀(ad:Bool)(ac:Mem),Mem.le m' ac→R (Value.bool ad) ac []→br (!ad) (∃(R:RT),True∧CX Try.prog 134 (Array.mk [agg
 (Array.mk [int u8 aR,int u64 aS,int u64 aT,int u64 aU,int u64 aA,int i64 aQ,int i64 aV,slice aO aN aP]),int u8 3]) ac [] R∧ZaF Shape.bool R∧∀(ae:Bool)(m':Mem),Mem.le ac m'→R
 (Value.bool ae) m' []→[some (Box.mk b [int u8 aR,int u64 aS,int u64 aT,int u64 aU,int u64 aA,int i64 aQ,int i64 aV,slice aO aN aP] 41 8 true true)]=[some (Box.mk b [int u8 aR,int u64
 aS,int u64 aT,int u64 aU,int u64 aA,int i64 aQ,int i64 aV,slice aO aN aP] 41 8 true true)]∧[Value.bool !ae]=[Value.bool aa]) ([some (Box.mk b [int u8 aR,int u64 aS,int u64 aT,int
 u64 aU,int u64 aA,int i64 aQ,int i64 aV,slice aO aN aP] 41 8 true true)]=[some (Box.mk b [int u8 aR,int u64 aS,int u64 aT,int u64 aU,int u64 aA,int i64 aQ,int i64 aV,slice
 aO aN aP] 41 8 true true)]∧[Value.bool false]=[Value.bool aa])) ([some (Box.mk b [int u8 aR,int u64 aS,int u64 aT,int u64 aU,int u64 aA,int i64 aQ,int i64 aV,slice aO aN aP] 41
 8 true true)]=[some (Box.mk b [int u8 aR,int u64 aS,int u64 aT,int u64 aU,int u64 aA,int i64 aQ,int i64 aV,slice aO aN aP] 41 8 true true)]∧[Value.bool false]=[Value.bool aa])∧∃
 (m'':Mem),Mem.le m m''∧Mem.le m'' m'∧R (Value.bool aa) m'' []) (br (aR == (4:Int)) (∃(aa:Bool),br (decide ((↑aN:Int) > (1:Int))) (∃(R:RT),True∧CX Try.prog 134 (Array.mk [agg (Array.mk [int u8
 aR,int u64 aS,int u64 aT,int u64 aU,int u64 aA,int i64 aQ,int i64 aV,slice aO aN aP]),int u8 4]) m' [] R∧ZaF Shape.bool R∧∀(ad:Bool)(ac:Mem),Mem.le m' ac→R (Value.bool ad) ac
 []→[some (Box.mk b [int u8 aR,int u64 aS,int u64 aT,int u64 aU,int u64 aA,int i64 aQ,int i64 aV,slice aO aN aP] 41 8 true true)]=[some (Box.mk b [int u8 aR,int u64 aS,int u64
 aT,int u64 aU,int u64 aA,int i64 aQ,int i64 aV,slice aO aN aP] 41 8 true true)]∧[Value.bool !ad]=[Value.bool aa]) ([some (Box.mk b [int u8 aR,int u64 aS,int u64 aT,int u64 aU,int
 u64 aA,int i64 aQ,int i64 aV,slice aO aN aP] 41 8 true true)]=[some (Box.mk b [int u8 aR,int u64 aS,int u64 aT,int u64 aU,int u64 aA,int i64 aQ,int i64 aV,slice aO aN
 aP] 41 8 true true)]∧[Value.bool false]=[Value.bool aa])∧∃(m'':Mem),Mem.le m m''∧Mem.le m'' m'∧R (Value.bool aa) m'' []) (br (aR == (5:Int)) (∃(aa:Bool),br ((↑aN:Int) == (1:Int)) (∃(R:
 RT),True∧CX Try.prog 84 (Array.mk [int i64 aQ,int i64 aV]) m' [] R∧ZaF Shape.bool R∧∀(ad:Bool)(ac:Mem),Mem.le m' ac→R (Value.bool ad) ac []→br ad (∃(R:RT),True∧CX Try.prog 134 (Array.mk
 [agg (Array.mk [int u8 aR,int u64 aS,int u64 aT,int u64 aU,int u64 aA,int i64 aQ,int i64 aV,slice aO aN aP]),int u8 1]) ac [] R∧ZaF Shape.bool R∧∀(ae:Bool)(m':Mem),Mem.le ac m'
 → R (Value.bool ae) m' []→[some (Box.mk b [int u8 aR,int u64 aS,int u64 aT,int u64 aU,int u64 aA,int i64 aQ,int i64 aV,slice aO aN aP] 41 8 true true)]=[some (Box.mk b [int u8 aR,int
 u64 aS,int u64 aT,int u64 aU,int u64 aA,int i64 aQ,int i64 aV,slice aO aN aP] 41 8 true true)]∧[Value.bool !ae]=[Value.bool aa]) ([some (Box.mk b [int u8 aR,int u64 aS,int u64 aT,
 int u64 aU,int u64 aA,int i64 aQ,int i64 aV,slice aO aN aP] 41 8 true true)]=[some (Box.mk b [int u8 aR,int u64 aS,int u64 aT,int u64 aU,int u64 aA,int i64 aQ,int i64 aV,slice
 aO aN aP] 41 8 true true)]∧[Value.bool false]=[Value.bool aa])) ([some (Box.mk b [int u8 aR,int u64 aS,int u64 aT,int u64 aU,int u64 aA,int i64 aQ,int i64 aV,slice aO aN aP] 41
 8 true true)]=[some (Box.mk b [int u8 aR,int u64 aS,int u64 aT,int u64 aU,int u64 aA,int i64 aQ,int i64 aV,slice aO aN aP] 41 8 true true)]∧[Value.bool false]=[Value.bool aa])∧∃
 (m'':Mem),Mem.le m m''∧Mem.le m'' m'∧R (Value.bool aa) m'' []) (∃(aa:Bool),br (aR == (6:Int)) ([some (Box.mk b [int u8 aR,int u64 aS,int u64 aT,int u64 aU,int u64 aA,int i64 aQ,int i64
 aV,slice aO aN aP] 41 8 true true)]=[some (Box.mk b [int u8 aR,int u64 aS,int u64 aT,int u64 aU,int u64 aA,int i64 aQ,int i64 aV,slice aO aN aP] 41 8 true true)]∧[Value.bool
 ((↑aN:Int) == (1:Int))]=[Value.bool aa]) ([some (Box.mk b [int u8 aR,int u64 aS,int u64 aT,int u64 aU,int u64 aA,int i64 aQ,int i64 aV,slice aO aN aP] 41 8 true true)]=[some
 (Box.mk b [int u8 aR,int u64 aS,int u64 aT,int u64 aU,int u64 aA,int i64 aQ,int i64 aV,slice aO aN aP] 41 8 true true)]∧[Value.bool false]=[Value.bool aa])∧∃(m'':Mem),Mem.le m m''
 ∧ Mem.le m'' m'∧R (Value.bool aa) m'' []))))))
theorem ZnC(aR aS aT aU aA aQ aV:Int)(aO:Option Addr)(aN aP:Nat)(m:Mem)(R:RT)(h:Zjl aR aS aT aU aA aQ aV aO aN aP m R):CX Try.prog 108 #[.agg #[.int .u8 aR,.int .u64 aS,.int .u64 aT,.int .u64 aU,.int .u64 aA,.int .i64 aQ,.int .i64 aV,.slice aO aN aP]] m [] R:=
 Zal (E:=ZoT) Zaz mix Try.func108 [.v (.agg #[.int .u8 aR,.int .u64 aS,.int .u64 aT,.int .u64 aU,.int .u64 aA,.int .i64 aQ,.int .i64 aV,.slice aO aN aP])] [] (by kernel_rfl) (Eq.mp (by kernel_rfl) h)
noncomputable def ZoU:Env:={ EB with
 loops:=(fun i=>bif Nat.beq i 5 then⟨[(9,.agg [.int .u8,.int .u64,.int .u64,.int .u64,.int .u64,.int .i64,.int .i64,.slice])],[2],[],false⟩ else⟨[],[],[],false⟩)
 frzNew:=[1] }
def Zjm(aR aS aT aU aA aQ aV:Int)(aO:Option Addr)(aN aP:Nat)(m:Mem)(R:RT):Prop:=
 ∀(b:Nat)(m':Mem),Mem.le m m'→Mem.reads m' b 0 [int u8 aR,int u64 aS,int u64 aT,int u64 aU,int u64 aA,int i64 aQ,int i64 aV,slice aO aN aP]→∀(ac:Nat),∃(R_1:RT),True∧CX
 Try.prog 92 (Array.mk [agg (Array.mk [int u8 aR,int u64 aS,int u64 aT,int u64 aU,int u64 aA,int i64 aQ,int i64 aV,slice aO aN aP])]) m' [] R_1∧ZaF Shape.bool R_1∧∀(ae:Bool) (ab:
 Mem),Mem.le m' ab→R_1 (Value.bool ae) ab []→br (!ae) (∃(m'':Mem),Mem.le m m''∧Mem.le m'' ab∧R (Value.bool false) m'' []) (∃(R_2:RT),True∧CX Try.prog 107 (Array.mk [agg (Array.mk [int u8 aR,int u64
 aS,int u64 aT,int u64 aU,int u64 aA,int i64 aQ,int i64 aV,slice aO aN aP])]) ab [] R_2∧ZaF Shape.fn R_2∧∀(g:Nat)(fi ca:List Value)(m':Mem),Mem.le ab m'→R_2 (Value.func
 (Fn.func g) (Array.mk fi) (Array.mk ca)) m' []→∃(xs:List (List Value)),IX Try.prog g fi ca m' xs∧(∀(x:List Value),x∈xs→Shape.fitsL [shT] x=true)∧∃(I:IT),I [] [[Value.bool false]] [] m' 0∧(∀(n
 af ag ah ai aj ak:Int) (a:Option Addr) (al c:Nat) (cs:List Value) (aa:Mem) (ad:Nat),Mem.le m' aa→List.get?Internal xs ad=some [agg (Array.mk [int u8 n,int u64 af,int u64 ag,int u64 ah,int u64 ai,
 int i64 aj,int i64 ak,slice a al c])]→I [] [cs] [] aa ad→∀(an:Nat),∃(R_3:RT),True∧CX Try.prog 108 (Array.mk [agg (Array.mk [int u8 n,int u64 af,int u64 ag,int u64 ah,int u64 ai,int i64 aj,int i64
 ak,slice a al c])]) aa [] R_3∧ZaF Shape.bool R_3∧∀(am:Bool)(m':Mem),Mem.le aa m'→R_3 (Value.bool am) m' []→br (!am) ([some (Box.mk ac [] 4 1 false true),some (Box.mk b [int u8 aR,int u64 aS,int
 u64 aT,int u64 aU,int u64 aA,int i64 aQ,int i64 aV,slice aO aN aP] 41 8 true true)]=[some (Box.mk ac [] 4 1 false true),some (Box.mk b [int u8 aR,int u64 aS,int u64 aT,int u64 aU,
 int u64 aA,int i64 aQ,int i64 aV,slice aO aN aP] 41 8 true true)]∧∃(m'':Mem),Mem.le m m''∧Mem.le m'' m'∧R (Value.bool false) m'' []) ([some (Box.mk ac [] 4 1 false true),some (Box.mk b [int
 u8 aR,int u64 aS,int u64 aT,int u64 aU,int u64 aA,int i64 aQ,int i64 aV,slice aO aN aP] 41 8 true true)]=[some (Box.mk ac [] 4 1 false true),some (Box.mk b [int u8 aR,int u64 aS,
 int u64 aT,int u64 aU,int u64 aA,int i64 aQ,int i64 aV,slice aO aN aP] 41 8 true true)]∧I [] [cs] [] m' (ad+1)))∧∀(cs:List Value)(aa:Mem),Mem.le m' aa→I [] [cs] [] aa (List.length
 xs)→∃(m'':Mem),Mem.le m m''∧Mem.le m'' aa∧R (Value.bool true) m'' [])
theorem ZnD(aR aS aT aU aA aQ aV:Int)(aO:Option Addr)(aN aP:Nat)(m:Mem)(R:RT)(h:Zjm aR aS aT aU aA aQ aV aO aN aP m R):CX Try.prog 59 #[.agg #[.int .u8 aR,.int .u64 aS,.int .u64 aT,.int .u64 aU,.int .u64 aA,.int .i64 aQ,.int .i64 aV,.slice aO aN aP]] m [] R:=
 Zal (E:=ZoU) Zaz mix Try.func59 [.v (.agg #[.int .u8 aR,.int .u64 aS,.int .u64 aT,.int .u64 aU,.int .u64 aA,.int .i64 aQ,.int .i64 aV,.slice aO aN aP])] [] (by kernel_rfl) (Eq.mp (by kernel_rfl) h)
noncomputable def Zq7:Env:={ EB with
 loops:=(fun i=>bif Nat.beq i 5 then⟨[(9,.agg [.int .u8,.int .u64,.int .u64,.int .u64,.int .u64,.int .i64,.int .i64,.slice])],[3],[],false⟩ else⟨[],[],[],false⟩)
 frzNew:=[1] }
def Zlc(aR aS aT aU aA aQ aV:Int)(aO:Option Addr)(aN aP:Nat)(m:Mem)(R:RT):Prop:=
 ∀(b:Nat)(m':Mem),Mem.le m m'→Mem.reads m' b 0 [int u8 aR,int u64 aS,int u64 aT,int u64 aU,int u64 aA,int i64 aQ,int i64 aV,slice aO aN aP]→∃(R_1:RT),True∧CX Try.prog 92
 (Array.mk [agg (Array.mk [int u8 aR,int u64 aS,int u64 aT,int u64 aU,int u64 aA,int i64 aQ,int i64 aV,slice aO aN aP])]) m' [] R_1∧ZaF Shape.bool R_1∧∀(b_1:Bool)(m'_1:Mem),
 Mem.le m' m'_1→R_1 (Value.bool b_1) m'_1 []→br (!b_1) (∃(m'':Mem),Mem.le m m''∧Mem.le m'' m'_1∧R (int i64 10001) m'' []) (∀(b_2:Nat),∃(R_2:RT),True∧CX Try.prog 107 (Array.mk [agg (Array.mk [int u8
 aR,int u64 aS,int u64 aT,int u64 aU,int u64 aA,int i64 aQ,int i64 aV,slice aO aN aP])]) m'_1 [] R_2∧ZaF Shape.fn R_2∧∀(g:Nat)(fi ca:List Value)(m':Mem),Mem.le m'_1 m'→R_2
 (Value.func (Fn.func g) (Array.mk fi) (Array.mk ca)) m' []→∃(xs:List (List Value)),IX Try.prog g fi ca m' xs∧(∀(x:List Value),x∈xs→Shape.fitsL [shT] x=true)∧∃(I:IT),I [] [[int i64 0]] [] m' 0∧
 (∀(n n_1 n_2 n_3 n_4 n_5 n_6:Int)(a:Option Addr)(n_7 c:Nat)(cs:List Value)(m'_2:Mem)(n_8:Nat),Mem.le m' m'_2→List.get?Internal xs n_8=some [agg (Array.mk [int u8 n,int u64 n_1,int u64 n_2,int
 u64 n_3,int u64 n_4,int i64 n_5,int i64 n_6,slice a n_7 c])]→I [] [cs] [] m'_2 n_8→Eng.ZrB cs 0 fun(v:Value)=>chk (Zbv i64 v&&decide (i64=i64)) ([some (Box.mk b_2 [] 3 1 false true),some (Box.mk b
 [int u8 aR,int u64 aS,int u64 aT,int u64 aU,int u64 aA,int i64 aQ,int i64 aV,slice aO aN aP] 41 8 true true)]=[some (Box.mk b_2 [] 3 1 false true),some (Box.mk b [int u8 aR,int u64
 aS,int u64 aT,int u64 aU,int u64 aA,int i64 aQ,int i64 aV,slice aO aN aP] 41 8 true true)]∧I [] [[int i64 (IntKind.wrap i64 (RowKit.intOf v+(1:Int)))]] [] m'_2 (n_8+1)))∧∀(cs:List
 Value) (m'_2:Mem),Mem.le m' m'_2→I [] [cs] [] m'_2 (List.length xs)→Eng.ZrB cs 0 fun(v:Value)=>∃(m'':Mem),Mem.le m m''∧Mem.le m'' m'_2∧R v m'' [])
theorem ZoV(aR aS aT aU aA aQ aV:Int)(aO:Option Addr)(aN aP:Nat)(m:Mem)(R:RT)(h:Zlc aR aS aT aU aA aQ aV aO aN aP m R):CX Try.prog 60 #[.agg #[.int .u8 aR,.int .u64 aS,.int .u64 aT,.int .u64 aU,.int .u64 aA,.int .i64 aQ,.int .i64 aV,.slice aO aN aP]] m [] R:=
 Zal (E:=Zq7) Zaz mix Try.func60 [.v (.agg #[.int .u8 aR,.int .u64 aS,.int .u64 aT,.int .u64 aU,.int .u64 aA,.int .i64 aQ,.int .i64 aV,.slice aO aN aP])] [] (by kernel_rfl) (Eq.mp (by kernel_rfl) h)
noncomputable def Zir:Env:={ EB with
 loops:=(fun i=>bif Nat.beq i 5 then⟨[(3,.int .i64),(14,.int .i64)],[],[],false⟩ else⟨[],[],[],false⟩)
 frzNew:=[1] }
def Zet(aR aS aT aU aA aQ aV:Int)(aO:Option Addr)(aN aP:Nat)(m:Mem)(R:RT):Prop:=
 ∀(b:Nat)(m':Mem),Mem.le m m'→Mem.reads m' b 0 [int u8 aR,int u64 aS,int u64 aT,int u64 aU,int u64 aA,int i64 aQ,int i64 aV,slice aO aN aP]→br (aR == (2:Int)) (∃(I:IT),(∃
 (n:Nat),I [int i64 1,int i64 0] [] [] m' n)∧∀(n ab:Int)(aa:Mem)(aj:Nat),Mem.le m' aa→I [int i64 n,int i64 ab] [] [] aa aj→br (decide (ab < (↑aN:Int))) (∃(ak:Nat),∃(o:Nat),aO=some
 (Addr.mk ak o none)∧Zag ab aN∧∃(v:Value),∃(ac:Value),∃(ad:Value),∃(ae:Value),∃(af:Value),∃(ag:Value),∃(ah:Value),∃(ai:Value),Mem.reads aa ak (o+Int.toNat ab*8) [v,ac,ad,
 ae,af,ag,ah,ai]∧∀(am:Nat),chk (Value.oneCell' v&&(Value.oneCell' ac&&(Value.oneCell' ad&&(Value.oneCell' ae&&(Value.oneCell' af&&(Value.oneCell' ag&&(Value.oneCell' ah&&(Value.oneCell' ai &&
 true)))))))) (∃(R:RT),True∧CX Try.prog 93 (Array.mk [agg (Array.mk [v,ac,ad,ae,af,ag,ah,ai])]) aa [] R∧ZaF (Shape.int i64) R∧∀(al:Int)(m':Mem),Mem.le aa m'→R (int i64 al) m' []→[some (Box.mk
 b [int u8 aR,int u64 aS,int u64 aT,int u64 aU,int u64 aA,int i64 aQ,int i64 aV,slice aO aN aP] 41 8 true true)]=[some (Box.mk b [int u8 aR,int u64 aS,int u64 aT,int u64 aU,int
 u64 aA,int i64 aQ,int i64 aV,slice aO aN aP] 41 8 true true)]∧∃(n':Nat),n' < aj∧I [int i64 (IntKind.wrap i64 (n+al)),int i64 (IntKind.wrap i64 (ab+(1:Int)))] [] [] m' n')) (br (aR ==
 (5:Int)) (br (aV == (-1:Int)) (∃(m'':Mem),Mem.le m m''∧Mem.le m'' aa∧R (int i64 (if(10001:Int) < IntKind.wrap i64 (n*if(10001:Int) < if(1:Int) > if(0:Int) > aQ then(0:Int)else aQ then
 (1:Int)else if(0:Int) > aQ then(0:Int)else aQ then(10001:Int)else if(1:Int) > if(0:Int) > aQ then(0:Int)else aQ then(1:Int)else if(0:Int) > aQ then(0:Int)else aQ)then
 (10001:Int)else IntKind.wrap i64 (n*if(10001:Int) < if(1:Int) > if(0:Int) > aQ then(0:Int)else aQ then(1:Int)else if(0:Int) > aQ then(0:Int)else aQ then(10001:Int)else if(1:
 Int) > if(0:Int) > aQ then(0:Int)else aQ then(1:Int)else if(0:Int) > aQ then(0:Int)else aQ))) m'' []) (∃(m'':Mem),Mem.le m m''∧Mem.le m'' aa∧R (int i64 (if(10001:Int) < IntKind.wrap
 i64 (n*if(10001:Int) < if aV > if(0:Int) > aQ then(0:Int)else aQ then aV else if(0:Int) > aQ then(0:Int)else aQ then(10001:Int)else if aV > if(0:Int) > aQ then(0:Int)else
 aQ then aV else if(0:Int) > aQ then(0:Int)else aQ)then(10001:Int)else IntKind.wrap i64 (n*if(10001:Int) < if aV > if(0:Int) > aQ then(0:Int)else aQ then aV else if(0:Int) >
 aQ then(0:Int)else aQ then(10001:Int)else if aV > if(0:Int) > aQ then(0:Int)else aQ then aV else if(0:Int) > aQ then(0:Int)else aQ))) m'' [])) (∃(m'':Mem),Mem.le m m''∧Mem.le
 m'' aa∧R (int i64 (if(10001:Int) < n then(10001:Int)else n)) m'' []))) (∃(I:IT),(∃(n:Nat),I [int i64 0,int i64 0] [] [] m' n)∧∀(n ab:Int)(aa:Mem)(aj:Nat),Mem.le m' aa→I [int i64 n,int
 i64 ab] [] [] aa aj→br (decide (ab < (↑aN:Int))) (∃(ak:Nat),∃(o:Nat),aO=some (Addr.mk ak o none)∧Zag ab aN∧∃(v:Value),∃(ac:Value),∃(ad:Value),∃(ae:Value),∃(af:Value),∃
 (ag:Value),∃(ah:Value),∃(ai:Value),Mem.reads aa ak (o+Int.toNat ab*8) [v,ac,ad,ae,af,ag,ah,ai]∧∀(am:Nat),chk (Value.oneCell' v&&(Value.oneCell' ac&&(Value.oneCell' ad&&(Value.oneCell'
 ae&&(Value.oneCell' af&&(Value.oneCell' ag&&(Value.oneCell' ah&&(Value.oneCell' ai&&true)))))))) (∃(R:RT),True∧CX Try.prog 93 (Array.mk [agg (Array.mk [v,ac,ad,ae,af,ag,ah,ai])]) aa [] R∧ZaF
 (Shape.int i64) R∧∀(al:Int)(m':Mem),Mem.le aa m'→R (int i64 al) m' []→[some (Box.mk b [int u8 aR,int u64 aS,int u64 aT,int u64 aU,int u64 aA,int i64 aQ,int i64 aV,slice aO aN
 aP] 41 8 true true)]=[some (Box.mk b [int u8 aR,int u64 aS,int u64 aT,int u64 aU,int u64 aA,int i64 aQ,int i64 aV,slice aO aN aP] 41 8 true true)]∧∃(n':Nat),n' < aj∧I [int i64
 (IntKind.wrap i64 (n+al)),int i64 (IntKind.wrap i64 (ab+(1:Int)))] [] [] m' n')) (br (aR == (5:Int)) (br (aV == (-1:Int)) (∃(m'':Mem),Mem.le m m''∧Mem.le m'' aa∧R (int i64 (if(10001:Int) <
 IntKind.wrap i64 (n*if(10001:Int) < if(1:Int) > if(0:Int) > aQ then(0:Int)else aQ then(1:Int)else if(0:Int) > aQ then(0:Int)else aQ then(10001:Int)else if(1:Int) > if(0:Int) >
 aQ then(0:Int)else aQ then(1:Int)else if(0:Int) > aQ then(0:Int)else aQ)then(10001:Int)else IntKind.wrap i64 (n*if(10001:Int) < if(1:Int) > if(0:Int) > aQ then(0:Int)else
 aQ then(1:Int)else if(0:Int) > aQ then(0:Int)else aQ then(10001:Int)else if(1:Int) > if(0:Int) > aQ then(0:Int)else aQ then(1:Int)else if(0:Int) > aQ then(0:Int)else
 aQ))) m'' []) (∃(m'':Mem),Mem.le m m''∧Mem.le m'' aa∧R (int i64 (if(10001:Int) < IntKind.wrap i64 (n*if(10001:Int) < if aV > if(0:Int) > aQ then(0:Int)else aQ then aV else if(0:Int) >
 aQ then(0:Int)else aQ then(10001:Int)else if aV > if(0:Int) > aQ then(0:Int)else aQ then aV else if(0:Int) > aQ then(0:Int)else aQ)then(10001:Int)else IntKind.wrap i64 (n*if
 (10001:Int) < if aV > if(0:Int) > aQ then(0:Int)else aQ then aV else if(0:Int) > aQ then(0:Int)else aQ then(10001:Int)else if aV > if(0:Int) > aQ then(0:Int)else aQ then aV
 else if(0:Int) > aQ then(0:Int)else aQ))) m'' [])) (∃(m'':Mem),Mem.le m m''∧Mem.le m'' aa∧R (int i64 (if(10001:Int) < n then(10001:Int)else n)) m'' [])))
theorem Zhl(aR aS aT aU aA aQ aV:Int)(aO:Option Addr)(aN aP:Nat)(m:Mem)(R:RT)(h:Zet aR aS aT aU aA aQ aV aO aN aP m R):CX Try.prog 93 #[.agg #[.int .u8 aR,.int .u64 aS,.int .u64 aT,.int .u64 aU,.int .u64 aA,.int .i64 aQ,.int .i64 aV,.slice aO aN aP]] m [] R:=
 Zal (E:=Zir) Zaz mix Try.func93 [.v (.agg #[.int .u8 aR,.int .u64 aS,.int .u64 aT,.int .u64 aU,.int .u64 aA,.int .i64 aQ,.int .i64 aV,.slice aO aN aP])] [] (by kernel_rfl) (Eq.mp (by kernel_rfl) h)
noncomputable def Zis:Env:={ EB with
 frzNew:=[1] }
def Zeu(aR aS aT aU aA aQ aV:Int)(aO:Option Addr)(aN aP:Nat)(m:Mem)(R:RT):Prop:=
 ∀(b:Nat)(m':Mem),Mem.le m m'→Mem.reads m' b 0 [int u8 aR,int u64 aS,int u64 aT,int u64 aU,int u64 aA,int i64 aQ,int i64 aV,slice aO aN aP]→∃(R_1:RT),True∧CX Try.prog 92
 (Array.mk [agg (Array.mk [int u8 aR,int u64 aS,int u64 aT,int u64 aU,int u64 aA,int i64 aQ,int i64 aV,slice aO aN aP])]) m' [] R_1∧ZaF Shape.bool R_1∧∀(b:Bool)(m'_1:Mem),Mem.le
 m' m'_1→R_1 (Value.bool b) m'_1 []→br (!b) (∃(m'':Mem),Mem.le m m''∧Mem.le m'' m'_1∧R (int i64 10001) m'' []) (∃(R_2:RT),True∧CX Try.prog 93 (Array.mk [agg (Array.mk [int u8 aR,int u64 aS,int u64
 aT,int u64 aU,int u64 aA,int i64 aQ,int i64 aV,slice aO aN aP])]) m'_1 [] R_2∧ZaF (Shape.int i64) R_2∧∀(n:Int)(m':Mem),Mem.le m'_1 m'→R_2 (int i64 n) m' []→∃(m'':Mem),Mem.le m
 m''∧Mem.le m'' m'∧R (int i64 n) m'' [])
theorem Zhm(aR aS aT aU aA aQ aV:Int)(aO:Option Addr)(aN aP:Nat)(m:Mem)(R:RT)(h:Zeu aR aS aT aU aA aQ aV aO aN aP m R):CX Try.prog 37 #[.agg #[.int .u8 aR,.int .u64 aS,.int .u64 aT,.int .u64 aU,.int .u64 aA,.int .i64 aQ,.int .i64 aV,.slice aO aN aP]] m [] R:=
 Zal (E:=Zis) Zaz mix Try.func37 [.v (.agg #[.int .u8 aR,.int .u64 aS,.int .u64 aT,.int .u64 aU,.int .u64 aA,.int .i64 aQ,.int .i64 aV,.slice aO aN aP])] [] (by kernel_rfl) (Eq.mp (by kernel_rfl) h)
noncomputable def ZaK:Env:={ EB with
 loops:=(fun i=>bif Nat.beq i 4 then⟨[(17,.int .i64)],[],[],false⟩ else⟨[],[],[],false⟩) }
def Zaw(p0a:Option Addr)(p0n p0c:Nat)(p1a:Option Addr)(p1n p1c p2g:Nat)(p2fi p2ca:List Value)(m:Mem)(R:RT):Prop:=
 br (!(↑p0n:Int) == (↑p1n:Int)) (∃(m'':Mem),Mem.le m m''∧Mem.le m'' m∧R (Value.bool false) m'' []) (∃(I:IT),(∃(n:Nat),I [int i64 0] [] [] m n)∧∀(n:Int)(m':Mem)(n_1:Nat),Mem.le m m'→I
 [int i64 n] [] [] m' n_1→br (decide (n < (↑p0n:Int))) (∃(b:Nat),∃(o:Nat),p0a=some (Addr.mk b o none)∧Zag n p0n∧∃(v:Value),∃(v_1:Value),∃(v_2:Value),∃(v_3:Value),∃(v_4:Value),∃
 (v_5:Value),∃(v_6:Value),∃(v_7:Value),Mem.reads m' b (o+Int.toNat n*8) [v,v_1,v_2,v_3,v_4,v_5,v_6,v_7]∧∀(b:Nat),chk (Value.oneCell' v&&(Value.oneCell' v_1&&(Value.oneCell' v_2 &&
 (Value.oneCell' v_3&&(Value.oneCell' v_4&&(Value.oneCell' v_5&&(Value.oneCell' v_6&&(Value.oneCell' v_7&&true)))))))) (∃(b:Nat),∃(o:Nat),p1a=some (Addr.mk b o none)∧Zag n p1n∧∃(v_8:Value),
 ∃(v_9:Value),∃(v_10:Value),∃(v_11:Value),∃(v_12:Value),∃(v_13:Value),∃(v_14:Value),∃(v_15:Value),Mem.reads m' b (o+Int.toNat n*8) [v_8,v_9,v_10,v_11,v_12,v_13,v_14,v_15]∧∀(b:
 Nat),chk (Value.oneCell' v_8&&(Value.oneCell' v_9&&(Value.oneCell' v_10&&(Value.oneCell' v_11&&(Value.oneCell' v_12&&(Value.oneCell' v_13&&(Value.oneCell' v_14&&(Value.oneCell' v_15&&true)))))))) (∃
 (R_1:RT),True∧CX Try.prog p2g (Array.mk (List.append (List.append p2fi [agg (Array.mk [v,v_1,v_2,v_3,v_4,v_5,v_6,v_7]),agg (Array.mk [v_8,v_9,v_10,v_11,v_12,v_13,v_14,v_15])]) p2ca)) m' [] R_1∧ZaF
 Shape.bool R_1∧∀(b:Bool)(m'_1:Mem),Mem.le m' m'_1→R_1 (Value.bool b) m'_1 []→br (!b) (∃(m'':Mem),Mem.le m m''∧Mem.le m'' m'_1∧R (Value.bool false) m'' []) (∃(n':Nat),n' < n_1∧I [int i64
 (IntKind.wrap i64 (n+(1:Int)))] [] [] m'_1 n')))) (∃(m'':Mem),Mem.le m m''∧Mem.le m'' m'∧R (Value.bool true) m'' []))
theorem ZaI(p0a:Option Addr)(p0n p0c:Nat)(p1a:Option Addr)(p1n p1c p2g:Nat)(p2fi p2ca:List Value)(m:Mem)(R:RT)(h:Zaw p0a p0n p0c p1a p1n p1c p2g p2fi p2ca m R):CX Try.prog 132 #[.slice p0a p0n p0c,.slice p1a p1n p1c,.func (.func p2g) p2fi.toArray p2ca.toArray] m [] R:=
 Zal (E:=ZaK) Zaz mix Try.func132 [.v (.slice p0a p0n p0c),.v (.slice p1a p1n p1c),.v (.func (.func p2g) p2fi.toArray p2ca.toArray)] [] (by kernel_rfl) (Eq.mp (by kernel_rfl) h)
noncomputable def Zq8:Env:={ EB with
 joins:=(fun i=>bif Nat.beq i 1 then some [(4,.bool)]else none)
 frzNew:=[2,3] }
def Zld(aR aS aT aU aA aQ aV:Int)(aO:Option Addr)(aN aP:Nat)(bX bG bH bI aW aZ bE:Int)(aX:Option Addr)(aY bC:Nat)(m:Mem)(R:RT):Prop:=
 ∀(b:Nat)(m':Mem),Mem.le m m'→Mem.reads m' b 0 [int u8 aR,int u64 aS,int u64 aT,int u64 aU,int u64 aA,int i64 aQ,int i64 aV,slice aO aN aP]→∀(aa:Nat)(ac:Mem),Mem.le m' ac→
 Mem.reads ac aa 0 [int u8 bX,int u64 bG,int u64 bH,int u64 bI,int u64 aW,int i64 aZ,int i64 bE,slice aX aY bC]→∃(ab:Bool),br (aR == bX) (∃(ad:Bool),EqIs Try.prog 38 (agg
 (Array.mk [int u64 aS,int u64 aT,int u64 aU,int u64 aA])) (agg (Array.mk [int u64 bG,int u64 bH,int u64 bI,int u64 aW])) ad∧br ad (br (aQ == aZ) (br (aV == bE) (∃(R:RT),True∧CX
 Try.prog 132 (Array.mk [slice aO aN aP,slice aX aY bC,Value.func (Fn.func 106) (Array.mk []) (Array.mk [])]) ac [] R∧ZaF Shape.bool R∧∀(ae:Bool)(m':Mem),Mem.le ac m'→R (Value.bool ae)
 m' []→[some (Box.mk aa [int u8 bX,int u64 bG,int u64 bH,int u64 bI,int u64 aW,int i64 aZ,int i64 bE,slice aX aY bC] 41 8 true true),some (Box.mk b [int u8 aR,int u64 aS,int u64
 aT,int u64 aU,int u64 aA,int i64 aQ,int i64 aV,slice aO aN aP] 41 8 true true)]=[some (Box.mk aa [int u8 bX,int u64 bG,int u64 bH,int u64 bI,int u64 aW,int i64 aZ,int i64
 bE,slice aX aY bC] 41 8 true true),some (Box.mk b [int u8 aR,int u64 aS,int u64 aT,int u64 aU,int u64 aA,int i64 aQ,int i64 aV,slice aO aN aP] 41 8 true true)]∧[Value.bool
 ae]=[Value.bool ab]) ([some (Box.mk aa [int u8 bX,int u64 bG,int u64 bH,int u64 bI,int u64 aW,int i64 aZ,int i64 bE,slice aX aY bC] 41 8 true true),some (Box.mk b [int u8 aR,int u64
 aS,int u64 aT,int u64 aU,int u64 aA,int i64 aQ,int i64 aV,slice aO aN aP] 41 8 true true)]=[some (Box.mk aa [int u8 bX,int u64 bG,int u64 bH,int u64 bI,int u64 aW,int i64
 aZ,int i64 bE,slice aX aY bC] 41 8 true true),some (Box.mk b [int u8 aR,int u64 aS,int u64 aT,int u64 aU,int u64 aA,int i64 aQ,int i64 aV,slice aO aN aP] 41 8 true true)]∧
 [Value.bool false]=[Value.bool ab])) ([some (Box.mk aa [int u8 bX,int u64 bG,int u64 bH,int u64 bI,int u64 aW,int i64 aZ,int i64 bE,slice aX aY bC] 41 8 true true),some (Box.mk b [int u8
 aR,int u64 aS,int u64 aT,int u64 aU,int u64 aA,int i64 aQ,int i64 aV,slice aO aN aP] 41 8 true true)]=[some (Box.mk aa [int u8 bX,int u64 bG,int u64 bH,int u64 bI,int u64
 aW,int i64 aZ,int i64 bE,slice aX aY bC] 41 8 true true),some (Box.mk b [int u8 aR,int u64 aS,int u64 aT,int u64 aU,int u64 aA,int i64 aQ,int i64 aV,slice aO aN aP] 41 8
 true true)]∧[Value.bool false]=[Value.bool ab])) ([some (Box.mk aa [int u8 bX,int u64 bG,int u64 bH,int u64 bI,int u64 aW,int i64 aZ,int i64 bE,slice aX aY bC] 41 8 true true),some
 (Box.mk b [int u8 aR,int u64 aS,int u64 aT,int u64 aU,int u64 aA,int i64 aQ,int i64 aV,slice aO aN aP] 41 8 true true)]=[some (Box.mk aa [int u8 bX,int u64 bG,int u64 bH,int u64
 bI,int u64 aW,int i64 aZ,int i64 bE,slice aX aY bC] 41 8 true true),some (Box.mk b [int u8 aR,int u64 aS,int u64 aT,int u64 aU,int u64 aA,int i64 aQ,int i64 aV,slice aO
 aN aP] 41 8 true true)]∧[Value.bool false]=[Value.bool ab])) ([some (Box.mk aa [int u8 bX,int u64 bG,int u64 bH,int u64 bI,int u64 aW,int i64 aZ,int i64 bE,slice aX aY bC] 41 8
 true true),some (Box.mk b [int u8 aR,int u64 aS,int u64 aT,int u64 aU,int u64 aA,int i64 aQ,int i64 aV,slice aO aN aP] 41 8 true true)]=[some (Box.mk aa [int u8 bX,int u64 bG,int
 u64 bH,int u64 bI,int u64 aW,int i64 aZ,int i64 bE,slice aX aY bC] 41 8 true true),some (Box.mk b [int u8 aR,int u64 aS,int u64 aT,int u64 aU,int u64 aA,int i64 aQ,int i64
 aV,slice aO aN aP] 41 8 true true)]∧[Value.bool false]=[Value.bool ab])∧∃(m'':Mem),Mem.le m m''∧Mem.le m'' ac∧R (Value.bool ab) m'' []
theorem ZoW(aR aS aT aU aA aQ aV:Int)(aO:Option Addr)(aN aP:Nat)(bX bG bH bI aW aZ bE:Int)(aX:Option Addr)(aY bC:Nat)(m:Mem)(R:RT)(h:Zld aR aS aT aU aA aQ aV aO aN aP bX bG bH bI aW aZ bE aX aY bC m R):CX Try.prog 106 #[.agg #[.int .u8 aR,.int .u64 aS,.int .u64 aT,.int .u64 aU,.int .u64 aA,.int .i64 aQ,.int .i64 aV,.slice aO aN aP],.agg #[.int .u8 bX,.int .u64 bG,.int .u64 bH,.int .u64 bI,.int .u64 aW,.int .i64 aZ,.int .i64 bE,.slice aX aY bC]] m [] R:=
 Zal (E:=Zq8) Zaz mix Try.func106 [.v (.agg #[.int .u8 aR,.int .u64 aS,.int .u64 aT,.int .u64 aU,.int .u64 aA,.int .i64 aQ,.int .i64 aV,.slice aO aN aP]),.v (.agg #[.int .u8 bX,.int .u64 bG,.int .u64 bH,.int .u64 bI,.int .u64 aW,.int .i64 aZ,.int .i64 bE,.slice aX aY bC])] [] (by kernel_rfl) (Eq.mp (by kernel_rfl) h)
noncomputable def Zq9:Env:={ EB with
 joins:=(fun i=>bif Nat.beq i 1 then some [(4,.bool)]else none)
 frzNew:=[2,3] }
def Zle(aR aS aT aU aA aQ aV:Int)(aO:Option Addr)(aN aP:Nat)(bX bG bH bI aW aZ bE:Int)(aX:Option Addr)(aY bC:Nat)(m:Mem)(R:RT):Prop:=
 ∀(b:Nat)(m':Mem),Mem.le m m'→Mem.reads m' b 0 [int u8 aR,int u64 aS,int u64 aT,int u64 aU,int u64 aA,int i64 aQ,int i64 aV,slice aO aN aP]→∀(aa:Nat)(ab:Mem),Mem.le m' ab→
 Mem.reads ab aa 0 [int u8 bX,int u64 bG,int u64 bH,int u64 bI,int u64 aW,int i64 aZ,int i64 bE,slice aX aY bC]→∃(ac:Bool),(∃(R:RT),True∧CX Try.prog 92 (Array.mk [agg (Array.mk
 [int u8 aR,int u64 aS,int u64 aT,int u64 aU,int u64 aA,int i64 aQ,int i64 aV,slice aO aN aP])]) ab [] R∧ZaF Shape.bool R∧∀(ae:Bool)(m':Mem),Mem.le ab m'→R (Value.bool ae) m'
 []→br ae (∃(R:RT),True∧CX Try.prog 92 (Array.mk [agg (Array.mk [int u8 bX,int u64 bG,int u64 bH,int u64 bI,int u64 aW,int i64 aZ,int i64 bE,slice aX aY bC])]) m' [] R∧ZaF
 Shape.bool R∧∀(af:Bool)(ad:Mem),Mem.le m' ad→R (Value.bool af) ad []→br af (∃(R:RT),True∧CX Try.prog 106 (Array.mk [agg (Array.mk [int u8 aR,int u64 aS,int u64 aT,int u64 aU,int u64 aA,
 int i64 aQ,int i64 aV,slice aO aN aP]),agg (Array.mk [int u8 bX,int u64 bG,int u64 bH,int u64 bI,int u64 aW,int i64 aZ,int i64 bE,slice aX aY bC])]) ad [] R∧ZaF
 Shape.bool R∧∀(ag:Bool)(m':Mem),Mem.le ad m'→R (Value.bool ag) m' []→[some (Box.mk aa [int u8 bX,int u64 bG,int u64 bH,int u64 bI,int u64 aW,int i64 aZ,int i64 bE,slice aX aY
 bC] 41 8 true true),some (Box.mk b [int u8 aR,int u64 aS,int u64 aT,int u64 aU,int u64 aA,int i64 aQ,int i64 aV,slice aO aN aP] 41 8 true true)]=[some (Box.mk aa [int u8 bX,int u64
 bG,int u64 bH,int u64 bI,int u64 aW,int i64 aZ,int i64 bE,slice aX aY bC] 41 8 true true),some (Box.mk b [int u8 aR,int u64 aS,int u64 aT,int u64 aU,int u64 aA,int i64 aQ,
 int i64 aV,slice aO aN aP] 41 8 true true)]∧[Value.bool ag]=[Value.bool ac]) ([some (Box.mk aa [int u8 bX,int u64 bG,int u64 bH,int u64 bI,int u64 aW,int i64 aZ,int i64 bE,slice
 aX aY bC] 41 8 true true),some (Box.mk b [int u8 aR,int u64 aS,int u64 aT,int u64 aU,int u64 aA,int i64 aQ,int i64 aV,slice aO aN aP] 41 8 true true)]=[some (Box.mk aa [int u8
 bX,int u64 bG,int u64 bH,int u64 bI,int u64 aW,int i64 aZ,int i64 bE,slice aX aY bC] 41 8 true true),some (Box.mk b [int u8 aR,int u64 aS,int u64 aT,int u64 aU,int u64 aA,
 int i64 aQ,int i64 aV,slice aO aN aP] 41 8 true true)]∧[Value.bool false]=[Value.bool ac])) ([some (Box.mk aa [int u8 bX,int u64 bG,int u64 bH,int u64 bI,int u64 aW,int i64 aZ,int
 i64 bE,slice aX aY bC] 41 8 true true),some (Box.mk b [int u8 aR,int u64 aS,int u64 aT,int u64 aU,int u64 aA,int i64 aQ,int i64 aV,slice aO aN aP] 41 8 true true)]=[some
 (Box.mk aa [int u8 bX,int u64 bG,int u64 bH,int u64 bI,int u64 aW,int i64 aZ,int i64 bE,slice aX aY bC] 41 8 true true),some (Box.mk b [int u8 aR,int u64 aS,int u64 aT,int u64
 aU,int u64 aA,int i64 aQ,int i64 aV,slice aO aN aP] 41 8 true true)]∧[Value.bool false]=[Value.bool ac]))∧∃(m'':Mem),Mem.le m m''∧Mem.le m'' ab∧R (Value.bool ac) m'' []
theorem ZoX(aR aS aT aU aA aQ aV:Int)(aO:Option Addr)(aN aP:Nat)(bX bG bH bI aW aZ bE:Int)(aX:Option Addr)(aY bC:Nat)(m:Mem)(R:RT)(h:Zle aR aS aT aU aA aQ aV aO aN aP bX bG bH bI aW aZ bE aX aY bC m R):CX Try.prog 58 #[.agg #[.int .u8 aR,.int .u64 aS,.int .u64 aT,.int .u64 aU,.int .u64 aA,.int .i64 aQ,.int .i64 aV,.slice aO aN aP],.agg #[.int .u8 bX,.int .u64 bG,.int .u64 bH,.int .u64 bI,.int .u64 aW,.int .i64 aZ,.int .i64 bE,.slice aX aY bC]] m [] R:=
 Zal (E:=Zq9) Zaz mix Try.func58 [.v (.agg #[.int .u8 aR,.int .u64 aS,.int .u64 aT,.int .u64 aU,.int .u64 aA,.int .i64 aQ,.int .i64 aV,.slice aO aN aP]),.v (.agg #[.int .u8 bX,.int .u64 bG,.int .u64 bH,.int .u64 bI,.int .u64 aW,.int .i64 aZ,.int .i64 bE,.slice aX aY bC])] [] (by kernel_rfl) (Eq.mp (by kernel_rfl) h)
end Go.Proofs.Ytplacemlpkhmfaa

