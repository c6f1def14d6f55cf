/- Part of the proof: conditions and contracts of functions of this program. No condition of its own. -/
import Derived.Test.YtplacemlpkhmfaaPEnv
import Derived.Test.YtplacemlpkhmfaaMr
import Derived.Test.YtplacemlpkhmfaaPC17H
set_option linter.unusedVariables false
namespace Go.Proofs.Ytplacemlpkhmfaa
open Go Go.Eng Go.Proofs Go.RowKit
open Go.Value (int slice agg)
open Go.IntKind (u8 u64 i64)
set_option maxRecDepth 100000
noncomputable def ZpT:Env:={ EB with
 frzNew:=[1] }
def ZjS(aS aT aU aV aC aR aW:Int)(aP:Option Addr)(aO aQ:Nat)(m:Mem)(R:RT):Prop:=
 ∀(b:Nat)(m':Mem),Mem.le m m'→Mem.reads m' b 0 [int u8 aS,int u64 aT,int u64 aU,int u64 aV,int u64 aC,int i64 aR,int i64 aW,slice aP aO aQ]→∃(m'':Mem),Mem.le m m''∧Mem.le
 m'' m'∧R (Value.func (Fn.func 133) (Array.mk []) (Array.mk [Value.pointer (some (Addr.mk b 0 none))])) m'' []
theorem ZoB(aS aT aU aV aC aR aW:Int)(aP:Option Addr)(aO aQ:Nat)(m:Mem)(R:RT)(h:ZjS aS aT aU aV aC aR aW aP aO aQ m R):CX Try.prog 107 #[.agg #[.int .u8 aS,.int .u64 aT,.int .u64 aU,.int .u64 aV,.int .u64 aC,.int .i64 aR,.int .i64 aW,.slice aP aO aQ]] m [] R:=
 Zaj (E:=ZpT) Zaw mix Try.func107 [.v (.agg #[.int .u8 aS,.int .u64 aT,.int .u64 aU,.int .u64 aV,.int .u64 aC,.int .i64 aR,.int .i64 aW,.slice aP aO aQ])] [] (by kernel_rfl) (Eq.mp (by kernel_rfl) h)
noncomputable def ZmA:Env:={ EB with
 loops:=(fun i=>bif Nat.beq i 3 then⟨[(13,.int .i64)],[],[],true⟩ else bif Nat.beq i 7 then⟨[(19,.agg [.int .u8,.int .u64,.int .u64,.int .u64,.int .u64,.int .i64,.int .i64,.slice])],[],[],true⟩ else⟨[],[],[],false⟩)
 frzNew:=[2] }
def ZgR(p0g:Nat)(p0fi p0ca:List Value)(c0b c0o:Nat)(m:Mem)(xs:List (List Value)):Prop:=
 ∀(l b:Nat)(m':Mem),Mem.le m m'→Mem.reads m' b 0 [Value.func (Fn.yield l) (Array.mk []) (Array.mk [])]→∃(v:Value),∃(an:Value),∃(ao:Value),∃(ap:Value),∃(aq:Value),∃(ar:Value),∃(au:
 Value),∃(av:Value),Mem.reads m' c0b c0o [v,an,ao,ap,aq,ar,au,av]∧(l=l∧(0:Int)≤(0:Int)∧List.get?Internal xs (Int.toNat (0:Int))=some [agg (Array.mk [v,an,ao,ap,aq,ar,au,av])])∧(∃(v
 : Value),m' c0b (c0o+7)=some v∧chk (Zc8 v) (∃(I:IT),(∃(n:Nat),I [int i64 ((0:Int)+(1:Int)),int i64 0] [] [] m' n)∧∀(y n:Int)(ai:Mem)(aw:Nat),Mem.le m' ai→I [int i64 y,int i64 n] []
 [] ai aw→br (decide (n < (↑(slN v):Int))) (chk (Zc8 v) (∃(ax:Nat),∃(o:Nat),slA v=some (Addr.mk ax o none)∧Zac n (slN v)∧∃(v:Value),∃(aa:Value),∃(ab:Value),∃(ac:Value),∃(ad:
 Value),∃(ae:Value),∃(af:Value),∃(ag:Value),Mem.reads ai ax (o+Int.toNat n*8) [v,aa,ab,ac,ad,ae,af,ag]∧∀(aj:Nat),chk (Value.oneCell' v&&(Value.oneCell' aa&&(Value.oneCell' ab &&
 (Value.oneCell' ac&&(Value.oneCell' ad&&(Value.oneCell' ae&&(Value.oneCell' af&&(Value.oneCell' ag&&true)))))))) (∃(R:RT),True∧CX Try.prog 107 (Array.mk [agg (Array.mk [v,aa,ab,ac,ad,ae,af,ag])])
 ai [] R∧ZaA Shape.fn R∧∀(g:Nat)(fi ca:List Value)(m':Mem),Mem.le ai m'→R (Value.func (Fn.func g) (Array.mk fi) (Array.mk ca)) m' []→∃(ak:List (List Value)),IX Try.prog g fi ca m' ak∧(∀(x:List
 Value),x∈ak→Shape.fitsL [shT] x=true)∧∃(al:IT),al [int i64 y] [] [] m' 0∧(∀(y n ay az a0 a1 a2 a3:Int)(a:Option Addr)(a4 c:Nat)(ah:Mem)(am:Nat),Mem.le m' ah→List.get?Internal ak am =
 some [agg (Array.mk [int u8 n,int u64 ay,int u64 az,int u64 a0,int u64 a1,int i64 a2,int i64 a3,slice a a4 c])]→al [int i64 y] [] [] ah am→∀(a5:Nat),(l=l∧(0:Int)≤y∧List.get?Internal xs
 (Int.toNat y)=some [agg (Array.mk [int u8 n,int u64 ay,int u64 az,int u64 a0,int u64 a1,int i64 a2,int i64 a3,slice a a4 c])])∧([some (Box.mk aj [v,aa,ab,ac,ad,ae,af,ag] 41 8 false true),some (Box.mk
 b [Value.func (Fn.yield l) (Array.mk []) (Array.mk [])] 94 1 true true)]=[some (Box.mk aj [v,aa,ab,ac,ad,ae,af,ag] 41 8 false true),some (Box.mk b [Value.func (Fn.yield l) (Array.mk []) (Array.mk [])] 94 1
 true true)]∧al [int i64 (y+(1:Int))] [] [] ah (am+1))∧[some (Box.mk aj [v,aa,ab,ac,ad,ae,af,ag] 41 8 false true),some (Box.mk b [Value.func (Fn.yield l) (Array.mk []) (Array.mk [])] 94 1 true true)] =
 [some (Box.mk aj [v,aa,ab,ac,ad,ae,af,ag] 41 8 false true),some (Box.mk b [Value.func (Fn.yield l) (Array.mk []) (Array.mk [])] 94 1 true true)]∧((-1:Int)=(↑(List.length xs):Int)∨(-1:Int)=(-1:
 Int)))∧∀(y:Int)(ah:Mem),Mem.le m' ah→al [int i64 y] [] [] ah (List.length ak)→[some (Box.mk b [Value.func (Fn.yield l) (Array.mk []) (Array.mk [])] 94 1 true true)]=[some (Box.mk b [Value.func (Fn.yield
 l) (Array.mk []) (Array.mk [])] 94 1 true true)]∧∃(n':Nat),n' < aw∧I [int i64 y,int i64 (IntKind.wrap i64 (n+(1:Int)))] [] [] ah n'))) (y=(↑(List.length xs):Int)∨y=(-1:Int))))∧((-1:Int) =
 (↑(List.length xs):Int)∨(-1:Int)=(-1:Int))
theorem ZkX(p0g:Nat)(p0fi p0ca:List Value)(c0b c0o:Nat)(m:Mem)(xs:List (List Value))(h:ZgR p0g p0fi p0ca c0b c0o m xs):IX Try.prog 133 [] [.pointer (some ⟨c0b,c0o,none⟩)] m xs:=
 ZnZ (E:=ZmA) Zaw mix Try.func133 [] [.pointer (some ⟨c0b,c0o,none⟩)] xs (by kernel_rfl) (Eq.mp (by kernel_rfl) h)
noncomputable def ZpU:Env:={ EB with
 loops:=(fun i=>bif Nat.beq i 3 then⟨[(6,.agg [.int .u8,.int .u64,.int .u64,.int .u64,.int .u64,.int .i64,.int .i64,.slice])],[3],[],false⟩ else⟨[],[],[],false⟩)
 frzNew:=[1] }
def ZjT(aS aT aU aV aC aR aW:Int)(aP:Option Addr)(aO aQ:Nat)(m:Mem)(R:RT):Prop:=
 ∀(b:Nat)(m':Mem),Mem.le m m'→Mem.reads m' b 0 [int u8 aS,int u64 aT,int u64 aU,int u64 aV,int u64 aC,int i64 aR,int i64 aW,slice aP aO aQ]→∀(b_1:Nat),∃(R_1:RT),True∧CX
 Try.prog 107 (Array.mk [agg (Array.mk [int u8 aS,int u64 aT,int u64 aU,int u64 aV,int u64 aC,int i64 aR,int i64 aW,slice aP aO aQ])]) m' [] R_1∧ZaA Shape.fn R_1∧∀(g:Nat) (fi ca:
 List Value) (m'_1:Mem),Mem.le m' m'_1→R_1 (Value.func (Fn.func g) (Array.mk fi) (Array.mk ca)) m'_1 []→∃(xs:List (List Value)),IX Try.prog g fi ca m'_1 xs∧(∀(x:List Value),x∈xs→Shape.fitsL [shT] x =
 true)∧∃(I:IT),I [] [[int i64 0]] [] m'_1 0∧(∀(n n_1 n_2 n_3 n_4 n_5 n_6:Int)(a:Option Addr)(n_7 c:Nat)(cs:List Value)(m':Mem)(n_8:Nat),Mem.le m'_1 m'→List.get?Internal xs n_8=some [agg
 (Array.mk [int u8 n,int u64 n_1,int u64 n_2,int u64 n_3,int u64 n_4,int i64 n_5,int i64 n_6,slice a n_7 c])]→I [] [cs] [] m' n_8→Eng.ZsM cs 0 fun(v:Value)=>chk (ZaY i64 v&&decide (i64=i64)) (br
 (decide (IntKind.wrap i64 (RowKit.intOf v+(1:Int)) > (10000:Int))) ([some (Box.mk b_1 [] 3 1 false true),some (Box.mk b [int u8 aS,int u64 aT,int u64 aU,int u64 aV,int u64 aC,int i64 aR,int i64
 aW,slice aP aO aQ] 41 8 true true)]=[some (Box.mk b_1 [] 3 1 false true),some (Box.mk b [int u8 aS,int u64 aT,int u64 aU,int u64 aV,int u64 aC,int i64 aR,int i64 aW,slice aP aO
 aQ] 41 8 true true)]∧∃(m'':Mem),Mem.le m m''∧Mem.le m'' m'∧R (Value.bool (decide (IntKind.wrap i64 (RowKit.intOf v+(1:Int))≤(10000:Int)))) m'' []) ([some (Box.mk b_1 [] 3 1 false true),some (Box.mk
 b [int u8 aS,int u64 aT,int u64 aU,int u64 aV,int u64 aC,int i64 aR,int i64 aW,slice aP aO aQ] 41 8 true true)]=[some (Box.mk b_1 [] 3 1 false true),some (Box.mk b [int u8 aS,int u64
 aT,int u64 aU,int u64 aV,int u64 aC,int i64 aR,int i64 aW,slice aP aO aQ] 41 8 true true)]∧I [] [[int i64 (IntKind.wrap i64 (RowKit.intOf v+(1:Int)))]] [] m' (n_8+1))))∧∀(cs:List
 Value) (m':Mem),Mem.le m'_1 m'→I [] [cs] [] m' (List.length xs)→Eng.ZsM cs 0 fun(v:Value)=>chk (ZaY i64 v&&decide (i64=i64)) (∃(m'':Mem),Mem.le m m''∧Mem.le m'' m'∧R (Value.bool (decide
 (RowKit.intOf v≤(10000:Int)))) m'' [])
theorem ZoC(aS aT aU aV aC aR aW:Int)(aP:Option Addr)(aO aQ:Nat)(m:Mem)(R:RT)(h:ZjT aS aT aU aV aC aR aW aP aO aQ m R):CX Try.prog 92 #[.agg #[.int .u8 aS,.int .u64 aT,.int .u64 aU,.int .u64 aV,.int .u64 aC,.int .i64 aR,.int .i64 aW,.slice aP aO aQ]] m [] R:=
 Zaj (E:=ZpU) Zaw mix Try.func92 [.v (.agg #[.int .u8 aS,.int .u64 aT,.int .u64 aU,.int .u64 aV,.int .u64 aC,.int .i64 aR,.int .i64 aW,.slice aP aO aQ])] [] (by kernel_rfl) (Eq.mp (by kernel_rfl) h)
noncomputable def ZoD:Env:={ EB with
 joins:=(fun i=>bif Nat.beq i 1 then some [(18,.bool)]else bif Nat.beq i 3 then some [(4,.bool)]else none) }
def Zh2(p0 p1:Int)(m:Mem)(R:RT):Prop:=
 ∃(b:Bool),br (decide (p0 < (0:Int))) ([Value.bool true]=[Value.bool b]) (br (decide (p0 > (16:Int))) ([Value.bool true]=[Value.bool b]) (br (p0 == (1:Int)) ([Value.bool (p1 == (1:Int))]=[Value.bool b])
 ([Value.bool false]=[Value.bool b])))∧br b (∃(m'':Mem),Mem.le m m''∧Mem.le m'' m∧R (Value.bool false) m'' []) (∃(b:Bool),br (p1 == (-1:Int)) ([Value.bool true]=[Value.bool b]) (br (decide (p1 ≥ (1:
 Int))) (br (decide (p1≤(16:Int))) ([Value.bool (decide (p1 ≥ p0))]=[Value.bool b]) ([Value.bool false]=[Value.bool b])) ([Value.bool false]=[Value.bool b]))∧∃(m'':Mem),Mem.le m m''∧Mem.le m'' m∧R
 (Value.bool b) m'' [])
theorem ZmB(p0 p1:Int)(m:Mem)(R:RT)(h:Zh2 p0 p1 m R):CX Try.prog 84 #[.int .i64 p0,.int .i64 p1] m [] R:=
 Zaj (E:=ZoD) Zaw mix Try.func84 [.v (.int .i64 p0),.v (.int .i64 p1)] [] (by kernel_rfl) (Eq.mp (by kernel_rfl) h)
noncomputable def ZpV:Env:={ EB with
 frzNew:=[2] }
def ZjU(aS aT aU aV aC aR aW:Int)(aP:Option Addr)(aO aQ c0b c0o:Nat)(m:Mem)(R:RT):Prop:=
 ∀(b:Nat)(m':Mem),Mem.le m m'→Mem.reads m' b 0 [int u8 aS,int u64 aT,int u64 aU,int u64 aV,int u64 aC,int i64 aR,int i64 aW,slice aP aO aQ]→∃(v:Value),m' c0b c0o=some v∧
 chk (ZaY u8 v) (∃(m'':Mem),Mem.le m m''∧Mem.le m'' m'∧R (Value.bool (aS == RowKit.intOf v)) m'' [])
theorem ZoE(aS aT aU aV aC aR aW:Int)(aP:Option Addr)(aO aQ c0b c0o:Nat)(m:Mem)(R:RT)(h:ZjU aS aT aU aV aC aR aW aP aO aQ c0b c0o m R):CX Try.prog 163 #[.agg #[.int .u8 aS,.int .u64 aT,.int .u64 aU,.int .u64 aV,.int .u64 aC,.int .i64 aR,.int .i64 aW,.slice aP aO aQ],.pointer (some ⟨c0b,c0o,none⟩)] m [] R:=
 Zaj (E:=ZpV) Zaw mix Try.func163 [.v (.agg #[.int .u8 aS,.int .u64 aT,.int .u64 aU,.int .u64 aV,.int .u64 aC,.int .i64 aR,.int .i64 aW,.slice aP aO aQ]),.v (.pointer (some ⟨c0b,c0o,none⟩))] [] (by kernel_rfl) (Eq.mp (by kernel_rfl) h)
noncomputable def Zbz:Env:={ EB with
 loops:=(fun i=>bif Nat.beq i 2 then⟨[(8,.int .i64)],[],[],false⟩ else⟨[],[],[],false⟩) }
def ZaR(p0a:Option Addr)(p0n p0c p1g:Nat)(p1fi p1ca:List Value)(m:Mem)(R:RT):Prop:=
 ∃(I:IT),(∃(n:Nat),I [int i64 0] [] [] m n)∧∀(n:Int)(m':Mem)(n_1:Nat),Mem.le m m'→I [int i64 n] [] [] m' n_1→br (decide (n < (↑p0n:Int))) (∃(b:Nat),∃(o:Nat),p0a=some (Addr.mk b o none)
 ∧ Zac n p0n∧∃(v:Value),∃(v_1:Value),∃(v_2:Value),∃(v_3:Value),∃(v_4:Value),∃(v_5:Value),∃(v_6:Value),∃(v_7:Value),Mem.reads m' b (o+Int.toNat n*8) [v,v_1,v_2,v_3,v_4,v_5,
 v_6,v_7]∧∃(R_1:RT),True∧CX Try.prog p1g (Array.mk (List.append (List.append p1fi [agg (Array.mk [v,v_1,v_2,v_3,v_4,v_5,v_6,v_7])]) p1ca)) m' [] R_1∧ZaA Shape.bool R_1∧∀(b:Bool)(m'_1:Mem),
 Mem.le m' m'_1→R_1 (Value.bool b) m'_1 []→br b (∃(m'':Mem),Mem.le m m''∧Mem.le m'' m'_1∧R (int i64 n) m'' []) (∃(n':Nat),n' < n_1∧I [int i64 (IntKind.wrap i64 (n+(1:Int)))] [] [] m'_1 n')) (∃(m''
 : Mem),Mem.le m m''∧Mem.le m'' m'∧R (int i64 (-1:Int)) m'' [])
theorem Zbs(p0a:Option Addr)(p0n p0c p1g:Nat)(p1fi p1ca:List Value)(m:Mem)(R:RT)(h:ZaR p0a p0n p0c p1g p1fi p1ca m R):CX Try.prog 166 #[.slice p0a p0n p0c,.func (.func p1g) p1fi.toArray p1ca.toArray] m [] R:=
 Zaj (E:=Zbz) Zaw mix Try.func166 [.v (.slice p0a p0n p0c),.v (.func (.func p1g) p1fi.toArray p1ca.toArray)] [] (by kernel_rfl) (Eq.mp (by kernel_rfl) h)
noncomputable def Zbb:Env:=EB
def ZaM(p0a:Option Addr)(p0n p0c p1g:Nat)(p1fi p1ca:List Value)(m:Mem)(R:RT):Prop:=
 ∃(R_1:RT),True∧CX Try.prog 166 (Array.mk [slice p0a p0n p0c,Value.func (Fn.func p1g) (Array.mk p1fi) (Array.mk p1ca)]) m [] R_1∧ZaA (Shape.int i64) R_1∧∀(n:Int)(m':Mem),Mem.le m m'→R_1 (int i64 n)
 m' []→∃(m'':Mem),Mem.le m m''∧Mem.le m'' m'∧R (Value.bool (decide (n ≥ (0:Int)))) m'' []
theorem Za8(p0a:Option Addr)(p0n p0c p1g:Nat)(p1fi p1ca:List Value)(m:Mem)(R:RT)(h:ZaM p0a p0n p0c p1g p1fi p1ca m R):CX Try.prog 162 #[.slice p0a p0n p0c,.func (.func p1g) p1fi.toArray p1ca.toArray] m [] R:=
 Zaj (E:=Zbb) Zaw mix Try.func162 [.v (.slice p0a p0n p0c),.v (.func (.func p1g) p1fi.toArray p1ca.toArray)] [] (by kernel_rfl) (Eq.mp (by kernel_rfl) h)
noncomputable def Zt5:Env:={ EB with
 frzNew:=[2,3] }
def ZoF(aS aT aU aV aC aR aW:Int)(aP:Option Addr)(aO aQ:Nat)(p1:Int)(m:Mem)(R:RT):Prop:=
 ∀(b:Nat)(m':Mem),Mem.le m m'→Mem.reads m' b 0 [int u8 aS,int u64 aT,int u64 aU,int u64 aV,int u64 aC,int i64 aR,int i64 aW,slice aP aO aQ]→∀(b:Nat)(m'_1:Mem),Mem.le m'
 m'_1→Mem.reads m'_1 b 0 [int u8 p1]→∃(R_1:RT),True∧CX Try.prog 162 (Array.mk [slice aP aO aQ,Value.func (Fn.func 163) (Array.mk []) (Array.mk [Value.pointer (some (Addr.mk b 0 none))])]) m'_1 [] R_1
 ∧ ZaA Shape.bool R_1∧∀(b:Bool)(m':Mem),Mem.le m'_1 m'→R_1 (Value.bool b) m' []→∃(m'':Mem),Mem.le m m''∧Mem.le m'' m'∧R (Value.bool b) m'' []
theorem Zsg(aS aT aU aV aC aR aW:Int)(aP:Option Addr)(aO aQ:Nat)(p1:Int)(m:Mem)(R:RT)(h:ZoF aS aT aU aV aC aR aW aP aO aQ p1 m R):CX Try.prog 134 #[.agg #[.int .u8 aS,.int .u64 aT,.int .u64 aU,.int .u64 aV,.int .u64 aC,.int .i64 aR,.int .i64 aW,.slice aP aO aQ],.int .u8 p1] m [] R:=
 Zaj (E:=Zt5) Zaw mix Try.func134 [.v (.agg #[.int .u8 aS,.int .u64 aT,.int .u64 aU,.int .u64 aV,.int .u64 aC,.int .i64 aR,.int .i64 aW,.slice aP aO aQ]),.v (.int .u8 p1)] [] (by kernel_rfl) (Eq.mp (by kernel_rfl) h)
noncomputable def ZpW:Env:={ EB with
 joins:=(fun i=>bif Nat.beq i 1 then some [(37,.bool)]else bif Nat.beq i 9 then some [(2,.bool)]else bif Nat.beq i 11 then some [(2,.bool)]else bif Nat.beq i 13 then some [(2,.bool)]else bif Nat.beq i 14 then some [(2,.bool)]else none)
 frzNew:=[1] }
def ZjV(aS aT aU aV aC aR aW:Int)(aP:Option Addr)(aO aQ:Nat)(m:Mem)(R:RT):Prop:=
 ∀(b:Nat)(m':Mem),Mem.le m m'→Mem.reads m' b 0 [int u8 aS,int u64 aT,int u64 aU,int u64 aV,int u64 aC,int i64 aR,int i64 aW,slice aP aO aQ]→∃(ab:Bool),br (!aS == (2:Int))
 (∃(aa:Bool),EqIs Try.prog 38 (agg (Array.mk [int u64 aT,int u64 aU,int u64 aV,int u64 aC])) (agg (Array.mk [int u64 0,int u64 0,int u64 0,int u64 0])) aa∧br (!aa) ([some (Box.mk b [int u8 aS,int
 u64 aT,int u64 aU,int u64 aV,int u64 aC,int i64 aR,int i64 aW,slice aP aO aQ] 41 8 true true)]=[some (Box.mk b [int u8 aS,int u64 aT,int u64 aU,int u64 aV,int u64 aC,int i64
 aR,int i64 aW,slice aP aO aQ] 41 8 true true)]∧[Value.bool true]=[Value.bool ab]) (br (!aS == (5:Int)) (br (!aR == (0:Int)) ([some (Box.mk b [int u8 aS,int u64 aT,int u64 aU,int u64
 aV,int u64 aC,int i64 aR,int i64 aW,slice aP aO aQ] 41 8 true true)]=[some (Box.mk b [int u8 aS,int u64 aT,int u64 aU,int u64 aV,int u64 aC,int i64 aR,int i64 aW,slice aP
 aO aQ] 41 8 true true)]∧[Value.bool true]=[Value.bool ab]) (br (!aW == (0:Int)) ([some (Box.mk b [int u8 aS,int u64 aT,int u64 aU,int u64 aV,int u64 aC,int i64 aR,int i64 aW,slice
 aP aO aQ] 41 8 true true)]=[some (Box.mk b [int u8 aS,int u64 aT,int u64 aU,int u64 aV,int u64 aC,int i64 aR,int i64 aW,slice aP aO aQ] 41 8 true true)]∧[Value.bool true] =
 [Value.bool ab]) (br (decide (aS < (3:Int))) ([some (Box.mk b [int u8 aS,int u64 aT,int u64 aU,int u64 aV,int u64 aC,int i64 aR,int i64 aW,slice aP aO aQ] 41 8 true true)]=[some
 (Box.mk b [int u8 aS,int u64 aT,int u64 aU,int u64 aV,int u64 aC,int i64 aR,int i64 aW,slice aP aO aQ] 41 8 true true)]∧[Value.bool (decide ((↑aO:Int) > (0:Int)))]=[Value.bool
 ab]) ([some (Box.mk b [int u8 aS,int u64 aT,int u64 aU,int u64 aV,int u64 aC,int i64 aR,int i64 aW,slice aP aO aQ] 41 8 true true)]=[some (Box.mk b [int u8 aS,int u64 aT,int u64
 aU,int u64 aV,int u64 aC,int i64 aR,int i64 aW,slice aP aO aQ] 41 8 true true)]∧[Value.bool false]=[Value.bool ab])))) (br (decide (aS < (3:Int))) ([some (Box.mk b [int u8 aS,int u64
 aT,int u64 aU,int u64 aV,int u64 aC,int i64 aR,int i64 aW,slice aP aO aQ] 41 8 true true)]=[some (Box.mk b [int u8 aS,int u64 aT,int u64 aU,int u64 aV,int u64 aC,int i64 aR,
 int i64 aW,slice aP aO aQ] 41 8 true true)]∧[Value.bool (decide ((↑aO:Int) > (0:Int)))]=[Value.bool ab]) ([some (Box.mk b [int u8 aS,int u64 aT,int u64 aU,int u64 aV,int u64 aC,int
 i64 aR,int i64 aW,slice aP aO aQ] 41 8 true true)]=[some (Box.mk b [int u8 aS,int u64 aT,int u64 aU,int u64 aV,int u64 aC,int i64 aR,int i64 aW,slice aP aO aQ] 41 8 true
 true)]∧[Value.bool false]=[Value.bool ab])))) (br (!aS == (5:Int)) (br (!aR == (0:Int)) ([some (Box.mk b [int u8 aS,int u64 aT,int u64 aU,int u64 aV,int u64 aC,int i64 aR,int i64 aW,
 slice aP aO aQ] 41 8 true true)]=[some (Box.mk b [int u8 aS,int u64 aT,int u64 aU,int u64 aV,int u64 aC,int i64 aR,int i64 aW,slice aP aO aQ] 41 8 true true)]∧[Value.bool true]
 = [Value.bool ab]) (br (!aW == (0:Int)) ([some (Box.mk b [int u8 aS,int u64 aT,int u64 aU,int u64 aV,int u64 aC,int i64 aR,int i64 aW,slice aP aO aQ] 41 8 true true)]=[some (Box.mk b
 [int u8 aS,int u64 aT,int u64 aU,int u64 aV,int u64 aC,int i64 aR,int i64 aW,slice aP aO aQ] 41 8 true true)]∧[Value.bool true]=[Value.bool ab]) (br (decide (aS < (3:Int))) ([some
 (Box.mk b [int u8 aS,int u64 aT,int u64 aU,int u64 aV,int u64 aC,int i64 aR,int i64 aW,slice aP aO aQ] 41 8 true true)]=[some (Box.mk b [int u8 aS,int u64 aT,int u64 aU,int u64
 aV,int u64 aC,int i64 aR,int i64 aW,slice aP aO aQ] 41 8 true true)]∧[Value.bool (decide ((↑aO:Int) > (0:Int)))]=[Value.bool ab]) ([some (Box.mk b [int u8 aS,int u64 aT,int u64
 aU,int u64 aV,int u64 aC,int i64 aR,int i64 aW,slice aP aO aQ] 41 8 true true)]=[some (Box.mk b [int u8 aS,int u64 aT,int u64 aU,int u64 aV,int u64 aC,int i64 aR,int i64 aW,
 slice aP aO aQ] 41 8 true true)]∧[Value.bool false]=[Value.bool ab])))) (br (decide (aS < (3:Int))) ([some (Box.mk b [int u8 aS,int u64 aT,int u64 aU,int u64 aV,int u64 aC,int i64 aR,
 int i64 aW,slice aP aO aQ] 41 8 true true)]=[some (Box.mk b [int u8 aS,int u64 aT,int u64 aU,int u64 aV,int u64 aC,int i64 aR,int i64 aW,slice aP aO aQ] 41 8 true true)]∧
 [Value.bool (decide ((↑aO:Int) > (0:Int)))]=[Value.bool ab]) ([some (Box.mk b [int u8 aS,int u64 aT,int u64 aU,int u64 aV,int u64 aC,int i64 aR,int i64 aW,slice aP aO aQ] 41 8 true
 true)]=[some (Box.mk b [int u8 aS,int u64 aT,int u64 aU,int u64 aV,int u64 aC,int i64 aR,int i64 aW,slice aP aO aQ] 41 8 true true)]∧[Value.bool false]=[Value.bool ab])))∧br ab (∃
 (m'':Mem),Mem.le m m''∧Mem.le m'' m'∧R (Value.bool false) m'' []) (br (aS == (1:Int)) (∃(m'':Mem),Mem.le m m''∧Mem.le m'' m'∧R (Value.bool true) m'' []) (br (aS == (2:Int)) (∃(b:Bool),EqIs
 Try.prog 38 (agg (Array.mk [int u64 aT,int u64 aU,int u64 aV,int u64 aC])) (agg (Array.mk [int u64 0,int u64 0,int u64 0,int u64 0])) b∧∃(m'':Mem),Mem.le m m''∧Mem.le m'' m'∧R (Value.bool !b) m''
 []) (br (aS == (3:Int)) (∃(aa:Bool),br (decide ((↑aO:Int) > (1:Int))) (∃(R:RT),True∧CX Try.prog 134 (Array.mk [agg (Array.mk [int u8 aS,int u64 aT,int u64 aU,int u64 aV,int u64 aC,int
 i64 aR,int i64 aW,slice aP aO aQ]),int u8 1]) m' [] R∧ZaA Shape.bool R∧∀(ad:Bool)(ac:Mem),Mem.le m' ac→R (Value.bool ad) ac []→br (!ad) (∃(R:RT),True∧CX Try.prog 134 (Array.mk [agg
 (Array.mk [int u8 aS,int u64 aT,int u64 aU,int u64 aV,int u64 aC,int i64 aR,int i64 aW,slice aP aO aQ]),int u8 3]) ac [] R∧ZaA Shape.bool R∧∀(ae:Bool)(m':Mem),Mem.le ac m'→R
 (Value.bool ae) m' []→[some (Box.mk b [int u8 aS,int u64 aT,int u64 aU,int u64 aV,int u64 aC,int i64 aR,int i64 aW,slice aP aO aQ] 41 8 true true)]=[some (Box.mk b [int u8 aS,int u64
 aT,int u64 aU,int u64 aV,int u64 aC,int i64 aR,int i64 aW,slice aP aO aQ] 41 8 true true)]∧[Value.bool !ae]=[Value.bool aa]) ([some (Box.mk b [int u8 aS,int u64 aT,int u64 aU,int
 u64 aV,int u64 aC,int i64 aR,int i64 aW,slice aP aO aQ] 41 8 true true)]=[some (Box.mk b [int u8 aS,int u64 aT,int u64 aU,int u64 aV,int u64 aC,int i64 aR,int i64 aW,slice
 aP aO aQ] 41 8 true true)]∧[Value.bool false]=[Value.bool aa])) ([some (Box.mk b [int u8 aS,int u64 aT,int u64 aU,int u64 aV,int u64 aC,int i64 aR,int i64 aW,slice aP aO aQ] 41
 8 true true)]=[some (Box.mk b [int u8 aS,int u64 aT,int u64 aU,int u64 aV,int u64 aC,int i64 aR,int i64 aW,slice aP aO aQ] 41 8 true true)]∧[Value.bool false]=[Value.bool aa])∧∃
 (m'':Mem),Mem.le m m''∧Mem.le m'' m'∧R (Value.bool aa) m'' []) (br (aS == (4:Int)) (∃(aa:Bool),br (decide ((↑aO:Int) > (1:Int))) (∃(R:RT),True∧CX Try.prog 134 (Array.mk [agg (Array.mk [int u8
 aS,int u64 aT,int u64 aU,int u64 aV,int u64 aC,int i64 aR,int i64 aW,slice aP aO aQ]),int u8 4]) m' [] R∧ZaA Shape.bool R∧∀(ad:Bool)(ac:Mem),Mem.le m' ac→R (Value.bool ad) ac
 []→[some (Box.mk b [int u8 aS,int u64 aT,int u64 aU,int u64 aV,int u64 aC,int i64 aR,int i64 aW,slice aP aO aQ] 41 8 true true)]=[some (Box.mk b [int u8 aS,int u64 aT,int u64
 aU,int u64 aV,int u64 aC,int i64 aR,int i64 aW,slice aP aO aQ] 41 8 true true)]∧[Value.bool !ad]=[Value.bool aa]) ([some (Box.mk b [int u8 aS,int u64 aT,int u64 aU,int u64 aV,int
 u64 aC,int i64 aR,int i64 aW,slice aP aO aQ] 41 8 true true)]=[some (Box.mk b [int u8 aS,int u64 aT,int u64 aU,int u64 aV,int u64 aC,int i64 aR,int i64 aW,slice aP aO
 aQ] 41 8 true true)]∧[Value.bool false]=[Value.bool aa])∧∃(m'':Mem),Mem.le m m''∧Mem.le m'' m'∧R (Value.bool aa) m'' []) (br (aS == (5:Int)) (∃(aa:Bool),br ((↑aO:Int) == (1:Int)) (∃(R:
 RT),True∧CX Try.prog 84 (Array.mk [int i64 aR,int i64 aW]) m' [] R∧ZaA Shape.bool R∧∀(ad:Bool)(ac:Mem),Mem.le m' ac→R (Value.bool ad) ac []→br ad (∃(R:RT),True∧CX Try.prog 134 (Array.mk
 [agg (Array.mk [int u8 aS,int u64 aT,int u64 aU,int u64 aV,int u64 aC,int i64 aR,int i64 aW,slice aP aO aQ]),int u8 1]) ac [] R∧ZaA Shape.bool R∧∀(ae:Bool)(m':Mem),Mem.le ac m'
 → R (Value.bool ae) m' []→[some (Box.mk b [int u8 aS,int u64 aT,int u64 aU,int u64 aV,int u64 aC,int i64 aR,int i64 aW,slice aP aO aQ] 41 8 true true)]=[some (Box.mk b [int u8 aS,int
 u64 aT,int u64 aU,int u64 aV,int u64 aC,int i64 aR,int i64 aW,slice aP aO aQ] 41 8 true true)]∧[Value.bool !ae]=[Value.bool aa]) ([some (Box.mk b [int u8 aS,int u64 aT,int u64 aU,
 int u64 aV,int u64 aC,int i64 aR,int i64 aW,slice aP aO aQ] 41 8 true true)]=[some (Box.mk b [int u8 aS,int u64 aT,int u64 aU,int u64 aV,int u64 aC,int i64 aR,int i64 aW,slice
 aP aO aQ] 41 8 true true)]∧[Value.bool false]=[Value.bool aa])) ([some (Box.mk b [int u8 aS,int u64 aT,int u64 aU,int u64 aV,int u64 aC,int i64 aR,int i64 aW,slice aP aO aQ] 41
 8 true true)]=[some (Box.mk b [int u8 aS,int u64 aT,int u64 aU,int u64 aV,int u64 aC,int i64 aR,int i64 aW,slice aP aO aQ] 41 8 true true)]∧[Value.bool false]=[Value.bool aa])∧∃
 (m'':Mem),Mem.le m m''∧Mem.le m'' m'∧R (Value.bool aa) m'' []) (∃(aa:Bool),br (aS == (6:Int)) ([some (Box.mk b [int u8 aS,int u64 aT,int u64 aU,int u64 aV,int u64 aC,int i64 aR,int i64
 aW,slice aP aO aQ] 41 8 true true)]=[some (Box.mk b [int u8 aS,int u64 aT,int u64 aU,int u64 aV,int u64 aC,int i64 aR,int i64 aW,slice aP aO aQ] 41 8 true true)]∧[Value.bool
 ((↑aO:Int) == (1:Int))]=[Value.bool aa]) ([some (Box.mk b [int u8 aS,int u64 aT,int u64 aU,int u64 aV,int u64 aC,int i64 aR,int i64 aW,slice aP aO aQ] 41 8 true true)]=[some
 (Box.mk b [int u8 aS,int u64 aT,int u64 aU,int u64 aV,int u64 aC,int i64 aR,int i64 aW,slice aP aO aQ] 41 8 true true)]∧[Value.bool false]=[Value.bool aa])∧∃(m'':Mem),Mem.le m m''
 ∧ Mem.le m'' m'∧R (Value.bool aa) m'' []))))))
theorem ZoG(aS aT aU aV aC aR aW:Int)(aP:Option Addr)(aO aQ:Nat)(m:Mem)(R:RT)(h:ZjV aS aT aU aV aC aR aW aP aO aQ m R):CX Try.prog 108 #[.agg #[.int .u8 aS,.int .u64 aT,.int .u64 aU,.int .u64 aV,.int .u64 aC,.int .i64 aR,.int .i64 aW,.slice aP aO aQ]] m [] R:=
 Zaj (E:=ZpW) Zaw mix Try.func108 [.v (.agg #[.int .u8 aS,.int .u64 aT,.int .u64 aU,.int .u64 aV,.int .u64 aC,.int .i64 aR,.int .i64 aW,.slice aP aO aQ])] [] (by kernel_rfl) (Eq.mp (by kernel_rfl) h)
noncomputable def ZpX:Env:={ EB with
 loops:=(fun i=>bif Nat.beq i 5 then⟨[(9,.agg [.int .u8,.int .u64,.int .u64,.int .u64,.int .u64,.int .i64,.int .i64,.slice])],[2],[],false⟩ else⟨[],[],[],false⟩)
 frzNew:=[1] }
def ZjW(aS aT aU aV aC aR aW:Int)(aP:Option Addr)(aO aQ:Nat)(m:Mem)(R:RT):Prop:=
 ∀(b:Nat)(m':Mem),Mem.le m m'→Mem.reads m' b 0 [int u8 aS,int u64 aT,int u64 aU,int u64 aV,int u64 aC,int i64 aR,int i64 aW,slice aP aO aQ]→∀(ac:Nat),∃(R_1:RT),True∧CX
 Try.prog 92 (Array.mk [agg (Array.mk [int u8 aS,int u64 aT,int u64 aU,int u64 aV,int u64 aC,int i64 aR,int i64 aW,slice aP aO aQ])]) m' [] R_1∧ZaA Shape.bool R_1∧∀(ae:Bool) (ab:
 Mem),Mem.le m' ab→R_1 (Value.bool ae) ab []→br (!ae) (∃(m'':Mem),Mem.le m m''∧Mem.le m'' ab∧R (Value.bool false) m'' []) (∃(R_2:RT),True∧CX Try.prog 107 (Array.mk [agg (Array.mk [int u8 aS,int u64
 aT,int u64 aU,int u64 aV,int u64 aC,int i64 aR,int i64 aW,slice aP aO aQ])]) ab [] R_2∧ZaA Shape.fn R_2∧∀(g:Nat)(fi ca:List Value)(m':Mem),Mem.le ab m'→R_2 (Value.func
 (Fn.func g) (Array.mk fi) (Array.mk ca)) m' []→∃(xs:List (List Value)),IX Try.prog g fi ca m' xs∧(∀(x:List Value),x∈xs→Shape.fitsL [shT] x=true)∧∃(I:IT),I [] [[Value.bool false]] [] m' 0∧(∀(n
 af ag ah ai aj ak:Int) (a:Option Addr) (al c:Nat) (cs:List Value) (aa:Mem) (ad:Nat),Mem.le m' aa→List.get?Internal xs ad=some [agg (Array.mk [int u8 n,int u64 af,int u64 ag,int u64 ah,int u64 ai,
 int i64 aj,int i64 ak,slice a al c])]→I [] [cs] [] aa ad→∀(an:Nat),∃(R_3:RT),True∧CX Try.prog 108 (Array.mk [agg (Array.mk [int u8 n,int u64 af,int u64 ag,int u64 ah,int u64 ai,int i64 aj,int i64
 ak,slice a al c])]) aa [] R_3∧ZaA Shape.bool R_3∧∀(am:Bool)(m':Mem),Mem.le aa m'→R_3 (Value.bool am) m' []→br (!am) ([some (Box.mk ac [] 4 1 false true),some (Box.mk b [int u8 aS,int u64 aT,int
 u64 aU,int u64 aV,int u64 aC,int i64 aR,int i64 aW,slice aP aO aQ] 41 8 true true)]=[some (Box.mk ac [] 4 1 false true),some (Box.mk b [int u8 aS,int u64 aT,int u64 aU,int u64 aV,
 int u64 aC,int i64 aR,int i64 aW,slice aP aO aQ] 41 8 true true)]∧∃(m'':Mem),Mem.le m m''∧Mem.le m'' m'∧R (Value.bool false) m'' []) ([some (Box.mk ac [] 4 1 false true),some (Box.mk b [int
 u8 aS,int u64 aT,int u64 aU,int u64 aV,int u64 aC,int i64 aR,int i64 aW,slice aP aO aQ] 41 8 true true)]=[some (Box.mk ac [] 4 1 false true),some (Box.mk b [int u8 aS,int u64 aT,
 int u64 aU,int u64 aV,int u64 aC,int i64 aR,int i64 aW,slice aP aO aQ] 41 8 true true)]∧I [] [cs] [] m' (ad+1)))∧∀(cs:List Value)(aa:Mem),Mem.le m' aa→I [] [cs] [] aa (List.length
 xs)→∃(m'':Mem),Mem.le m m''∧Mem.le m'' aa∧R (Value.bool true) m'' [])
theorem ZoH(aS aT aU aV aC aR aW:Int)(aP:Option Addr)(aO aQ:Nat)(m:Mem)(R:RT)(h:ZjW aS aT aU aV aC aR aW aP aO aQ m R):CX Try.prog 59 #[.agg #[.int .u8 aS,.int .u64 aT,.int .u64 aU,.int .u64 aV,.int .u64 aC,.int .i64 aR,.int .i64 aW,.slice aP aO aQ]] m [] R:=
 Zaj (E:=ZpX) Zaw mix Try.func59 [.v (.agg #[.int .u8 aS,.int .u64 aT,.int .u64 aU,.int .u64 aV,.int .u64 aC,.int .i64 aR,.int .i64 aW,.slice aP aO aQ])] [] (by kernel_rfl) (Eq.mp (by kernel_rfl) h)
noncomputable def Zsh:Env:={ EB with
 loops:=(fun i=>bif Nat.beq i 5 then⟨[(9,.agg [.int .u8,.int .u64,.int .u64,.int .u64,.int .u64,.int .i64,.int .i64,.slice])],[3],[],false⟩ else⟨[],[],[],false⟩)
 frzNew:=[1] }
def ZlU(aS aT aU aV aC aR aW:Int)(aP:Option Addr)(aO aQ:Nat)(m:Mem)(R:RT):Prop:=
 ∀(b:Nat)(m':Mem),Mem.le m m'→Mem.reads m' b 0 [int u8 aS,int u64 aT,int u64 aU,int u64 aV,int u64 aC,int i64 aR,int i64 aW,slice aP aO aQ]→∃(R_1:RT),True∧CX Try.prog 92
 (Array.mk [agg (Array.mk [int u8 aS,int u64 aT,int u64 aU,int u64 aV,int u64 aC,int i64 aR,int i64 aW,slice aP aO aQ])]) m' [] R_1∧ZaA Shape.bool R_1∧∀(b_1:Bool)(m'_1:Mem),
 Mem.le m' m'_1→R_1 (Value.bool b_1) m'_1 []→br (!b_1) (∃(m'':Mem),Mem.le m m''∧Mem.le m'' m'_1∧R (int i64 10001) m'' []) (∀(b_2:Nat),∃(R_2:RT),True∧CX Try.prog 107 (Array.mk [agg (Array.mk [int u8
 aS,int u64 aT,int u64 aU,int u64 aV,int u64 aC,int i64 aR,int i64 aW,slice aP aO aQ])]) m'_1 [] R_2∧ZaA Shape.fn R_2∧∀(g:Nat)(fi ca:List Value)(m':Mem),Mem.le m'_1 m'→R_2
 (Value.func (Fn.func g) (Array.mk fi) (Array.mk ca)) m' []→∃(xs:List (List Value)),IX Try.prog g fi ca m' xs∧(∀(x:List Value),x∈xs→Shape.fitsL [shT] x=true)∧∃(I:IT),I [] [[int i64 0]] [] m' 0∧
 (∀(n n_1 n_2 n_3 n_4 n_5 n_6:Int)(a:Option Addr)(n_7 c:Nat)(cs:List Value)(m'_2:Mem)(n_8:Nat),Mem.le m' m'_2→List.get?Internal xs n_8=some [agg (Array.mk [int u8 n,int u64 n_1,int u64 n_2,int
 u64 n_3,int u64 n_4,int i64 n_5,int i64 n_6,slice a n_7 c])]→I [] [cs] [] m'_2 n_8→Eng.ZsM cs 0 fun(v:Value)=>chk (ZaY i64 v&&decide (i64=i64)) ([some (Box.mk b_2 [] 3 1 false true),some (Box.mk b
 [int u8 aS,int u64 aT,int u64 aU,int u64 aV,int u64 aC,int i64 aR,int i64 aW,slice aP aO aQ] 41 8 true true)]=[some (Box.mk b_2 [] 3 1 false true),some (Box.mk b [int u8 aS,int u64
 aT,int u64 aU,int u64 aV,int u64 aC,int i64 aR,int i64 aW,slice aP aO aQ] 41 8 true true)]∧I [] [[int i64 (IntKind.wrap i64 (RowKit.intOf v+(1:Int)))]] [] m'_2 (n_8+1)))∧∀(cs:List
 Value) (m'_2:Mem),Mem.le m' m'_2→I [] [cs] [] m'_2 (List.length xs)→Eng.ZsM cs 0 fun(v:Value)=>∃(m'':Mem),Mem.le m m''∧Mem.le m'' m'_2∧R v m'' [])
theorem ZpY(aS aT aU aV aC aR aW:Int)(aP:Option Addr)(aO aQ:Nat)(m:Mem)(R:RT)(h:ZlU aS aT aU aV aC aR aW aP aO aQ m R):CX Try.prog 60 #[.agg #[.int .u8 aS,.int .u64 aT,.int .u64 aU,.int .u64 aV,.int .u64 aC,.int .i64 aR,.int .i64 aW,.slice aP aO aQ]] m [] R:=
 Zaj (E:=Zsh) Zaw mix Try.func60 [.v (.agg #[.int .u8 aS,.int .u64 aT,.int .u64 aU,.int .u64 aV,.int .u64 aC,.int .i64 aR,.int .i64 aW,.slice aP aO aQ])] [] (by kernel_rfl) (Eq.mp (by kernel_rfl) h)
noncomputable def Zi7:Env:={ EB with
 loops:=(fun i=>bif Nat.beq i 5 then⟨[(3,.int .i64),(14,.int .i64)],[],[],false⟩ else⟨[],[],[],false⟩)
 frzNew:=[1] }
def ZeU(aS aT aU aV aC aR aW:Int)(aP:Option Addr)(aO aQ:Nat)(m:Mem)(R:RT):Prop:=
 ∀(b:Nat)(m':Mem),Mem.le m m'→Mem.reads m' b 0 [int u8 aS,int u64 aT,int u64 aU,int u64 aV,int u64 aC,int i64 aR,int i64 aW,slice aP aO aQ]→br (aS == (2:Int)) (∃(I:IT),(∃
 (n:Nat),I [int i64 1,int i64 0] [] [] m' n)∧∀(n ab:Int)(aa:Mem)(aj:Nat),Mem.le m' aa→I [int i64 n,int i64 ab] [] [] aa aj→br (decide (ab < (↑aO:Int))) (∃(ak:Nat),∃(o:Nat),aP=some
 (Addr.mk ak o none)∧Zac ab aO∧∃(v:Value),∃(ac:Value),∃(ad:Value),∃(ae:Value),∃(af:Value),∃(ag:Value),∃(ah:Value),∃(ai:Value),Mem.reads aa ak (o+Int.toNat ab*8) [v,ac,ad,
 ae,af,ag,ah,ai]∧∀(am:Nat),chk (Value.oneCell' v&&(Value.oneCell' ac&&(Value.oneCell' ad&&(Value.oneCell' ae&&(Value.oneCell' af&&(Value.oneCell' ag&&(Value.oneCell' ah&&(Value.oneCell' ai &&
 true)))))))) (∃(R:RT),True∧CX Try.prog 93 (Array.mk [agg (Array.mk [v,ac,ad,ae,af,ag,ah,ai])]) aa [] R∧ZaA (Shape.int i64) R∧∀(al:Int)(m':Mem),Mem.le aa m'→R (int i64 al) m' []→[some (Box.mk
 b [int u8 aS,int u64 aT,int u64 aU,int u64 aV,int u64 aC,int i64 aR,int i64 aW,slice aP aO aQ] 41 8 true true)]=[some (Box.mk b [int u8 aS,int u64 aT,int u64 aU,int u64 aV,int
 u64 aC,int i64 aR,int i64 aW,slice aP aO aQ] 41 8 true true)]∧∃(n':Nat),n' < aj∧I [int i64 (IntKind.wrap i64 (n+al)),int i64 (IntKind.wrap i64 (ab+(1:Int)))] [] [] m' n')) (br (aS ==
 (5:Int)) (br (aW == (-1:Int)) (∃(m'':Mem),Mem.le m m''∧Mem.le m'' aa∧R (int i64 (if(10001:Int) < IntKind.wrap i64 (n*if(10001:Int) < if(1:Int) > if(0:Int) > aR then(0:Int)else aR then
 (1:Int)else if(0:Int) > aR then(0:Int)else aR then(10001:Int)else if(1:Int) > if(0:Int) > aR then(0:Int)else aR then(1:Int)else if(0:Int) > aR then(0:Int)else aR)then
 (10001:Int)else IntKind.wrap i64 (n*if(10001:Int) < if(1:Int) > if(0:Int) > aR then(0:Int)else aR then(1:Int)else if(0:Int) > aR then(0:Int)else aR then(10001:Int)else if(1:
 Int) > if(0:Int) > aR then(0:Int)else aR then(1:Int)else if(0:Int) > aR then(0:Int)else aR))) m'' []) (∃(m'':Mem),Mem.le m m''∧Mem.le m'' aa∧R (int i64 (if(10001:Int) < IntKind.wrap
 i64 (n*if(10001:Int) < if aW > if(0:Int) > aR then(0:Int)else aR then aW else if(0:Int) > aR then(0:Int)else aR then(10001:Int)else if aW > if(0:Int) > aR then(0:Int)else
 aR then aW else if(0:Int) > aR then(0:Int)else aR)then(10001:Int)else IntKind.wrap i64 (n*if(10001:Int) < if aW > if(0:Int) > aR then(0:Int)else aR then aW else if(0:Int) >
 aR then(0:Int)else aR then(10001:Int)else if aW > if(0:Int) > aR then(0:Int)else aR then aW else if(0:Int) > aR then(0:Int)else aR))) m'' [])) (∃(m'':Mem),Mem.le m m''∧Mem.le
 m'' aa∧R (int i64 (if(10001:Int) < n then(10001:Int)else n)) m'' []))) (∃(I:IT),(∃(n:Nat),I [int i64 0,int i64 0] [] [] m' n)∧∀(n ab:Int)(aa:Mem)(aj:Nat),Mem.le m' aa→I [int i64 n,int
 i64 ab] [] [] aa aj→br (decide (ab < (↑aO:Int))) (∃(ak:Nat),∃(o:Nat),aP=some (Addr.mk ak o none)∧Zac ab aO∧∃(v:Value),∃(ac:Value),∃(ad:Value),∃(ae:Value),∃(af:Value),∃
 (ag:Value),∃(ah:Value),∃(ai:Value),Mem.reads aa ak (o+Int.toNat ab*8) [v,ac,ad,ae,af,ag,ah,ai]∧∀(am:Nat),chk (Value.oneCell' v&&(Value.oneCell' ac&&(Value.oneCell' ad&&(Value.oneCell'
 ae&&(Value.oneCell' af&&(Value.oneCell' ag&&(Value.oneCell' ah&&(Value.oneCell' ai&&true)))))))) (∃(R:RT),True∧CX Try.prog 93 (Array.mk [agg (Array.mk [v,ac,ad,ae,af,ag,ah,ai])]) aa [] R∧ZaA
 (Shape.int i64) R∧∀(al:Int)(m':Mem),Mem.le aa m'→R (int i64 al) m' []→[some (Box.mk b [int u8 aS,int u64 aT,int u64 aU,int u64 aV,int u64 aC,int i64 aR,int i64 aW,slice aP aO
 aQ] 41 8 true true)]=[some (Box.mk b [int u8 aS,int u64 aT,int u64 aU,int u64 aV,int u64 aC,int i64 aR,int i64 aW,slice aP aO aQ] 41 8 true true)]∧∃(n':Nat),n' < aj∧I [int i64
 (IntKind.wrap i64 (n+al)),int i64 (IntKind.wrap i64 (ab+(1:Int)))] [] [] m' n')) (br (aS == (5:Int)) (br (aW == (-1:Int)) (∃(m'':Mem),Mem.le m m''∧Mem.le m'' aa∧R (int i64 (if(10001:Int) <
 IntKind.wrap i64 (n*if(10001:Int) < if(1:Int) > if(0:Int) > aR then(0:Int)else aR then(1:Int)else if(0:Int) > aR then(0:Int)else aR then(10001:Int)else if(1:Int) > if(0:Int) >
 aR then(0:Int)else aR then(1:Int)else if(0:Int) > aR then(0:Int)else aR)then(10001:Int)else IntKind.wrap i64 (n*if(10001:Int) < if(1:Int) > if(0:Int) > aR then(0:Int)else
 aR then(1:Int)else if(0:Int) > aR then(0:Int)else aR then(10001:Int)else if(1:Int) > if(0:Int) > aR then(0:Int)else aR then(1:Int)else if(0:Int) > aR then(0:Int)else
 aR))) m'' []) (∃(m'':Mem),Mem.le m m''∧Mem.le m'' aa∧R (int i64 (if(10001:Int) < IntKind.wrap i64 (n*if(10001:Int) < if aW > if(0:Int) > aR then(0:Int)else aR then aW else if(0:Int) >
 aR then(0:Int)else aR then(10001:Int)else if aW > if(0:Int) > aR then(0:Int)else aR then aW else if(0:Int) > aR then(0:Int)else aR)then(10001:Int)else IntKind.wrap i64 (n*if
 (10001:Int) < if aW > if(0:Int) > aR then(0:Int)else aR then aW else if(0:Int) > aR then(0:Int)else aR then(10001:Int)else if aW > if(0:Int) > aR then(0:Int)else aR then aW
 else if(0:Int) > aR then(0:Int)else aR))) m'' [])) (∃(m'':Mem),Mem.le m m''∧Mem.le m'' aa∧R (int i64 (if(10001:Int) < n then(10001:Int)else n)) m'' [])))
theorem Zh3(aS aT aU aV aC aR aW:Int)(aP:Option Addr)(aO aQ:Nat)(m:Mem)(R:RT)(h:ZeU aS aT aU aV aC aR aW aP aO aQ m R):CX Try.prog 93 #[.agg #[.int .u8 aS,.int .u64 aT,.int .u64 aU,.int .u64 aV,.int .u64 aC,.int .i64 aR,.int .i64 aW,.slice aP aO aQ]] m [] R:=
 Zaj (E:=Zi7) Zaw mix Try.func93 [.v (.agg #[.int .u8 aS,.int .u64 aT,.int .u64 aU,.int .u64 aV,.int .u64 aC,.int .i64 aR,.int .i64 aW,.slice aP aO aQ])] [] (by kernel_rfl) (Eq.mp (by kernel_rfl) h)
noncomputable def Zi8:Env:={ EB with
 frzNew:=[1] }
def ZeV(aS aT aU aV aC aR aW:Int)(aP:Option Addr)(aO aQ:Nat)(m:Mem)(R:RT):Prop:=
 ∀(b:Nat)(m':Mem),Mem.le m m'→Mem.reads m' b 0 [int u8 aS,int u64 aT,int u64 aU,int u64 aV,int u64 aC,int i64 aR,int i64 aW,slice aP aO aQ]→∃(R_1:RT),True∧CX Try.prog 92
 (Array.mk [agg (Array.mk [int u8 aS,int u64 aT,int u64 aU,int u64 aV,int u64 aC,int i64 aR,int i64 aW,slice aP aO aQ])]) m' [] R_1∧ZaA Shape.bool R_1∧∀(b:Bool)(m'_1:Mem),Mem.le
 m' m'_1→R_1 (Value.bool b) m'_1 []→br (!b) (∃(m'':Mem),Mem.le m m''∧Mem.le m'' m'_1∧R (int i64 10001) m'' []) (∃(R_2:RT),True∧CX Try.prog 93 (Array.mk [agg (Array.mk [int u8 aS,int u64 aT,int u64
 aU,int u64 aV,int u64 aC,int i64 aR,int i64 aW,slice aP aO aQ])]) m'_1 [] R_2∧ZaA (Shape.int i64) R_2∧∀(n:Int)(m':Mem),Mem.le m'_1 m'→R_2 (int i64 n) m' []→∃(m'':Mem),Mem.le m
 m''∧Mem.le m'' m'∧R (int i64 n) m'' [])
theorem Zh4(aS aT aU aV aC aR aW:Int)(aP:Option Addr)(aO aQ:Nat)(m:Mem)(R:RT)(h:ZeV aS aT aU aV aC aR aW aP aO aQ m R):CX Try.prog 37 #[.agg #[.int .u8 aS,.int .u64 aT,.int .u64 aU,.int .u64 aV,.int .u64 aC,.int .i64 aR,.int .i64 aW,.slice aP aO aQ]] m [] R:=
 Zaj (E:=Zi8) Zaw mix Try.func37 [.v (.agg #[.int .u8 aS,.int .u64 aT,.int .u64 aU,.int .u64 aV,.int .u64 aC,.int .i64 aR,.int .i64 aW,.slice aP aO aQ])] [] (by kernel_rfl) (Eq.mp (by kernel_rfl) h)
noncomputable def ZaJ:Env:={ EB with
 loops:=(fun i=>bif Nat.beq i 4 then⟨[(17,.int .i64)],[],[],false⟩ else⟨[],[],[],false⟩) }
def Zax(p0a:Option Addr)(p0n p0c:Nat)(p1a:Option Addr)(p1n p1c p2g:Nat)(p2fi p2ca:List Value)(m:Mem)(R:RT):Prop:=
 br (!(↑p0n:Int) == (↑p1n:Int)) (∃(m'':Mem),Mem.le m m''∧Mem.le m'' m∧R (Value.bool false) m'' []) (∃(I:IT),(∃(n:Nat),I [int i64 0] [] [] m n)∧∀(n:Int)(m':Mem)(n_1:Nat),Mem.le m m'→I
 [int i64 n] [] [] m' n_1→br (decide (n < (↑p0n:Int))) (∃(b:Nat),∃(o:Nat),p0a=some (Addr.mk b o none)∧Zac n p0n∧∃(v:Value),∃(v_1:Value),∃(v_2:Value),∃(v_3:Value),∃(v_4:Value),∃
 (v_5:Value),∃(v_6:Value),∃(v_7:Value),Mem.reads m' b (o+Int.toNat n*8) [v,v_1,v_2,v_3,v_4,v_5,v_6,v_7]∧∀(b:Nat),chk (Value.oneCell' v&&(Value.oneCell' v_1&&(Value.oneCell' v_2 &&
 (Value.oneCell' v_3&&(Value.oneCell' v_4&&(Value.oneCell' v_5&&(Value.oneCell' v_6&&(Value.oneCell' v_7&&true)))))))) (∃(b:Nat),∃(o:Nat),p1a=some (Addr.mk b o none)∧Zac n p1n∧∃(v_8:Value),
 ∃(v_9:Value),∃(v_10:Value),∃(v_11:Value),∃(v_12:Value),∃(v_13:Value),∃(v_14:Value),∃(v_15:Value),Mem.reads m' b (o+Int.toNat n*8) [v_8,v_9,v_10,v_11,v_12,v_13,v_14,v_15]∧∀(b:
 Nat),chk (Value.oneCell' v_8&&(Value.oneCell' v_9&&(Value.oneCell' v_10&&(Value.oneCell' v_11&&(Value.oneCell' v_12&&(Value.oneCell' v_13&&(Value.oneCell' v_14&&(Value.oneCell' v_15&&true)))))))) (∃
 (R_1:RT),True∧CX Try.prog p2g (Array.mk (List.append (List.append p2fi [agg (Array.mk [v,v_1,v_2,v_3,v_4,v_5,v_6,v_7]),agg (Array.mk [v_8,v_9,v_10,v_11,v_12,v_13,v_14,v_15])]) p2ca)) m' [] R_1∧ZaA
 Shape.bool R_1∧∀(b:Bool)(m'_1:Mem),Mem.le m' m'_1→R_1 (Value.bool b) m'_1 []→br (!b) (∃(m'':Mem),Mem.le m m''∧Mem.le m'' m'_1∧R (Value.bool false) m'' []) (∃(n':Nat),n' < n_1∧I [int i64
 (IntKind.wrap i64 (n+(1:Int)))] [] [] m'_1 n')))) (∃(m'':Mem),Mem.le m m''∧Mem.le m'' m'∧R (Value.bool true) m'' []))
theorem ZaH(p0a:Option Addr)(p0n p0c:Nat)(p1a:Option Addr)(p1n p1c p2g:Nat)(p2fi p2ca:List Value)(m:Mem)(R:RT)(h:Zax p0a p0n p0c p1a p1n p1c p2g p2fi p2ca m R):CX Try.prog 132 #[.slice p0a p0n p0c,.slice p1a p1n p1c,.func (.func p2g) p2fi.toArray p2ca.toArray] m [] R:=
 Zaj (E:=ZaJ) Zaw mix Try.func132 [.v (.slice p0a p0n p0c),.v (.slice p1a p1n p1c),.v (.func (.func p2g) p2fi.toArray p2ca.toArray)] [] (by kernel_rfl) (Eq.mp (by kernel_rfl) h)
noncomputable def Zsi:Env:={ EB with
 joins:=(fun i=>bif Nat.beq i 1 then some [(4,.bool)]else none)
 frzNew:=[2,3] }
def ZlV(aS aT aU aV aC aR aW:Int)(aP:Option Addr)(aO aQ:Nat)(bM bH bI bJ aX bE bG:Int)(bC:Option Addr)(bD bF:Nat)(m:Mem)(R:RT):Prop:=
 ∀(b:Nat)(m':Mem),Mem.le m m'→Mem.reads m' b 0 [int u8 aS,int u64 aT,int u64 aU,int u64 aV,int u64 aC,int i64 aR,int i64 aW,slice aP aO aQ]→∀(aa:Nat)(ac:Mem),Mem.le m' ac→
 Mem.reads ac aa 0 [int u8 bM,int u64 bH,int u64 bI,int u64 bJ,int u64 aX,int i64 bE,int i64 bG,slice bC bD bF]→∃(ab:Bool),br (aS == bM) (∃(ad:Bool),EqIs Try.prog 38 (agg
 (Array.mk [int u64 aT,int u64 aU,int u64 aV,int u64 aC])) (agg (Array.mk [int u64 bH,int u64 bI,int u64 bJ,int u64 aX])) ad∧br ad (br (aR == bE) (br (aW == bG) (∃(R:RT),True∧CX
 Try.prog 132 (Array.mk [slice aP aO aQ,slice bC bD bF,Value.func (Fn.func 106) (Array.mk []) (Array.mk [])]) ac [] R∧ZaA Shape.bool R∧∀(ae:Bool)(m':Mem),Mem.le ac m'→R (Value.bool ae)
 m' []→[some (Box.mk aa [int u8 bM,int u64 bH,int u64 bI,int u64 bJ,int u64 aX,int i64 bE,int i64 bG,slice bC bD bF] 41 8 true true),some (Box.mk b [int u8 aS,int u64 aT,int u64
 aU,int u64 aV,int u64 aC,int i64 aR,int i64 aW,slice aP aO aQ] 41 8 true true)]=[some (Box.mk aa [int u8 bM,int u64 bH,int u64 bI,int u64 bJ,int u64 aX,int i64 bE,int i64
 bG,slice bC bD bF] 41 8 true true),some (Box.mk b [int u8 aS,int u64 aT,int u64 aU,int u64 aV,int u64 aC,int i64 aR,int i64 aW,slice aP aO aQ] 41 8 true true)]∧[Value.bool
 ae]=[Value.bool ab]) ([some (Box.mk aa [int u8 bM,int u64 bH,int u64 bI,int u64 bJ,int u64 aX,int i64 bE,int i64 bG,slice bC bD bF] 41 8 true true),some (Box.mk b [int u8 aS,int u64
 aT,int u64 aU,int u64 aV,int u64 aC,int i64 aR,int i64 aW,slice aP aO aQ] 41 8 true true)]=[some (Box.mk aa [int u8 bM,int u64 bH,int u64 bI,int u64 bJ,int u64 aX,int i64
 bE,int i64 bG,slice bC bD bF] 41 8 true true),some (Box.mk b [int u8 aS,int u64 aT,int u64 aU,int u64 aV,int u64 aC,int i64 aR,int i64 aW,slice aP aO aQ] 41 8 true true)]∧
 [Value.bool false]=[Value.bool ab])) ([some (Box.mk aa [int u8 bM,int u64 bH,int u64 bI,int u64 bJ,int u64 aX,int i64 bE,int i64 bG,slice bC bD bF] 41 8 true true),some (Box.mk b [int u8
 aS,int u64 aT,int u64 aU,int u64 aV,int u64 aC,int i64 aR,int i64 aW,slice aP aO aQ] 41 8 true true)]=[some (Box.mk aa [int u8 bM,int u64 bH,int u64 bI,int u64 bJ,int u64
 aX,int i64 bE,int i64 bG,slice bC bD bF] 41 8 true true),some (Box.mk b [int u8 aS,int u64 aT,int u64 aU,int u64 aV,int u64 aC,int i64 aR,int i64 aW,slice aP aO aQ] 41 8
 true true)]∧[Value.bool false]=[Value.bool ab])) ([some (Box.mk aa [int u8 bM,int u64 bH,int u64 bI,int u64 bJ,int u64 aX,int i64 bE,int i64 bG,slice bC bD bF] 41 8 true true),some
 (Box.mk b [int u8 aS,int u64 aT,int u64 aU,int u64 aV,int u64 aC,int i64 aR,int i64 aW,slice aP aO aQ] 41 8 true true)]=[some (Box.mk aa [int u8 bM,int u64 bH,int u64 bI,int u64
 bJ,int u64 aX,int i64 bE,int i64 bG,slice bC bD bF] 41 8 true true),some (Box.mk b [int u8 aS,int u64 aT,int u64 aU,int u64 aV,int u64 aC,int i64 aR,int i64 aW,slice aP
 aO aQ] 41 8 true true)]∧[Value.bool false]=[Value.bool ab])) ([some (Box.mk aa [int u8 bM,int u64 bH,int u64 bI,int u64 bJ,int u64 aX,int i64 bE,int i64 bG,slice bC bD bF] 41 8
 true true),some (Box.mk b [int u8 aS,int u64 aT,int u64 aU,int u64 aV,int u64 aC,int i64 aR,int i64 aW,slice aP aO aQ] 41 8 true true)]=[some (Box.mk aa [int u8 bM,int u64 bH,int
 u64 bI,int u64 bJ,int u64 aX,int i64 bE,int i64 bG,slice bC bD bF] 41 8 true true),some (Box.mk b [int u8 aS,int u64 aT,int u64 aU,int u64 aV,int u64 aC,int i64 aR,int i64
 aW,slice aP aO aQ] 41 8 true true)]∧[Value.bool false]=[Value.bool ab])∧∃(m'':Mem),Mem.le m m''∧Mem.le m'' ac∧R (Value.bool ab) m'' []
theorem ZpZ(aS aT aU aV aC aR aW:Int)(aP:Option Addr)(aO aQ:Nat)(bM bH bI bJ aX bE bG:Int)(bC:Option Addr)(bD bF:Nat)(m:Mem)(R:RT)(h:ZlV aS aT aU aV aC aR aW aP aO aQ bM bH bI bJ aX bE bG bC bD bF m R):CX Try.prog 106 #[.agg #[.int .u8 aS,.int .u64 aT,.int .u64 aU,.int .u64 aV,.int .u64 aC,.int .i64 aR,.int .i64 aW,.slice aP aO aQ],.agg #[.int .u8 bM,.int .u64 bH,.int .u64 bI,.int .u64 bJ,.int .u64 aX,.int .i64 bE,.int .i64 bG,.slice bC bD bF]] m [] R:=
 Zaj (E:=Zsi) Zaw mix Try.func106 [.v (.agg #[.int .u8 aS,.int .u64 aT,.int .u64 aU,.int .u64 aV,.int .u64 aC,.int .i64 aR,.int .i64 aW,.slice aP aO aQ]),.v (.agg #[.int .u8 bM,.int .u64 bH,.int .u64 bI,.int .u64 bJ,.int .u64 aX,.int .i64 bE,.int .i64 bG,.slice bC bD bF])] [] (by kernel_rfl) (Eq.mp (by kernel_rfl) h)
noncomputable def Zsj:Env:={ EB with
 joins:=(fun i=>bif Nat.beq i 1 then some [(4,.bool)]else none)
 frzNew:=[2,3] }
def ZlW(aS aT aU aV aC aR aW:Int)(aP:Option Addr)(aO aQ:Nat)(bM bH bI bJ aX bE bG:Int)(bC:Option Addr)(bD bF:Nat)(m:Mem)(R:RT):Prop:=
 ∀(b:Nat)(m':Mem),Mem.le m m'→Mem.reads m' b 0 [int u8 aS,int u64 aT,int u64 aU,int u64 aV,int u64 aC,int i64 aR,int i64 aW,slice aP aO aQ]→∀(aa:Nat)(ab:Mem),Mem.le m' ab→
 Mem.reads ab aa 0 [int u8 bM,int u64 bH,int u64 bI,int u64 bJ,int u64 aX,int i64 bE,int i64 bG,slice bC bD bF]→∃(ac:Bool),(∃(R:RT),True∧CX Try.prog 92 (Array.mk [agg (Array.mk
 [int u8 aS,int u64 aT,int u64 aU,int u64 aV,int u64 aC,int i64 aR,int i64 aW,slice aP aO aQ])]) ab [] R∧ZaA Shape.bool R∧∀(ae:Bool)(m':Mem),Mem.le ab m'→R (Value.bool ae) m'
 []→br ae (∃(R:RT),True∧CX Try.prog 92 (Array.mk [agg (Array.mk [int u8 bM,int u64 bH,int u64 bI,int u64 bJ,int u64 aX,int i64 bE,int i64 bG,slice bC bD bF])]) m' [] R∧ZaA
 Shape.bool R∧∀(af:Bool)(ad:Mem),Mem.le m' ad→R (Value.bool af) ad []→br af (∃(R:RT),True∧CX Try.prog 106 (Array.mk [agg (Array.mk [int u8 aS,int u64 aT,int u64 aU,int u64 aV,int u64 aC,
 int i64 aR,int i64 aW,slice aP aO aQ]),agg (Array.mk [int u8 bM,int u64 bH,int u64 bI,int u64 bJ,int u64 aX,int i64 bE,int i64 bG,slice bC bD bF])]) ad [] R∧ZaA
 Shape.bool R∧∀(ag:Bool)(m':Mem),Mem.le ad m'→R (Value.bool ag) m' []→[some (Box.mk aa [int u8 bM,int u64 bH,int u64 bI,int u64 bJ,int u64 aX,int i64 bE,int i64 bG,slice bC bD
 bF] 41 8 true true),some (Box.mk b [int u8 aS,int u64 aT,int u64 aU,int u64 aV,int u64 aC,int i64 aR,int i64 aW,slice aP aO aQ] 41 8 true true)]=[some (Box.mk aa [int u8 bM,int u64
 bH,int u64 bI,int u64 bJ,int u64 aX,int i64 bE,int i64 bG,slice bC bD bF] 41 8 true true),some (Box.mk b [int u8 aS,int u64 aT,int u64 aU,int u64 aV,int u64 aC,int i64 aR,
 int i64 aW,slice aP aO aQ] 41 8 true true)]∧[Value.bool ag]=[Value.bool ac]) ([some (Box.mk aa [int u8 bM,int u64 bH,int u64 bI,int u64 bJ,int u64 aX,int i64 bE,int i64 bG,slice
 bC bD bF] 41 8 true true),some (Box.mk b [int u8 aS,int u64 aT,int u64 aU,int u64 aV,int u64 aC,int i64 aR,int i64 aW,slice aP aO aQ] 41 8 true true)]=[some (Box.mk aa [int u8
 bM,int u64 bH,int u64 bI,int u64 bJ,int u64 aX,int i64 bE,int i64 bG,slice bC bD bF] 41 8 true true),some (Box.mk b [int u8 aS,int u64 aT,int u64 aU,int u64 aV,int u64 aC,
 int i64 aR,int i64 aW,slice aP aO aQ] 41 8 true true)]∧[Value.bool false]=[Value.bool ac])) ([some (Box.mk aa [int u8 bM,int u64 bH,int u64 bI,int u64 bJ,int u64 aX,int i64 bE,int
 i64 bG,slice bC bD bF] 41 8 true true),some (Box.mk b [int u8 aS,int u64 aT,int u64 aU,int u64 aV,int u64 aC,int i64 aR,int i64 aW,slice aP aO aQ] 41 8 true true)]=[some
 (Box.mk aa [int u8 bM,int u64 bH,int u64 bI,int u64 bJ,int u64 aX,int i64 bE,int i64 bG,slice bC bD bF] 41 8 true true),some (Box.mk b [int u8 aS,int u64 aT,int u64 aU,int u64
 aV,int u64 aC,int i64 aR,int i64 aW,slice aP aO aQ] 41 8 true true)]∧[Value.bool false]=[Value.bool ac]))∧∃(m'':Mem),Mem.le m m''∧Mem.le m'' ab∧R (Value.bool ac) m'' []
theorem Zp0(aS aT aU aV aC aR aW:Int)(aP:Option Addr)(aO aQ:Nat)(bM bH bI bJ aX bE bG:Int)(bC:Option Addr)(bD bF:Nat)(m:Mem)(R:RT)(h:ZlW aS aT aU aV aC aR aW aP aO aQ bM bH bI bJ aX bE bG bC bD bF m R):CX Try.prog 58 #[.agg #[.int .u8 aS,.int .u64 aT,.int .u64 aU,.int .u64 aV,.int .u64 aC,.int .i64 aR,.int .i64 aW,.slice aP aO aQ],.agg #[.int .u8 bM,.int .u64 bH,.int .u64 bI,.int .u64 bJ,.int .u64 aX,.int .i64 bE,.int .i64 bG,.slice bC bD bF]] m [] R:=
 Zaj (E:=Zsj) Zaw mix Try.func58 [.v (.agg #[.int .u8 aS,.int .u64 aT,.int .u64 aU,.int .u64 aV,.int .u64 aC,.int .i64 aR,.int .i64 aW,.slice aP aO aQ]),.v (.agg #[.int .u8 bM,.int .u64 bH,.int .u64 bI,.int .u64 bJ,.int .u64 aX,.int .i64 bE,.int .i64 bG,.slice bC bD bF])] [] (by kernel_rfl) (Eq.mp (by kernel_rfl) h)
end Go.Proofs.Ytplacemlpkhmfaa
set_option linter.unusedVariables false
set_option linter.unusedSimpArgs false
namespace Go.Proofs.Ytplacemlpkhmfaa
open Go Go.Eng Go.Rx Go.Proofs Go.RowKit
set_option maxRecDepth 100000
theorem ZkY(t:T)(m:Mem):CX Try.prog 107 #[t.v] m [] (fun v m' _=>∃b,v=.func (.func 133) #[] #[.pointer (some ⟨b,0,none⟩)]∧m'.reads b 0 t.cs):=by
 apply ZoB
 unfold ZjS
 intro b m' hm hb
 exact⟨m',hm,Mem.le_refl _,b,rfl,hb⟩
theorem Zh5(t:T)(m:Mem)(c0b:Nat)(cO:m.reads c0b 0 t.cs)(ng:Rep m t):IX Try.prog 133 [] [.pointer (some ⟨c0b,0,none⟩)] m (t.nodes.map fun x=>[x.v]):=by
 apply ZkX 0 [] [] c0b 0
 unfold ZgR
 intro l b m' hm hb
 have gV:=cO.mono hm
 refine⟨_,_,_,_,_,_,_,_,gV,⟨rfl,by omega,?_⟩,?_,.inr rfl⟩
 ·rw[ZcG];rfl
 refine⟨t.sl,gV 7 _ rfl,Zaa rfl ?_⟩
 refine⟨fun xs _ _ m'' q=>∃i:Nat,i≤t.subs.length∧xs=[.int .i64 ((1+(ZaF (t.subs.take i)).length:Nat):Int),.int .i64 i]∧m'.le m''∧q=t.subs.length - i,⟨t.subs.length,0,by omega,?_,Mem.le_refl _,by omega⟩,?_⟩
 ·simp[ZaF]
 rintro y n m2 q bO ⟨i,hi,ib,kx,hq⟩
 simp only[List.cons.injEq,Value.int.injEq,true_and,and_true]at ib
 obtain⟨rfl,rfl⟩:=ib
 have bN:slN t.sl=t.subs.length:=rfl
 rw[bN]
 refine Zab (fun bK=>?_) (fun cL=>?_)
 ·have aY:i < t.subs.length:=by simpa using bK
  obtain⟨x,hx⟩:∃x,t.subs[i]?=some x:=⟨_,List.getElem?_eq_getElem aY⟩
  have cX:x∈t.subs:=List.mem_of_getElem? hx
  have cN:=ZrT cX
  obtain⟨ww,h0|⟨b1,o1,ha,gw⟩⟩:=Zdw ng
  ·rw[h0]at aY;simp at aY
  obtain⟨iV,gW⟩:=(gw.mono ((Mem.le_trans hm kx))).get hx
  refine Zaa rfl ⟨b1,o1,ha,⟨by omega,by omega⟩,_,_,_,_,_,_,_,_,iV,fun b2=>Zaa rfl ?_⟩
  refine⟨_,trivial,ZkY x m2,fun v m' css h=>?_,?_⟩
  ·obtain⟨b3,rfl,_⟩:=h;rfl
  rintro g fi ca m3 bR ⟨b3,hv,fW⟩
  obtain⟨rfl,rfl,rfl⟩:=Zkw hv
  refine⟨_,Zh5 x m3 b3 fW (gW.mono bR),fun y hy=>?_,?_⟩
  ·obtain⟨z,_,rfl⟩:=List.mem_map.1 hy;exact ZrU z
  refine⟨fun xs _ _ m'' q=>q≤x.nodes.length∧xs=[.int .i64 ((1+(ZaF (t.subs.take i)).length+q:Nat):Int)]∧m3.le m'',⟨Nat.zero_le _,rfl,Mem.le_refl _⟩,?_,?_⟩
  ·rintro y n0 n1 n2 n3 n4 n5 n6 a n7 c m4 q cT hq ⟨iC,hy,_⟩ b4
   simp only[List.cons.injEq,Value.int.injEq,true_and,and_true]at hy
   subst hy
   have hq':(List.map (fun z:T=>[z.v]) x.nodes)[(q:Nat)]?=some [Value.agg #[.int .u8 n0,.int .u64 n1,.int .u64 n2,.int .u64 n3,.int .u64 n4,.int .i64 n5,.int .i64 n6,.slice a n7 c]]:=hq
   rw[List.getElem?_map]at hq'
   obtain⟨z,hz,sL⟩:=Option.map_eq_some_iff.1 hq'
   have sM:q < x.nodes.length:=(List.getElem?_eq_some_iff.1 hz).1
   refine⟨⟨rfl,by omega,?_⟩,⟨rfl,by omega,?_,cT⟩,rfl,.inr rfl⟩
   ·rw[Int.toNat_natCast]
    show(t.nodes.map fun x=>[x.v])[1+(ZaF (t.subs.take i)).length+q]?=_
    rw[List.getElem?_map,ZtP hx hz,←sL];rfl
   ·congr 2
  ·rintro y m4 cT ⟨iC,hy,_⟩
   simp only[List.cons.injEq,Value.int.injEq,true_and,and_true]at hy
   subst hy
   refine⟨rfl,t.subs.length - (i+1),by omega,i+1,by omega,?_,Mem.le_trans kx (Mem.le_trans bR cT),rfl⟩
   rw[Zat (by omega) (by omega),Zn4 hx,List.length_append]
   simp[T.v,Nat.add_assoc]
 ·have hi':i=t.subs.length:=by
   have:¬((i:Int) < (t.subs.length:Int)):=by simpa using cL
   omega
  subst hi'
  left
  rw[List.take_length,ZcG]
  simp
  omega
termination_by SizeOf.sizeOf t
decreasing_by exact cN
theorem Zsk(least most:Int)(m:Mem):CX Try.prog 84 #[.int .i64 least,.int .i64 most] m [] (Ret (.bool (ZfY least most))):=by
 apply ZmB
 unfold Zh2
 refine⟨decide (least < 0)||decide (least > 16)||(least == 1&&most == 1),?_,Zab (fun h=>Zag (Mem.le_refl _) ?_) (fun h=>⟨most == -1||(decide (most ≥ 1)&&decide (most≤16)&&decide (most ≥ least)),?_,Zag (Mem.le_refl _) ?_⟩)⟩
 ·simp only[ZrR];(repeat' split) <;> simp_all <;> omega
 ·simp[Ret,ZfY,h]
 ·simp only[ZrR];(repeat' split) <;> simp_all <;> omega
 ·simp[Ret,ZfY,h]
theorem ZmC(l:List T)(a:Option Addr)(c:Nat)(g:Nat)(ca:List Value)(p:T→Bool)(m:Mem)(hl:l.length≤1000000000000000)(hr:l=[]∨∃b o,a=some ⟨b,o,none⟩∧RepAt m b o l)
  (hp:∀x∈l,∀m',m.le m'→Rep m' x→CX Try.prog g (x.v::ca).toArray m' [] (Ret (.bool (p x)))):
  CX Try.prog 166 #[.slice a l.length c,.func (.func g) #[] ca.toArray] m [] (Ret (.int .i64 (if l.any p then(l.findIdx p:Nat)else(-1:Int)))):=by
 apply Zbs a l.length c g [] ca
 unfold ZaR
 refine⟨fun xs _ _ m'' q=>∃i:Nat,i≤l.length∧xs=[.int .i64 i]∧(∀x∈l.take i,p x=false)∧m.le m''∧q=l.length - i,⟨l.length,0,by omega,rfl,by simp,Mem.le_refl _,by omega⟩,?_⟩
 rintro n m' q hm ⟨i,hi,hn,jk,cP,hq⟩
 obtain rfl:n=i:=by simpa using hn
 refine Zab (fun bK=>?_) (fun cL=>?_)
 ·have aY:i < l.length:=by simpa using bK
  obtain⟨x,hx⟩:∃x,l[i]?=some x:=⟨_,List.getElem?_eq_getElem aY⟩
  have cX:x∈l:=List.mem_of_getElem? hx
  rcases hr with h0|⟨b1,o1,ha,gw⟩
  ·rw[h0]at aY;simp at aY
  obtain⟨iV,gW⟩:=(gw.mono hm).get hx
  refine⟨b1,o1,ha,⟨by omega,by omega⟩,_,_,_,_,_,_,_,_,iV,Zah (hp x cX m' hm gW) fun m1 aZ=>Zab (fun l9=>?_) (fun l9=>?_)⟩
  ·refine Zag (Mem.le_trans hm aZ) ?_
   have nh:l.any p=true:=List.any_eq_true.2 ⟨x,cX,l9⟩
   have pz:l.findIdx p=i:=by
    rw[List.findIdx_eq aY]
    refine⟨by rw[(List.getElem?_eq_some_iff.1 hx).2];exact l9,fun j hj=>?_⟩
    exact jk _ (List.mem_of_getElem? (i:=j) (by rw[List.getElem?_take_of_lt hj];exact List.getElem?_eq_getElem (by omega)))
   simp[Ret,nh,pz]
  ·refine⟨l.length - (i+1),by omega,i+1,by omega,by rw[Zat (by omega) (by omega)];rfl,?_,Mem.le_trans hm aZ,rfl⟩
   intro y hy
   rw[List.take_add_one,hx]at hy
   rcases List.mem_append.1 hy with hy|hy
   ·exact jk y hy
   ·simp at hy;rw[hy];exact l9
 ·have hi':i=l.length:=by
   have:¬((i:Int) < (l.length:Int)):=by simpa using cL
   omega
  subst hi'
  refine Zag hm ?_
  have nh:l.any p=false:=by
   rw[List.any_eq_false]
   rw[List.take_length]at jk
   exact fun x hx=>by simp[jk x hx]
  simp[Ret,nh]
theorem Zh6(l:List T)(a:Option Addr)(c:Nat)(g:Nat)(ca:List Value)(p:T→Bool)(m:Mem)(hl:l.length≤1000000000000000)(hr:l=[]∨∃b o,a=some ⟨b,o,none⟩∧RepAt m b o l)
  (hp:∀x∈l,∀m',m.le m'→Rep m' x→CX Try.prog g (x.v::ca).toArray m' [] (Ret (.bool (p x)))):
  CX Try.prog 162 #[.slice a l.length c,.func (.func g) #[] ca.toArray] m [] (Ret (.bool (l.any p))):=by
 apply Za8 a l.length c g [] ca
 unfold ZaM
 refine Zfh (ZmC l a c g ca p m hl hr hp) fun m' hm=>Zag hm ?_
 cases h:l.any p <;> simp[Ret]
theorem Zvn(t:T)(k:Int)(b:Nat)(m:Mem)(hb:m.reads b 0 [.int .u8 k]):CX Try.prog 163 #[t.v,.pointer (some ⟨b,0,none⟩)] m [] (Ret (.bool (t.k == k))):=by
 apply ZoE (c0b:=b) (c0o:=0)
 unfold ZjU
 intro b' m' hm _
 exact⟨_,hm _ _ _ (hb 0 _ rfl),Zaa rfl (Zag hm rfl)⟩
theorem Zsl(t:T)(k:Int)(m:Mem)(hr:Rep m t):CX Try.prog 134 #[t.v,.int .u8 k] m [] (Ret (.bool (t.has k))):=by
 apply Zsg
 unfold ZoF
 intro b m1 aZ _ b2 m2 bO gN
 have hr':=Zdw (hr.mono (Mem.le_trans aZ bO))
 exact Zah (Zh6 t.subs t.a t.c _ [.pointer (some ⟨b2,0,none⟩)] (fun x=>x.k == k) m2 hr'.1 hr'.2 fun x _ m' hm' _=>Zvn x k b2 m' (gN.mono hm')) fun m3 bR=>Zag (Mem.le_trans aZ (Mem.le_trans bO bR)) rfl
theorem ZiB(t:T)(m:Mem)(hr:Rep m t):CX Try.prog 92 #[t.v] m [] (Ret (.bool t.light)):=by
 apply ZoC
 unfold ZjT
 intro b m1 aZ _ b2
 refine Zaq (ZkY t m1) (fun v m' css h=>by obtain⟨_,rfl,_⟩:=h;rfl) ?_
 rintro g fi ca m2 bO ⟨b3,hv,fW⟩
 obtain⟨rfl,rfl,rfl⟩:=Zkw hv
 have cP:=Mem.le_trans aZ bO
 refine⟨_,Zh5 t m2 b3 fW (hr.mono cP),fun y hy=>?_,fun _ css _ m' q=>css=[[.int .i64 q]]∧q≤10000∧q≤t.nodes.length,⟨rfl,by omega,by omega⟩,?_,?_⟩
 ·obtain⟨z,_,rfl⟩:=List.mem_map.1 hy;exact ZrU z
 ·rintro n0 n1 n2 n3 n4 n5 n6 a n7 c cs m3 q bR hq ⟨bT,iC,_⟩
  obtain rfl:cs=[.int .i64 q]:=by simpa using bT
  have bK:q < t.nodes.length:=by
   have:=(List.getElem?_eq_some_iff.1 (show(List.map (fun z:T=>[z.v]) t.nodes)[(q:Nat)]?=some _ from hq)).1
   simpa using this
  refine Zas rfl (Zaa rfl ?_)
  have hw:IntKind.i64.wrap (intOf (Value.int .i64 (q:Int))+1)=(q:Int)+1:=Zat (n:=(q:Int)+1) (by omega) (by omega)
  simp only[hw]
  refine Zab (fun h=>⟨by trivial,Zag (Mem.le_trans cP bR) ?_⟩) (fun h=>⟨by trivial,?_,?_,by omega⟩)
  ·have:((q:Int)+1 > 10000):=by simpa using h
   simp[Ret,T.light];omega
  ·simp
  ·have:¬((q:Int)+1 > 10000):=by simpa using h
   omega
 ·rintro cs m3 bR ⟨bT,iC,_⟩
  obtain rfl:cs=[.int .i64 t.nodes.length]:=by simpa using bT
  refine Zas rfl (Zaa rfl (Zag (Mem.le_trans cP bR) ?_))
  show Value.bool (decide ((t.nodes.length:Int)≤10000))=Value.bool t.light
  congr 1
  rw[T.light,decide_eq_decide];omega
end Go.Proofs.Ytplacemlpkhmfaa
set_option linter.unusedVariables false
set_option linter.unusedSimpArgs false
namespace Go.Proofs.Ytplacemlpkhmfaa
open Go Go.Eng Go.Rx Go.Proofs Go.RowKit
set_option maxRecDepth 100000
theorem Zt6(t:T)(m:Mem)(hr:Rep m t):CX Try.prog 108 #[t.v] m [] (Ret (.bool t.right)):=by
 apply ZoG
 unfold ZjV
 intro b m1 aZ _
 have dX:=hr.mono aZ
 refine⟨t.k != 2&&!t.setZ||(t.k != 5&&(t.mn != 0||t.mx != 0)||(decide (t.k < 3)&&decide (0 < t.subs.length))),?_,Zab (fun h=>Zag aZ ?_) (fun h=>?_)⟩
 ·refine Zab (fun h1=>?_) (fun h1=>?_)
  ·refine⟨t.setZ,ZpR _ _ _ _ _ _ _ _,?_⟩
   simp only[ZrR]
   (repeat' split) <;> simp_all <;> omega
  ·simp only[ZrR]
   (repeat' split) <;> simp_all <;> omega
 ·simp[Ret,T.right,h]
 ·refine Zab (fun h1=>Zag aZ ?_) (fun h1=>Zab (fun h2=>⟨t.setZ,ZpR _ _ _ _ _ _ _ _,Zag aZ ?_⟩) (fun h2=>Zab (fun h3=>?_) (fun h3=>Zab (fun h4=>?_) (fun h4=>Zab (fun h5=>?_) (fun h5=>?_)))))
  ·have:t.k=1:=by simpa using h1
   show Value.bool _=Value.bool t.right;rw[T.right,h];simp[this]
  ·have:t.k=2:=by simpa using h2
   show Value.bool _=Value.bool t.right;rw[T.right,h];simp[this]
  ·have:t.k=3:=by simpa using h3
   refine⟨decide (1 < t.subs.length)&&(!t.has 1&&!t.has 3),Zab (fun h4=>?_) (fun h4=>?_),Zag aZ ?_⟩
   ·refine Zah (Zsl t 1 m1 dX) fun m2 bO=>Zab (fun h5=>?_) (fun h5=>?_)
    ·refine Zah (Zsl t 3 m2 (dX.mono bO)) fun m3 bR=>⟨rfl,Zbf ?_⟩
     simp_all <;> (intros;omega)
    ·refine⟨rfl,Zbf ?_⟩
     simp_all <;> (intros;omega)
   ·refine⟨rfl,Zbf ?_⟩
    simp_all <;> (intros;omega)
   ·show Value.bool _=Value.bool t.right;rw[T.right,h];simp[this]
  ·have:t.k=4:=by simpa using h4
   refine⟨decide (1 < t.subs.length)&&!t.has 4,Zab (fun h4=>?_) (fun h4=>?_),Zag aZ ?_⟩
   ·refine Zah (Zsl t 4 m1 dX) fun m2 bO=>⟨rfl,Zbf ?_⟩
    simp_all <;> (intros;omega)
   ·refine⟨rfl,Zbf ?_⟩
    simp_all <;> (intros;omega)
   ·show Value.bool _=Value.bool t.right;rw[T.right,h];simp[this]
  ·have:t.k=5:=by simpa using h5
   refine⟨t.subs.length == 1&&(ZfY t.mn t.mx&&!t.has 1),Zab (fun h4=>?_) (fun h4=>?_),Zag aZ ?_⟩
   ·refine Zah (Zsk t.mn t.mx m1) fun m2 bO=>Zab (fun h5=>?_) (fun h5=>?_)
    ·refine Zah (Zsl t 1 m2 (dX.mono bO)) fun m3 bR=>⟨rfl,Zbf ?_⟩
     have h4':((t.subs.length:Int) == 1)=true:=h4
     have:t.subs.length=1:=by have:=of_decide_eq_true h4';omega
     simp_all <;> (intros;omega)
    ·refine⟨rfl,Zbf ?_⟩
     simp_all <;> (intros;omega)
   ·refine⟨rfl,Zbf ?_⟩
    have h4':((t.subs.length:Int) == 1)=false:=h4
    have:¬t.subs.length=1:=by have:=of_decide_eq_false h4';omega
    simp_all <;> (intros;omega)
   ·show Value.bool _=Value.bool t.right;rw[T.right,h];simp[this]
  ·refine⟨t.k == 6&&t.subs.length == 1,Zab (fun h4=>⟨rfl,Zbf ?_⟩) (fun h4=>⟨rfl,Zbf ?_⟩),Zag aZ ?_⟩
   ·have:(t.k == 6)=true:=h4
    rw[this,Bool.true_and]
    show(decide ((t.subs.length:Int)=1))=decide (t.subs.length=1)
    rw[decide_eq_decide];omega
   ·have:(t.k == 6)=false:=h4
    simp[this]
   ·show Value.bool _=Value.bool t.right;rw[T.right,h]
    have e1:¬t.k=1:=by simpa using h1
    have e2:¬t.k=2:=by simpa using h2
    have e3:¬t.k=3:=by simpa using h3
    have e4:¬t.k=4:=by simpa using h4
    have e5:¬t.k=5:=by simpa using h5
    simp[e1,e2,e3,e4,e5]
theorem Zt7(t:T)(m:Mem)(hr:Rep m t):CX Try.prog 59 #[t.v] m [] (Ret (.bool t.clean)):=by
 apply ZoH
 unfold ZjW
 intro b m1 aZ _ b2
 refine Zah (ZiB t m1 (hr.mono aZ)) fun m2 bO=>Zab (fun h=>Zag (Mem.le_trans aZ bO) ?_) (fun h=>?_)
 ·have:t.light=false:=by simpa using h
  simp[Ret,T.clean,this]
 have hl:t.light=true:=by simpa using h
 refine Zaq (ZkY t m2) (fun v m' css h=>by obtain⟨_,rfl,_⟩:=h;rfl) ?_
 rintro g fi ca m3 bR ⟨b3,hv,fW⟩
 obtain⟨rfl,rfl,rfl⟩:=Zkw hv
 have cP:=Mem.le_trans aZ (Mem.le_trans bO bR)
 refine⟨_,Zh5 t m3 b3 fW (hr.mono cP),fun y hy=>?_,fun _ css _ m' q=>m3.le m'∧∀x∈t.nodes.take q,x.right=true,⟨Mem.le_refl _,by simp⟩,?_,?_⟩
 ·obtain⟨z,_,rfl⟩:=List.mem_map.1 hy;exact ZrU z
 ·rintro n0 n1 n2 n3 n4 n5 n6 a n7 c cs m4 q cT hq ⟨_,iC⟩ b4
  have hq':(List.map (fun z:T=>[z.v]) t.nodes)[(q:Nat)]?=some [Value.agg #[.int .u8 n0,.int .u64 n1,.int .u64 n2,.int .u64 n3,.int .u64 n4,.int .i64 n5,.int .i64 n6,.slice a n7 c]]:=hq
  rw[List.getElem?_map]at hq'
  obtain⟨z,hz,sL⟩:=Option.map_eq_some_iff.1 hq'
  have sN:z.v=Value.agg #[.int .u8 n0,.int .u64 n1,.int .u64 n2,.int .u64 n3,.int .u64 n4,.int .i64 n5,.int .i64 n6,.slice a n7 c]:=by simpa using sL
  have wx:Rep m4 z:=(ZrV (hr.mono cP) (List.mem_of_getElem? hz)).mono cT
  have iA:=Zt6 z m4 wx
  rw[sN]at iA
  refine Zah iA fun m5 cV=>Zab (fun h=>⟨rfl,Zag (Mem.le_trans cP (Mem.le_trans cT cV)) ?_⟩) (fun h=>⟨rfl,Mem.le_trans cT cV,fun x hx=>?_⟩)
  ·have rv:z.right=false:=by simpa using h
   have:t.nodes.all T.right=false:=by
    rw[List.all_eq_false];exact⟨z,List.mem_of_getElem? hz,by simp[rv]⟩
   simp[Ret,T.clean,this]
  ·rw[List.take_add_one,hz]at hx
   rcases List.mem_append.1 hx with hx|hx
   ·exact iC x hx
   ·simp at hx;rw[hx];simpa using h
 ·rintro cs m4 cT ⟨_,iC⟩
  refine Zag (Mem.le_trans cP cT) ?_
  rw[List.length_map,List.take_length]at iC
  have:t.nodes.all T.right=true:=List.all_eq_true.2 iC
  simp[Ret,T.clean,this,hl]
theorem Zvo(t:T)(m:Mem)(hr:Rep m t):CX Try.prog 60 #[t.v] m [] (Ret (.int .i64 t.size)):=by
 apply ZpY
 unfold ZlU
 intro b m1 aZ _
 refine Zah (ZiB t m1 (hr.mono aZ)) fun m2 bO=>Zab (fun h=>Zag (Mem.le_trans aZ bO) ?_) (fun h=>?_)
 ·have:t.light=false:=by simpa using h
  simp[Ret,T.size,this]
 have hl:t.light=true:=by simpa using h
 have uH:t.nodes.length≤10000:=of_decide_eq_true hl
 intro b2
 refine Zaq (ZkY t m2) (fun v m' css h=>by obtain⟨_,rfl,_⟩:=h;rfl) ?_
 rintro g fi ca m3 bR ⟨b3,hv,fW⟩
 obtain⟨rfl,rfl,rfl⟩:=Zkw hv
 have cP:=Mem.le_trans aZ (Mem.le_trans bO bR)
 refine⟨_,Zh5 t m3 b3 fW (hr.mono cP),fun y hy=>?_,fun _ css _ m' q=>css=[[.int .i64 q]]∧q≤t.nodes.length,⟨rfl,by omega⟩,?_,?_⟩
 ·obtain⟨z,_,rfl⟩:=List.mem_map.1 hy;exact ZrU z
 ·rintro n0 n1 n2 n3 n4 n5 n6 a n7 c cs m4 q cT hq ⟨bT,_⟩
  obtain rfl:cs=[.int .i64 q]:=by simpa using bT
  have bK:q < t.nodes.length:=by
   have:=(List.getElem?_eq_some_iff.1 (show(List.map (fun z:T=>[z.v]) t.nodes)[(q:Nat)]?=some _ from hq)).1
   simpa using this
  have hw:IntKind.i64.wrap (intOf (Value.int .i64 (q:Int))+1)=(q:Int)+1:=Zat (n:=(q:Int)+1) (by omega) (by omega)
  refine Zas rfl (Zaa rfl ?_)
  simp only[hw]
  exact⟨by trivial,by simp,by omega⟩
 ·rintro cs m4 cT ⟨bT,iC⟩
  obtain rfl:cs=[.int .i64 t.nodes.length]:=by simpa using bT
  refine Zas rfl (Zag (Mem.le_trans cP cT) ?_)
  simp[Ret,T.size,hl]
theorem Zh7(t:T)(m:Mem)(hr:Rep m t)(hl:t.nodes.length≤10000):CX Try.prog 93 #[t.v] m [] (Ret (.int .i64 t.pos)):=by
 apply Zh3
 unfold ZeU
 intro b m1 aZ _
 have dK:=Zvb t
 have gu:=ZtQ t
 refine Zab (fun hk=>?_) (fun hk=>?_)
 all_goals
  have hk':(if t.k=2 then(1:Int)else 0)=1∧t.k=2∨(if t.k=2 then(1:Int)else 0)=0∧t.k≠2:=by split <;> simp_all
  refine⟨fun xs _ _ m'' q=>∃i:Nat,i≤t.subs.length∧xs=[.int .i64 ((if t.k=2 then 1 else 0)+ZdH (t.subs.take i)),.int .i64 i]∧m1.le m''∧q=t.subs.length - i,⟨t.subs.length,0,by omega,by simp_all [ZdH],Mem.le_refl _,by omega⟩,?_⟩
  rintro n n1 m2 q bO ⟨i,hi,ib,_,hq⟩
  have eL:=ZgE (t.subs.take i)
  have gN:=Zs6 (t.subs.take i)
  have fW:(t.subs.take i).length≤i:=List.length_take_le _ _
  clear hk'
  generalize hc:(if t.k=2 then(1:Int)else 0)=c at *
  have xH:0≤c∧c≤1:=by rw[←hc];split <;> omega
  simp only[List.cons.injEq,Value.int.injEq,true_and,and_true]at ib
  obtain⟨rfl,rfl⟩:=ib
  refine Zab (fun bK=>?_) (fun cL=>?_)
  ·have aY:i < t.subs.length:=by simpa using bK
   obtain⟨x,hx⟩:∃x,t.subs[i]?=some x:=⟨_,List.getElem?_eq_getElem aY⟩
   have cX:x∈t.subs:=List.mem_of_getElem? hx
   have cN:=ZrT cX
   have fX:=ZrX cX
   obtain⟨_,h0|⟨b1,o1,ha,gw⟩⟩:=Zdw hr
   ·rw[h0]at aY;simp at aY
   obtain⟨iV,gW⟩:=(gw.mono ((Mem.le_trans aZ bO))).get hx
   have lg:=Zky x
   refine⟨b1,o1,ha,⟨by omega,by omega⟩,_,_,_,_,_,_,_,_,iV,fun b2=>Zaa rfl ?_⟩
   refine Zfh (Zh7 x m2 gW (by omega)) fun m3 bR=>⟨rfl,t.subs.length - (i+1),by omega,i+1,by omega,?_,Mem.le_trans bO bR,rfl⟩
   rw[Zat (by omega) (by omega),Zat (by omega) (by omega),ZrW hx,Int.add_assoc]
   rfl
  ·have hi':i=t.subs.length:=by
    have:¬((i:Int) < (t.subs.length:Int)):=by simpa using cL
    omega
   subst hi'
   rw[List.take_length]at eL gN ⊢
   have hF:=Zs5 t.mn t.mx
   have wz:0≤(c+ZdH t.subs)*ZvR t.mn t.mx∧(c+ZdH t.subs)*ZvR t.mn t.mx≤100020001*10001:=by
    constructor
    ·exact Int.mul_nonneg (by omega) hF.1
    ·exact Int.mul_le_mul (by omega) hF.2 hF.1 (by omega)
   refine Zab (fun h5=>Zab (fun hx=>Zag (Mem.le_trans aZ bO) ?_) (fun hx=>Zag (Mem.le_trans aZ bO) ?_)) (fun h5=>Zag (Mem.le_trans aZ bO) ?_)
   ·have e1:t.k=5:=by simpa using h5
    have e2:t.mx=-1:=by simpa using hx
    have hF':ZvR t.mn t.mx=ZmZ (ZlH (ZlH t.mn 0) 1) 10001:=by simp[ZvR,e2]
    show Value.int .i64 (ZmZ (IntKind.i64.wrap ((c+ZdH t.subs)*ZmZ (ZlH (ZlH t.mn 0) 1) 10001)) 10001)=Value.int .i64 t.pos
    rw[←hF',Zat (by omega) (by omega),gu,ZuE,if_pos e1];rfl
   ·have e1:t.k=5:=by simpa using h5
    have e2:¬t.mx=-1:=by simpa using hx
    have hF':ZvR t.mn t.mx=ZmZ (ZlH (ZlH t.mn 0) t.mx) 10001:=by simp[ZvR,e2]
    show Value.int .i64 (ZmZ (IntKind.i64.wrap ((c+ZdH t.subs)*ZmZ (ZlH (ZlH t.mn 0) t.mx) 10001)) 10001)=Value.int .i64 t.pos
    rw[←hF',Zat (by omega) (by omega),gu,ZuE,if_pos e1];rfl
   ·have e1:¬t.k=5:=by simpa using h5
    show Value.int .i64 (ZmZ (c+ZdH t.subs) 10001)=Value.int .i64 t.pos
    rw[gu,ZuE,if_neg e1]
termination_by SizeOf.sizeOf t
decreasing_by all_goals exact cN
theorem ZmD(t:T)(m:Mem)(hr:Rep m t):CX Try.prog 37 #[t.v] m [] (Ret (.int .i64 t.positions)):=by
 apply Zh4
 unfold ZeV
 intro b m1 aZ _
 refine Zah (ZiB t m1 (hr.mono aZ)) fun m2 bO=>Zab (fun h=>Zag (Mem.le_trans aZ bO) ?_) (fun h=>?_)
 ·have:t.light=false:=by simpa using h
  simp[Ret,T.positions,this]
 have hl:t.light=true:=by simpa using h
 refine Zfh (Zh7 t m2 (hr.mono (Mem.le_trans aZ bO)) (of_decide_eq_true hl)) fun m3 bR=>Zag (Mem.le_trans aZ (Mem.le_trans bO bR)) ?_
 simp[Ret,T.positions,hl]
theorem ZmE(l l':List T)(a a':Option Addr)(c c':Nat)(m:Mem)(hl:l.length≤1000000000000000)(hr:l=[]∨∃b o,a=some ⟨b,o,none⟩∧RepAt m b o l)(hr':l'=[]∨∃b o,a'=some ⟨b,o,none⟩∧RepAt m b o l')
  (hp:∀x∈l,∀y∈l',∀m',m.le m'→Rep m' x→Rep m' y→CX Try.prog 106 #[x.v,y.v] m' [] (Ret (.bool (x.same y)))):
  CX Try.prog 132 #[.slice a l.length c,.slice a' l'.length c',.func (.func 106) #[] #[]] m [] (Ret (.bool (Zg9 l l'))):=by
 apply ZaH a l.length c a' l'.length c' _ [] []
 unfold Zax
 refine Zab (fun h=>Zag (Mem.le_refl _) ?_) (fun h=>?_)
 ·have:¬l.length=l'.length:=by
   intro e;rw[e]at h;simp at h
  show Value.bool false=_
  rw[Zn6 this]
 have eA:l.length=l'.length:=by
  have h2:((l.length:Int) == (l'.length:Int))=true:=by simpa using h
  have:=of_decide_eq_true h2;omega
 refine⟨fun xs _ _ m'' q=>∃i:Nat,i≤l.length∧xs=[.int .i64 i]∧Zg9 (l.take i) (l'.take i)=true∧m.le m''∧q=l.length - i,⟨l.length,0,by omega,rfl,by simp[Zg9],Mem.le_refl _,by omega⟩,?_⟩
 rintro n m' q hm ⟨i,hi,hn,fP,cP,hq⟩
 obtain rfl:n=i:=by simpa using hn
 refine Zab (fun bK=>?_) (fun cL=>?_)
 ·have aY:i < l.length:=by simpa using bK
  obtain⟨x,hx⟩:∃x,l[i]?=some x:=⟨_,List.getElem?_eq_getElem aY⟩
  obtain⟨y,hy⟩:∃y,l'[i]?=some y:=⟨_,List.getElem?_eq_getElem (by omega)⟩
  have j2:x∈l:=List.mem_of_getElem? hx
  have wA:y∈l':=List.mem_of_getElem? hy
  rcases hr with h0|⟨b1,o1,ha,gw⟩
  ·rw[h0]at aY;simp at aY
  rcases hr' with h0|⟨b2,o2,ha',sO⟩
  ·rw[h0]at eA;simp at eA;rw[eA]at aY;simp at aY
  obtain⟨iV,gW⟩:=(gw.mono hm).get hx
  obtain⟨li,pA⟩:=(sO.mono hm).get hy
  refine⟨b1,o1,ha,⟨by omega,by omega⟩,_,_,_,_,_,_,_,_,iV,fun b3=>Zaa rfl ⟨b2,o2,ha',⟨by omega,by omega⟩,_,_,_,_,_,_,_,_,li,fun b4=>Zaa rfl ?_⟩⟩
  refine Zah (hp x j2 y wA m' hm gW pA) fun m1 aZ=>Zab (fun l9=>?_) (fun l9=>?_)
  ·have hf:x.same y=false:=by simpa using l9
   refine Zag (Mem.le_trans hm aZ) ?_
   show Value.bool false=_
   rw[ZqH hx hy hf]
  ·have hf:x.same y=true:=by simpa using l9
   refine⟨l.length - (i+1),by omega,i+1,by omega,by rw[Zat (by omega) (by omega)];rfl,ZlI hx hy fP hf trivial,Mem.le_trans hm aZ,rfl⟩
 ·have hi':i=l.length:=by
   have:¬((i:Int) < (l.length:Int)):=by simpa using cL
   omega
  subst hi'
  refine Zag hm ?_
  rw[List.take_length,eA,List.take_length]at fP
  show Value.bool true=_
  rw[fP]
theorem Zte(t u:T)(m:Mem)(hr:Rep m t)(hu:Rep m u):CX Try.prog 106 #[t.v,u.v] m [] (Ret (.bool (t.same u))):=by
 apply ZpZ
 unfold ZlV
 intro b m1 aZ _ b' m2 bO _
 have hm:=Mem.le_trans aZ bO
 refine⟨t.same u,?_,Zag hm rfl⟩
 rw[Zu9]
 refine Zab (fun h1=>⟨_,ZpR _ _ _ _ _ _ _ _,Zab (fun h2=>Zab (fun h3=>Zab (fun h4=>?_) (fun h4=>⟨rfl,Zbf ?_⟩)) (fun h3=>⟨rfl,Zbf ?_⟩)) (fun h2=>⟨rfl,Zbf ?_⟩)⟩) (fun h1=>⟨rfl,Zbf ?_⟩)
 ·have hr':=Zdw (hr.mono hm)
  have hu':=Zdw (hu.mono hm)
  refine Zah (ZmE t.subs u.subs t.a u.a t.c u.c m2 hr'.1 hr'.2 hu'.2 fun x hx y hy m' _ iV li=>?_) fun m3 bR=>⟨rfl,Zbf ?_⟩
  ·have cN:=ZrT hx
   exact Zte x y m' iV li
  ·rw[h1,h2,h3,h4];rfl
 ·rw[h1,h2,h3,h4];rfl
 ·rw[h1,h2,h3];rfl
 ·rw[h1,h2];rfl
 ·rw[h1];rfl
termination_by SizeOf.sizeOf t
decreasing_by exact cN
theorem Zvp(t u:T)(m:Mem)(hr:Rep m t)(hu:Rep m u):CX Try.prog 58 #[t.v,u.v] m [] (Ret (.bool (t.light&&(u.light&&t.same u)))):=by
 apply Zp0
 unfold ZlW
 intro b m1 aZ _ b' m2 bO _
 have hm:=Mem.le_trans aZ bO
 refine⟨t.light&&(u.light&&t.same u),?_,Zag hm rfl⟩
 refine Zah (ZiB t m2 (hr.mono hm)) fun m3 bR=>Zab (fun h1=>?_) (fun h1=>⟨rfl,Zbf ?_⟩)
 ·refine Zah (ZiB u m3 (hu.mono (Mem.le_trans hm bR))) fun m4 cT=>Zab (fun h2=>?_) (fun h2=>?_)
  ·have cV:=Mem.le_trans (Mem.le_trans hm bR) cT
   refine Zah (Zte t u m4 (hr.mono cV) (hu.mono cV)) fun m6 eJ=>⟨rfl,Zbf ?_⟩
   rw[h1,h2];rfl
  ·refine⟨rfl,Zbf ?_⟩
   rw[h1,h2];rfl
 ·rw[h1];rfl
end Go.Proofs.Ytplacemlpkhmfaa
set_option linter.unusedVariables false
set_option linter.unusedSimpArgs false
set_option linter.unusedSectionVars false
namespace Go.Proofs.Ytplacemlpkhmfaa
open Go Go.Eng Go.Rx Go.Proofs Go.RowKit
theorem Zxq{b:Bool}{p q:Prop}(h:b=true)(k:p):br b p q:=by subst h;exact k
theorem Zuz{b:Bool}{p q:Prop}(h:b=false)(k:q):br b p q:=by subst h;exact k
theorem Zvq{m:Mem}{a:Option Addr}{ts:List T}(h:rowRd m a (Rx.ZeA ts)){i:Nat}{t:T}(hi:ts[i]?=some t):∃b o,a=some ⟨b,o,none⟩∧m.reads b (o+i*8) t.cs:=by
 rcases h with h|⟨b,o,ha,h⟩
 ·have hl:(Rx.ZeA ts).length=0:=by rw[h];rfl
  rw[Ziw]at hl
  have:=(List.getElem?_eq_some_iff.1 hi).1
  omega
 ·refine⟨b,o,ha,fun j v hj=>?_⟩
  rw[Nat.add_assoc]
  refine h (i*8+j) v ?_
  have e:ts=ts.take i++(t::ts.drop (i+1)):=by
   have bK:=(List.getElem?_eq_some_iff.1 hi).1
   have h2:=List.drop_eq_getElem_cons bK
   rw[(List.getElem?_eq_some_iff.1 hi).2]at h2
   rw[←h2,List.take_append_drop]
  have bK:=(List.getElem?_eq_some_iff.1 hi).1
  have wB:=(List.getElem?_eq_some_iff.1 hj).1
  rw[e,ZkB,List.getElem?_append_right (by rw[Ziw,List.length_take,Nat.min_eq_left (by omega)];omega),Ziw,List.length_take,Nat.min_eq_left (by omega),show i*8+j - i*8=j by omega]
  have e2:Rx.ZeA (t::ts.drop (i+1))=t.cs++Rx.ZeA (ts.drop (i+1)):=by simp[Rx.ZeA]
  rw[e2,List.getElem?_append_left wB];exact hj
def Apart(mb:Mem)(a:Option Addr):Prop:=a=none∨∃b,a=some ⟨b,0,none⟩∧mb.free b
theorem Apart.tok{mb M:Mem}{a a':Option Addr}{n c:Nat}(h:Apart mb a)(hm:mb.le M)(ht:TokFact M a a' n c):Apart mb a':=by
 rcases ht.2 with h1|⟨b,o,h1,h2⟩
 ·exact .inl h1
 rcases h2 with h2|⟨h3,h2⟩
 ·rw[←h2];exact h
 ·subst h3
  refine .inr ⟨b,h1,fun o=>?_⟩
  cases hb:mb b o with
  | none=>rfl
  | some v=>have:=hm _ _ _ hb;rw[h2 o]at this;cases this
theorem Apart.base{mb m:Mem}{a:Option Addr}{ts:List T}(h:Apart mb a)(bU:rowRd m a (Rx.ZeA ts))(hn:ts≠[]):∃b,a=some ⟨b,0,none⟩∧mb.free b∧∃o u,m b o=some u:=by
 obtain⟨t,r,rfl⟩:∃t r,ts=t::r:=by cases ts with
  | nil=>exact absurd rfl hn
  | cons t r=>exact⟨t,r,rfl⟩
 obtain⟨b',o,ha,cO⟩:=Zvq bU (i:=0) (t:=t) rfl
 rcases h with h|⟨b,hb,hf⟩
 ·rw[h]at ha;cases ha
 ·rw[hb]at ha;cases ha
  exact⟨b',hb,hf,_,_,cO 0 (.int .u8 t.k) rfl⟩
end Go.Proofs.Ytplacemlpkhmfaa
set_option linter.unusedVariables false
namespace Go.Proofs.Ytplacemlpkhmfaa
open Go Go.Eng Go.Proofs Go.RowKit
open Go.Value (int slice agg)
open Go.IntKind (u8 u64 i64)
set_option maxRecDepth 100000
end Go.Proofs.Ytplacemlpkhmfaa
