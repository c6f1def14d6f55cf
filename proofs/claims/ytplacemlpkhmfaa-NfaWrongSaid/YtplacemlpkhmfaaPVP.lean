/- Part of the proof: conditions and contracts of functions of this program. No condition of its own. -/
import Derived.Test.YtplacemlpkhmfaaPEnv
set_option linter.unusedVariables false
namespace Go.Proofs.Ytplacemlpkhmfaa
open Go Go.Eng Go.Proofs Go.RowKit
open Go.Value (int slice agg)
open Go.IntKind (u8 u64 i64)
set_option maxRecDepth 100000
noncomputable def Zl8:Env:={ EB with
 frzNew:=[1] }
def ZgO(aF aG aH aI aA aE aJ:Int)(aC:Option Addr)(aB aD:Nat)(m:Mem)(R:RT):Prop:=
 ∀(b:Nat)(m':Mem),Mem.le m m'→Mem.reads m' b 0 [int u8 aF,int u64 aG,int u64 aH,int u64 aI,int u64 aA,int i64 aE,int i64 aJ,slice aC aB aD]→∀(b:Nat),∃(R_1:RT),True∧CX
 Try.prog 59 (Array.mk [agg (Array.mk [int u8 aF,int u64 aG,int u64 aH,int u64 aI,int u64 aA,int i64 aE,int i64 aJ,slice aC aB aD])]) m' [] R_1∧ZaJ Shape.bool R_1∧∀(b:Bool) (m'_1:
 Mem),Mem.le m' m'_1→R_1 (Value.bool b) m'_1 []→br (!b) (∃(m'':Mem),Mem.le m m''∧Mem.le m'' m'_1∧R (agg (Array.mk [int u8 0,int u64 0,int u64 0,int u64 0,int u64 0,int i64 0,int i64 0,slice none 0
 0])) m'' []) (∃(R_2:RT),True∧CX Try.prog 85 (Array.mk [agg (Array.mk [int u8 aF,int u64 aG,int u64 aH,int u64 aI,int u64 aA,int i64 aE,int i64 aJ,slice aC aB aD])]) m'_1 [] R_2∧ZaJ
 (shT) R_2∧∀(n n_1 n_2 n_3 n_4 n_5 n_6:Int)(a:Option Addr)(n_7 c:Nat)(m':Mem),Mem.le m'_1 m'→R_2 (agg (Array.mk [int u8 n,int u64 n_1,int u64 n_2,int u64 n_3,int u64 n_4,int i64 n_5,int i64 n_6,
 slice a n_7 c])) m' []→∃(m'':Mem),Mem.le m m''∧Mem.le m'' m'∧R (agg (Array.mk [int u8 n,int u64 n_1,int u64 n_2,int u64 n_3,int u64 n_4,int i64 n_5,int i64 n_6,slice a n_7 c])) m'' [])
theorem Zkx(aF aG aH aI aA aE aJ:Int)(aC:Option Addr)(aB aD:Nat)(m:Mem)(R:RT)(h:ZgO aF aG aH aI aA aE aJ aC aB aD m R):CX Try.prog 86 #[.agg #[.int .u8 aF,.int .u64 aG,.int .u64 aH,.int .u64 aI,.int .u64 aA,.int .i64 aE,.int .i64 aJ,.slice aC aB aD]] m [] R:=
 Zal (E:=Zl8) ZaC mix Try.func86 [.v (.agg #[.int .u8 aF,.int .u64 aG,.int .u64 aH,.int .u64 aI,.int .u64 aA,.int .i64 aE,.int .i64 aJ,.slice aC aB aD])] [] (by kernel_rfl) (Eq.mp (by kernel_rfl) h)
noncomputable def ZrG:Env:={ EB with
 loops:=(fun i=>bif Nat.beq i 3 then⟨[(7,.slice),(12,.int .i64)],[],[(28,8)],false⟩ else⟨[],[],[],false⟩)
 tokOf:=(fun i=>bif Nat.beq i 21 then 28 else bif Nat.beq i 28 then 28 else 0) }
def Zlu(p0 p1:Int)(p2a:Option Addr)(p2n p2c:Nat)(m:Mem)(R:RT):Prop:=
 ∃(I:IT),(∃(n:Nat),I [slice none 0 0,int i64 0] [] [slice none 0 0] m n)∧∀(a:Option Addr)(n c:Nat)(n_1:Int)(a_1:Option Addr)(n_2 c_1:Nat)(m':Mem)(n_3:Nat),Mem.le m m'→I [slice a n c,
 int i64 n_1] [] [slice a_1 n_2 c_1] m' n_3→br (decide (n_1 < (↑p2n:Int))) (∃(b:Nat),∃(o:Nat),p2a=some (Addr.mk b o none)∧Zaf n_1 p2n∧∃(v:Value),∃(v_1:Value),∃(v_2:Value),∃(v_3:
 Value),∃(v_4:Value),∃(v_5:Value),∃(v_6:Value),∃(v_7:Value),Mem.reads m' b (o+Int.toNat n_1*8) [v,v_1,v_2,v_3,v_4,v_5,v_6,v_7]∧∀(b:Nat),chk (Value.oneCell' v&&(Value.oneCell' v_1 &&
 (Value.oneCell' v_2&&(Value.oneCell' v_3&&(Value.oneCell' v_4&&(Value.oneCell' v_5&&(Value.oneCell' v_6&&(Value.oneCell' v_7&&true)))))))) (chk (Zbn u8 v&&decide (u8=u8)) (br (RowKit.intOf v == p0)
 (chk (Zfq v_7&&true) ((Tok.mk (slice a_1 n_2 c_1) 8=Tok.mk (slice a n c) 8∨slice a n c=slice none 0 0∨c < n+slN v_7)∧∃(xs:List Value),∃(ys:List Value),List.length xs=n*8∧List.length ys=slN
 v_7*8∧rowRd m' a xs∧rowRd m' (slA v_7) ys∧(∀(u:Value),u∈ys→Value.oneCell' u=true)∧(n+slN v_7)*80≤140737488355328∧n+slN v_7≤9223372036854775807∧∀(a':Option Addr)(c':Nat) (m'_1:
 Mem),Mem.le m' m'_1→rowRd m'_1 a' (List.append xs ys)→∃(n':Nat),n' < n_3∧I [slice a' (n+slN v_7) c',int i64 (IntKind.wrap i64 (n_1+(1:Int)))] [] [slice a' (n+slN v_7) c'] m'_1 n')) (chk (Zbn u8 v
 && decide (u8=u8)) (br (RowKit.intOf v == p1) (∃(n':Nat),n' < n_3∧I [slice a n c,int i64 (IntKind.wrap i64 (n_1+(1:Int)))] [] [slice a_1 n_2 c_1] m' n') (∀(b:Nat),Mem.free m' b→(Tok.mk (slice a_1 n_2
 c_1) 8=Tok.mk (slice a n c) 8∨slice a n c=slice none 0 0∨c < n+1)∧∃(xs:List Value),∃(ys:List Value),List.length xs=n*8∧List.length ys=1*8∧rowRd (Mem.add m' b [v,v_1,v_2,v_3,v_4,v_5,
 v_6,v_7]) a xs∧rowRd (Mem.add m' b [v,v_1,v_2,v_3,v_4,v_5,v_6,v_7]) (some (Addr.mk b 0 none)) ys∧(∀(u:Value),u∈ys→Value.oneCell' u=true)∧(n+1)*80≤140737488355328∧n+1 ≤
 9223372036854775807∧∀(a':Option Addr)(c':Nat)(m'_1:Mem),Mem.le (Mem.add m' b [v,v_1,v_2,v_3,v_4,v_5,v_6,v_7]) m'_1→rowRd m'_1 a' (List.append xs ys)→∃(n':Nat),n' < n_3∧I [slice a' (n+1)
 c',int i64 (IntKind.wrap i64 (n_1+(1:Int)))] [] [slice a' (n+1) c'] m'_1 n')))))) (∃(m'':Mem),Mem.le m m''∧Mem.le m'' m'∧R (slice a n c) m'' [])
theorem Zpo(p0 p1:Int)(p2a:Option Addr)(p2n p2c:Nat)(m:Mem)(R:RT)(h:Zlu p0 p1 p2a p2n p2c m R):CX Try.prog 74 #[.int .u8 p0,.int .u8 p1,.slice p2a p2n p2c] m [] R:=
 Zal (E:=ZrG) ZaC mix Try.func74 [.v (.int .u8 p0),.v (.int .u8 p1),.v (.slice p2a p2n p2c)] [] (by kernel_rfl) (Eq.mp (by kernel_rfl) h)
noncomputable def Zn4:Env:={ EB with
 frzNew:=[5] }
def ZhQ(p0:Int)(p1a:Option Addr)(p1n p1c:Nat)(bU bV bW bX bY bZ cA:Int)(bQ:Option Addr)(bR bS:Nat)(m:Mem)(R:RT):Prop:=
 ∀(b:Nat)(m':Mem),Mem.le m m'→Mem.reads m' b 0 [int u8 bU,int u64 bV,int u64 bW,int u64 bX,int u64 bY,int i64 bZ,int i64 cA,slice bQ bR bS]→∀(b:Nat),br ((↑p1n:Int) == (0:
 Int)) (∃(m'':Mem),Mem.le m m''∧Mem.le m'' m'∧R (agg (Array.mk [int u8 bU,int u64 bV,int u64 bW,int u64 bX,int u64 bY,int i64 bZ,int i64 cA,slice bQ bR bS])) m'' []) (br ((↑p1n:
 Int) == (1:Int)) (∃(b:Nat),∃(o:Nat),p1a=some (Addr.mk b o none)∧Zaf (0:Int) p1n∧∃(v:Value),∃(v_1:Value),∃(v_2:Value),∃(v_3:Value),∃(v_4:Value),∃(v_5:Value),∃(v_6:Value),
 ∃(v_7:Value),Mem.reads m' b (o+0) [v,v_1,v_2,v_3,v_4,v_5,v_6,v_7]∧∃(R_1:RT),True∧CX Try.prog 86 (Array.mk [agg (Array.mk [v,v_1,v_2,v_3,v_4,v_5,v_6,v_7])]) m' [] R_1∧ZaJ (shT) R_1∧∀(n
 n_1 n_2 n_3 n_4 n_5 n_6:Int) (a:Option Addr) (n_7 c:Nat) (m'_1:Mem),Mem.le m' m'_1→R_1 (agg (Array.mk [int u8 n,int u64 n_1,int u64 n_2,int u64 n_3,int u64 n_4,int i64 n_5,int i64 n_6,slice a n_7 c]))
 m'_1 []→∃(m'':Mem),Mem.le m m''∧Mem.le m'' m'_1∧R (agg (Array.mk [int u8 n,int u64 n_1,int u64 n_2,int u64 n_3,int u64 n_4,int i64 n_5,int i64 n_6,slice a n_7 c])) m'' []) (∃(R_1:RT),True∧CX
 Try.prog 86 (Array.mk [agg (Array.mk [int u8 p0,int u64 0,int u64 0,int u64 0,int u64 0,int i64 0,int i64 0,slice p1a p1n p1c])]) m' [] R_1∧ZaJ (shT) R_1∧∀(n n_1 n_2 n_3 n_4 n_5 n_6:Int)(a:Option Addr)
 (n_7 c:Nat) (m'_1:Mem),Mem.le m' m'_1→R_1 (agg (Array.mk [int u8 n,int u64 n_1,int u64 n_2,int u64 n_3,int u64 n_4,int i64 n_5,int i64 n_6,slice a n_7 c])) m'_1 []→∃(m'':Mem),Mem.le m m''∧Mem.le
 m'' m'_1∧R (agg (Array.mk [int u8 n,int u64 n_1,int u64 n_2,int u64 n_3,int u64 n_4,int i64 n_5,int i64 n_6,slice a n_7 c])) m'' []))
theorem Zl9(p0:Int)(p1a:Option Addr)(p1n p1c:Nat)(bU bV bW bX bY bZ cA:Int)(bQ:Option Addr)(bR bS:Nat)(m:Mem)(R:RT)(h:ZhQ p0 p1a p1n p1c bU bV bW bX bY bZ cA bQ bR bS m R):CX Try.prog 73 #[.int .u8 p0,.slice p1a p1n p1c,.agg #[.int .u8 bU,.int .u64 bV,.int .u64 bW,.int .u64 bX,.int .u64 bY,.int .i64 bZ,.int .i64 cA,.slice bQ bR bS]] m [] R:=
 Zal (E:=Zn4) ZaC mix Try.func73 [.v (.int .u8 p0),.v (.slice p1a p1n p1c),.v (.agg #[.int .u8 bU,.int .u64 bV,.int .u64 bW,.int .u64 bX,.int .u64 bY,.int .i64 bZ,.int .i64 cA,.slice bQ bR bS])] [] (by kernel_rfl) (Eq.mp (by kernel_rfl) h)
noncomputable def Zto:Env:={ EB with
 loops:=(fun i=>bif Nat.beq i 2 then⟨[(7,.int .i64)],[2],[],false⟩ else⟨[],[],[],false⟩)
 joins:=(fun i=>bif Nat.beq i 4 then some [(18,.bool)]else none) }
def Zn5(p0a:Option Addr)(p0n p0c:Nat)(m:Mem)(R:RT):Prop:=
 ∀(b:Nat),∃(I:IT),(∃(n:Nat),I [int i64 0] [[int u8 0,int u64 0,int u64 0,int u64 0,int u64 0,int i64 0,int i64 0,slice none 0 0]] [] m n)∧∀(n:Int)(cs:List Value)(m':Mem)(ak:Nat),Mem.le m
 m'→I [int i64 n] [cs] [] m' ak→br (decide (n < (↑p0n:Int))) (∃(al:Nat),∃(o:Nat),p0a=some (Addr.mk al o none)∧Zaf n p0n∧∃(v:Value),∃(aa:Value),∃(ab:Value),∃(ac:Value),∃(ad:
 Value),∃(ae:Value),∃(af:Value),∃(ag:Value),Mem.reads m' al (o+Int.toNat n*8) [v,aa,ab,ac,ad,ae,af,ag]∧∀(ai:Nat),chk (Value.oneCell' v&&(Value.oneCell' aa&&(Value.oneCell' ab &&
 (Value.oneCell' ac&&(Value.oneCell' ad&&(Value.oneCell' ae&&(Value.oneCell' af&&(Value.oneCell' ag&&true)))))))) (∃(aj:Bool),chk (Zbn u8 v&&decide (u8=u8)) (br (RowKit.intOf v == (0:Int)) ([some
 (Box.mk ai [v,aa,ab,ac,ad,ae,af,ag] 41 8 false true),some (Box.mk b cs 41 8 false true)]=[some (Box.mk ai [v,aa,ab,ac,ad,ae,af,ag] 41 8 false true),some (Box.mk b cs 41 8 false true)]∧[Value.bool
 true]=[Value.bool aj]) (∃(R:RT),True∧CX Try.prog 59 (Array.mk [agg (Array.mk [v,aa,ab,ac,ad,ae,af,ag])]) m' [] R∧ZaJ Shape.bool R∧∀(am:Bool)(ah:Mem),Mem.le m' ah→R (Value.bool am) ah []→
 [some (Box.mk ai [v,aa,ab,ac,ad,ae,af,ag] 41 8 false true),some (Box.mk b cs 41 8 false true)]=[some (Box.mk ai [v,aa,ab,ac,ad,ae,af,ag] 41 8 false true),some (Box.mk b cs 41 8 false true)]∧
 [Value.bool !am]=[Value.bool aj]))∧br aj (∃(m'':Mem),Mem.le m m''∧Mem.le m'' m'∧R (agg (Array.mk [int u8 0,int u64 0,int u64 0,int u64 0,int u64 0,int i64 0,int i64 0,slice none 0 0])) m'' []) ([some
 (Box.mk b [] 41 8 false true)]=[some (Box.mk b [] 41 8 false true)]∧∃(n':Nat),n' < ak∧I [int i64 (IntKind.wrap i64 (n+(1:Int)))] [cs] [] m' n'))) (∃(R_1:RT),True∧CX Try.prog 74 (Array.mk [int u8 3,
 int u8 1,slice p0a p0n p0c]) m' [] R_1∧ZaJ Shape.slice R_1∧∀(a:Option Addr)(n c:Nat)(ah:Mem),Mem.le m' ah→R_1 (slice a n c) ah []→∃(R_2:RT),True∧CX Try.prog 73 (Array.mk [int u8 3,slice a n c,
 agg (Array.mk [int u8 1,int u64 0,int u64 0,int u64 0,int u64 0,int i64 0,int i64 0,slice none 0 0])]) ah [] R_2∧ZaJ (shT) R_2∧∀(n an ao ap aq ar au:Int)(a:Option Addr)(av c:Nat)(m':Mem),Mem.le
 ah m'→R_2 (agg (Array.mk [int u8 n,int u64 an,int u64 ao,int u64 ap,int u64 aq,int i64 ar,int i64 au,slice a av c])) m' []→∃(m'':Mem),Mem.le m m''∧Mem.le m'' m'∧R (agg (Array.mk [int u8 n,int u64 an,
 int u64 ao,int u64 ap,int u64 aq,int i64 ar,int i64 au,slice a av c])) m'' [])
theorem ZrH(p0a:Option Addr)(p0n p0c:Nat)(m:Mem)(R:RT)(h:Zn5 p0a p0n p0c m R):CX Try.prog 24 #[.slice p0a p0n p0c] m [] R:=
 Zal (E:=Zto) ZaC mix Try.func24 [.v (.slice p0a p0n p0c)] [] (by kernel_rfl) (Eq.mp (by kernel_rfl) h)
end Go.Proofs.Ytplacemlpkhmfaa

