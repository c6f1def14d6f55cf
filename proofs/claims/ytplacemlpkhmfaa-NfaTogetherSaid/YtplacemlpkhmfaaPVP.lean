/- Part of the proof: conditions and contracts of functions of this program. No condition of its own. -/
import Derived.Test.YtplacemlpkhmfaaPEnv
set_option linter.unusedVariables false
namespace Go.Proofs.Ytplacemlpkhmfaa
open Go Go.Eng Go.Proofs Go.RowKit
open Go.Value (int slice agg)
open Go.IntKind (u8 u64 i64)
set_option maxRecDepth 100000
noncomputable def ZsH:Env:={ EB with
 joins:=(fun i=>bif Nat.beq i 1 then some [(2,.bool)]else none)
 frzNew:=[1] }
def Zl5(aG aK aI aJ aC aE aH:Int)(aB:Option Addr)(aA aD:Nat)(m:Mem)(R:RT):Prop:=
 ∀(b:Nat)(m':Mem),Mem.le m m'→Mem.reads m' b 0 [int u8 aG,int u64 aK,int u64 aI,int u64 aJ,int u64 aC,int i64 aE,int i64 aH,slice aB aA aD]→∃(b_1:Bool),(∃(R:RT),True∧CX
 Try.prog 106 (Array.mk [agg (Array.mk [int u8 aG,int u64 aK,int u64 aI,int u64 aJ,int u64 aC,int i64 aE,int i64 aH,slice aB aA aD]),agg (Array.mk [int u8 0,int u64 0,int u64 0,int u64
 0,int u64 0,int i64 0,int i64 0,slice none 0 0])]) m' [] R∧ZaH Shape.bool R∧∀(b_2:Bool)(m'_1:Mem),Mem.le m' m'_1→R (Value.bool b_2) m'_1 []→br b_2 ([some (Box.mk b [int u8 aG,int u64 aK,int u64
 aI,int u64 aJ,int u64 aC,int i64 aE,int i64 aH,slice aB aA aD] 41 8 true true)]=[some (Box.mk b [int u8 aG,int u64 aK,int u64 aI,int u64 aJ,int u64 aC,int i64 aE,int i64 aH,
 slice aB aA aD] 41 8 true true)]∧[Value.bool true]=[Value.bool b_1]) (∃(R:RT),True∧CX Try.prog 59 (Array.mk [agg (Array.mk [int u8 aG,int u64 aK,int u64 aI,int u64 aJ,int u64 aC,int i64
 aE,int i64 aH,slice aB aA aD])]) m'_1 [] R∧ZaH Shape.bool R∧∀(b_3:Bool)(m':Mem),Mem.le m'_1 m'→R (Value.bool b_3) m' []→[some (Box.mk b [int u8 aG,int u64 aK,int u64 aI,int u64
 aJ,int u64 aC,int i64 aE,int i64 aH,slice aB aA aD] 41 8 true true)]=[some (Box.mk b [int u8 aG,int u64 aK,int u64 aI,int u64 aJ,int u64 aC,int i64 aE,int i64 aH,slice aB
 aA aD] 41 8 true true)]∧[Value.bool b_3]=[Value.bool b_1]))∧∃(m'':Mem),Mem.le m m''∧Mem.le m'' m'∧R (Value.bool b_1) m'' []
theorem Zqj(aG aK aI aJ aC aE aH:Int)(aB:Option Addr)(aA aD:Nat)(m:Mem)(R:RT)(h:Zl5 aG aK aI aJ aC aE aH aB aA aD m R):CX Try.prog 83 #[.agg #[.int .u8 aG,.int .u64 aK,.int .u64 aI,.int .u64 aJ,.int .u64 aC,.int .i64 aE,.int .i64 aH,.slice aB aA aD]] m [] R:=
 Zaj (E:=ZsH) ZaE mix Try.func83 [.v (.agg #[.int .u8 aG,.int .u64 aK,.int .u64 aI,.int .u64 aJ,.int .u64 aC,.int .i64 aE,.int .i64 aH,.slice aB aA aD])] [] (by kernel_rfl) (Eq.mp (by kernel_rfl) h)
noncomputable def ZmK:Env:={ EB with
 frzNew:=[1] }
def Zhd(aG aK aI aJ aC aE aH:Int)(aB:Option Addr)(aA aD:Nat)(m:Mem)(R:RT):Prop:=
 ∀(b:Nat)(m':Mem),Mem.le m m'→Mem.reads m' b 0 [int u8 aG,int u64 aK,int u64 aI,int u64 aJ,int u64 aC,int i64 aE,int i64 aH,slice aB aA aD]→∀(b:Nat),∃(R_1:RT),True∧CX
 Try.prog 59 (Array.mk [agg (Array.mk [int u8 aG,int u64 aK,int u64 aI,int u64 aJ,int u64 aC,int i64 aE,int i64 aH,slice aB aA aD])]) m' [] R_1∧ZaH Shape.bool R_1∧∀(b:Bool) (m'_1:
 Mem),Mem.le m' m'_1→R_1 (Value.bool b) m'_1 []→br (!b) (∃(m'':Mem),Mem.le m m''∧Mem.le m'' m'_1∧R (agg (Array.mk [int u8 0,int u64 0,int u64 0,int u64 0,int u64 0,int i64 0,int i64 0,slice none 0
 0])) m'' []) (∃(R_2:RT),True∧CX Try.prog 85 (Array.mk [agg (Array.mk [int u8 aG,int u64 aK,int u64 aI,int u64 aJ,int u64 aC,int i64 aE,int i64 aH,slice aB aA aD])]) m'_1 [] R_2∧ZaH
 (shT) R_2∧∀(n n_1 n_2 n_3 n_4 n_5 n_6:Int)(a:Option Addr)(n_7 c:Nat)(m':Mem),Mem.le m'_1 m'→R_2 (agg (Array.mk [int u8 n,int u64 n_1,int u64 n_2,int u64 n_3,int u64 n_4,int i64 n_5,int i64 n_6,
 slice a n_7 c])) m' []→∃(m'':Mem),Mem.le m m''∧Mem.le m'' m'∧R (agg (Array.mk [int u8 n,int u64 n_1,int u64 n_2,int u64 n_3,int u64 n_4,int i64 n_5,int i64 n_6,slice a n_7 c])) m'' [])
theorem Zlb(aG aK aI aJ aC aE aH:Int)(aB:Option Addr)(aA aD:Nat)(m:Mem)(R:RT)(h:Zhd aG aK aI aJ aC aE aH aB aA aD m R):CX Try.prog 86 #[.agg #[.int .u8 aG,.int .u64 aK,.int .u64 aI,.int .u64 aJ,.int .u64 aC,.int .i64 aE,.int .i64 aH,.slice aB aA aD]] m [] R:=
 Zaj (E:=ZmK) ZaE mix Try.func86 [.v (.agg #[.int .u8 aG,.int .u64 aK,.int .u64 aI,.int .u64 aJ,.int .u64 aC,.int .i64 aE,.int .i64 aH,.slice aB aA aD])] [] (by kernel_rfl) (Eq.mp (by kernel_rfl) h)
noncomputable def ZsI:Env:={ EB with
 loops:=(fun i=>bif Nat.beq i 3 then⟨[(7,.slice),(12,.int .i64)],[],[(28,8)],false⟩ else⟨[],[],[],false⟩)
 tokOf:=(fun i=>bif Nat.beq i 21 then 28 else bif Nat.beq i 28 then 28 else 0) }
def Zl6(p0 p1:Int)(p2a:Option Addr)(p2n p2c:Nat)(m:Mem)(R:RT):Prop:=
 ∃(I:IT),(∃(n:Nat),I [slice none 0 0,int i64 0] [] [slice none 0 0] m n)∧∀(a:Option Addr)(n c:Nat)(n_1:Int)(a_1:Option Addr)(n_2 c_1:Nat)(m':Mem)(n_3:Nat),Mem.le m m'→I [slice a n c,
 int i64 n_1] [] [slice a_1 n_2 c_1] m' n_3→br (decide (n_1 < (↑p2n:Int))) (∃(b:Nat),∃(o:Nat),p2a=some (Addr.mk b o none)∧Zaf n_1 p2n∧∃(v:Value),∃(v_1:Value),∃(v_2:Value),∃(v_3:
 Value),∃(v_4:Value),∃(v_5:Value),∃(v_6:Value),∃(v_7:Value),Mem.reads m' b (o+Int.toNat n_1*8) [v,v_1,v_2,v_3,v_4,v_5,v_6,v_7]∧∀(b:Nat),chk (Value.oneCell' v&&(Value.oneCell' v_1 &&
 (Value.oneCell' v_2&&(Value.oneCell' v_3&&(Value.oneCell' v_4&&(Value.oneCell' v_5&&(Value.oneCell' v_6&&(Value.oneCell' v_7&&true)))))))) (chk (ZbG u8 v&&decide (u8=u8)) (br (RowKit.intOf v == p0)
 (chk (Ze3 v_7&&true) ((Tok.mk (slice a_1 n_2 c_1) 8=Tok.mk (slice a n c) 8∨slice a n c=slice none 0 0∨c < n+slN v_7)∧∃(xs:List Value),∃(ys:List Value),List.length xs=n*8∧List.length ys=slN
 v_7*8∧rowRd m' a xs∧rowRd m' (slA v_7) ys∧(∀(u:Value),u∈ys→Value.oneCell' u=true)∧(n+slN v_7)*80≤140737488355328∧n+slN v_7≤9223372036854775807∧∀(a':Option Addr)(c':Nat) (m'_1:
 Mem),Mem.le m' m'_1→rowRd m'_1 a' (List.append xs ys)→∃(n':Nat),n' < n_3∧I [slice a' (n+slN v_7) c',int i64 (IntKind.wrap i64 (n_1+(1:Int)))] [] [slice a' (n+slN v_7) c'] m'_1 n')) (chk (ZbG u8 v
 && decide (u8=u8)) (br (RowKit.intOf v == p1) (∃(n':Nat),n' < n_3∧I [slice a n c,int i64 (IntKind.wrap i64 (n_1+(1:Int)))] [] [slice a_1 n_2 c_1] m' n') (∀(b:Nat),Mem.free m' b→(Tok.mk (slice a_1 n_2
 c_1) 8=Tok.mk (slice a n c) 8∨slice a n c=slice none 0 0∨c < n+1)∧∃(xs:List Value),∃(ys:List Value),List.length xs=n*8∧List.length ys=1*8∧rowRd (Mem.add m' b [v,v_1,v_2,v_3,v_4,v_5,
 v_6,v_7]) a xs∧rowRd (Mem.add m' b [v,v_1,v_2,v_3,v_4,v_5,v_6,v_7]) (some (Addr.mk b 0 none)) ys∧(∀(u:Value),u∈ys→Value.oneCell' u=true)∧(n+1)*80≤140737488355328∧n+1 ≤
 9223372036854775807∧∀(a':Option Addr)(c':Nat)(m'_1:Mem),Mem.le (Mem.add m' b [v,v_1,v_2,v_3,v_4,v_5,v_6,v_7]) m'_1→rowRd m'_1 a' (List.append xs ys)→∃(n':Nat),n' < n_3∧I [slice a' (n+1)
 c',int i64 (IntKind.wrap i64 (n_1+(1:Int)))] [] [slice a' (n+1) c'] m'_1 n')))))) (∃(m'':Mem),Mem.le m m''∧Mem.le m'' m'∧R (slice a n c) m'' [])
theorem Zqk(p0 p1:Int)(p2a:Option Addr)(p2n p2c:Nat)(m:Mem)(R:RT)(h:Zl6 p0 p1 p2a p2n p2c m R):CX Try.prog 74 #[.int .u8 p0,.int .u8 p1,.slice p2a p2n p2c] m [] R:=
 Zaj (E:=ZsI) ZaE mix Try.func74 [.v (.int .u8 p0),.v (.int .u8 p1),.v (.slice p2a p2n p2c)] [] (by kernel_rfl) (Eq.mp (by kernel_rfl) h)
noncomputable def Zo4:Env:={ EB with
 frzNew:=[5] }
def Zis(p0:Int)(p1a:Option Addr)(p1n p1c:Nat)(bX bY bZ cA cB cC cD:Int)(bS:Option Addr)(bT bU:Nat)(m:Mem)(R:RT):Prop:=
 ∀(b:Nat)(m':Mem),Mem.le m m'→Mem.reads m' b 0 [int u8 bX,int u64 bY,int u64 bZ,int u64 cA,int u64 cB,int i64 cC,int i64 cD,slice bS bT bU]→∀(b:Nat),br ((↑p1n:Int) == (0:
 Int)) (∃(m'':Mem),Mem.le m m''∧Mem.le m'' m'∧R (agg (Array.mk [int u8 bX,int u64 bY,int u64 bZ,int u64 cA,int u64 cB,int i64 cC,int i64 cD,slice bS bT bU])) m'' []) (br ((↑p1n:
 Int) == (1:Int)) (∃(b:Nat),∃(o:Nat),p1a=some (Addr.mk b o none)∧Zaf (0:Int) p1n∧∃(v:Value),∃(v_1:Value),∃(v_2:Value),∃(v_3:Value),∃(v_4:Value),∃(v_5:Value),∃(v_6:Value),
 ∃(v_7:Value),Mem.reads m' b (o+0) [v,v_1,v_2,v_3,v_4,v_5,v_6,v_7]∧∃(R_1:RT),True∧CX Try.prog 86 (Array.mk [agg (Array.mk [v,v_1,v_2,v_3,v_4,v_5,v_6,v_7])]) m' [] R_1∧ZaH (shT) R_1∧∀(n
 n_1 n_2 n_3 n_4 n_5 n_6:Int) (a:Option Addr) (n_7 c:Nat) (m'_1:Mem),Mem.le m' m'_1→R_1 (agg (Array.mk [int u8 n,int u64 n_1,int u64 n_2,int u64 n_3,int u64 n_4,int i64 n_5,int i64 n_6,slice a n_7 c]))
 m'_1 []→∃(m'':Mem),Mem.le m m''∧Mem.le m'' m'_1∧R (agg (Array.mk [int u8 n,int u64 n_1,int u64 n_2,int u64 n_3,int u64 n_4,int i64 n_5,int i64 n_6,slice a n_7 c])) m'' []) (∃(R_1:RT),True∧CX
 Try.prog 86 (Array.mk [agg (Array.mk [int u8 p0,int u64 0,int u64 0,int u64 0,int u64 0,int i64 0,int i64 0,slice p1a p1n p1c])]) m' [] R_1∧ZaH (shT) R_1∧∀(n n_1 n_2 n_3 n_4 n_5 n_6:Int)(a:Option Addr)
 (n_7 c:Nat) (m'_1:Mem),Mem.le m' m'_1→R_1 (agg (Array.mk [int u8 n,int u64 n_1,int u64 n_2,int u64 n_3,int u64 n_4,int i64 n_5,int i64 n_6,slice a n_7 c])) m'_1 []→∃(m'':Mem),Mem.le m m''∧Mem.le
 m'' m'_1∧R (agg (Array.mk [int u8 n,int u64 n_1,int u64 n_2,int u64 n_3,int u64 n_4,int i64 n_5,int i64 n_6,slice a n_7 c])) m'' []))
theorem ZmL(p0:Int)(p1a:Option Addr)(p1n p1c:Nat)(bX bY bZ cA cB cC cD:Int)(bS:Option Addr)(bT bU:Nat)(m:Mem)(R:RT)(h:Zis p0 p1a p1n p1c bX bY bZ cA cB cC cD bS bT bU m R):CX Try.prog 73 #[.int .u8 p0,.slice p1a p1n p1c,.agg #[.int .u8 bX,.int .u64 bY,.int .u64 bZ,.int .u64 cA,.int .u64 cB,.int .i64 cC,.int .i64 cD,.slice bS bT bU]] m [] R:=
 Zaj (E:=Zo4) ZaE mix Try.func73 [.v (.int .u8 p0),.v (.slice p1a p1n p1c),.v (.agg #[.int .u8 bX,.int .u64 bY,.int .u64 bZ,.int .u64 cA,.int .u64 cB,.int .i64 cC,.int .i64 cD,.slice bS bT bU])] [] (by kernel_rfl) (Eq.mp (by kernel_rfl) h)
noncomputable def ZvF:Env:={ EB with
 loops:=(fun i=>bif Nat.beq i 2 then⟨[(7,.int .i64)],[2],[],false⟩ else⟨[],[],[],false⟩) }
def Zrm(p0a:Option Addr)(p0n p0c:Nat)(m:Mem)(R:RT):Prop:=
 ∀(b:Nat),∃(I:IT),(∃(n:Nat),I [int i64 0] [[int u8 0,int u64 0,int u64 0,int u64 0,int u64 0,int i64 0,int i64 0,slice none 0 0]] [] m n)∧∀(n:Int)(cs:List Value)(m':Mem)(n_1:Nat),Mem.le
 m m'→I [int i64 n] [cs] [] m' n_1→br (decide (n < (↑p0n:Int))) (∃(b_1:Nat),∃(o:Nat),p0a=some (Addr.mk b_1 o none)∧Zaf n p0n∧∃(v:Value),∃(v_1:Value),∃(v_2:Value),∃(v_3:Value),∃
 (v_4:Value),∃(v_5:Value),∃(v_6:Value),∃(v_7:Value),Mem.reads m' b_1 (o+Int.toNat n*8) [v,v_1,v_2,v_3,v_4,v_5,v_6,v_7]∧∀(b_2:Nat),chk (Value.oneCell' v&&(Value.oneCell' v_1 &&
 (Value.oneCell' v_2&&(Value.oneCell' v_3&&(Value.oneCell' v_4&&(Value.oneCell' v_5&&(Value.oneCell' v_6&&(Value.oneCell' v_7&&true)))))))) (∃(R_1:RT),True∧CX Try.prog 83 (Array.mk [agg (Array.mk [v,
 v_1,v_2,v_3,v_4,v_5,v_6,v_7])]) m' [] R_1∧ZaH Shape.bool R_1∧∀(b_3:Bool)(m'_1:Mem),Mem.le m' m'_1→R_1 (Value.bool b_3) m'_1 []→br (!b_3) (∃(m'':Mem),Mem.le m m''∧Mem.le m'' m'_1∧R (agg
 (Array.mk [int u8 0,int u64 0,int u64 0,int u64 0,int u64 0,int i64 0,int i64 0,slice none 0 0])) m'' []) ([some (Box.mk b [] 41 8 false true)]=[some (Box.mk b [] 41 8 false true)]∧∃(n':Nat),n' < n_1∧I
 [int i64 (IntKind.wrap i64 (n+(1:Int)))] [cs] [] m'_1 n'))) (∃(R_1:RT),True∧CX Try.prog 74 (Array.mk [int u8 4,int u8 0,slice p0a p0n p0c]) m' [] R_1∧ZaH Shape.slice R_1∧∀(a:Option Addr)(n c:Nat)
 (m'_1:Mem),Mem.le m' m'_1→R_1 (slice a n c) m'_1 []→∃(R_2:RT),True∧CX Try.prog 73 (Array.mk [int u8 4,slice a n c,agg (Array.mk [int u8 0,int u64 0,int u64 0,int u64 0,int u64 0,int i64 0,int i64 0,
 slice none 0 0])]) m'_1 [] R_2∧ZaH (shT) R_2∧∀(n n_2 n_3 n_4 n_5 n_6 n_7:Int)(a:Option Addr)(n_8 c:Nat)(m':Mem),Mem.le m'_1 m'→R_2 (agg (Array.mk [int u8 n,int u64 n_2,int u64 n_3,int u64 n_4,int
 u64 n_5,int i64 n_6,int i64 n_7,slice a n_8 c])) m' []→∃(m'':Mem),Mem.le m m''∧Mem.le m'' m'∧R (agg (Array.mk [int u8 n,int u64 n_2,int u64 n_3,int u64 n_4,int u64 n_5,int i64 n_6,int i64 n_7,slice a
 n_8 c])) m'' [])
theorem Zuk(p0a:Option Addr)(p0n p0c:Nat)(m:Mem)(R:RT)(h:Zrm p0a p0n p0c m R):CX Try.prog 32 #[.slice p0a p0n p0c] m [] R:=
 Zaj (E:=ZvF) ZaE mix Try.func32 [.v (.slice p0a p0n p0c)] [] (by kernel_rfl) (Eq.mp (by kernel_rfl) h)
noncomputable def Zul:Env:={ EB with
 loops:=(fun i=>bif Nat.beq i 2 then⟨[(7,.int .i64)],[2],[],false⟩ else⟨[],[],[],false⟩)
 joins:=(fun i=>bif Nat.beq i 4 then some [(18,.bool)]else none) }
def Zo5(p0a:Option Addr)(p0n p0c:Nat)(m:Mem)(R:RT):Prop:=
 ∀(b:Nat),∃(I:IT),(∃(n:Nat),I [int i64 0] [[int u8 0,int u64 0,int u64 0,int u64 0,int u64 0,int i64 0,int i64 0,slice none 0 0]] [] m n)∧∀(n:Int)(cs:List Value)(m':Mem)(ak:Nat),Mem.le m
 m'→I [int i64 n] [cs] [] m' ak→br (decide (n < (↑p0n:Int))) (∃(al:Nat),∃(o:Nat),p0a=some (Addr.mk al o none)∧Zaf n p0n∧∃(v:Value),∃(aa:Value),∃(ab:Value),∃(ac:Value),∃(ad:
 Value),∃(ae:Value),∃(af:Value),∃(ag:Value),Mem.reads m' al (o+Int.toNat n*8) [v,aa,ab,ac,ad,ae,af,ag]∧∀(ai:Nat),chk (Value.oneCell' v&&(Value.oneCell' aa&&(Value.oneCell' ab &&
 (Value.oneCell' ac&&(Value.oneCell' ad&&(Value.oneCell' ae&&(Value.oneCell' af&&(Value.oneCell' ag&&true)))))))) (∃(aj:Bool),chk (ZbG u8 v&&decide (u8=u8)) (br (RowKit.intOf v == (0:Int)) ([some
 (Box.mk ai [v,aa,ab,ac,ad,ae,af,ag] 41 8 false true),some (Box.mk b cs 41 8 false true)]=[some (Box.mk ai [v,aa,ab,ac,ad,ae,af,ag] 41 8 false true),some (Box.mk b cs 41 8 false true)]∧[Value.bool
 true]=[Value.bool aj]) (∃(R:RT),True∧CX Try.prog 59 (Array.mk [agg (Array.mk [v,aa,ab,ac,ad,ae,af,ag])]) m' [] R∧ZaH Shape.bool R∧∀(am:Bool)(ah:Mem),Mem.le m' ah→R (Value.bool am) ah []→
 [some (Box.mk ai [v,aa,ab,ac,ad,ae,af,ag] 41 8 false true),some (Box.mk b cs 41 8 false true)]=[some (Box.mk ai [v,aa,ab,ac,ad,ae,af,ag] 41 8 false true),some (Box.mk b cs 41 8 false true)]∧
 [Value.bool !am]=[Value.bool aj]))∧br aj (∃(m'':Mem),Mem.le m m''∧Mem.le m'' m'∧R (agg (Array.mk [int u8 0,int u64 0,int u64 0,int u64 0,int u64 0,int i64 0,int i64 0,slice none 0 0])) m'' []) ([some
 (Box.mk b [] 41 8 false true)]=[some (Box.mk b [] 41 8 false true)]∧∃(n':Nat),n' < ak∧I [int i64 (IntKind.wrap i64 (n+(1:Int)))] [cs] [] m' n'))) (∃(R_1:RT),True∧CX Try.prog 74 (Array.mk [int u8 3,
 int u8 1,slice p0a p0n p0c]) m' [] R_1∧ZaH Shape.slice R_1∧∀(a:Option Addr)(n c:Nat)(ah:Mem),Mem.le m' ah→R_1 (slice a n c) ah []→∃(R_2:RT),True∧CX Try.prog 73 (Array.mk [int u8 3,slice a n c,
 agg (Array.mk [int u8 1,int u64 0,int u64 0,int u64 0,int u64 0,int i64 0,int i64 0,slice none 0 0])]) ah [] R_2∧ZaH (shT) R_2∧∀(n an ao ap aq ar au:Int)(a:Option Addr)(av c:Nat)(m':Mem),Mem.le
 ah m'→R_2 (agg (Array.mk [int u8 n,int u64 an,int u64 ao,int u64 ap,int u64 aq,int i64 ar,int i64 au,slice a av c])) m' []→∃(m'':Mem),Mem.le m m''∧Mem.le m'' m'∧R (agg (Array.mk [int u8 n,int u64 an,
 int u64 ao,int u64 ap,int u64 aq,int i64 ar,int i64 au,slice a av c])) m'' [])
theorem ZsJ(p0a:Option Addr)(p0n p0c:Nat)(m:Mem)(R:RT)(h:Zo5 p0a p0n p0c m R):CX Try.prog 24 #[.slice p0a p0n p0c] m [] R:=
 Zaj (E:=Zul) ZaE mix Try.func24 [.v (.slice p0a p0n p0c)] [] (by kernel_rfl) (Eq.mp (by kernel_rfl) h)
noncomputable def Zql:Env:={ EB with
 joins:=(fun i=>bif Nat.beq i 1 then some [(7,.bool),(8,.bool)]else bif Nat.beq i 2 then some [(21,.bool)]else bif Nat.beq i 4 then some [(40,.bool)]else bif Nat.beq i 6 then some [(49,.bool)]else none)
 frzNew:=[3] }
def Zka(aG aK aI aJ aC aE aH:Int)(aB:Option Addr)(aA aD:Nat)(p1 p2:Int)(m:Mem)(R:RT):Prop:=
 ∀(b:Nat)(m':Mem),Mem.le m m'→Mem.reads m' b 0 [int u8 aG,int u64 aK,int u64 aI,int u64 aJ,int u64 aC,int i64 aE,int i64 aH,slice aB aA aD]→∀(aa:Nat),∃(ad:Bool),∃(ae:
 Bool),br (p1 == (0:Int)) (br (p1 == (1:Int)) ([some (Box.mk aa [int u8 0,int u64 0,int u64 0,int u64 0,int u64 0,int i64 0,int i64 0,slice none 0 0] 41 8 false true),some (Box.mk b [int u8 aG,int u64
 aK,int u64 aI,int u64 aJ,int u64 aC,int i64 aE,int i64 aH,slice aB aA aD] 41 8 true true)]=[some (Box.mk aa [int u8 0,int u64 0,int u64 0,int u64 0,int u64 0,int i64 0,int i64 0,slice
 none 0 0] 41 8 false true),some (Box.mk b [int u8 aG,int u64 aK,int u64 aI,int u64 aJ,int u64 aC,int i64 aE,int i64 aH,slice aB aA aD] 41 8 true true)]∧[Value.bool (p2 == (0:Int)),
 Value.bool (p2 == (1:Int))]=[Value.bool ad,Value.bool ae]) ([some (Box.mk aa [int u8 0,int u64 0,int u64 0,int u64 0,int u64 0,int i64 0,int i64 0,slice none 0 0] 41 8 false true),some (Box.mk b [int u8
 aG,int u64 aK,int u64 aI,int u64 aJ,int u64 aC,int i64 aE,int i64 aH,slice aB aA aD] 41 8 true true)]=[some (Box.mk aa [int u8 0,int u64 0,int u64 0,int u64 0,int u64 0,int i64 0,
 int i64 0,slice none 0 0] 41 8 false true),some (Box.mk b [int u8 aG,int u64 aK,int u64 aI,int u64 aJ,int u64 aC,int i64 aE,int i64 aH,slice aB aA aD] 41 8 true true)]∧[Value.bool (p2
 == (0:Int)),Value.bool false]=[Value.bool ad,Value.bool ae])) (br (p1 == (1:Int)) ([some (Box.mk aa [int u8 0,int u64 0,int u64 0,int u64 0,int u64 0,int i64 0,int i64 0,slice none 0 0] 41 8 false true),
 some (Box.mk b [int u8 aG,int u64 aK,int u64 aI,int u64 aJ,int u64 aC,int i64 aE,int i64 aH,slice aB aA aD] 41 8 true true)]=[some (Box.mk aa [int u8 0,int u64 0,int u64 0,int u64 0,
 int u64 0,int i64 0,int i64 0,slice none 0 0] 41 8 false true),some (Box.mk b [int u8 aG,int u64 aK,int u64 aI,int u64 aJ,int u64 aC,int i64 aE,int i64 aH,slice aB aA aD] 41 8 true
 true)]∧[Value.bool false,Value.bool (p2 == (1:Int))]=[Value.bool ad,Value.bool ae]) ([some (Box.mk aa [int u8 0,int u64 0,int u64 0,int u64 0,int u64 0,int i64 0,int i64 0,slice none 0 0] 41 8 false
 true),some (Box.mk b [int u8 aG,int u64 aK,int u64 aI,int u64 aJ,int u64 aC,int i64 aE,int i64 aH,slice aB aA aD] 41 8 true true)]=[some (Box.mk aa [int u8 0,int u64 0,int u64 0,int
 u64 0,int u64 0,int i64 0,int i64 0,slice none 0 0] 41 8 false true),some (Box.mk b [int u8 aG,int u64 aK,int u64 aI,int u64 aJ,int u64 aC,int i64 aE,int i64 aH,slice aB aA aD] 41 8
 true true)]∧[Value.bool false,Value.bool false]=[Value.bool ad,Value.bool ae]))∧∃(ag:Bool),(∃(R:RT),True∧CX Try.prog 83 (Array.mk [agg (Array.mk [int u8 aG,int u64 aK,int u64 aI,int u64 aJ,
 int u64 aC,int i64 aE,int i64 aH,slice aB aA aD])]) m' [] R∧ZaH Shape.bool R∧∀(af:Bool)(ab:Mem),Mem.le m' ab→R (Value.bool af) ab []→br (!af) ([some (Box.mk aa [int u8 0,int u64 0,int
 u64 0,int u64 0,int u64 0,int i64 0,int i64 0,slice none 0 0] 41 8 false true),some (Box.mk b [int u8 aG,int u64 aK,int u64 aI,int u64 aJ,int u64 aC,int i64 aE,int i64 aH,slice aB aA
 aD] 41 8 true true)]=[some (Box.mk aa [int u8 0,int u64 0,int u64 0,int u64 0,int u64 0,int i64 0,int i64 0,slice none 0 0] 41 8 false true),some (Box.mk b [int u8 aG,int u64 aK,int u64 aI,int u64
 aJ,int u64 aC,int i64 aE,int i64 aH,slice aB aA aD] 41 8 true true)]∧[Value.bool true]=[Value.bool ag]) (br (!ad) (br (!ae) (∃(R:RT),True∧CX Try.prog 84 (Array.mk [int i64 p1,int i64 p2])
 ab [] R∧ZaH Shape.bool R∧∀(ac:Bool)(m':Mem),Mem.le ab m'→R (Value.bool ac) m' []→[some (Box.mk aa [int u8 0,int u64 0,int u64 0,int u64 0,int u64 0,int i64 0,int i64 0,slice none 0 0] 41 8 false
 true),some (Box.mk b [int u8 aG,int u64 aK,int u64 aI,int u64 aJ,int u64 aC,int i64 aE,int i64 aH,slice aB aA aD] 41 8 true true)]=[some (Box.mk aa [int u8 0,int u64 0,int u64 0,int
 u64 0,int u64 0,int i64 0,int i64 0,slice none 0 0] 41 8 false true),some (Box.mk b [int u8 aG,int u64 aK,int u64 aI,int u64 aJ,int u64 aC,int i64 aE,int i64 aH,slice aB aA aD] 41 8
 true true)]∧[Value.bool !ac]=[Value.bool ag]) ([some (Box.mk aa [int u8 0,int u64 0,int u64 0,int u64 0,int u64 0,int i64 0,int i64 0,slice none 0 0] 41 8 false true),some (Box.mk b [int u8 aG,int u64
 aK,int u64 aI,int u64 aJ,int u64 aC,int i64 aE,int i64 aH,slice aB aA aD] 41 8 true true)]=[some (Box.mk aa [int u8 0,int u64 0,int u64 0,int u64 0,int u64 0,int i64 0,int i64 0,slice
 none 0 0] 41 8 false true),some (Box.mk b [int u8 aG,int u64 aK,int u64 aI,int u64 aJ,int u64 aC,int i64 aE,int i64 aH,slice aB aA aD] 41 8 true true)]∧[Value.bool false]=[Value.bool
 ag])) ([some (Box.mk aa [int u8 0,int u64 0,int u64 0,int u64 0,int u64 0,int i64 0,int i64 0,slice none 0 0] 41 8 false true),some (Box.mk b [int u8 aG,int u64 aK,int u64 aI,int u64 aJ,int u64 aC,
 int i64 aE,int i64 aH,slice aB aA aD] 41 8 true true)]=[some (Box.mk aa [int u8 0,int u64 0,int u64 0,int u64 0,int u64 0,int i64 0,int i64 0,slice none 0 0] 41 8 false true),some (Box.mk b [int
 u8 aG,int u64 aK,int u64 aI,int u64 aJ,int u64 aC,int i64 aE,int i64 aH,slice aB aA aD] 41 8 true true)]∧[Value.bool false]=[Value.bool ag])))∧br ag (∃(m'':Mem),Mem.le m m''∧
 Mem.le m'' m'∧R (agg (Array.mk [int u8 0,int u64 0,int u64 0,int u64 0,int u64 0,int i64 0,int i64 0,slice none 0 0])) m'' []) (∃(af:Bool),br (aG == (0:Int)) ([some (Box.mk aa [int u8 0,int u64 0,int
 u64 0,int u64 0,int u64 0,int i64 0,int i64 0,slice none 0 0] 41 8 false true),some (Box.mk b [int u8 aG,int u64 aK,int u64 aI,int u64 aJ,int u64 aC,int i64 aE,int i64 aH,slice aB aA
 aD] 41 8 true true)]=[some (Box.mk aa [int u8 0,int u64 0,int u64 0,int u64 0,int u64 0,int i64 0,int i64 0,slice none 0 0] 41 8 false true),some (Box.mk b [int u8 aG,int u64 aK,int u64 aI,int u64
 aJ,int u64 aC,int i64 aE,int i64 aH,slice aB aA aD] 41 8 true true)]∧[Value.bool (decide (p1 > (0:Int)))]=[Value.bool af]) ([some (Box.mk aa [int u8 0,int u64 0,int u64 0,int u64 0,int u64
 0,int i64 0,int i64 0,slice none 0 0] 41 8 false true),some (Box.mk b [int u8 aG,int u64 aK,int u64 aI,int u64 aJ,int u64 aC,int i64 aE,int i64 aH,slice aB aA aD] 41 8 true true)] =
 [some (Box.mk aa [int u8 0,int u64 0,int u64 0,int u64 0,int u64 0,int i64 0,int i64 0,slice none 0 0] 41 8 false true),some (Box.mk b [int u8 aG,int u64 aK,int u64 aI,int u64 aJ,int u64 aC,int
 i64 aE,int i64 aH,slice aB aA aD] 41 8 true true)]∧[Value.bool false]=[Value.bool af])∧br af (∃(m'':Mem),Mem.le m m''∧Mem.le m'' m'∧R (agg (Array.mk [int u8 0,int u64 0,int u64 0,int u64
 0,int u64 0,int i64 0,int i64 0,slice none 0 0])) m'' []) (∃(ac:Bool),br ad ([some (Box.mk aa [int u8 0,int u64 0,int u64 0,int u64 0,int u64 0,int i64 0,int i64 0,slice none 0 0] 41 8 false true),some
 (Box.mk b [int u8 aG,int u64 aK,int u64 aI,int u64 aJ,int u64 aC,int i64 aE,int i64 aH,slice aB aA aD] 41 8 true true)]=[some (Box.mk aa [int u8 0,int u64 0,int u64 0,int u64 0,int
 u64 0,int i64 0,int i64 0,slice none 0 0] 41 8 false true),some (Box.mk b [int u8 aG,int u64 aK,int u64 aI,int u64 aJ,int u64 aC,int i64 aE,int i64 aH,slice aB aA aD] 41 8 true true)]∧
 [Value.bool true]=[Value.bool ac]) (br (aG == (0:Int)) ([some (Box.mk aa [int u8 0,int u64 0,int u64 0,int u64 0,int u64 0,int i64 0,int i64 0,slice none 0 0] 41 8 false true),some (Box.mk b [int u8 aG,
 int u64 aK,int u64 aI,int u64 aJ,int u64 aC,int i64 aE,int i64 aH,slice aB aA aD] 41 8 true true)]=[some (Box.mk aa [int u8 0,int u64 0,int u64 0,int u64 0,int u64 0,int i64 0,int i64
 0,slice none 0 0] 41 8 false true),some (Box.mk b [int u8 aG,int u64 aK,int u64 aI,int u64 aJ,int u64 aC,int i64 aE,int i64 aH,slice aB aA aD] 41 8 true true)]∧[Value.bool true] =
 [Value.bool ac]) ([some (Box.mk aa [int u8 0,int u64 0,int u64 0,int u64 0,int u64 0,int i64 0,int i64 0,slice none 0 0] 41 8 false true),some (Box.mk b [int u8 aG,int u64 aK,int u64 aI,int u64 aJ,
 int u64 aC,int i64 aE,int i64 aH,slice aB aA aD] 41 8 true true)]=[some (Box.mk aa [int u8 0,int u64 0,int u64 0,int u64 0,int u64 0,int i64 0,int i64 0,slice none 0 0] 41 8 false true),some
 (Box.mk b [int u8 aG,int u64 aK,int u64 aI,int u64 aJ,int u64 aC,int i64 aE,int i64 aH,slice aB aA aD] 41 8 true true)]∧[Value.bool (aG == (1:Int))]=[Value.bool ac]))∧br ac (∃
 (m'':Mem),Mem.le m m''∧Mem.le m'' m'∧R (agg (Array.mk [int u8 1,int u64 0,int u64 0,int u64 0,int u64 0,int i64 0,int i64 0,slice none 0 0])) m'' []) (br ae (∃(R_1:RT),True∧CX Try.prog 85 (Array.mk
 [agg (Array.mk [int u8 aG,int u64 aK,int u64 aI,int u64 aJ,int u64 aC,int i64 aE,int i64 aH,slice aB aA aD])]) m' [] R_1∧ZaH (shT) R_1∧∀(n ah ai aj ak al am:Int)(a:Option Addr)
 (an c:Nat) (ab:Mem),Mem.le m' ab→R_1 (agg (Array.mk [int u8 n,int u64 ah,int u64 ai,int u64 aj,int u64 ak,int i64 al,int i64 am,slice a an c])) ab []→∃(m'':Mem),Mem.le m m''∧Mem.le m'' ab∧R (agg
 (Array.mk [int u8 n,int u64 ah,int u64 ai,int u64 aj,int u64 ak,int i64 al,int i64 am,slice a an c])) m'' []) (∀(b:Nat),Mem.free m' b→∃(R_1:RT),True∧CX Try.prog 86 (Array.mk [agg (Array.mk [int u8 5,
 int u64 0,int u64 0,int u64 0,int u64 0,int i64 p1,int i64 p2,slice (some (Addr.mk b 0 none)) 1 1])]) (Mem.add m' b [int u8 aG,int u64 aK,int u64 aI,int u64 aJ,int u64 aC,int i64 aE,int i64 aH,
 slice aB aA aD]) [] R_1∧ZaH (shT) R_1∧∀(n ah ai aj ak al am:Int)(a:Option Addr)(an c:Nat)(ab:Mem),Mem.le (Mem.add m' b [int u8 aG,int u64 aK,int u64 aI,int u64 aJ,int u64 aC,int
 i64 aE,int i64 aH,slice aB aA aD]) ab→R_1 (agg (Array.mk [int u8 n,int u64 ah,int u64 ai,int u64 aj,int u64 ak,int i64 al,int i64 am,slice a an c])) ab []→∃(m'':Mem),Mem.le m m''∧Mem.le
 m'' ab∧R (agg (Array.mk [int u8 n,int u64 ah,int u64 ai,int u64 aj,int u64 ak,int i64 al,int i64 am,slice a an c])) m'' []))))
theorem Zo6(aG aK aI aJ aC aE aH:Int)(aB:Option Addr)(aA aD:Nat)(p1 p2:Int)(m:Mem)(R:RT)(h:Zka aG aK aI aJ aC aE aH aB aA aD p1 p2 m R):CX Try.prog 33 #[.agg #[.int .u8 aG,.int .u64 aK,.int .u64 aI,.int .u64 aJ,.int .u64 aC,.int .i64 aE,.int .i64 aH,.slice aB aA aD],.int .i64 p1,.int .i64 p2] m [] R:=
 Zaj (E:=Zql) ZaE mix Try.func33 [.v (.agg #[.int .u8 aG,.int .u64 aK,.int .u64 aI,.int .u64 aJ,.int .u64 aC,.int .i64 aE,.int .i64 aH,.slice aB aA aD]),.v (.int .i64 p1),.v (.int .i64 p2)] [] (by kernel_rfl) (Eq.mp (by kernel_rfl) h)
noncomputable def ZmM:Env:={ EB with
 frzNew:=[1] }
def Zhe(aG aK aI aJ aC aE aH:Int)(aB:Option Addr)(aA aD:Nat)(m:Mem)(R:RT):Prop:=
 ∀(b:Nat)(m':Mem),Mem.le m m'→Mem.reads m' b 0 [int u8 aG,int u64 aK,int u64 aI,int u64 aJ,int u64 aC,int i64 aE,int i64 aH,slice aB aA aD]→∀(b b:Nat),Mem.free m' b→∃(R_1:
 RT),True∧CX Try.prog 86 (Array.mk [agg (Array.mk [int u8 6,int u64 0,int u64 0,int u64 0,int u64 0,int i64 0,int i64 0,slice (some (Addr.mk b 0 none)) 1 1])]) (Mem.add m' b [int u8 aG,int u64 aK,int u64
 aI,int u64 aJ,int u64 aC,int i64 aE,int i64 aH,slice aB aA aD]) [] R_1∧ZaH (shT) R_1∧∀(n n_1 n_2 n_3 n_4 n_5 n_6:Int)(a:Option Addr)(n_7 c:Nat)(m'_1:Mem),Mem.le (Mem.add m' b
 [int u8 aG,int u64 aK,int u64 aI,int u64 aJ,int u64 aC,int i64 aE,int i64 aH,slice aB aA aD]) m'_1→R_1 (agg (Array.mk [int u8 n,int u64 n_1,int u64 n_2,int u64 n_3,int u64 n_4,int
 i64 n_5,int i64 n_6,slice a n_7 c])) m'_1 []→∃(m'':Mem),Mem.le m m''∧Mem.le m'' m'_1∧R (agg (Array.mk [int u8 n,int u64 n_1,int u64 n_2,int u64 n_3,int u64 n_4,int i64 n_5,int i64 n_6,slice a n_7 c]))
 m'' []
theorem Zlc(aG aK aI aJ aC aE aH:Int)(aB:Option Addr)(aA aD:Nat)(m:Mem)(R:RT)(h:Zhe aG aK aI aJ aC aE aH aB aA aD m R):CX Try.prog 34 #[.agg #[.int .u8 aG,.int .u64 aK,.int .u64 aI,.int .u64 aJ,.int .u64 aC,.int .i64 aE,.int .i64 aH,.slice aB aA aD]] m [] R:=
 Zaj (E:=ZmM) ZaE mix Try.func34 [.v (.agg #[.int .u8 aG,.int .u64 aK,.int .u64 aI,.int .u64 aJ,.int .u64 aC,.int .i64 aE,.int .i64 aH,.slice aB aA aD])] [] (by kernel_rfl) (Eq.mp (by kernel_rfl) h)
end Go.Proofs.Ytplacemlpkhmfaa

