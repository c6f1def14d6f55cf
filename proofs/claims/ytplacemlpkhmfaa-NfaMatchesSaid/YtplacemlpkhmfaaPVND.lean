/- Part of the proof: conditions and contracts of functions of this program. No condition of its own. -/
import Derived.Test.YtplacemlpkhmfaaPEnv
import Derived.Test.YtplacemlpkhmfaaMc
set_option linter.unusedVariables false
namespace Go.Proofs.Ytplacemlpkhmfaa
open Go Go.Eng Go.Proofs Go.RowKit
open Go.Value (int slice agg)
open Go.IntKind (u8 u64 i64)
set_option maxRecDepth 100000
noncomputable def Zi3:Env:={ EB with
 joins:=(fun i=>bif Nat.beq i 1 then some [(4,.bool)]else none) }
def ZeH(p0:Int)(c0b c0o c1b c1o:Nat)(m:Mem)(R:RT):Prop:=
 ∃(b:Bool),br (p0 == (-1:Int)) (∃(v:Value),m c0b (c0o+4)=some v∧bif Zaj v then bif Zaj v then bif Zaj v then bif Zaj v then bif Zaj v then bif Zaj v then bif Zaj v then bif
 Zaj v then chk (Zag v) (br (Zad v) ([Value.bool true]=[Value.bool b]) False)else chk (Zag v) (br (Zad v) (chk (Zag v) (br (Zad v) ([Value.bool true]=[Value.bool b]) False)) False)else chk
 (Zag v) (br (Zad v) ([Value.bool true]=[Value.bool b]) False)else chk (Zag v) (br (Zad v) (bif Zaj v then bif Zaj v then chk (Zag v) (br (Zad v) ([Value.bool true]=[Value.bool b]) False)
 else chk (Zag v) (br (Zad v) (chk (Zag v) (br (Zad v) ([Value.bool true]=[Value.bool b]) False)) False)else chk (Zag v) (br (Zad v) ([Value.bool true]=[Value.bool b]) False)) (bif Zaj v then
 bif Zaj v then chk (Zag v) (br (Zad v) ([Value.bool true]=[Value.bool b]) False)else chk (Zag v) (br (Zad v) (chk (Zag v) (br (Zad v) ([Value.bool true]=[Value.bool b]) False)) False)else chk
 (Zag v) (br (Zad v) ([Value.bool true]=[Value.bool b]) False)))else chk (Zag v) (br (Zad v) ([Value.bool true]=[Value.bool b]) False)else chk (Zag v) (br (Zad v) (bif Zaj v then bif Zaj v
 then bif Zaj v then bif Zaj v then chk (Zag v) (br (Zad v) ([Value.bool true]=[Value.bool b]) False)else chk (Zag v) (br (Zad v) (chk (Zag v) (br (Zad v) ([Value.bool true]=[Value.bool b])
 False)) False)else chk (Zag v) (br (Zad v) ([Value.bool true]=[Value.bool b]) False)else chk (Zag v) (br (Zad v) (bif Zaj v then bif Zaj v then chk (Zag v) (br (Zad v) ([Value.bool true] =
 [Value.bool b]) False)else chk (Zag v) (br (Zad v) (chk (Zag v) (br (Zad v) ([Value.bool true]=[Value.bool b]) False)) False)else chk (Zag v) (br (Zad v) ([Value.bool true]=[Value.bool b])
 False)) (bif Zaj v then bif Zaj v then chk (Zag v) (br (Zad v) ([Value.bool true]=[Value.bool b]) False)else chk (Zag v) (br (Zad v) (chk (Zag v) (br (Zad v) ([Value.bool true]=[Value.bool
 b]) False)) False)else chk (Zag v) (br (Zad v) ([Value.bool true]=[Value.bool b]) False)))else chk (Zag v) (br (Zad v) ([Value.bool true]=[Value.bool b]) False)) False)else chk (Zag v) (br (Zad
 v) ([Value.bool true]=[Value.bool b]) False)else chk (Zag v) (br (Zad v) (bif Zaj v then bif Zaj v then bif Zaj v then bif Zaj v then bif Zaj v then bif Zaj v then chk (Zag v) (br
 (Zad v) ([Value.bool true]=[Value.bool b]) False)else chk (Zag v) (br (Zad v) (chk (Zag v) (br (Zad v) ([Value.bool true]=[Value.bool b]) False)) False)else chk (Zag v) (br (Zad v)
 ([Value.bool true]=[Value.bool b]) False)else chk (Zag v) (br (Zad v) (bif Zaj v then bif Zaj v then chk (Zag v) (br (Zad v) ([Value.bool true]=[Value.bool b]) False)else chk (Zag v) (br
 (Zad v) (chk (Zag v) (br (Zad v) ([Value.bool true]=[Value.bool b]) False)) False)else chk (Zag v) (br (Zad v) ([Value.bool true]=[Value.bool b]) False)) (bif Zaj v then bif Zaj v then chk
 (Zag v) (br (Zad v) ([Value.bool true]=[Value.bool b]) False)else chk (Zag v) (br (Zad v) (chk (Zag v) (br (Zad v) ([Value.bool true]=[Value.bool b]) False)) False)else chk (Zag v) (br (Zad
 v) ([Value.bool true]=[Value.bool b]) False)))else chk (Zag v) (br (Zad v) ([Value.bool true]=[Value.bool b]) False)else chk (Zag v) (br (Zad v) (bif Zaj v then bif Zaj v then bif Zaj v
 then bif Zaj v then chk (Zag v) (br (Zad v) ([Value.bool true]=[Value.bool b]) False)else chk (Zag v) (br (Zad v) (chk (Zag v) (br (Zad v) ([Value.bool true]=[Value.bool b]) False)) False)
 else chk (Zag v) (br (Zad v) ([Value.bool true]=[Value.bool b]) False)else chk (Zag v) (br (Zad v) (bif Zaj v then bif Zaj v then chk (Zag v) (br (Zad v) ([Value.bool true]=[Value.bool b])
 False)else chk (Zag v) (br (Zad v) (chk (Zag v) (br (Zad v) ([Value.bool true]=[Value.bool b]) False)) False)else chk (Zag v) (br (Zad v) ([Value.bool true]=[Value.bool b]) False)) (bif Zaj v
 then bif Zaj v then chk (Zag v) (br (Zad v) ([Value.bool true]=[Value.bool b]) False)else chk (Zag v) (br (Zad v) (chk (Zag v) (br (Zad v) ([Value.bool true]=[Value.bool b]) False)) False)
 else chk (Zag v) (br (Zad v) ([Value.bool true]=[Value.bool b]) False)))else chk (Zag v) (br (Zad v) ([Value.bool true]=[Value.bool b]) False)) False)else chk (Zag v) (br (Zad v) ([Value.bool
 true]=[Value.bool b]) False)) (bif Zaj v then bif Zaj v then bif Zaj v then bif Zaj v then bif Zaj v then bif Zaj v then chk (Zag v) (br (Zad v) ([Value.bool true]=[Value.bool b])
 False)else chk (Zag v) (br (Zad v) (chk (Zag v) (br (Zad v) ([Value.bool true]=[Value.bool b]) False)) False)else chk (Zag v) (br (Zad v) ([Value.bool true]=[Value.bool b]) False)else chk
 (Zag v) (br (Zad v) (bif Zaj v then bif Zaj v then chk (Zag v) (br (Zad v) ([Value.bool true]=[Value.bool b]) False)else chk (Zag v) (br (Zad v) (chk (Zag v) (br (Zad v) ([Value.bool
 true]=[Value.bool b]) False)) False)else chk (Zag v) (br (Zad v) ([Value.bool true]=[Value.bool b]) False)) (bif Zaj v then bif Zaj v then chk (Zag v) (br (Zad v) ([Value.bool true] =
 [Value.bool b]) False)else chk (Zag v) (br (Zad v) (chk (Zag v) (br (Zad v) ([Value.bool true]=[Value.bool b]) False)) False)else chk (Zag v) (br (Zad v) ([Value.bool true]=[Value.bool b])
 False)))else chk (Zag v) (br (Zad v) ([Value.bool true]=[Value.bool b]) False)else chk (Zag v) (br (Zad v) (bif Zaj v then bif Zaj v then bif Zaj v then bif Zaj v then chk (Zag v) (br
 (Zad v) ([Value.bool true]=[Value.bool b]) False)else chk (Zag v) (br (Zad v) (chk (Zag v) (br (Zad v) ([Value.bool true]=[Value.bool b]) False)) False)else chk (Zag v) (br (Zad v)
 ([Value.bool true]=[Value.bool b]) False)else chk (Zag v) (br (Zad v) (bif Zaj v then bif Zaj v then chk (Zag v) (br (Zad v) ([Value.bool true]=[Value.bool b]) False)else chk (Zag v) (br
 (Zad v) (chk (Zag v) (br (Zad v) ([Value.bool true]=[Value.bool b]) False)) False)else chk (Zag v) (br (Zad v) ([Value.bool true]=[Value.bool b]) False)) (bif Zaj v then bif Zaj v then chk
 (Zag v) (br (Zad v) ([Value.bool true]=[Value.bool b]) False)else chk (Zag v) (br (Zad v) (chk (Zag v) (br (Zad v) ([Value.bool true]=[Value.bool b]) False)) False)else chk (Zag v) (br (Zad
 v) ([Value.bool true]=[Value.bool b]) False)))else chk (Zag v) (br (Zad v) ([Value.bool true]=[Value.bool b]) False)) (bif Zaj v then bif Zaj v then bif Zaj v then bif Zaj v then chk (Zag
 v) (br (Zad v) ([Value.bool true]=[Value.bool b]) False)else chk (Zag v) (br (Zad v) (chk (Zag v) (br (Zad v) ([Value.bool true]=[Value.bool b]) False)) False)else chk (Zag v) (br (Zad v)
 ([Value.bool true]=[Value.bool b]) False)else chk (Zag v) (br (Zad v) (bif Zaj v then bif Zaj v then chk (Zag v) (br (Zad v) ([Value.bool true]=[Value.bool b]) False)else chk (Zag v) (br
 (Zad v) (chk (Zag v) (br (Zad v) ([Value.bool true]=[Value.bool b]) False)) False)else chk (Zag v) (br (Zad v) ([Value.bool true]=[Value.bool b]) False)) (br (!p0 == (-1:Int)) (∃(R:RT),True∧
 CX Try.prog 115 (Array.mk [Value.pointer (some (Addr.mk c1b c1o none)),int i64 p0]) m [] R∧Zaz Shape.bool R∧∀(aa:Bool)(m':Mem),Mem.le m m'→R (Value.bool aa) m' []→bif Zaj v then bif Zaj v then
 chk (Zag v) (br (Zad v) ([Value.bool true]=[Value.bool b]) False)else chk (Zag v) (br (Zad v) (chk (Zag v) (br (Zad v) ([Value.bool true]=[Value.bool b]) False)) (chk (Zag v) (br (Zad v)
 ([Value.bool true]=[Value.bool b]) ([Value.bool aa]=[Value.bool b]))))else chk (Zag v) (br (Zad v) ([Value.bool true]=[Value.bool b]) ([Value.bool aa]=[Value.bool b]))) (bif Zaj v then bif Zaj v
 then chk (Zag v) (br (Zad v) ([Value.bool true]=[Value.bool b]) False)else chk (Zag v) (br (Zad v) (chk (Zag v) (br (Zad v) ([Value.bool true]=[Value.bool b]) False)) (chk (Zag v) (br (Zad
 v) ([Value.bool true]=[Value.bool b]) ([Value.bool false]=[Value.bool b]))))else chk (Zag v) (br (Zad v) ([Value.bool true]=[Value.bool b]) ([Value.bool false]=[Value.bool b])))))else chk (Zag v) (br
 (Zad v) ([Value.bool true]=[Value.bool b]) (br (!p0 == (-1:Int)) (∃(R:RT),True∧CX Try.prog 115 (Array.mk [Value.pointer (some (Addr.mk c1b c1o none)),int i64 p0]) m [] R∧Zaz Shape.bool R∧∀(aa:Bool)
 (m':Mem),Mem.le m m'→R (Value.bool aa) m' []→[Value.bool aa]=[Value.bool b]) ([Value.bool false]=[Value.bool b])))))else chk (Zag v) (br (Zad v) ([Value.bool true]=[Value.bool b]) (br (!p0 == (-1:
 Int)) (∃(R:RT),True∧CX Try.prog 115 (Array.mk [Value.pointer (some (Addr.mk c1b c1o none)),int i64 p0]) m [] R∧Zaz Shape.bool R∧∀(aa:Bool)(m':Mem),Mem.le m m'→R (Value.bool aa) m' []→[Value.bool
 aa]=[Value.bool b]) ([Value.bool false]=[Value.bool b])))))else chk (Zag v) (br (Zad v) ([Value.bool true]=[Value.bool b]) (br (!p0 == (-1:Int)) (∃(R:RT),True∧CX Try.prog 115 (Array.mk
 [Value.pointer (some (Addr.mk c1b c1o none)),int i64 p0]) m [] R∧Zaz Shape.bool R∧∀(aa:Bool)(m':Mem),Mem.le m m'→R (Value.bool aa) m' []→[Value.bool aa]=[Value.bool b]) ([Value.bool false] =
 [Value.bool b])))) (br (!p0 == (-1:Int)) (∃(R:RT),True∧CX Try.prog 115 (Array.mk [Value.pointer (some (Addr.mk c1b c1o none)),int i64 p0]) m [] R∧Zaz Shape.bool R∧∀(aa:Bool)(m':Mem),Mem.le m m'→R
 (Value.bool aa) m' []→[Value.bool aa]=[Value.bool b]) ([Value.bool false]=[Value.bool b]))∧∃(m'':Mem),Mem.le m m''∧Mem.le m'' m∧R (Value.bool b) m'' []
theorem ZhX(p0:Int)(c0b c0o c1b c1o:Nat)(m:Mem)(R:RT)(h:ZeH p0 c0b c0o c1b c1o m R):CX Try.prog 114 #[.int .i64 p0,.pointer (some ⟨c0b,c0o,none⟩),.pointer (some ⟨c1b,c1o,none⟩)] m [] R:=
 Zaf (E:=Zi3) Zar mix Try.func114 [.v (.int .i64 p0),.v (.pointer (some ⟨c0b,c0o,none⟩)),.v (.pointer (some ⟨c1b,c1o,none⟩))] [] (by kernel_rfl) (Eq.mp (by kernel_rfl) h)
noncomputable def ZcE:Env:={ EB with
 loops:=(fun i=>bif Nat.beq i 2 then⟨[(8,.int .i64)],[],[],false⟩ else⟨[],[],[],false⟩) }
def Zbt(p0a:Option Addr)(p0n p0c p1g:Nat)(p1fi p1ca:List Value)(m:Mem)(R:RT):Prop:=
 ∃(I:IT),(∃(n:Nat),I [int i64 0] [] [] m n)∧∀(n:Int)(m':Mem)(n_1:Nat),Mem.le m m'→I [int i64 n] [] [] m' n_1→br (decide (n < (↑p0n:Int))) (∃(b:Nat),∃(o:Nat),p0a=some (Addr.mk b o none)
 ∧ Zae n p0n∧∃(v:Value),m' b (o+Int.toNat n*1)=some v∧∃(R_1:RT),True∧CX Try.prog p1g (Array.mk (List.append (List.append p1fi [v]) p1ca)) m' [] R_1∧Zaz Shape.bool R_1∧∀(b:Bool) (m'_1:
 Mem),Mem.le m' m'_1→R_1 (Value.bool b) m'_1 []→br b (∃(m'':Mem),Mem.le m m''∧Mem.le m'' m'_1∧R (int i64 n) m'' []) (∃(n':Nat),n' < n_1∧I [int i64 (IntKind.wrap i64 (n+(1:Int)))] [] [] m'_1 n')) (∃
 (m'':Mem),Mem.le m m''∧Mem.le m'' m'∧R (int i64 (-1:Int)) m'' [])
theorem Zcu(p0a:Option Addr)(p0n p0c p1g:Nat)(p1fi p1ca:List Value)(m:Mem)(R:RT)(h:Zbt p0a p0n p0c p1g p1fi p1ca m R):CX Try.prog 146 #[.slice p0a p0n p0c,.func (.func p1g) p1fi.toArray p1ca.toArray] m [] R:=
 Zaf (E:=ZcE) Zar mix Try.func146 [.v (.slice p0a p0n p0c),.v (.func (.func p1g) p1fi.toArray p1ca.toArray)] [] (by kernel_rfl) (Eq.mp (by kernel_rfl) h)
noncomputable def Zcc:Env:=EB
def Za6(p0a:Option Addr)(p0n p0c p1g:Nat)(p1fi p1ca:List Value)(m:Mem)(R:RT):Prop:=
 ∃(R_1:RT),True∧CX Try.prog 146 (Array.mk [slice p0a p0n p0c,Value.func (Fn.func p1g) (Array.mk p1fi) (Array.mk p1ca)]) m [] R_1∧Zaz (Shape.int i64) R_1∧∀(n:Int)(m':Mem),Mem.le m m'→R_1 (int i64 n)
 m' []→∃(m'':Mem),Mem.le m m''∧Mem.le m'' m'∧R (Value.bool (decide (n ≥ (0:Int)))) m'' []
theorem Zb1(p0a:Option Addr)(p0n p0c p1g:Nat)(p1fi p1ca:List Value)(m:Mem)(R:RT)(h:Za6 p0a p0n p0c p1g p1fi p1ca m R):CX Try.prog 113 #[.slice p0a p0n p0c,.func (.func p1g) p1fi.toArray p1ca.toArray] m [] R:=
 Zaf (E:=Zcc) Zar mix Try.func113 [.v (.slice p0a p0n p0c),.v (.func (.func p1g) p1fi.toArray p1ca.toArray)] [] (by kernel_rfl) (Eq.mp (by kernel_rfl) h)
noncomputable def Zl2:Env:={ EB with
 frzNew:=[2]
 frzAt:=(fun i=>bif Nat.beq i 11 then[5]else[]) }
def ZgQ(aI:Option Addr)(aH aJ:Nat)(aZ:Option Addr)(aX bH:Nat)(bC:Option Addr)(aY bD:Nat)(bE:Option Addr)(bF bG:Nat)(aC:Bool)(p1a:Option Addr)(p1n p1c:Nat)(m:Mem)(R:RT):Prop:=
 ∀(b:Nat)(m':Mem),Mem.le m m'→Mem.reads m' b 0 [slice aI aH aJ,slice aZ aX bH,slice bC aY bD,slice bE bF bG,Value.bool aC]→∃(R_1:RT),True∧CX Try.prog 112
 (Array.mk [slice bE bF bG]) m' [] R_1∧Zaz (Shape.agg [Shape.int u64,Shape.int u64,Shape.int u64,Shape.int u64,Shape.int u64,Shape.int u64,Shape.int u64]) R_1∧∀(n n_1 n_2 n_3 n_4 n_5 n_6:Int) (m'_1
 : Mem),Mem.le m' m'_1→R_1 (agg (Array.mk [int u64 n,int u64 n_1,int u64 n_2,int u64 n_3,int u64 n_4,int u64 n_5,int u64 n_6])) m'_1 []→∀(b_1:Nat)(m':Mem),Mem.le m'_1 m'→Mem.reads m' b_1 0 [int u64 n,
 int u64 n_1,int u64 n_2,int u64 n_3,int u64 n_4,int u64 n_5,int u64 n_6]→∃(R_2:RT),True∧CX Try.prog 113 (Array.mk [slice p1a p1n p1c,Value.func (Fn.func 114) (Array.mk []) (Array.mk [Value.pointer (some
 (Addr.mk b 0 none)),Value.pointer (some (Addr.mk b_1 0 none))])]) m' [] R_2∧Zaz Shape.bool R_2∧∀(b:Bool)(m'_2:Mem),Mem.le m' m'_2→R_2 (Value.bool b) m'_2 []→∃(m'':Mem),Mem.le m m''∧Mem.le m'' m'_2
 ∧ R (Value.bool b) m'' []
theorem Zj5(aI:Option Addr)(aH aJ:Nat)(aZ:Option Addr)(aX bH:Nat)(bC:Option Addr)(aY bD:Nat)(bE:Option Addr)(bF bG:Nat)(aC:Bool)(p1a:Option Addr)(p1n p1c:Nat)(m:Mem)(R:RT)(h:ZgQ aI aH aJ aZ aX bH bC aY bD bE bF bG aC p1a p1n p1c m R):CX Try.prog 68 #[.agg #[.slice aI aH aJ,.slice aZ aX bH,.slice bC aY bD,.slice bE bF bG,.bool aC],.slice p1a p1n p1c] m [] R:=
 Zaf (E:=Zl2) Zar mix Try.func68 [.v (.agg #[.slice aI aH aJ,.slice aZ aX bH,.slice bC aY bD,.slice bE bF bG,.bool aC]),.v (.slice p1a p1n p1c)] [] (by kernel_rfl) (Eq.mp (by kernel_rfl) h)
noncomputable def ZpL:Env:={ EB with
 frzNew:=[2] }
def Zi4(aI:Option Addr)(aH aJ:Nat)(aZ:Option Addr)(aX bH:Nat)(bC:Option Addr)(aY bD:Nat)(bE:Option Addr)(bF bG:Nat)(aC:Bool)(p1a:Option Addr)(p1n p1c:Nat)(m:Mem)(R:RT):Prop:=
 ∀(b:Nat)(m':Mem),Mem.le m m'→Mem.reads m' b 0 [slice aI aH aJ,slice aZ aX bH,slice bC aY bD,slice bE bF bG,Value.bool aC]→∃(R_1:RT),True∧CX Try.prog 21
 (Array.mk [agg (Array.mk [slice aI aH aJ,slice aZ aX bH,slice bC aY bD,slice bE bF bG,Value.bool aC])]) m' [] R_1∧Zaz Shape.bool R_1∧∀(b:Bool)(m'_1:Mem),Mem.le m'
 m'_1→R_1 (Value.bool b) m'_1 []→br (!b) (∃(m'':Mem),Mem.le m m''∧Mem.le m'' m'_1∧R (int i64 171) m'' []) (∃(R_2:RT),True∧CX Try.prog 70 (Array.mk [slice p1a p1n p1c,int i64 (-1:Int),int i64
 (IntKind.wrap i64 ((↑aH:Int) - (1:Int)))]) m'_1 [] R_2∧Zaz Shape.bool R_2∧∀(b:Bool)(m':Mem),Mem.le m'_1 m'→R_2 (Value.bool b) m' []→br (!b) (∃(m'':Mem),Mem.le m m''∧Mem.le m'' m'∧R (int
 i64 172) m'' []) (∃(m'':Mem),Mem.le m m''∧Mem.le m'' m'∧R (int i64 0) m'' []))
theorem ZnF(aI:Option Addr)(aH aJ:Nat)(aZ:Option Addr)(aX bH:Nat)(bC:Option Addr)(aY bD:Nat)(bE:Option Addr)(bF bG:Nat)(aC:Bool)(p1a:Option Addr)(p1n p1c:Nat)(m:Mem)(R:RT)(h:Zi4 aI aH aJ aZ aX bH bC aY bD bE bF bG aC p1a p1n p1c m R):CX Try.prog 78 #[.agg #[.slice aI aH aJ,.slice aZ aX bH,.slice bC aY bD,.slice bE bF bG,.bool aC],.slice p1a p1n p1c] m [] R:=
 Zaf (E:=ZpL) Zar mix Try.func78 [.v (.agg #[.slice aI aH aJ,.slice aZ aX bH,.slice bC aY bD,.slice bE bF bG,.bool aC]),.v (.slice p1a p1n p1c)] [] (by kernel_rfl) (Eq.mp (by kernel_rfl) h)
noncomputable def Zra:Env:={ EB with
 loops:=(fun i=>bif Nat.beq i 3 then⟨[(15,.int .i64)],[7],[],false⟩ else bif Nat.beq i 9 then⟨[(30,.int .i64)],[7],[],false⟩ else⟨[],[],[],false⟩)
 frzNew:=[3]
 frzAt:=(fun i=>bif Nat.beq i 45 then[7]else[]) }
def ZkZ(aI:Option Addr)(aH aJ:Nat)(aZ:Option Addr)(aX bH:Nat)(bC:Option Addr)(aY bD:Nat)(bE:Option Addr)(bF bG:Nat)(aC:Bool)(p1a:Option Addr)(p1n p1c:Nat)(p2:Int)(m:Mem)(R:RT):Prop:=
 ∀(b:Nat)(m':Mem),Mem.le m m'→Mem.reads m' b 0 [slice aI aH aJ,slice aZ aX bH,slice bC aY bD,slice bE bF bG,Value.bool aC]→∀(aa:Nat),∃(I:IT),(∃(n:Nat),I
 [int i64 0] [[int u64 0,int u64 0,int u64 0,int u64 0,int u64 0,int u64 0,int u64 0]] [] m' n)∧∀(n:Int)(cs:List Value)(ad:Mem)(an:Nat),Mem.le m' ad→I [int i64 n] [cs] [] ad an→br (decide (n <
 (↑p1n:Int))) (∃(ao:Nat),∃(o:Nat),p1a=some (Addr.mk ao o none)∧Zae n p1n∧∃(v:Value),ad ao (o+Int.toNat n*1)=some v∧chk (Zby i64 v&&decide (i64=i64)) (br (!RowKit.intOf v == (-1:
 Int)) (chk (Zbh v) (∃(ah:Nat),∃(o:Nat),aZ=some (Addr.mk ah o none)∧Zae (RowKit.intOf v) aX∧∃(ae:Value),ad ah (o+Int.toNat (RowKit.intOf v)*1)=some ae∧chk (Zft ae) (∃(af:IT),
 (∃(n:Nat),af [int i64 0] [cs] [] ad n)∧∀(ac:Int)(cs:List Value)(m':Mem)(ag:Nat),Mem.le ad m'→af [int i64 ac] [cs] [] m' ag→br (decide (ac < (↑(slN ae):Int))) (chk (Zft ae) (∃(ai:Nat),∃(o:
 Nat),slA ae=some (Addr.mk ai o none)∧Zae ac (slN ae)∧∃(v:Value),m' ai (o+Int.toNat ac*1)=some v∧chk (Zbh v) (∃(aj:Nat),∃(o:Nat),aI=some (Addr.mk aj o none)∧Zae
 (RowKit.intOf v) aH∧∃(ak:Value),∃(al:Value),∃(am:Value),∃(ap:Value),Mem.reads m' aj (o+Int.toNat (RowKit.intOf v)*4) [ak,al,am,ap]∧∃(R:RT),True∧CX Try.prog 117 (Array.mk [agg
 (Array.mk [ak,al,am,ap]),int u8 p2]) m' [] R∧Zaz Shape.bool R∧∀(aq:Bool)(ab:Mem),Mem.le m' ab→R (Value.bool aq) ab []→br aq (∃(R:RT),True∧CX Try.prog 116 (Array.mk [Value.pointer (some (Addr.mk
 aa 0 none)),v]) ab [Box.mk aa cs 100 7 false true] R∧Zaz (Shape.tup []) R∧∀(m':Mem),Mem.le ab m'→∀(cs:List Value),R (Value.tuple (Array.mk [])) m' [cs]→[some (Box.mk aa [] 100 7 false true),some
 (Box.mk b [slice aI aH aJ,slice aZ aX bH,slice bC aY bD,slice bE bF bG,Value.bool aC] 26 5 true true)]=[some (Box.mk aa [] 100 7 false true),some (Box.mk b [slice aI aH
 aJ,slice aZ aX bH,slice bC aY bD,slice bE bF bG,Value.bool aC] 26 5 true true)]∧∃(n':Nat),n' < ag∧af [int i64 (IntKind.wrap i64 (ac+(1:Int)))] [cs] [] m' n') ([some
 (Box.mk aa [] 100 7 false true),some (Box.mk b [slice aI aH aJ,slice aZ aX bH,slice bC aY bD,slice bE bF bG,Value.bool aC] 26 5 true true)]=[some (Box.mk aa [] 100 7 false
 true),some (Box.mk b [slice aI aH aJ,slice aZ aX bH,slice bC aY bD,slice bE bF bG,Value.bool aC] 26 5 true true)]∧∃(n':Nat),n' < ag∧af [int i64 (IntKind.wrap i64 (ac +
 (1:Int)))] [cs] [] ab n')))) ([some (Box.mk aa [] 100 7 false true),some (Box.mk b [slice aI aH aJ,slice aZ aX bH,slice bC aY bD,slice bE bF bG,Value.bool aC] 26 5 true
 true)]=[some (Box.mk aa [] 100 7 false true),some (Box.mk b [slice aI aH aJ,slice aZ aX bH,slice bC aY bD,slice bE bF bG,Value.bool aC] 26 5 true true)]∧∃(n':Nat),n' <
 an∧I [int i64 (IntKind.wrap i64 (n+(1:Int)))] [cs] [] m' n')))) (∃(af:IT),(∃(n:Nat),af [int i64 0] [cs] [] ad n)∧∀(ac:Int)(cs:List Value)(m':Mem)(ag:Nat),Mem.le ad m'→af [int i64 ac] [cs]
 [] m' ag→br (decide (ac < (↑aY:Int))) (∃(ah:Nat),∃(o:Nat),bC=some (Addr.mk ah o none)∧Zae ac aY∧∃(v:Value),m' ah (o+Int.toNat ac*1)=some v∧chk (Zbh v) (∃(ai:Nat),∃(o
 : Nat),aI=some (Addr.mk ai o none)∧Zae (RowKit.intOf v) aH∧∃(ae:Value),∃(ak:Value),∃(al:Value),∃(am:Value),Mem.reads m' ai (o+Int.toNat (RowKit.intOf v)*4) [ae,ak,al,am]∧∃(R:
 RT),True∧CX Try.prog 117 (Array.mk [agg (Array.mk [ae,ak,al,am]),int u8 p2]) m' [] R∧Zaz Shape.bool R∧∀(aj:Bool)(ab:Mem),Mem.le m' ab→R (Value.bool aj) ab []→br aj (∃(R:RT),True∧CX Try.prog
 116 (Array.mk [Value.pointer (some (Addr.mk aa 0 none)),v]) ab [Box.mk aa cs 100 7 false true] R∧Zaz (Shape.tup []) R∧∀(m':Mem),Mem.le ab m'→∀(cs:List Value),R (Value.tuple (Array.mk [])) m' [cs]→[some
 (Box.mk aa [] 100 7 false true),some (Box.mk b [slice aI aH aJ,slice aZ aX bH,slice bC aY bD,slice bE bF bG,Value.bool aC] 26 5 true true)]=[some (Box.mk aa [] 100 7 false
 true),some (Box.mk b [slice aI aH aJ,slice aZ aX bH,slice bC aY bD,slice bE bF bG,Value.bool aC] 26 5 true true)]∧∃(n':Nat),n' < ag∧af [int i64 (IntKind.wrap i64 (ac +
 (1:Int)))] [cs] [] m' n') ([some (Box.mk aa [] 100 7 false true),some (Box.mk b [slice aI aH aJ,slice aZ aX bH,slice bC aY bD,slice bE bF bG,Value.bool aC] 26 5 true true)] =
 [some (Box.mk aa [] 100 7 false true),some (Box.mk b [slice aI aH aJ,slice aZ aX bH,slice bC aY bD,slice bE bF bG,Value.bool aC] 26 5 true true)]∧∃(n':Nat),n' < ag∧af
 [int i64 (IntKind.wrap i64 (ac+(1:Int)))] [cs] [] ab n'))) ([some (Box.mk aa [] 100 7 false true),some (Box.mk b [slice aI aH aJ,slice aZ aX bH,slice bC aY bD,slice bE bF bG,
 Value.bool aC] 26 5 true true)]=[some (Box.mk aa [] 100 7 false true),some (Box.mk b [slice aI aH aJ,slice aZ aX bH,slice bC aY bD,slice bE bF bG,Value.bool aC] 26 5 true
 true)]∧∃(n':Nat),n' < an∧I [int i64 (IntKind.wrap i64 (n+(1:Int)))] [cs] [] m' n')))) (∀(m':Mem),Mem.le ad m'→Mem.reads m' aa 0 cs→∃(R_1:RT),True∧CX Try.prog 62 (Array.mk [Value.pointer (some
 (Addr.mk aa 0 none))]) m' [] R_1∧Zaz Shape.slice R_1∧∀(a:Option Addr)(n c:Nat)(ab:Mem),Mem.le m' ab→R_1 (slice a n c) ab []→∃(m'':Mem),Mem.le m m''∧Mem.le m'' ab∧R (slice a n c) m'' [])
theorem ZpM(aI:Option Addr)(aH aJ:Nat)(aZ:Option Addr)(aX bH:Nat)(bC:Option Addr)(aY bD:Nat)(bE:Option Addr)(bF bG:Nat)(aC:Bool)(p1a:Option Addr)(p1n p1c:Nat)(p2:Int)(m:Mem)(R:RT)(h:ZkZ aI aH aJ aZ aX bH bC aY bD bE bF bG aC p1a p1n p1c p2 m R):CX Try.prog 79 #[.agg #[.slice aI aH aJ,.slice aZ aX bH,.slice bC aY bD,.slice bE bF bG,.bool aC],.slice p1a p1n p1c,.int .u8 p2] m [] R:=
 Zaf (E:=Zra) Zar mix Try.func79 [.v (.agg #[.slice aI aH aJ,.slice aZ aX bH,.slice bC aY bD,.slice bE bF bG,.bool aC]),.v (.slice p1a p1n p1c),.v (.int .u8 p2)] [] (by kernel_rfl) (Eq.mp (by kernel_rfl) h)
noncomputable def Zrb:Env:={ EB with
 frzNew:=[3] }
def Zk0(aI:Option Addr)(aH aJ:Nat)(aZ:Option Addr)(aX bH:Nat)(bC:Option Addr)(aY bD:Nat)(bE:Option Addr)(bF bG:Nat)(aC:Bool)(p1a:Option Addr)(p1n p1c:Nat)(p2:Int)(m:Mem)(R:RT):Prop:=
 ∀(b:Nat)(m':Mem),Mem.le m m'→Mem.reads m' b 0 [slice aI aH aJ,slice aZ aX bH,slice bC aY bD,slice bE bF bG,Value.bool aC]→∃(R_1:RT),True∧CX Try.prog 78
 (Array.mk [agg (Array.mk [slice aI aH aJ,slice aZ aX bH,slice bC aY bD,slice bE bF bG,Value.bool aC]),slice p1a p1n p1c]) m' [] R_1∧Zaz (Shape.int i64) R_1∧∀(n:Int)
 (m'_1:Mem),Mem.le m' m'_1→R_1 (int i64 n) m'_1 []→br (!n == (0:Int)) (∃(m'':Mem),Mem.le m m''∧Mem.le m'' m'_1∧R (Value.tuple (Array.mk [slice none 0 0,int i64 n])) m'' []) (∃(R_2:RT),True∧CX
 Try.prog 79 (Array.mk [agg (Array.mk [slice aI aH aJ,slice aZ aX bH,slice bC aY bD,slice bE bF bG,Value.bool aC]),slice p1a p1n p1c,int u8 p2]) m'_1 [] R_2∧Zaz Shape.slice
 R_2∧∀(a:Option Addr)(n c:Nat)(m':Mem),Mem.le m'_1 m'→R_2 (slice a n c) m' []→∃(m'':Mem),Mem.le m m''∧Mem.le m'' m'∧R (Value.tuple (Array.mk [slice a n c,int i64 0])) m'' [])
theorem ZpN(aI:Option Addr)(aH aJ:Nat)(aZ:Option Addr)(aX bH:Nat)(bC:Option Addr)(aY bD:Nat)(bE:Option Addr)(bF bG:Nat)(aC:Bool)(p1a:Option Addr)(p1n p1c:Nat)(p2:Int)(m:Mem)(R:RT)(h:Zk0 aI aH aJ aZ aX bH bC aY bD bE bF bG aC p1a p1n p1c p2 m R):CX Try.prog 27 #[.agg #[.slice aI aH aJ,.slice aZ aX bH,.slice bC aY bD,.slice bE bF bG,.bool aC],.slice p1a p1n p1c,.int .u8 p2] m [] R:=
 Zaf (E:=Zrb) Zar mix Try.func27 [.v (.agg #[.slice aI aH aJ,.slice aZ aX bH,.slice bC aY bD,.slice bE bF bG,.bool aC]),.v (.slice p1a p1n p1c),.v (.int .u8 p2)] [] (by kernel_rfl) (Eq.mp (by kernel_rfl) h)
noncomputable def ZtA:Env:={ EB with
 loops:=(fun i=>bif Nat.beq i 8 then⟨[(9,.slice),(26,.int .i64)],[100000],[(38,1),(900,1)],false⟩ else⟨[],[],[],false⟩)
 tokOf:=(fun i=>bif Nat.beq i 38 then 38 else 0)
 borrow:=(fun i=>bif Nat.beq i 23 then[100000]else bif Nat.beq i 43 then[100000]else[])
 frzNew:=[4]
 thaw:=true
 tails:=true
 lentC:=(fun i=>bif Nat.beq i 23 then some [(900,1)]else bif Nat.beq i 43 then some [(900,1)]else none) }
def Zm1(aI:Option Addr)(aH aJ:Nat)(aZ:Option Addr)(aX bH:Nat)(bC:Option Addr)(aY bD:Nat)(bE:Option Addr)(bF bG:Nat)(aC:Bool)(p1a:Option Addr)(p1n p1c:Nat)(p2:Bool)(p3g:Nat)(p3fi p3ca:List Value)(ca:Option Addr)(cn cc cb:Nat)(t0a:Option Addr)(t0n t0c:Nat)(m:Mem)(Y:Nat→Prop)(R:RTY):Prop:=
 ∀(b:Nat)(m':Mem),Mem.le m m'→Mem.reads m' b 0 [slice aI aH aJ,slice aZ aX bH,slice bC aY bD,slice bE bF bG,Value.bool aC]→Mem.free m b→(∀(b' o:Nat)(u:Value),
 m' b' o=some u→m b' o=some u∨b'=b)→∃(R_1:RT),True∧CX Try.prog 21 (Array.mk [agg (Array.mk [slice aI aH aJ,slice aZ aX bH,slice bC aY bD,slice bE bF bG,Value.bool
 aC])]) m' [] R_1∧Zaz Shape.bool R_1∧∀(ar:Bool)(ai:Mem),Mem.le m' ai→R_1 (Value.bool ar) ai []→br (!ar) (Box.mk cb [slice ca cn cc] 24 1 false true=Box.mk cb [slice ca cn cc] 24 1 false true∧R (int
 i64 171) ai [[slice ca cn cc]] [slice t0a t0n t0c]) (br (decide ((↑p1n:Int) > (4096:Int))) (Box.mk cb [slice ca cn cc] 24 1 false true=Box.mk cb [slice ca cn cc] 24 1 false true∧R (int i64 3) ai [[slice ca cn
 cc]] [slice t0a t0n t0c]) (∀(ac:Nat),Mem.free ai ac→∃(ao:Nat→Prop),∃(R_2:Value→Mem→List (List Value)→List Value→Prop),CXY Try.prog p3g (Array.mk (List.append (List.append p3fi [int i64 0,slice
 (some (Addr.mk ac 0 none)) 1 1]) p3ca)) (Mem.add ai ac [int i64 (-1:Int)]) ao [Box.mk cb [slice ca cn cc] 24 1 false true] [Tok.mk (slice t0a t0n t0c) 1] R_2∧(∀(t:Tok),t∈[Tok.mk (slice t0a t0n t0c) 1]→∀(b:
 Nat),Tok.blk t=some b→ao b)∧(∀(ak:Nat),ao ak→(∃(t:Tok),t∈[Tok.mk (slice t0a t0n t0c) 1]∧Tok.blk t=some ak)∨Mem.free (Mem.off m Y) ak∧(∃(o:Nat),∃(v:Value),Mem.add ai ac [int i64 (-1:
 Int)] ak o=some v)∧ac≠ak∧b≠ak∧True)∧(∀(v:Value)(m':Mem) (css:List (List Value)) (tvs:List Value),R_2 v m' css tvs→Shape.fits (Shape.tup []) v=true)∧∀(m':Mem),Mem.le (Mem.off (Mem.add
 ai ac [int i64 (-1:Int)]) ao) m'→(∀(b o:Nat)(u:Value),m' b o=some u→Mem.add ai ac [int i64 (-1:Int)] b o=some u∨ao b∨Mem.free (Mem.add ai ac [int i64 (-1:Int)]) b)→∀(cs:List Value) (a:
 Option Addr) (c d:Nat),R_2 (Value.tuple (Array.mk [])) m' [cs] [slice a c d]→∃(I:IT),(∃(n:Nat),I [slice (some (Addr.mk ac 0 none)) 1 1,int i64 0] [cs] [slice none 0 0,slice a c d] m' n)∧∀(a:Option
 Addr) (n c:Nat) (aj:Int) (cs:List Value) (al:Option Addr) (am an:Nat) (af:Option Addr) (ag ah:Nat) (m':Mem) (ap:Nat),True→I [slice a n c,int i64 aj] [cs] [slice al am an,slice af ag ah] m' ap→br
 (decide (aj < (↑p1n:Int))) (∃(ak:Nat),∃(o:Nat),p1a=some (Addr.mk ak o none)∧Zae aj p1n∧∃(v:Value),m' ak (o+Int.toNat aj*1)=some v∧∃(R:RT),True∧CX Try.prog 79 (Array.mk [agg
 (Array.mk [slice aI aH aJ,slice aZ aX bH,slice bC aY bD,slice bE bF bG,Value.bool aC]),slice a n c,v]) m' [] R∧Zaz Shape.slice R∧∀(a:Option Addr)(n c:Nat) (ad:
 Mem),Mem.le m' ad→R (slice a n c) ad []→br p2 (∀(aa:Nat),Mem.free ad aa→br (Nat.beq n 0) (∃(ae:Nat→Prop),∃(R:Value→Mem→List (List Value)→List Value→Prop),CXY Try.prog p3g (Array.mk
 (List.append (List.append p3fi [int i64 (IntKind.wrap i64 (aj+(1:Int))),slice (some (Addr.mk aa 0 none)) 1 1]) p3ca)) (Mem.add ad aa [int i64 (-1:Int)]) ae [Box.mk cb cs 24 1 false true] [Tok.mk (slice af ag ah)
 1] R∧(∀(t:Tok),t∈[Tok.mk (slice af ag ah) 1]→∀(b:Nat),Tok.blk t=some b→ae b)∧(∀(ab:Nat),ae ab→(∃(t:Tok),t∈[Tok.mk (slice af ag ah) 1]∧Tok.blk t=some ab)∨Mem.free (Mem.off m Y) ab∧
 (∃(o:Nat),∃(v:Value),Mem.add ad aa [int i64 (-1:Int)] ab o=some v)∧aa≠ab∧ac≠ab∧b≠ab∧Tok.blk (Tok.mk (slice al am an) 1)≠some ab∧Tok.blk (Tok.mk (slice al am an) 1)≠some ab∧True)∧(∀(v
 : Value) (m':Mem) (css:List (List Value)) (tvs:List Value),R v m' css tvs→Shape.fits (Shape.tup []) v=true)∧∀(m':Mem),Mem.le (Mem.off (Mem.add ad aa [int i64 (-1:Int)]) ae) m'→(∀(b o:Nat) (u:
 Value),m' b o=some u→Mem.add ad aa [int i64 (-1:Int)] b o=some u∨ae b∨Mem.free (Mem.add ad aa [int i64 (-1:Int)]) b)→∀(cs:List Value)(a:Option Addr)(c d:Nat),R (Value.tuple (Array.mk [])) m'
 [cs] [slice a c d]→[some (Box.mk ac [int i64 (-1:Int)] 3 1 true true),some (Box.mk b [slice aI aH aJ,slice aZ aX bH,slice bC aY bD,slice bE bF bG,Value.bool aC] 26 5 true
 true),some (Box.mk cb [] 24 1 false true)]=[some (Box.mk ac [int i64 (-1:Int)] 3 1 true true),some (Box.mk b [slice aI aH aJ,slice aZ aX bH,slice bC aY bD,slice bE bF bG,
 Value.bool aC] 26 5 true true),some (Box.mk cb [] 24 1 false true)]∧([none,none]:List (Option Tok))=[none,none]∧∃(n':Nat),n' < ap∧I [slice (some (Addr.mk aa 0 none)) 1 1,int i64 (IntKind.wrap i64 (aj
 + (1:Int)))] [cs] [slice al am an,slice a c d] m' n') (((∃(a:Option Addr),∃(n:Nat),∃(c:Nat),∃(k:Nat),Tok.mk (slice al am an) 1=Tok.mk (slice a n c) 1∧k≤n∧slice (some (Addr.mk aa 0 none)) 1 1 =
 slice (ZaJ a k c 1) (n - k) (c - k))∨slice (some (Addr.mk aa 0 none)) 1 1=slice none 0 0∨1 < 1+n)∧∃(xs:List Value),∃(ys:List Value),List.length xs=1*1∧List.length ys=n*1∧rowRd (Mem.add
 ad aa [int i64 (-1:Int)]) (some (Addr.mk aa 0 none)) xs∧rowRd (Mem.add ad aa [int i64 (-1:Int)]) a ys∧(∀(u:Value),u∈ys→Value.oneCell' u=true)∧(1+n)*8≤140737488355328∧1+n ≤
 9223372036854775807∧∀(a':Option Addr)(c':Nat)(m':Mem),Mem.le (Mem.add ad aa [int i64 (-1:Int)]) m'→rowRd m' a' (List.append xs ys)→TokFact (Mem.add ad aa [int i64 (-1:Int)]) (some (Addr.mk aa 0
 none)) a' (1+n) c'→∃(ae:Nat→Prop),∃(R:Value→Mem→List (List Value)→List Value→Prop),CXY Try.prog p3g (Array.mk (List.append (List.append p3fi [int i64 (IntKind.wrap i64 (aj+(1:Int))),slice a'
 (1+n) c']) p3ca)) m' ae [Box.mk cb cs 24 1 false true] [Tok.mk (slice af ag ah) 1] R∧(∀(t:Tok),t∈[Tok.mk (slice af ag ah) 1]→∀(b:Nat),Tok.blk t=some b→ae b)∧(∀(ab:Nat),ae ab→(∃(t:Tok),t ∈
 [Tok.mk (slice af ag ah) 1]∧Tok.blk t=some ab)∨Mem.free (Mem.off m Y) ab∧(∃(o:Nat),∃(v:Value),m' ab o=some v)∧aa≠ab∧ac≠ab∧b≠ab∧Tok.blk (Tok.mk (slice a' (1+n) c') 1)≠some ab∧Tok.blk
 (Tok.mk (slice a' (1+n) c') 1)≠some ab∧True)∧(∀(v:Value)(m':Mem) (css:List (List Value)) (tvs:List Value),R v m' css tvs→Shape.fits (Shape.tup []) v=true)∧∀(aq:Mem),Mem.le (Mem.off m' ae) aq
 → (∀(b o:Nat)(u:Value),aq b o=some u→m' b o=some u∨ae b∨Mem.free m' b)→∀(cs:List Value)(a:Option Addr)(c d:Nat),R (Value.tuple (Array.mk [])) aq [cs] [slice a c d]→[some (Box.mk ac [int
 i64 (-1:Int)] 3 1 true true),some (Box.mk b [slice aI aH aJ,slice aZ aX bH,slice bC aY bD,slice bE bF bG,Value.bool aC] 26 5 true true),some (Box.mk cb [] 24 1 false true)]
 = [some (Box.mk ac [int i64 (-1:Int)] 3 1 true true),some (Box.mk b [slice aI aH aJ,slice aZ aX bH,slice bC aY bD,slice bE bF bG,Value.bool aC] 26 5 true true),some (Box.mk
 cb [] 24 1 false true)]∧([none,none]:List (Option Tok))=[none,none]∧∃(n':Nat),n' < ap∧I [slice a' (1+n) c',int i64 (IntKind.wrap i64 (aj+(1:Int)))] [cs] [slice a' (1+n) c',slice a c d] aq n'))
 (∃(ae:Nat→Prop),∃(R:Value→Mem→List (List Value)→List Value→Prop),CXY Try.prog p3g (Array.mk (List.append (List.append p3fi [int i64 (IntKind.wrap i64 (aj+(1:Int))),slice a n c]) p3ca)) ad ae
 [Box.mk cb cs 24 1 false true] [Tok.mk (slice af ag ah) 1] R∧(∀(t:Tok),t∈[Tok.mk (slice af ag ah) 1]→∀(b:Nat),Tok.blk t=some b→ae b)∧(∀(aa:Nat),ae aa→(∃(t:Tok),t∈[Tok.mk (slice af ag ah)
 1]∧Tok.blk t=some aa)∨Mem.free (Mem.off m Y) aa∧(∃(o:Nat),∃(v:Value),ad aa o=some v)∧ac≠aa∧b≠aa∧Tok.blk (Tok.mk (slice al am an) 1)≠some aa∧True)∧(∀(v:Value)(m':Mem) (css:List
 (List Value)) (tvs:List Value),R v m' css tvs→Shape.fits (Shape.tup []) v=true)∧∀(m':Mem),Mem.le (Mem.off ad ae) m'→(∀(b o:Nat)(u:Value),m' b o=some u→ad b o=some u∨ae b∨Mem.free ad b)→
 ∀(cs:List Value)(au:Option Addr)(av d:Nat),R (Value.tuple (Array.mk [])) m' [cs] [slice au av d]→[some (Box.mk ac [int i64 (-1:Int)] 3 1 true true),some (Box.mk b [slice aI aH aJ,slice aZ
 aX bH,slice bC aY bD,slice bE bF bG,Value.bool aC] 26 5 true true),some (Box.mk cb [] 24 1 false true)]=[some (Box.mk ac [int i64 (-1:Int)] 3 1 true true),some (Box.mk b [slice aI
 aH aJ,slice aZ aX bH,slice bC aY bD,slice bE bF bG,Value.bool aC] 26 5 true true),some (Box.mk cb [] 24 1 false true)]∧([none,none]:List (Option Tok))=[none,none]∧∃(n'
 : Nat),n' < ap∧I [slice a n c,int i64 (IntKind.wrap i64 (aj+(1:Int)))] [cs] [slice al am an,slice au av d] m' n')) (Box.mk cb [slice ca cn cc] 24 1 false true=Box.mk cb [slice ca cn cc] 24 1 false true∧R
 (int i64 0) m' [cs] [slice af ag ah])))
theorem ZpO(aI:Option Addr)(aH aJ:Nat)(aZ:Option Addr)(aX bH:Nat)(bC:Option Addr)(aY bD:Nat)(bE:Option Addr)(bF bG:Nat)(aC:Bool)(p1a:Option Addr)(p1n p1c:Nat)(p2:Bool)(p3g:Nat)(p3fi p3ca:List Value)(ca:Option Addr)(cn cc cb:Nat)(t0a:Option Addr)(t0n t0c:Nat)(m:Mem)(Y:Nat→Prop)(R:RTY)(h:Zm1 aI aH aJ aZ aX bH bC aY bD bE bF bG aC p1a p1n p1c p2 p3g p3fi p3ca ca cn cc cb t0a t0n t0c m Y R):CXY Try.prog 80 #[.agg #[.slice aI aH aJ,.slice aZ aX bH,.slice bC aY bD,.slice bE bF bG,.bool aC],.slice p1a p1n p1c,.bool p2,.func (.func p3g) p3fi.toArray p3ca.toArray] m Y [⟨cb,[.slice ca cn cc],24,1,false,true⟩] [⟨.slice t0a t0n t0c,1⟩] R:=
 ZaT (E:=ZtA) Zar mix Try.func80 [.v (.agg #[.slice aI aH aJ,.slice aZ aX bH,.slice bC aY bD,.slice bE bF bG,.bool aC]),.v (.slice p1a p1n p1c),.v (.bool p2),.v (.func (.func p3g) p3fi.toArray p3ca.toArray)] [⟨cb,[.slice ca cn cc],24,1,false,true⟩] [900] [⟨.slice t0a t0n t0c,1⟩] (by decide) (by kernel_rfl) (Eq.mp (by kernel_rfl) h)
noncomputable def ZpP:Env:={ EB with
 thaw:=true }
def Zi5(p0:Int)(p1a:Option Addr)(p1n p1c c0b:Nat)(c0_0a:Option Addr)(c0_0n c0_0c:Nat)(t0a:Option Addr)(t0n t0c:Nat)(m:Mem)(Y:Nat→Prop)(R:RTY):Prop:=
 Box.mk c0b [slice c0_0a c0_0n c0_0c] 24 1 false true=Box.mk c0b [slice c0_0a c0_0n c0_0c] 24 1 false true∧R (Value.tuple (Array.mk [])) m [[slice p1a p1n p1c]] [slice t0a t0n t0c]
theorem Zl3(p0:Int)(p1a:Option Addr)(p1n p1c c0b:Nat)(c0_0a:Option Addr)(c0_0n c0_0c:Nat)(t0a:Option Addr)(t0n t0c:Nat)(m:Mem)(Y:Nat→Prop)(R:RTY)(h:Zi5 p0 p1a p1n p1c c0b c0_0a c0_0n c0_0c t0a t0n t0c m Y R):CXY Try.prog 81 #[.int .i64 p0,.slice p1a p1n p1c,.pointer (some ⟨c0b,0,none⟩)] m Y [⟨c0b,[.slice c0_0a c0_0n c0_0c],24,1,false,true⟩] [⟨.slice t0a t0n t0c,1⟩] R:=
 ZaT (E:=ZpP) Zar mix Try.func81 [.v (.int .i64 p0),.v (.slice p1a p1n p1c),.loc 100000 0] [⟨c0b,[.slice c0_0a c0_0n c0_0c],24,1,false,true⟩] [900] [⟨.slice t0a t0n t0c,1⟩] (by decide) (by kernel_rfl) (Eq.mp (by kernel_rfl) h)
noncomputable def ZtB:Env:={ EB with
 borrow:=(fun i=>bif Nat.beq i 11 then[6]else[])
 frzNew:=[2]
 thaw:=true
 lentC:=(fun i=>bif Nat.beq i 11 then some [(900,1)]else none) }
def Zm2(aI:Option Addr)(aH aJ:Nat)(aZ:Option Addr)(aX bH:Nat)(bC:Option Addr)(aY bD:Nat)(bE:Option Addr)(bF bG:Nat)(aC:Bool)(p1a:Option Addr)(p1n p1c:Nat)(m:Mem)(R:RT):Prop:=
 ∀(b:Nat)(m':Mem),Mem.le m m'→Mem.reads m' b 0 [slice aI aH aJ,slice aZ aX bH,slice bC aY bD,slice bE bF bG,Value.bool aC]→Mem.free m b→(∀(b' o:Nat)(u:Value),
 m' b' o=some u→m b' o=some u∨b'=b)→∀(b_1:Nat),∃(Y:Nat→Prop),∃(R_1:Value→Mem→List (List Value)→List Value→Prop),CXY Try.prog 80 (Array.mk [agg (Array.mk [slice aI aH aJ,slice
 aZ aX bH,slice bC aY bD,slice bE bF bG,Value.bool aC]),slice p1a p1n p1c,Value.bool false,Value.func (Fn.func 81) (Array.mk []) (Array.mk [Value.pointer (some (Addr.mk b_1 0 none))])])
 m' Y [Box.mk b_1 [slice none 0 0] 24 1 false true] [Tok.mk (slice none 0 0) 1] R_1∧(∀(t:Tok),t∈[Tok.mk (slice none 0 0) 1]→∀(b:Nat),Tok.blk t=some b→Y b)∧(∀(b_2:Nat),Y b_2→(∃(t:Tok),t ∈
 [Tok.mk (slice none 0 0) 1]∧Tok.blk t=some b_2)∨Mem.free m b_2∧(∃(o:Nat),∃(v:Value),m' b_2 o=some v)∧b≠b_2∧True)∧(∀(v:Value)(m':Mem) (css:List (List Value)) (tvs:List Value),R_1 v m'
 css tvs→Shape.fits (Shape.int i64) v=true)∧∀(n:Int)(m'_1:Mem),Mem.le (Mem.off m' Y) m'_1→(∀(b o:Nat)(u:Value),m'_1 b o=some u→m' b o=some u∨Y b∨Mem.free m' b)→∀(cs:List Value) (a:
 Option Addr) (c d:Nat),R_1 (int i64 n) m'_1 [cs] [slice a c d]→Eng.ZtS cs 0 fun(v:Value)=>∃(m'':Mem),Mem.le m m''∧Mem.le m'' m'_1∧R (Value.tuple (Array.mk [v,int i64 n])) m'' []
theorem Zrc(aI:Option Addr)(aH aJ:Nat)(aZ:Option Addr)(aX bH:Nat)(bC:Option Addr)(aY bD:Nat)(bE:Option Addr)(bF bG:Nat)(aC:Bool)(p1a:Option Addr)(p1n p1c:Nat)(m:Mem)(R:RT)(h:Zm2 aI aH aJ aZ aX bH bC aY bD bE bF bG aC p1a p1n p1c m R):CX Try.prog 29 #[.agg #[.slice aI aH aJ,.slice aZ aX bH,.slice bC aY bD,.slice bE bF bG,.bool aC],.slice p1a p1n p1c] m [] R:=
 Zaf (E:=ZtB) Zar mix Try.func29 [.v (.agg #[.slice aI aH aJ,.slice aZ aX bH,.slice bC aY bD,.slice bE bF bG,.bool aC]),.v (.slice p1a p1n p1c)] [] (by kernel_rfl) (Eq.mp (by kernel_rfl) h)
noncomputable def Zj6:Env:={ EB with
 tokOf:=(fun i=>bif Nat.beq i 12 then 900 else 0)
 thaw:=true }
def ZfW(p0:Int)(p1a:Option Addr)(p1n p1c c0b c0o c1b:Nat)(c1_0a:Option Addr)(c1_0n c1_0c:Nat)(t0a:Option Addr)(t0n t0c:Nat)(m:Mem)(Y:Nat→Prop)(R:RTY):Prop:=
 ∃(v:Value),∃(v_1:Value),∃(v_2:Value),∃(v_3:Value),∃(v_4:Value),Mem.reads m c0b c0o [v,v_1,v_2,v_3,v_4]∧∃(R_1:RT),True∧CX Try.prog 68 (Array.mk [agg (Array.mk [v,v_1,v_2,v_3,v_4]),
 slice p1a p1n p1c]) m [] R_1∧Zaz Shape.bool R_1∧∀(b:Bool)(m':Mem),Mem.le m m'→R_1 (Value.bool b) m' []→br b (∀(b:Nat),Mem.free m' b→(Tok.mk (slice t0a t0n t0c) 1=Tok.mk (slice c1_0a c1_0n c1_0c)
 1∨slice c1_0a c1_0n c1_0c=slice none 0 0∨c1_0c < c1_0n+1)∧∃(xs:List Value),∃(ys:List Value),List.length xs=c1_0n*1∧List.length ys=1*1∧rowRd (Mem.add m' b [int i64 p0]) c1_0a xs∧rowRd
 (Mem.add m' b [int i64 p0]) (some (Addr.mk b 0 none)) ys∧(∀(u:Value),u∈ys→Value.oneCell' u=true)∧(c1_0n+1)*8≤140737488355328∧c1_0n+1≤9223372036854775807∧∀(a':Option Addr)(c':Nat) (m'_1
 : Mem),Mem.le (Mem.add m' b [int i64 p0]) m'_1→rowRd m'_1 a' (List.append xs ys)→TokFact (Mem.add m' b [int i64 p0]) c1_0a a' (c1_0n+1) c'→Box.mk c1b [slice c1_0a c1_0n c1_0c] 24 1 false true=Box.mk c1b
 [slice c1_0a c1_0n c1_0c] 24 1 false true∧R (Value.tuple (Array.mk [])) m'_1 [[slice a' (c1_0n+1) c']] [slice a' (c1_0n+1) c']) (Box.mk c1b [slice c1_0a c1_0n c1_0c] 24 1 false true=Box.mk c1b [slice c1_0a c1_0n
 c1_0c] 24 1 false true∧R (Value.tuple (Array.mk [])) m' [[slice c1_0a c1_0n c1_0c]] [slice t0a t0n t0c])
theorem ZhY(p0:Int)(p1a:Option Addr)(p1n p1c c0b c0o c1b:Nat)(c1_0a:Option Addr)(c1_0n c1_0c:Nat)(t0a:Option Addr)(t0n t0c:Nat)(m:Mem)(Y:Nat→Prop)(R:RTY)(h:ZfW p0 p1a p1n p1c c0b c0o c1b c1_0a c1_0n c1_0c t0a t0n t0c m Y R):CXY Try.prog 82 #[.int .i64 p0,.slice p1a p1n p1c,.pointer (some ⟨c0b,c0o,none⟩),.pointer (some ⟨c1b,0,none⟩)] m Y [⟨c1b,[.slice c1_0a c1_0n c1_0c],24,1,false,true⟩] [⟨.slice t0a t0n t0c,1⟩] R:=
 ZaT (E:=Zj6) Zar mix Try.func82 [.v (.int .i64 p0),.v (.slice p1a p1n p1c),.v (.pointer (some ⟨c0b,c0o,none⟩)),.loc 100000 0] [⟨c1b,[.slice c1_0a c1_0n c1_0c],24,1,false,true⟩] [900] [⟨.slice t0a t0n t0c,1⟩] (by decide) (by kernel_rfl) (Eq.mp (by kernel_rfl) h)
noncomputable def ZnG:Env:={ EB with
 borrow:=(fun i=>bif Nat.beq i 11 then[6]else[])
 frzNew:=[2]
 thaw:=true
 lentC:=(fun i=>bif Nat.beq i 11 then some [(900,1)]else none) }
def ZhM(aI:Option Addr)(aH aJ:Nat)(aZ:Option Addr)(aX bH:Nat)(bC:Option Addr)(aY bD:Nat)(bE:Option Addr)(bF bG:Nat)(aC:Bool)(p1a:Option Addr)(p1n p1c:Nat)(m:Mem)(R:RT):Prop:=
 ∀(b:Nat)(m':Mem),Mem.le m m'→Mem.reads m' b 0 [slice aI aH aJ,slice aZ aX bH,slice bC aY bD,slice bE bF bG,Value.bool aC]→Mem.free m b→(∀(b' o:Nat)(u:Value),
 m' b' o=some u→m b' o=some u∨b'=b)→∀(b_1:Nat),∃(Y:Nat→Prop),∃(R_1:Value→Mem→List (List Value)→List Value→Prop),CXY Try.prog 80 (Array.mk [agg (Array.mk [slice aI aH aJ,slice
 aZ aX bH,slice bC aY bD,slice bE bF bG,Value.bool aC]),slice p1a p1n p1c,Value.bool true,Value.func (Fn.func 82) (Array.mk []) (Array.mk [Value.pointer (some (Addr.mk b 0 none)),
 Value.pointer (some (Addr.mk b_1 0 none))])]) m' Y [Box.mk b_1 [slice none 0 0] 24 1 false true] [Tok.mk (slice none 0 0) 1] R_1∧(∀(t:Tok),t∈[Tok.mk (slice none 0 0) 1]→∀(b:Nat),Tok.blk t=some b→Y b)∧
 (∀(b_2:Nat),Y b_2→(∃(t:Tok),t∈[Tok.mk (slice none 0 0) 1]∧Tok.blk t=some b_2)∨Mem.free m b_2∧(∃(o:Nat),∃(v:Value),m' b_2 o=some v)∧b≠b_2∧True)∧(∀(v:Value)(m':Mem) (css:List
 (List Value)) (tvs:List Value),R_1 v m' css tvs→Shape.fits (Shape.int i64) v=true)∧∀(n:Int)(m'_1:Mem),Mem.le (Mem.off m' Y) m'_1→(∀(b o:Nat)(u:Value),m'_1 b o=some u→m' b o=some u∨Y b∨
 Mem.free m' b)→∀(cs:List Value)(a:Option Addr)(c d:Nat),R_1 (int i64 n) m'_1 [cs] [slice a c d]→Eng.ZtS cs 0 fun(v:Value)=>∃(m'':Mem),Mem.le m m''∧Mem.le m'' m'_1∧R (Value.tuple (Array.mk [v,
 int i64 n])) m'' []
theorem Zl4(aI:Option Addr)(aH aJ:Nat)(aZ:Option Addr)(aX bH:Nat)(bC:Option Addr)(aY bD:Nat)(bE:Option Addr)(bF bG:Nat)(aC:Bool)(p1a:Option Addr)(p1n p1c:Nat)(m:Mem)(R:RT)(h:ZhM aI aH aJ aZ aX bH bC aY bD bE bF bG aC p1a p1n p1c m R):CX Try.prog 30 #[.agg #[.slice aI aH aJ,.slice aZ aX bH,.slice bC aY bD,.slice bE bF bG,.bool aC],.slice p1a p1n p1c] m [] R:=
 Zaf (E:=ZnG) Zar mix Try.func30 [.v (.agg #[.slice aI aH aJ,.slice aZ aX bH,.slice bC aY bD,.slice bE bF bG,.bool aC]),.v (.slice p1a p1n p1c)] [] (by kernel_rfl) (Eq.mp (by kernel_rfl) h)
noncomputable def Zl5:Env:={ EB with
 joins:=(fun i=>bif Nat.beq i 2 then some [(4,.bool),(5,.int .i64)]else none)
 frzNew:=[2] }
def ZgR(aI:Option Addr)(aH aJ:Nat)(aZ:Option Addr)(aX bH:Nat)(bC:Option Addr)(aY bD:Nat)(bE:Option Addr)(bF bG:Nat)(aC:Bool)(p1a:Option Addr)(p1n p1c:Nat)(m:Mem)(R:RT):Prop:=
 ∀(b:Nat)(m':Mem),Mem.le m m'→Mem.reads m' b 0 [slice aI aH aJ,slice aZ aX bH,slice bC aY bD,slice bE bF bG,Value.bool aC]→∃(R_1:RT),True∧CX Try.prog 29
 (Array.mk [agg (Array.mk [slice aI aH aJ,slice aZ aX bH,slice bC aY bD,slice bE bF bG,Value.bool aC]),slice p1a p1n p1c]) m' [] R_1∧Zaz (Shape.tup [Shape.slice,Shape.int
 i64]) R_1∧∀(a:Option Addr)(n c:Nat)(n_1:Int)(m'_1:Mem),Mem.le m' m'_1→R_1 (Value.tuple (Array.mk [slice a n c,int i64 n_1])) m'_1 []→∃(b_1:Bool),∃(n_2:Int),br (n_1 == (0:Int)) (∃(R:RT),
 True∧CX Try.prog 68 (Array.mk [agg (Array.mk [slice aI aH aJ,slice aZ aX bH,slice bC aY bD,slice bE bF bG,Value.bool aC]),slice a n c]) m'_1 [] R∧Zaz Shape.bool R∧∀(b_2
 : Bool) (m':Mem),Mem.le m'_1 m'→R (Value.bool b_2) m' []→[some (Box.mk b [slice aI aH aJ,slice aZ aX bH,slice bC aY bD,slice bE bF bG,Value.bool aC] 26 5 true true)] =
 [some (Box.mk b [slice aI aH aJ,slice aZ aX bH,slice bC aY bD,slice bE bF bG,Value.bool aC] 26 5 true true)]∧[Value.bool b_2,int i64 n_1]=[Value.bool b_1,int i64 n_2])
 ([some (Box.mk b [slice aI aH aJ,slice aZ aX bH,slice bC aY bD,slice bE bF bG,Value.bool aC] 26 5 true true)]=[some (Box.mk b [slice aI aH aJ,slice aZ aX
 bH,slice bC aY bD,slice bE bF bG,Value.bool aC] 26 5 true true)]∧[Value.bool false,int i64 n_1]=[Value.bool b_1,int i64 n_2])∧∃(m'':Mem),Mem.le m m''∧Mem.le m'' m'_1∧R
 (Value.tuple (Array.mk [Value.bool b_1,int i64 n_2])) m'' []
theorem Zj7(aI:Option Addr)(aH aJ:Nat)(aZ:Option Addr)(aX bH:Nat)(bC:Option Addr)(aY bD:Nat)(bE:Option Addr)(bF bG:Nat)(aC:Bool)(p1a:Option Addr)(p1n p1c:Nat)(m:Mem)(R:RT)(h:ZgR aI aH aJ aZ aX bH bC aY bD bE bF bG aC p1a p1n p1c m R):CX Try.prog 18 #[.agg #[.slice aI aH aJ,.slice aZ aX bH,.slice bC aY bD,.slice bE bF bG,.bool aC],.slice p1a p1n p1c] m [] R:=
 Zaf (E:=Zl5) Zar mix Try.func18 [.v (.agg #[.slice aI aH aJ,.slice aZ aX bH,.slice bC aY bD,.slice bE bF bG,.bool aC]),.v (.slice p1a p1n p1c)] [] (by kernel_rfl) (Eq.mp (by kernel_rfl) h)
noncomputable def Zl6:Env:={ EB with
 loops:=(fun i=>bif Nat.beq i 3 then⟨[(4,.slice)],[3],[(28,1)],false⟩ else⟨[],[],[],false⟩)
 tokOf:=(fun i=>bif Nat.beq i 28 then 28 else 0)
 frzNew:=[1]
 tokC:=(fun i=>bif Nat.beq i 8 then some (28,1)else none)
 thaw:=true
 tails:=true }
def ZgS(aI:Option Addr)(aH aJ:Nat)(aZ:Option Addr)(aX bH:Nat)(bC:Option Addr)(aY bD:Nat)(bE:Option Addr)(bF bG:Nat)(aC:Bool)(m:Mem)(R:RT):Prop:=
 ∀(b:Nat)(m':Mem),Mem.le m m'→Mem.reads m' b 0 [slice aI aH aJ,slice aZ aX bH,slice bC aY bD,slice bE bF bG,Value.bool aC]→Mem.free m b→(∀(b' o:Nat)(u:Value),
 m' b' o=some u→m b' o=some u∨b'=b)→∀(ac ab:Nat),∃(R_1:RT),CXT Try.prog 44 (Array.mk [slice bC aY bD]) m' 1 R_1∧Zaz Shape.slice R_1∧∀(a:Option Addr)(n c:Nat)(ai:Mem),Mem.le m'
 ai→R_1 (slice a n c) ai []→∃(I:IT),(∃(ad:Nat),I [slice a n c] [[int u64 0,int u64 0,int u64 0,int u64 0,int u64 0,int u64 0,int u64 0]] [slice a n c] ai ad)∧∀(a:Option Addr)(n c:Nat) (cs:List
 Value) (af:Option Addr) (ad ag:Nat) (m':Mem) (ah:Nat),True→I [slice a n c] [cs] [slice af ad ag] m' ah→br (decide ((↑n:Int) > (0:Int))) (∃(am:Nat),∃(o:Nat),a=some (Addr.mk am o none)∧Zae
 (0:Int) n∧∃(v:Value),m' am (o+0)=some v∧((0:Int)≤(1:Int)∧(1:Int)≤(↑n:Int))∧∃(R:RT),True∧CX Try.prog 115 (Array.mk [Value.pointer (some (Addr.mk ab 0 none)),v]) m' [Box.mk ab cs 100 7
 false true] R∧Zaz Shape.bool R∧∀(an:Bool)(ae:Mem),Mem.le m' ae→∀(cs:List Value),R (Value.bool an) ae [cs]→br (!an) (∃(R:RT),True∧CX Try.prog 116 (Array.mk [Value.pointer (some (Addr.mk ab 0
 none)),v]) ae [Box.mk ab cs 100 7 false true] R∧Zaz (Shape.tup []) R∧∀(m':Mem),Mem.le ae m'→∀(cs:List Value),R (Value.tuple (Array.mk [])) m' [cs]→chk (Zbh v) (∃(ao:Nat),∃(o:Nat),aZ =
 some (Addr.mk ao o none)∧Zae (RowKit.intOf v) aX∧∃(aa:Value),m' ao (o+Int.toNat (RowKit.intOf v)*1)=some aa∧chk (Zft aa&&true) (br (Nat.beq (slN aa) 0) (chk (Nat.ble (n - Int.toNat (1:Int))
 (c - Int.toNat (1:Int))) ([some (Box.mk ab [] 100 7 false true),some (Box.mk ac [int u64 0,int u64 0,int u64 0,int u64 0,int u64 0,int u64 0,int u64 0] 100 7 false true),some (Box.mk b [slice aI aH
 aJ,slice aZ aX bH,slice bC aY bD,slice bE bF bG,Value.bool aC] 26 5 true true)]=[some (Box.mk ab [] 100 7 false true),some (Box.mk ac [int u64 0,int u64 0,int u64 0,int u64 0,
 int u64 0,int u64 0,int u64 0] 100 7 false true),some (Box.mk b [slice aI aH aJ,slice aZ aX bH,slice bC aY bD,slice bE bF bG,Value.bool aC] 26 5 true true)]∧([none]:List
 (Option Tok))=[none]∧∃(n':Nat),n' < ah∧I [slice (ZaJ a (Int.toNat (1:Int)) c 1) (n - Int.toNat (1:Int)) (c - Int.toNat (1:Int))] [cs] [slice af ad ag] m' n')) (((∃(ap:Option Addr),∃(aj:Nat),∃
 (ak:Nat),∃(k:Nat),Tok.mk (slice af ad ag) 1=Tok.mk (slice ap aj ak) 1∧k≤aj∧slice (ZaJ a (Int.toNat (1:Int)) c 1) (n - Int.toNat (1:Int)) (c - Int.toNat (1:Int))=slice (ZaJ ap k ak 1) (aj -
 k) (ak - k))∨slice (ZaJ a (Int.toNat (1:Int)) c 1) (n - Int.toNat (1:Int)) (c - Int.toNat (1:Int))=slice none 0 0∨c - Int.toNat (1:Int) < n - Int.toNat (1:Int)+slN aa)∧∃(xs:List Value),∃(ys:
 List Value),List.length xs=(n - Int.toNat (1:Int))*1∧List.length ys=slN aa*1∧rowRd m' (ZaJ a (Int.toNat (1:Int)) c 1) xs∧rowRd m' (slA aa) ys∧(∀(u:Value),u∈ys→Value.oneCell' u=true)∧
 (n - Int.toNat (1:Int)+slN aa)*8≤140737488355328∧n - Int.toNat (1:Int)+slN aa≤9223372036854775807∧∀(a':Option Addr)(c':Nat)(al:Mem),Mem.le m' al→rowRd al a' (List.append xs ys)→TokFact m'
 (ZaJ a (Int.toNat (1:Int)) c 1) a' (n - Int.toNat (1:Int)+slN aa) c'→[some (Box.mk ab [] 100 7 false true),some (Box.mk ac [int u64 0,int u64 0,int u64 0,int u64 0,int u64 0,int u64 0,int u64 0] 100 7
 false true),some (Box.mk b [slice aI aH aJ,slice aZ aX bH,slice bC aY bD,slice bE bF bG,Value.bool aC] 26 5 true true)]=[some (Box.mk ab [] 100 7 false true),some (Box.mk ac
 [int u64 0,int u64 0,int u64 0,int u64 0,int u64 0,int u64 0,int u64 0] 100 7 false true),some (Box.mk b [slice aI aH aJ,slice aZ aX bH,slice bC aY bD,slice bE bF bG,
 Value.bool aC] 26 5 true true)]∧([none]:List (Option Tok))=[none]∧∃(n':Nat),n' < ah∧I [slice a' (n - Int.toNat (1:Int)+slN aa) c'] [cs] [slice a' (n - Int.toNat (1:Int)+slN aa) c'] al n'))))
 ([some (Box.mk ab [] 100 7 false true),some (Box.mk ac [int u64 0,int u64 0,int u64 0,int u64 0,int u64 0,int u64 0,int u64 0] 100 7 false true),some (Box.mk b [slice aI aH aJ,slice aZ aX bH,
 slice bC aY bD,slice bE bF bG,Value.bool aC] 26 5 true true)]=[some (Box.mk ab [] 100 7 false true),some (Box.mk ac [int u64 0,int u64 0,int u64 0,int u64 0,int u64 0,int u64 0,int u64 0]
 100 7 false true),some (Box.mk b [slice aI aH aJ,slice aZ aX bH,slice bC aY bD,slice bE bF bG,Value.bool aC] 26 5 true true)]∧([none]:List (Option Tok))=[none]∧∃(n':
 Nat),n' < ah∧I [slice (ZaJ a (Int.toNat (1:Int)) c 1) (n - Int.toNat (1:Int)) (c - Int.toNat (1:Int))] [cs] [slice af ad ag] ae n')) (chk (Nat.beq (List.length cs) 7&&Zb3 cs) (∃(m'':Mem),Mem.le m m''
 ∧ Mem.le m'' m'∧R (agg (Array.mk cs)) m'' []))
theorem Zj8(aI:Option Addr)(aH aJ:Nat)(aZ:Option Addr)(aX bH:Nat)(bC:Option Addr)(aY bD:Nat)(bE:Option Addr)(bF bG:Nat)(aC:Bool)(m:Mem)(R:RT)(h:ZgS aI aH aJ aZ aX bH bC aY bD bE bF bG aC m R):CX Try.prog 69 #[.agg #[.slice aI aH aJ,.slice aZ aX bH,.slice bC aY bD,.slice bE bF bG,.bool aC]] m [] R:=
 Zaf (E:=Zl6) Zar mix Try.func69 [.v (.agg #[.slice aI aH aJ,.slice aZ aX bH,.slice bC aY bD,.slice bE bF bG,.bool aC])] [] (by kernel_rfl) (Eq.mp (by kernel_rfl) h)
noncomputable def Zrd:Env:={ EB with
 loops:=(fun i=>bif Nat.beq i 6 then⟨[(21,.int .i64)],[6],[],false⟩ else⟨[],[],[],false⟩)
 dr:=(fun i=>bif Nat.beq i 4 then[⟨0,[1],[],none,[],[]⟩,⟨1,[],[],none,[0],[]⟩,⟨2,[4],[],none,[],[]⟩,⟨3,[],[],none,[0,1,2],[1]⟩,⟨4,[6],[6],none,[],[]⟩,⟨5,[7],[7],none,[],[]⟩,⟨6,[6],[6],none,[0,1,2,3,4,5],[]⟩,⟨7,[7],[7],none,[0,1,2,3,4,5,6],[]⟩]else bif Nat.beq i 8 then[⟨0,[],[],none,[],[]⟩,⟨1,[6],[],none,[0],[]⟩,⟨2,[6],[],none,[0,1],[]⟩,⟨3,[],[],none,[],[]⟩,⟨4,[7],[],none,[3],[]⟩,⟨5,[7],[],none,[3,4],[]⟩,⟨6,[],[],none,[0,1,2,3,4,5],[]⟩,⟨7,[6],[],none,[0,1,2,3,4,5,6],[]⟩,⟨8,[6],[6],none,[0,1,2,3,4,5,6,7],[]⟩]else[])
 frzNew:=[1]
 frzAt:=(fun i=>bif Nat.beq i 33 then[6]else[]) }
def Zk1(aI:Option Addr)(aH aJ:Nat)(aZ:Option Addr)(aX bH:Nat)(bC:Option Addr)(aY bD:Nat)(bE:Option Addr)(bF bG:Nat)(aC:Bool)(m:Mem)(R:RT):Prop:=
 ∀(b:Nat)(m':Mem),Mem.le m m'→Mem.reads m' b 0 [slice aI aH aJ,slice aZ aX bH,slice bC aY bD,slice bE bF bG,Value.bool aC]→∃(R_1:RT),True∧CX Try.prog 16
 (Array.mk [agg (Array.mk [slice aI aH aJ,slice aZ aX bH,slice bC aY bD,slice bE bF bG,Value.bool aC])]) m' [] R_1∧Zaz (Shape.tup [Shape.agg [Shape.slice,Shape.slice,
 Shape.slice,Shape.slice,Shape.bool],Shape.int i64]) R_1∧∀(a:Option Addr)(n c:Nat)(ak:Option Addr)(al am:Nat)(an:Option Addr)(ao ap:Nat)(aq:Option Addr)(ar au:Nat)(av:Bool)(ay:Int) (ab
 : Mem),Mem.le m' ab→R_1 (Value.tuple (Array.mk [agg (Array.mk [slice a n c,slice ak al am,slice an ao ap,slice aq ar au,Value.bool av]),int i64 ay])) ab []→∀(a0:Nat),br (!ay == (0:Int)) (∃(m'':Mem),
 Mem.le m m''∧Mem.le m'' ab∧R (Value.tuple (Array.mk [slice none 0 0,int i64 ay])) m'' []) (∃(f:Fx),∃(R_2:RT),R_2=f 1 [agg (Array.mk [slice aI aH aJ,slice aZ aX bH,slice bC aY
 bD,slice bE bF bG,Value.bool aC])] ab∧CX Try.prog 69 (Array.mk [agg (Array.mk [slice aI aH aJ,slice aZ aX bH,slice bC aY bD,slice bE bF bG,Value.bool aC])]) ab
 [] R_2∧Zaz (Shape.agg [Shape.int u64,Shape.int u64,Shape.int u64,Shape.int u64,Shape.int u64,Shape.int u64,Shape.int u64]) R_2∧∀(a1 a2 a3 a4 a5 a6 a7:Int)(m':Mem),Mem.le ab m'→R_2 (agg (Array.mk [int
 u64 a1,int u64 a2,int u64 a3,int u64 a4,int u64 a5,int u64 a6,int u64 a7])) m' []→∃(R_3:RT),R_3=f 3 [agg (Array.mk [slice a n c,slice ak al am,slice an ao ap,slice aq ar au,Value.bool av])] m'∧CX
 Try.prog 69 (Array.mk [agg (Array.mk [slice a n c,slice ak al am,slice an ao ap,slice aq ar au,Value.bool av])]) m' [] R_3∧Zaz (Shape.agg [Shape.int u64,Shape.int u64,Shape.int u64,Shape.int u64,Shape.int
 u64,Shape.int u64,Shape.int u64]) R_3∧∀(ac ad ae af ag ah ai:Int)(az:Mem),Mem.le m' az→R_3 (agg (Array.mk [int u64 ac,int u64 ad,int u64 ae,int u64 af,int u64 ag,int u64 ah,int u64 ai])) az []→∀(aj
 aw:Nat) (M:Mem),Mem.le ab M→Mem.le m' M→Mem.le az M→∃(I:IT),(∃(n:Nat),I [int i64 0] [[int u64 a1,int u64 a2,int u64 a3,int u64 a4,int u64 a5,int u64 a6,int u64 a7]] [] M n)∧∀(aa:Int) (cs:
 List Value) (m':Mem) (a8:Nat),Mem.le M m'→I [int i64 aa] [cs] [] m' a8→br (decide (aa < (7:Int))) (Zae aa 7∧Eng.ZtS cs (0+Int.toNat aa*1) fun(v:Value)=>Zae aa 7∧Eng.ZtS [int u64 ac,int
 u64 ad,int u64 ae,int u64 af,int u64 ag,int u64 ah,int u64 ai] (0+Int.toNat aa*1) fun(a9:Value)=>chk (Zby u64 v&&Zby u64 a9) (Zae aa 7∧chk (Nat.ble (0+Int.toNat aa*1+1) (List.length cs))
 ([some (Box.mk aj [] 100 7 false true),some (Box.mk aw [int u64 ac,int u64 ad,int u64 ae,int u64 af,int u64 ag,int u64 ah,int u64 ai] 100 7 false true),some (Box.mk aj [] 100 7 false true),some (Box.mk aw [int
 u64 ac,int u64 ad,int u64 ae,int u64 af,int u64 ag,int u64 ah,int u64 ai] 100 7 false true),some (Box.mk a0 [slice a n c,slice ak al am,slice an ao ap,slice aq ar au,Value.bool av] 26 5 false true),some
 (Box.mk b [slice aI aH aJ,slice aZ aX bH,slice bC aY bD,slice bE bF bG,Value.bool aC] 26 5 true true)]=[some (Box.mk aj [] 100 7 false true),some (Box.mk aw [int u64 ac,int
 u64 ad,int u64 ae,int u64 af,int u64 ag,int u64 ah,int u64 ai] 100 7 false true),some (Box.mk aj [] 100 7 false true),some (Box.mk aw [int u64 ac,int u64 ad,int u64 ae,int u64 af,int u64 ag,int u64 ah,int
 u64 ai] 100 7 false true),some (Box.mk a0 [slice a n c,slice ak al am,slice an ao ap,slice aq ar au,Value.bool av] 26 5 false true),some (Box.mk b [slice aI aH aJ,slice aZ aX bH,slice bC
 aY bD,slice bE bF bG,Value.bool aC] 26 5 true true)]∧∃(n':Nat),n' < a8∧I [int i64 (IntKind.wrap i64 (aa+(1:Int)))] [Zan cs (0+Int.toNat aa*1) [int u64 (IntKind.wrap u64
 (↑(BitVec.toNat (BitVec.ofInt 64 (RowKit.intOf v)&&&BitVec.ofInt 64 (RowKit.intOf a9))):Int))]] [] m' n'))) (∀(ax:Mem),Mem.le m' ax→Mem.reads ax aj 0 cs→∃(R_4:RT),True∧CX Try.prog 62 (Array.mk
 [Value.pointer (some (Addr.mk aj 0 none))]) ax [] R_4∧Zaz Shape.slice R_4∧∀(a:Option Addr)(n c:Nat)(m':Mem),Mem.le ax m'→R_4 (slice a n c) m' []→∃(m'':Mem),Mem.le m m''∧Mem.le m'' m'∧R
 (Value.tuple (Array.mk [slice a n c,int i64 0])) m'' []))
theorem ZpQ(aI:Option Addr)(aH aJ:Nat)(aZ:Option Addr)(aX bH:Nat)(bC:Option Addr)(aY bD:Nat)(bE:Option Addr)(bF bG:Nat)(aC:Bool)(m:Mem)(R:RT)(h:Zk1 aI aH aJ aZ aX bH bC aY bD bE bF bG aC m R):CX Try.prog 20 #[.agg #[.slice aI aH aJ,.slice aZ aX bH,.slice bC aY bD,.slice bE bF bG,.bool aC]] m [] R:=
 Zaf (E:=Zrd) Zar mix Try.func20 [.v (.agg #[.slice aI aH aJ,.slice aZ aX bH,.slice bC aY bD,.slice bE bF bG,.bool aC])] [] (by kernel_rfl) (Eq.mp (by kernel_rfl) h)
end Go.Proofs.Ytplacemlpkhmfaa

