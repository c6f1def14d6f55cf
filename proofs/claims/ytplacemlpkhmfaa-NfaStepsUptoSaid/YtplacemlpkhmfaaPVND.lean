/- Part of the proof: conditions and contracts of functions of this program. No condition of its own. -/
import Derived.Test.YtplacemlpkhmfaaPEnv
import Derived.Test.YtplacemlpkhmfaaMc
set_option linter.unusedVariables false
namespace Go.Proofs.Ytplacemlpkhmfaa
open Go Go.Eng Go.Proofs Go.RowKit
open Go.Value (int slice agg)
open Go.IntKind (u8 u64 i64)
set_option maxRecDepth 100000
noncomputable def Zhz:Env:={ EB with
 joins:=(fun i=>bif Nat.beq i 1 then some [(4,.bool)]else none) }
def ZdK(p0:Int)(c0b c0o c1b c1o:Nat)(m:Mem)(R:RT):Prop:=
 ∃(b:Bool),br (p0 == (-1:Int)) (∃(v:Value),m c0b (c0o+4)=some v∧bif Zaj v then bif Zaj v then bif Zaj v then bif Zaj v then bif Zaj v then bif Zaj v then bif Zaj v then bif
 Zaj v then chk (Zae v) (br (Zac v) ([Value.bool true]=[Value.bool b]) False)else chk (Zae v) (br (Zac v) (chk (Zae v) (br (Zac v) ([Value.bool true]=[Value.bool b]) False)) False)else chk
 (Zae v) (br (Zac v) ([Value.bool true]=[Value.bool b]) False)else chk (Zae v) (br (Zac v) (bif Zaj v then bif Zaj v then chk (Zae v) (br (Zac v) ([Value.bool true]=[Value.bool b]) False)
 else chk (Zae v) (br (Zac v) (chk (Zae v) (br (Zac v) ([Value.bool true]=[Value.bool b]) False)) False)else chk (Zae v) (br (Zac v) ([Value.bool true]=[Value.bool b]) False)) (bif Zaj v then
 bif Zaj v then chk (Zae v) (br (Zac v) ([Value.bool true]=[Value.bool b]) False)else chk (Zae v) (br (Zac v) (chk (Zae v) (br (Zac v) ([Value.bool true]=[Value.bool b]) False)) False)else chk
 (Zae v) (br (Zac v) ([Value.bool true]=[Value.bool b]) False)))else chk (Zae v) (br (Zac v) ([Value.bool true]=[Value.bool b]) False)else chk (Zae v) (br (Zac v) (bif Zaj v then bif Zaj v
 then bif Zaj v then bif Zaj v then chk (Zae v) (br (Zac v) ([Value.bool true]=[Value.bool b]) False)else chk (Zae v) (br (Zac v) (chk (Zae v) (br (Zac v) ([Value.bool true]=[Value.bool b])
 False)) False)else chk (Zae v) (br (Zac v) ([Value.bool true]=[Value.bool b]) False)else chk (Zae v) (br (Zac v) (bif Zaj v then bif Zaj v then chk (Zae v) (br (Zac v) ([Value.bool true] =
 [Value.bool b]) False)else chk (Zae v) (br (Zac v) (chk (Zae v) (br (Zac v) ([Value.bool true]=[Value.bool b]) False)) False)else chk (Zae v) (br (Zac v) ([Value.bool true]=[Value.bool b])
 False)) (bif Zaj v then bif Zaj v then chk (Zae v) (br (Zac v) ([Value.bool true]=[Value.bool b]) False)else chk (Zae v) (br (Zac v) (chk (Zae v) (br (Zac v) ([Value.bool true]=[Value.bool
 b]) False)) False)else chk (Zae v) (br (Zac v) ([Value.bool true]=[Value.bool b]) False)))else chk (Zae v) (br (Zac v) ([Value.bool true]=[Value.bool b]) False)) False)else chk (Zae v) (br (Zac
 v) ([Value.bool true]=[Value.bool b]) False)else chk (Zae v) (br (Zac v) (bif Zaj v then bif Zaj v then bif Zaj v then bif Zaj v then bif Zaj v then bif Zaj v then chk (Zae v) (br
 (Zac v) ([Value.bool true]=[Value.bool b]) False)else chk (Zae v) (br (Zac v) (chk (Zae v) (br (Zac v) ([Value.bool true]=[Value.bool b]) False)) False)else chk (Zae v) (br (Zac v)
 ([Value.bool true]=[Value.bool b]) False)else chk (Zae v) (br (Zac v) (bif Zaj v then bif Zaj v then chk (Zae v) (br (Zac v) ([Value.bool true]=[Value.bool b]) False)else chk (Zae v) (br
 (Zac v) (chk (Zae v) (br (Zac v) ([Value.bool true]=[Value.bool b]) False)) False)else chk (Zae v) (br (Zac v) ([Value.bool true]=[Value.bool b]) False)) (bif Zaj v then bif Zaj v then chk
 (Zae v) (br (Zac v) ([Value.bool true]=[Value.bool b]) False)else chk (Zae v) (br (Zac v) (chk (Zae v) (br (Zac v) ([Value.bool true]=[Value.bool b]) False)) False)else chk (Zae v) (br (Zac
 v) ([Value.bool true]=[Value.bool b]) False)))else chk (Zae v) (br (Zac v) ([Value.bool true]=[Value.bool b]) False)else chk (Zae v) (br (Zac v) (bif Zaj v then bif Zaj v then bif Zaj v
 then bif Zaj v then chk (Zae v) (br (Zac v) ([Value.bool true]=[Value.bool b]) False)else chk (Zae v) (br (Zac v) (chk (Zae v) (br (Zac v) ([Value.bool true]=[Value.bool b]) False)) False)
 else chk (Zae v) (br (Zac v) ([Value.bool true]=[Value.bool b]) False)else chk (Zae v) (br (Zac v) (bif Zaj v then bif Zaj v then chk (Zae v) (br (Zac v) ([Value.bool true]=[Value.bool b])
 False)else chk (Zae v) (br (Zac v) (chk (Zae v) (br (Zac v) ([Value.bool true]=[Value.bool b]) False)) False)else chk (Zae v) (br (Zac v) ([Value.bool true]=[Value.bool b]) False)) (bif Zaj v
 then bif Zaj v then chk (Zae v) (br (Zac v) ([Value.bool true]=[Value.bool b]) False)else chk (Zae v) (br (Zac v) (chk (Zae v) (br (Zac v) ([Value.bool true]=[Value.bool b]) False)) False)
 else chk (Zae v) (br (Zac v) ([Value.bool true]=[Value.bool b]) False)))else chk (Zae v) (br (Zac v) ([Value.bool true]=[Value.bool b]) False)) False)else chk (Zae v) (br (Zac v) ([Value.bool
 true]=[Value.bool b]) False)) (bif Zaj v then bif Zaj v then bif Zaj v then bif Zaj v then bif Zaj v then bif Zaj v then chk (Zae v) (br (Zac v) ([Value.bool true]=[Value.bool b])
 False)else chk (Zae v) (br (Zac v) (chk (Zae v) (br (Zac v) ([Value.bool true]=[Value.bool b]) False)) False)else chk (Zae v) (br (Zac v) ([Value.bool true]=[Value.bool b]) False)else chk
 (Zae v) (br (Zac v) (bif Zaj v then bif Zaj v then chk (Zae v) (br (Zac v) ([Value.bool true]=[Value.bool b]) False)else chk (Zae v) (br (Zac v) (chk (Zae v) (br (Zac v) ([Value.bool
 true]=[Value.bool b]) False)) False)else chk (Zae v) (br (Zac v) ([Value.bool true]=[Value.bool b]) False)) (bif Zaj v then bif Zaj v then chk (Zae v) (br (Zac v) ([Value.bool true] =
 [Value.bool b]) False)else chk (Zae v) (br (Zac v) (chk (Zae v) (br (Zac v) ([Value.bool true]=[Value.bool b]) False)) False)else chk (Zae v) (br (Zac v) ([Value.bool true]=[Value.bool b])
 False)))else chk (Zae v) (br (Zac v) ([Value.bool true]=[Value.bool b]) False)else chk (Zae v) (br (Zac v) (bif Zaj v then bif Zaj v then bif Zaj v then bif Zaj v then chk (Zae v) (br
 (Zac v) ([Value.bool true]=[Value.bool b]) False)else chk (Zae v) (br (Zac v) (chk (Zae v) (br (Zac v) ([Value.bool true]=[Value.bool b]) False)) False)else chk (Zae v) (br (Zac v)
 ([Value.bool true]=[Value.bool b]) False)else chk (Zae v) (br (Zac v) (bif Zaj v then bif Zaj v then chk (Zae v) (br (Zac v) ([Value.bool true]=[Value.bool b]) False)else chk (Zae v) (br
 (Zac v) (chk (Zae v) (br (Zac v) ([Value.bool true]=[Value.bool b]) False)) False)else chk (Zae v) (br (Zac v) ([Value.bool true]=[Value.bool b]) False)) (bif Zaj v then bif Zaj v then chk
 (Zae v) (br (Zac v) ([Value.bool true]=[Value.bool b]) False)else chk (Zae v) (br (Zac v) (chk (Zae v) (br (Zac v) ([Value.bool true]=[Value.bool b]) False)) False)else chk (Zae v) (br (Zac
 v) ([Value.bool true]=[Value.bool b]) False)))else chk (Zae v) (br (Zac v) ([Value.bool true]=[Value.bool b]) False)) (bif Zaj v then bif Zaj v then bif Zaj v then bif Zaj v then chk (Zae
 v) (br (Zac v) ([Value.bool true]=[Value.bool b]) False)else chk (Zae v) (br (Zac v) (chk (Zae v) (br (Zac v) ([Value.bool true]=[Value.bool b]) False)) False)else chk (Zae v) (br (Zac v)
 ([Value.bool true]=[Value.bool b]) False)else chk (Zae v) (br (Zac v) (bif Zaj v then bif Zaj v then chk (Zae v) (br (Zac v) ([Value.bool true]=[Value.bool b]) False)else chk (Zae v) (br
 (Zac v) (chk (Zae v) (br (Zac v) ([Value.bool true]=[Value.bool b]) False)) False)else chk (Zae v) (br (Zac v) ([Value.bool true]=[Value.bool b]) False)) (br (!p0 == (-1:Int)) (∃(R:RT),True∧
 CX Try.prog 115 (Array.mk [Value.pointer (some (Addr.mk c1b c1o none)),int i64 p0]) m [] R∧ZaF Shape.bool R∧∀(aa:Bool)(m':Mem),Mem.le m m'→R (Value.bool aa) m' []→bif Zaj v then bif Zaj v then
 chk (Zae v) (br (Zac v) ([Value.bool true]=[Value.bool b]) False)else chk (Zae v) (br (Zac v) (chk (Zae v) (br (Zac v) ([Value.bool true]=[Value.bool b]) False)) (chk (Zae v) (br (Zac v)
 ([Value.bool true]=[Value.bool b]) ([Value.bool aa]=[Value.bool b]))))else chk (Zae v) (br (Zac v) ([Value.bool true]=[Value.bool b]) ([Value.bool aa]=[Value.bool b]))) (bif Zaj v then bif Zaj v
 then chk (Zae v) (br (Zac v) ([Value.bool true]=[Value.bool b]) False)else chk (Zae v) (br (Zac v) (chk (Zae v) (br (Zac v) ([Value.bool true]=[Value.bool b]) False)) (chk (Zae v) (br (Zac
 v) ([Value.bool true]=[Value.bool b]) ([Value.bool false]=[Value.bool b]))))else chk (Zae v) (br (Zac v) ([Value.bool true]=[Value.bool b]) ([Value.bool false]=[Value.bool b])))))else chk (Zae v) (br
 (Zac v) ([Value.bool true]=[Value.bool b]) (br (!p0 == (-1:Int)) (∃(R:RT),True∧CX Try.prog 115 (Array.mk [Value.pointer (some (Addr.mk c1b c1o none)),int i64 p0]) m [] R∧ZaF Shape.bool R∧∀(aa:Bool)
 (m':Mem),Mem.le m m'→R (Value.bool aa) m' []→[Value.bool aa]=[Value.bool b]) ([Value.bool false]=[Value.bool b])))))else chk (Zae v) (br (Zac v) ([Value.bool true]=[Value.bool b]) (br (!p0 == (-1:
 Int)) (∃(R:RT),True∧CX Try.prog 115 (Array.mk [Value.pointer (some (Addr.mk c1b c1o none)),int i64 p0]) m [] R∧ZaF Shape.bool R∧∀(aa:Bool)(m':Mem),Mem.le m m'→R (Value.bool aa) m' []→[Value.bool
 aa]=[Value.bool b]) ([Value.bool false]=[Value.bool b])))))else chk (Zae v) (br (Zac v) ([Value.bool true]=[Value.bool b]) (br (!p0 == (-1:Int)) (∃(R:RT),True∧CX Try.prog 115 (Array.mk
 [Value.pointer (some (Addr.mk c1b c1o none)),int i64 p0]) m [] R∧ZaF Shape.bool R∧∀(aa:Bool)(m':Mem),Mem.le m m'→R (Value.bool aa) m' []→[Value.bool aa]=[Value.bool b]) ([Value.bool false] =
 [Value.bool b])))) (br (!p0 == (-1:Int)) (∃(R:RT),True∧CX Try.prog 115 (Array.mk [Value.pointer (some (Addr.mk c1b c1o none)),int i64 p0]) m [] R∧ZaF Shape.bool R∧∀(aa:Bool)(m':Mem),Mem.le m m'→R
 (Value.bool aa) m' []→[Value.bool aa]=[Value.bool b]) ([Value.bool false]=[Value.bool b]))∧∃(m'':Mem),Mem.le m m''∧Mem.le m'' m∧R (Value.bool b) m'' []
theorem ZgA(p0:Int)(c0b c0o c1b c1o:Nat)(m:Mem)(R:RT)(h:ZdK p0 c0b c0o c1b c1o m R):CX Try.prog 114 #[.int .i64 p0,.pointer (some ⟨c0b,c0o,none⟩),.pointer (some ⟨c1b,c1o,none⟩)] m [] R:=
 Zal (E:=Zhz) Zaz mix Try.func114 [.v (.int .i64 p0),.v (.pointer (some ⟨c0b,c0o,none⟩)),.v (.pointer (some ⟨c1b,c1o,none⟩))] [] (by kernel_rfl) (Eq.mp (by kernel_rfl) h)
noncomputable def Zcb:Env:={ EB with
 loops:=(fun i=>bif Nat.beq i 2 then⟨[(8,.int .i64)],[],[],false⟩ else⟨[],[],[],false⟩) }
def Zbm(p0a:Option Addr)(p0n p0c p1g:Nat)(p1fi p1ca:List Value)(m:Mem)(R:RT):Prop:=
 ∃(I:IT),(∃(n:Nat),I [int i64 0] [] [] m n)∧∀(n:Int)(m':Mem)(n_1:Nat),Mem.le m m'→I [int i64 n] [] [] m' n_1→br (decide (n < (↑p0n:Int))) (∃(b:Nat),∃(o:Nat),p0a=some (Addr.mk b o none)
 ∧ Zag n p0n∧∃(v:Value),m' b (o+Int.toNat n*1)=some v∧∃(R_1:RT),True∧CX Try.prog p1g (Array.mk (List.append (List.append p1fi [v]) p1ca)) m' [] R_1∧ZaF Shape.bool R_1∧∀(b:Bool) (m'_1:
 Mem),Mem.le m' m'_1→R_1 (Value.bool b) m'_1 []→br b (∃(m'':Mem),Mem.le m m''∧Mem.le m'' m'_1∧R (int i64 n) m'' []) (∃(n':Nat),n' < n_1∧I [int i64 (IntKind.wrap i64 (n+(1:Int)))] [] [] m'_1 n')) (∃
 (m'':Mem),Mem.le m m''∧Mem.le m'' m'∧R (int i64 (-1:Int)) m'' [])
theorem Zb4(p0a:Option Addr)(p0n p0c p1g:Nat)(p1fi p1ca:List Value)(m:Mem)(R:RT)(h:Zbm p0a p0n p0c p1g p1fi p1ca m R):CX Try.prog 146 #[.slice p0a p0n p0c,.func (.func p1g) p1fi.toArray p1ca.toArray] m [] R:=
 Zal (E:=Zcb) Zaz mix Try.func146 [.v (.slice p0a p0n p0c),.v (.func (.func p1g) p1fi.toArray p1ca.toArray)] [] (by kernel_rfl) (Eq.mp (by kernel_rfl) h)
noncomputable def ZbU:Env:=EB
def Za1(p0a:Option Addr)(p0n p0c p1g:Nat)(p1fi p1ca:List Value)(m:Mem)(R:RT):Prop:=
 ∃(R_1:RT),True∧CX Try.prog 146 (Array.mk [slice p0a p0n p0c,Value.func (Fn.func p1g) (Array.mk p1fi) (Array.mk p1ca)]) m [] R_1∧ZaF (Shape.int i64) R_1∧∀(n:Int)(m':Mem),Mem.le m m'→R_1 (int i64 n)
 m' []→∃(m'':Mem),Mem.le m m''∧Mem.le m'' m'∧R (Value.bool (decide (n ≥ (0:Int)))) m'' []
theorem ZbL(p0a:Option Addr)(p0n p0c p1g:Nat)(p1fi p1ca:List Value)(m:Mem)(R:RT)(h:Za1 p0a p0n p0c p1g p1fi p1ca m R):CX Try.prog 113 #[.slice p0a p0n p0c,.func (.func p1g) p1fi.toArray p1ca.toArray] m [] R:=
 Zal (E:=ZbU) Zaz mix Try.func113 [.v (.slice p0a p0n p0c),.v (.func (.func p1g) p1fi.toArray p1ca.toArray)] [] (by kernel_rfl) (Eq.mp (by kernel_rfl) h)
noncomputable def Zkb:Env:={ EB with
 frzNew:=[2]
 frzAt:=(fun i=>bif Nat.beq i 11 then[5]else[]) }
def Zfj(aJ:Option Addr)(aB aL:Nat)(aK:Option Addr)(aC aM:Nat)(aH:Option Addr)(aD aI:Nat)(aF:Option Addr)(aE aG:Nat)(aA:Bool)(p1a:Option Addr)(p1n p1c:Nat)(m:Mem)(R:RT):Prop:=
 ∀(b:Nat)(m':Mem),Mem.le m m'→Mem.reads m' b 0 [slice aJ aB aL,slice aK aC aM,slice aH aD aI,slice aF aE aG,Value.bool aA]→∃(R_1:RT),True∧CX Try.prog 112
 (Array.mk [slice aF aE aG]) m' [] R_1∧ZaF (Shape.agg [Shape.int u64,Shape.int u64,Shape.int u64,Shape.int u64,Shape.int u64,Shape.int u64,Shape.int u64]) R_1∧∀(n n_1 n_2 n_3 n_4 n_5 n_6:Int) (m'_1
 : Mem),Mem.le m' m'_1→R_1 (agg (Array.mk [int u64 n,int u64 n_1,int u64 n_2,int u64 n_3,int u64 n_4,int u64 n_5,int u64 n_6])) m'_1 []→∀(b_1:Nat)(m':Mem),Mem.le m'_1 m'→Mem.reads m' b_1 0 [int u64 n,
 int u64 n_1,int u64 n_2,int u64 n_3,int u64 n_4,int u64 n_5,int u64 n_6]→∃(R_2:RT),True∧CX Try.prog 113 (Array.mk [slice p1a p1n p1c,Value.func (Fn.func 114) (Array.mk []) (Array.mk [Value.pointer (some
 (Addr.mk b 0 none)),Value.pointer (some (Addr.mk b_1 0 none))])]) m' [] R_2∧ZaF Shape.bool R_2∧∀(b:Bool)(m'_2:Mem),Mem.le m' m'_2→R_2 (Value.bool b) m'_2 []→∃(m'':Mem),Mem.le m m''∧Mem.le m'' m'_2
 ∧ R (Value.bool b) m'' []
theorem Ziv(aJ:Option Addr)(aB aL:Nat)(aK:Option Addr)(aC aM:Nat)(aH:Option Addr)(aD aI:Nat)(aF:Option Addr)(aE aG:Nat)(aA:Bool)(p1a:Option Addr)(p1n p1c:Nat)(m:Mem)(R:RT)(h:Zfj aJ aB aL aK aC aM aH aD aI aF aE aG aA p1a p1n p1c m R):CX Try.prog 68 #[.agg #[.slice aJ aB aL,.slice aK aC aM,.slice aH aD aI,.slice aF aE aG,.bool aA],.slice p1a p1n p1c] m [] R:=
 Zal (E:=Zkb) Zaz mix Try.func68 [.v (.agg #[.slice aJ aB aL,.slice aK aC aM,.slice aH aD aI,.slice aF aE aG,.bool aA]),.v (.slice p1a p1n p1c)] [] (by kernel_rfl) (Eq.mp (by kernel_rfl) h)
noncomputable def ZnN:Env:={ EB with
 frzNew:=[2] }
def ZhA(aJ:Option Addr)(aB aL:Nat)(aK:Option Addr)(aC aM:Nat)(aH:Option Addr)(aD aI:Nat)(aF:Option Addr)(aE aG:Nat)(aA:Bool)(p1a:Option Addr)(p1n p1c:Nat)(m:Mem)(R:RT):Prop:=
 ∀(b:Nat)(m':Mem),Mem.le m m'→Mem.reads m' b 0 [slice aJ aB aL,slice aK aC aM,slice aH aD aI,slice aF aE aG,Value.bool aA]→∃(R_1:RT),True∧CX Try.prog 21
 (Array.mk [agg (Array.mk [slice aJ aB aL,slice aK aC aM,slice aH aD aI,slice aF aE aG,Value.bool aA])]) m' [] R_1∧ZaF Shape.bool R_1∧∀(b:Bool)(m'_1:Mem),Mem.le m'
 m'_1→R_1 (Value.bool b) m'_1 []→br (!b) (∃(m'':Mem),Mem.le m m''∧Mem.le m'' m'_1∧R (int i64 171) m'' []) (∃(R_2:RT),True∧CX Try.prog 70 (Array.mk [slice p1a p1n p1c,int i64 (-1:Int),int i64
 (IntKind.wrap i64 ((↑aB:Int) - (1:Int)))]) m'_1 [] R_2∧ZaF Shape.bool R_2∧∀(b:Bool)(m':Mem),Mem.le m'_1 m'→R_2 (Value.bool b) m' []→br (!b) (∃(m'':Mem),Mem.le m m''∧Mem.le m'' m'∧R (int
 i64 172) m'' []) (∃(m'':Mem),Mem.le m m''∧Mem.le m'' m'∧R (int i64 0) m'' []))
theorem ZlQ(aJ:Option Addr)(aB aL:Nat)(aK:Option Addr)(aC aM:Nat)(aH:Option Addr)(aD aI:Nat)(aF:Option Addr)(aE aG:Nat)(aA:Bool)(p1a:Option Addr)(p1n p1c:Nat)(m:Mem)(R:RT)(h:ZhA aJ aB aL aK aC aM aH aD aI aF aE aG aA p1a p1n p1c m R):CX Try.prog 78 #[.agg #[.slice aJ aB aL,.slice aK aC aM,.slice aH aD aI,.slice aF aE aG,.bool aA],.slice p1a p1n p1c] m [] R:=
 Zal (E:=ZnN) Zaz mix Try.func78 [.v (.agg #[.slice aJ aB aL,.slice aK aC aM,.slice aH aD aI,.slice aF aE aG,.bool aA]),.v (.slice p1a p1n p1c)] [] (by kernel_rfl) (Eq.mp (by kernel_rfl) h)
noncomputable def Zo4:Env:={ EB with
 loops:=(fun i=>bif Nat.beq i 3 then⟨[(15,.int .i64)],[7],[],false⟩ else bif Nat.beq i 9 then⟨[(30,.int .i64)],[7],[],false⟩ else⟨[],[],[],false⟩)
 frzNew:=[3]
 frzAt:=(fun i=>bif Nat.beq i 45 then[7]else[]) }
def Zjk(aJ:Option Addr)(aB aL:Nat)(aK:Option Addr)(aC aM:Nat)(aH:Option Addr)(aD aI:Nat)(aF:Option Addr)(aE aG:Nat)(aA:Bool)(p1a:Option Addr)(p1n p1c:Nat)(p2:Int)(m:Mem)(R:RT):Prop:=
 ∀(b:Nat)(m':Mem),Mem.le m m'→Mem.reads m' b 0 [slice aJ aB aL,slice aK aC aM,slice aH aD aI,slice aF aE aG,Value.bool aA]→∀(aa:Nat),∃(I:IT),(∃(n:Nat),I
 [int i64 0] [[int u64 0,int u64 0,int u64 0,int u64 0,int u64 0,int u64 0,int u64 0]] [] m' n)∧∀(n:Int)(cs:List Value)(ad:Mem)(an:Nat),Mem.le m' ad→I [int i64 n] [cs] [] ad an→br (decide (n <
 (↑p1n:Int))) (∃(ao:Nat),∃(o:Nat),p1a=some (Addr.mk ao o none)∧Zag n p1n∧∃(v:Value),ad ao (o+Int.toNat n*1)=some v∧chk (Zbv i64 v&&decide (i64=i64)) (br (!RowKit.intOf v == (-1:
 Int)) (chk (ZaT v) (∃(ah:Nat),∃(o:Nat),aK=some (Addr.mk ah o none)∧Zag (RowKit.intOf v) aC∧∃(ae:Value),ad ah (o+Int.toNat (RowKit.intOf v)*1)=some ae∧chk (Zdm ae) (∃(af:IT),
 (∃(n:Nat),af [int i64 0] [cs] [] ad n)∧∀(ac:Int)(cs:List Value)(m':Mem)(ag:Nat),Mem.le ad m'→af [int i64 ac] [cs] [] m' ag→br (decide (ac < (↑(slN ae):Int))) (chk (Zdm ae) (∃(ai:Nat),∃(o:
 Nat),slA ae=some (Addr.mk ai o none)∧Zag ac (slN ae)∧∃(v:Value),m' ai (o+Int.toNat ac*1)=some v∧chk (ZaT v) (∃(aj:Nat),∃(o:Nat),aJ=some (Addr.mk aj o none)∧Zag
 (RowKit.intOf v) aB∧∃(ak:Value),∃(al:Value),∃(am:Value),∃(ap:Value),Mem.reads m' aj (o+Int.toNat (RowKit.intOf v)*4) [ak,al,am,ap]∧∃(R:RT),True∧CX Try.prog 117 (Array.mk [agg
 (Array.mk [ak,al,am,ap]),int u8 p2]) m' [] R∧ZaF Shape.bool R∧∀(aq:Bool)(ab:Mem),Mem.le m' ab→R (Value.bool aq) ab []→br aq (∃(R:RT),True∧CX Try.prog 116 (Array.mk [Value.pointer (some (Addr.mk
 aa 0 none)),v]) ab [Box.mk aa cs 100 7 false true] R∧ZaF (Shape.tup []) R∧∀(m':Mem),Mem.le ab m'→∀(cs:List Value),R (Value.tuple (Array.mk [])) m' [cs]→[some (Box.mk aa [] 100 7 false true),some
 (Box.mk b [slice aJ aB aL,slice aK aC aM,slice aH aD aI,slice aF aE aG,Value.bool aA] 26 5 true true)]=[some (Box.mk aa [] 100 7 false true),some (Box.mk b [slice aJ aB
 aL,slice aK aC aM,slice aH aD aI,slice aF aE aG,Value.bool aA] 26 5 true true)]∧∃(n':Nat),n' < ag∧af [int i64 (IntKind.wrap i64 (ac+(1:Int)))] [cs] [] m' n') ([some
 (Box.mk aa [] 100 7 false true),some (Box.mk b [slice aJ aB aL,slice aK aC aM,slice aH aD aI,slice aF aE aG,Value.bool aA] 26 5 true true)]=[some (Box.mk aa [] 100 7 false
 true),some (Box.mk b [slice aJ aB aL,slice aK aC aM,slice aH aD aI,slice aF aE aG,Value.bool aA] 26 5 true true)]∧∃(n':Nat),n' < ag∧af [int i64 (IntKind.wrap i64 (ac +
 (1:Int)))] [cs] [] ab n')))) ([some (Box.mk aa [] 100 7 false true),some (Box.mk b [slice aJ aB aL,slice aK aC aM,slice aH aD aI,slice aF aE aG,Value.bool aA] 26 5 true
 true)]=[some (Box.mk aa [] 100 7 false true),some (Box.mk b [slice aJ aB aL,slice aK aC aM,slice aH aD aI,slice aF aE aG,Value.bool aA] 26 5 true true)]∧∃(n':Nat),n' <
 an∧I [int i64 (IntKind.wrap i64 (n+(1:Int)))] [cs] [] m' n')))) (∃(af:IT),(∃(n:Nat),af [int i64 0] [cs] [] ad n)∧∀(ac:Int)(cs:List Value)(m':Mem)(ag:Nat),Mem.le ad m'→af [int i64 ac] [cs]
 [] m' ag→br (decide (ac < (↑aD:Int))) (∃(ah:Nat),∃(o:Nat),aH=some (Addr.mk ah o none)∧Zag ac aD∧∃(v:Value),m' ah (o+Int.toNat ac*1)=some v∧chk (ZaT v) (∃(ai:Nat),∃(o
 : Nat),aJ=some (Addr.mk ai o none)∧Zag (RowKit.intOf v) aB∧∃(ae:Value),∃(ak:Value),∃(al:Value),∃(am:Value),Mem.reads m' ai (o+Int.toNat (RowKit.intOf v)*4) [ae,ak,al,am]∧∃(R:
 RT),True∧CX Try.prog 117 (Array.mk [agg (Array.mk [ae,ak,al,am]),int u8 p2]) m' [] R∧ZaF Shape.bool R∧∀(aj:Bool)(ab:Mem),Mem.le m' ab→R (Value.bool aj) ab []→br aj (∃(R:RT),True∧CX Try.prog
 116 (Array.mk [Value.pointer (some (Addr.mk aa 0 none)),v]) ab [Box.mk aa cs 100 7 false true] R∧ZaF (Shape.tup []) R∧∀(m':Mem),Mem.le ab m'→∀(cs:List Value),R (Value.tuple (Array.mk [])) m' [cs]→[some
 (Box.mk aa [] 100 7 false true),some (Box.mk b [slice aJ aB aL,slice aK aC aM,slice aH aD aI,slice aF aE aG,Value.bool aA] 26 5 true true)]=[some (Box.mk aa [] 100 7 false
 true),some (Box.mk b [slice aJ aB aL,slice aK aC aM,slice aH aD aI,slice aF aE aG,Value.bool aA] 26 5 true true)]∧∃(n':Nat),n' < ag∧af [int i64 (IntKind.wrap i64 (ac +
 (1:Int)))] [cs] [] m' n') ([some (Box.mk aa [] 100 7 false true),some (Box.mk b [slice aJ aB aL,slice aK aC aM,slice aH aD aI,slice aF aE aG,Value.bool aA] 26 5 true true)] =
 [some (Box.mk aa [] 100 7 false true),some (Box.mk b [slice aJ aB aL,slice aK aC aM,slice aH aD aI,slice aF aE aG,Value.bool aA] 26 5 true true)]∧∃(n':Nat),n' < ag∧af
 [int i64 (IntKind.wrap i64 (ac+(1:Int)))] [cs] [] ab n'))) ([some (Box.mk aa [] 100 7 false true),some (Box.mk b [slice aJ aB aL,slice aK aC aM,slice aH aD aI,slice aF aE aG,
 Value.bool aA] 26 5 true true)]=[some (Box.mk aa [] 100 7 false true),some (Box.mk b [slice aJ aB aL,slice aK aC aM,slice aH aD aI,slice aF aE aG,Value.bool aA] 26 5 true
 true)]∧∃(n':Nat),n' < an∧I [int i64 (IntKind.wrap i64 (n+(1:Int)))] [cs] [] m' n')))) (∀(m':Mem),Mem.le ad m'→Mem.reads m' aa 0 cs→∃(R_1:RT),True∧CX Try.prog 62 (Array.mk [Value.pointer (some
 (Addr.mk aa 0 none))]) m' [] R_1∧ZaF Shape.slice R_1∧∀(a:Option Addr)(n c:Nat)(ab:Mem),Mem.le m' ab→R_1 (slice a n c) ab []→∃(m'':Mem),Mem.le m m''∧Mem.le m'' ab∧R (slice a n c) m'' [])
theorem ZnO(aJ:Option Addr)(aB aL:Nat)(aK:Option Addr)(aC aM:Nat)(aH:Option Addr)(aD aI:Nat)(aF:Option Addr)(aE aG:Nat)(aA:Bool)(p1a:Option Addr)(p1n p1c:Nat)(p2:Int)(m:Mem)(R:RT)(h:Zjk aJ aB aL aK aC aM aH aD aI aF aE aG aA p1a p1n p1c p2 m R):CX Try.prog 79 #[.agg #[.slice aJ aB aL,.slice aK aC aM,.slice aH aD aI,.slice aF aE aG,.bool aA],.slice p1a p1n p1c,.int .u8 p2] m [] R:=
 Zal (E:=Zo4) Zaz mix Try.func79 [.v (.agg #[.slice aJ aB aL,.slice aK aC aM,.slice aH aD aI,.slice aF aE aG,.bool aA]),.v (.slice p1a p1n p1c),.v (.int .u8 p2)] [] (by kernel_rfl) (Eq.mp (by kernel_rfl) h)
noncomputable def Zo5:Env:={ EB with
 frzNew:=[3] }
def Zjl(aJ:Option Addr)(aB aL:Nat)(aK:Option Addr)(aC aM:Nat)(aH:Option Addr)(aD aI:Nat)(aF:Option Addr)(aE aG:Nat)(aA:Bool)(p1a:Option Addr)(p1n p1c:Nat)(p2:Int)(m:Mem)(R:RT):Prop:=
 ∀(b:Nat)(m':Mem),Mem.le m m'→Mem.reads m' b 0 [slice aJ aB aL,slice aK aC aM,slice aH aD aI,slice aF aE aG,Value.bool aA]→∃(R_1:RT),True∧CX Try.prog 78
 (Array.mk [agg (Array.mk [slice aJ aB aL,slice aK aC aM,slice aH aD aI,slice aF aE aG,Value.bool aA]),slice p1a p1n p1c]) m' [] R_1∧ZaF (Shape.int i64) R_1∧∀(n:Int)
 (m'_1:Mem),Mem.le m' m'_1→R_1 (int i64 n) m'_1 []→br (!n == (0:Int)) (∃(m'':Mem),Mem.le m m''∧Mem.le m'' m'_1∧R (Value.tuple (Array.mk [slice none 0 0,int i64 n])) m'' []) (∃(R_2:RT),True∧CX
 Try.prog 79 (Array.mk [agg (Array.mk [slice aJ aB aL,slice aK aC aM,slice aH aD aI,slice aF aE aG,Value.bool aA]),slice p1a p1n p1c,int u8 p2]) m'_1 [] R_2∧ZaF Shape.slice
 R_2∧∀(a:Option Addr)(n c:Nat)(m':Mem),Mem.le m'_1 m'→R_2 (slice a n c) m' []→∃(m'':Mem),Mem.le m m''∧Mem.le m'' m'∧R (Value.tuple (Array.mk [slice a n c,int i64 0])) m'' [])
theorem ZnP(aJ:Option Addr)(aB aL:Nat)(aK:Option Addr)(aC aM:Nat)(aH:Option Addr)(aD aI:Nat)(aF:Option Addr)(aE aG:Nat)(aA:Bool)(p1a:Option Addr)(p1n p1c:Nat)(p2:Int)(m:Mem)(R:RT)(h:Zjl aJ aB aL aK aC aM aH aD aI aF aE aG aA p1a p1n p1c p2 m R):CX Try.prog 27 #[.agg #[.slice aJ aB aL,.slice aK aC aM,.slice aH aD aI,.slice aF aE aG,.bool aA],.slice p1a p1n p1c,.int .u8 p2] m [] R:=
 Zal (E:=Zo5) Zaz mix Try.func27 [.v (.agg #[.slice aJ aB aL,.slice aK aC aM,.slice aH aD aI,.slice aF aE aG,.bool aA]),.v (.slice p1a p1n p1c),.v (.int .u8 p2)] [] (by kernel_rfl) (Eq.mp (by kernel_rfl) h)
noncomputable def Zrb:Env:={ EB with
 loops:=(fun i=>bif Nat.beq i 8 then⟨[(9,.slice),(26,.int .i64)],[100000],[(38,1),(900,1)],false⟩ else⟨[],[],[],false⟩)
 tokOf:=(fun i=>bif Nat.beq i 38 then 38 else 0)
 borrow:=(fun i=>bif Nat.beq i 23 then[100000]else bif Nat.beq i 43 then[100000]else[])
 frzNew:=[4]
 thaw:=true
 tails:=true
 lentC:=(fun i=>bif Nat.beq i 23 then some [(900,1)]else bif Nat.beq i 43 then some [(900,1)]else none) }
def Zld(aJ:Option Addr)(aB aL:Nat)(aK:Option Addr)(aC aM:Nat)(aH:Option Addr)(aD aI:Nat)(aF:Option Addr)(aE aG:Nat)(aA:Bool)(p1a:Option Addr)(p1n p1c:Nat)(p2:Bool)(p3g:Nat)(p3fi p3ca:List Value)(ca:Option Addr)(cn cc cb:Nat)(t0a:Option Addr)(t0n t0c:Nat)(m:Mem)(Y:Nat→Prop)(R:RTY):Prop:=
 ∀(b:Nat)(m':Mem),Mem.le m m'→Mem.reads m' b 0 [slice aJ aB aL,slice aK aC aM,slice aH aD aI,slice aF aE aG,Value.bool aA]→Mem.free m b→(∀(b' o:Nat)(u:Value),
 m' b' o=some u→m b' o=some u∨b'=b)→∃(R_1:RT),True∧CX Try.prog 21 (Array.mk [agg (Array.mk [slice aJ aB aL,slice aK aC aM,slice aH aD aI,slice aF aE aG,Value.bool
 aA])]) m' [] R_1∧ZaF Shape.bool R_1∧∀(ar:Bool)(ai:Mem),Mem.le m' ai→R_1 (Value.bool ar) ai []→br (!ar) (Box.mk cb [slice ca cn cc] 24 1 false true=Box.mk cb [slice ca cn cc] 24 1 false true∧R (int
 i64 171) ai [[slice ca cn cc]] [slice t0a t0n t0c]) (br (decide ((↑p1n:Int) > (4096:Int))) (Box.mk cb [slice ca cn cc] 24 1 false true=Box.mk cb [slice ca cn cc] 24 1 false true∧R (int i64 3) ai [[slice ca cn
 cc]] [slice t0a t0n t0c]) (∀(ac:Nat),Mem.free ai ac→∃(ao:Nat→Prop),∃(R_2:Value→Mem→List (List Value)→List Value→Prop),CXY Try.prog p3g (Array.mk (List.append (List.append p3fi [int i64 0,slice
 (some (Addr.mk ac 0 none)) 1 1]) p3ca)) (Mem.add ai ac [int i64 (-1:Int)]) ao [Box.mk cb [slice ca cn cc] 24 1 false true] [Tok.mk (slice t0a t0n t0c) 1] R_2∧(∀(t:Tok),t∈[Tok.mk (slice t0a t0n t0c) 1]→∀(b:
 Nat),Tok.blk t=some b→ao b)∧(∀(ak:Nat),ao ak→(∃(t:Tok),t∈[Tok.mk (slice t0a t0n t0c) 1]∧Tok.blk t=some ak)∨Mem.free (Mem.off m Y) ak∧(∃(o:Nat),∃(v:Value),Mem.add ai ac [int i64 (-1:
 Int)] ak o=some v)∧ac≠ak∧b≠ak∧True)∧(∀(v:Value)(m':Mem) (css:List (List Value)) (tvs:List Value),R_2 v m' css tvs→Shape.fits (Shape.tup []) v=true)∧∀(m':Mem),Mem.le (Mem.off (Mem.add
 ai ac [int i64 (-1:Int)]) ao) m'→(∀(b o:Nat)(u:Value),m' b o=some u→Mem.add ai ac [int i64 (-1:Int)] b o=some u∨ao b∨Mem.free (Mem.add ai ac [int i64 (-1:Int)]) b)→∀(cs:List Value) (a:
 Option Addr) (c d:Nat),R_2 (Value.tuple (Array.mk [])) m' [cs] [slice a c d]→∃(I:IT),(∃(n:Nat),I [slice (some (Addr.mk ac 0 none)) 1 1,int i64 0] [cs] [slice none 0 0,slice a c d] m' n)∧∀(a:Option
 Addr) (n c:Nat) (aj:Int) (cs:List Value) (al:Option Addr) (am an:Nat) (af:Option Addr) (ag ah:Nat) (m':Mem) (ap:Nat),True→I [slice a n c,int i64 aj] [cs] [slice al am an,slice af ag ah] m' ap→br
 (decide (aj < (↑p1n:Int))) (∃(ak:Nat),∃(o:Nat),p1a=some (Addr.mk ak o none)∧Zag aj p1n∧∃(v:Value),m' ak (o+Int.toNat aj*1)=some v∧∃(R:RT),True∧CX Try.prog 79 (Array.mk [agg
 (Array.mk [slice aJ aB aL,slice aK aC aM,slice aH aD aI,slice aF aE aG,Value.bool aA]),slice a n c,v]) m' [] R∧ZaF Shape.slice R∧∀(a:Option Addr)(n c:Nat) (ad:
 Mem),Mem.le m' ad→R (slice a n c) ad []→br p2 (∀(aa:Nat),Mem.free ad aa→br (Nat.beq n 0) (∃(ae:Nat→Prop),∃(R:Value→Mem→List (List Value)→List Value→Prop),CXY Try.prog p3g (Array.mk
 (List.append (List.append p3fi [int i64 (IntKind.wrap i64 (aj+(1:Int))),slice (some (Addr.mk aa 0 none)) 1 1]) p3ca)) (Mem.add ad aa [int i64 (-1:Int)]) ae [Box.mk cb cs 24 1 false true] [Tok.mk (slice af ag ah)
 1] R∧(∀(t:Tok),t∈[Tok.mk (slice af ag ah) 1]→∀(b:Nat),Tok.blk t=some b→ae b)∧(∀(ab:Nat),ae ab→(∃(t:Tok),t∈[Tok.mk (slice af ag ah) 1]∧Tok.blk t=some ab)∨Mem.free (Mem.off m Y) ab∧
 (∃(o:Nat),∃(v:Value),Mem.add ad aa [int i64 (-1:Int)] ab o=some v)∧aa≠ab∧ac≠ab∧b≠ab∧Tok.blk (Tok.mk (slice al am an) 1)≠some ab∧Tok.blk (Tok.mk (slice al am an) 1)≠some ab∧True)∧(∀(v
 : Value) (m':Mem) (css:List (List Value)) (tvs:List Value),R v m' css tvs→Shape.fits (Shape.tup []) v=true)∧∀(m':Mem),Mem.le (Mem.off (Mem.add ad aa [int i64 (-1:Int)]) ae) m'→(∀(b o:Nat) (u:
 Value),m' b o=some u→Mem.add ad aa [int i64 (-1:Int)] b o=some u∨ae b∨Mem.free (Mem.add ad aa [int i64 (-1:Int)]) b)→∀(cs:List Value)(a:Option Addr)(c d:Nat),R (Value.tuple (Array.mk [])) m'
 [cs] [slice a c d]→[some (Box.mk ac [int i64 (-1:Int)] 3 1 true true),some (Box.mk b [slice aJ aB aL,slice aK aC aM,slice aH aD aI,slice aF aE aG,Value.bool aA] 26 5 true
 true),some (Box.mk cb [] 24 1 false true)]=[some (Box.mk ac [int i64 (-1:Int)] 3 1 true true),some (Box.mk b [slice aJ aB aL,slice aK aC aM,slice aH aD aI,slice aF aE aG,
 Value.bool aA] 26 5 true true),some (Box.mk cb [] 24 1 false true)]∧([none,none]:List (Option Tok))=[none,none]∧∃(n':Nat),n' < ap∧I [slice (some (Addr.mk aa 0 none)) 1 1,int i64 (IntKind.wrap i64 (aj
 + (1:Int)))] [cs] [slice al am an,slice a c d] m' n') (((∃(a:Option Addr),∃(n:Nat),∃(c:Nat),∃(k:Nat),Tok.mk (slice al am an) 1=Tok.mk (slice a n c) 1∧k≤n∧slice (some (Addr.mk aa 0 none)) 1 1 =
 slice (ZeO a k c 1) (n - k) (c - k))∨slice (some (Addr.mk aa 0 none)) 1 1=slice none 0 0∨1 < 1+n)∧∃(xs:List Value),∃(ys:List Value),List.length xs=1*1∧List.length ys=n*1∧rowRd (Mem.add
 ad aa [int i64 (-1:Int)]) (some (Addr.mk aa 0 none)) xs∧rowRd (Mem.add ad aa [int i64 (-1:Int)]) a ys∧(∀(u:Value),u∈ys→Value.oneCell' u=true)∧(1+n)*8≤140737488355328∧1+n ≤
 9223372036854775807∧∀(a':Option Addr)(c':Nat)(m':Mem),Mem.le (Mem.add ad aa [int i64 (-1:Int)]) m'→rowRd m' a' (List.append xs ys)→TokFact (Mem.add ad aa [int i64 (-1:Int)]) (some (Addr.mk aa 0
 none)) a' (1+n) c'→∃(ae:Nat→Prop),∃(R:Value→Mem→List (List Value)→List Value→Prop),CXY Try.prog p3g (Array.mk (List.append (List.append p3fi [int i64 (IntKind.wrap i64 (aj+(1:Int))),slice a'
 (1+n) c']) p3ca)) m' ae [Box.mk cb cs 24 1 false true] [Tok.mk (slice af ag ah) 1] R∧(∀(t:Tok),t∈[Tok.mk (slice af ag ah) 1]→∀(b:Nat),Tok.blk t=some b→ae b)∧(∀(ab:Nat),ae ab→(∃(t:Tok),t ∈
 [Tok.mk (slice af ag ah) 1]∧Tok.blk t=some ab)∨Mem.free (Mem.off m Y) ab∧(∃(o:Nat),∃(v:Value),m' ab o=some v)∧aa≠ab∧ac≠ab∧b≠ab∧Tok.blk (Tok.mk (slice a' (1+n) c') 1)≠some ab∧Tok.blk
 (Tok.mk (slice a' (1+n) c') 1)≠some ab∧True)∧(∀(v:Value)(m':Mem) (css:List (List Value)) (tvs:List Value),R v m' css tvs→Shape.fits (Shape.tup []) v=true)∧∀(aq:Mem),Mem.le (Mem.off m' ae) aq
 → (∀(b o:Nat)(u:Value),aq b o=some u→m' b o=some u∨ae b∨Mem.free m' b)→∀(cs:List Value)(a:Option Addr)(c d:Nat),R (Value.tuple (Array.mk [])) aq [cs] [slice a c d]→[some (Box.mk ac [int
 i64 (-1:Int)] 3 1 true true),some (Box.mk b [slice aJ aB aL,slice aK aC aM,slice aH aD aI,slice aF aE aG,Value.bool aA] 26 5 true true),some (Box.mk cb [] 24 1 false true)]
 = [some (Box.mk ac [int i64 (-1:Int)] 3 1 true true),some (Box.mk b [slice aJ aB aL,slice aK aC aM,slice aH aD aI,slice aF aE aG,Value.bool aA] 26 5 true true),some (Box.mk
 cb [] 24 1 false true)]∧([none,none]:List (Option Tok))=[none,none]∧∃(n':Nat),n' < ap∧I [slice a' (1+n) c',int i64 (IntKind.wrap i64 (aj+(1:Int)))] [cs] [slice a' (1+n) c',slice a c d] aq n'))
 (∃(ae:Nat→Prop),∃(R:Value→Mem→List (List Value)→List Value→Prop),CXY Try.prog p3g (Array.mk (List.append (List.append p3fi [int i64 (IntKind.wrap i64 (aj+(1:Int))),slice a n c]) p3ca)) ad ae
 [Box.mk cb cs 24 1 false true] [Tok.mk (slice af ag ah) 1] R∧(∀(t:Tok),t∈[Tok.mk (slice af ag ah) 1]→∀(b:Nat),Tok.blk t=some b→ae b)∧(∀(aa:Nat),ae aa→(∃(t:Tok),t∈[Tok.mk (slice af ag ah)
 1]∧Tok.blk t=some aa)∨Mem.free (Mem.off m Y) aa∧(∃(o:Nat),∃(v:Value),ad aa o=some v)∧ac≠aa∧b≠aa∧Tok.blk (Tok.mk (slice al am an) 1)≠some aa∧True)∧(∀(v:Value)(m':Mem) (css:List
 (List Value)) (tvs:List Value),R v m' css tvs→Shape.fits (Shape.tup []) v=true)∧∀(m':Mem),Mem.le (Mem.off ad ae) m'→(∀(b o:Nat)(u:Value),m' b o=some u→ad b o=some u∨ae b∨Mem.free ad b)→
 ∀(cs:List Value)(au:Option Addr)(av d:Nat),R (Value.tuple (Array.mk [])) m' [cs] [slice au av d]→[some (Box.mk ac [int i64 (-1:Int)] 3 1 true true),some (Box.mk b [slice aJ aB aL,slice aK
 aC aM,slice aH aD aI,slice aF aE aG,Value.bool aA] 26 5 true true),some (Box.mk cb [] 24 1 false true)]=[some (Box.mk ac [int i64 (-1:Int)] 3 1 true true),some (Box.mk b [slice aJ
 aB aL,slice aK aC aM,slice aH aD aI,slice aF aE aG,Value.bool aA] 26 5 true true),some (Box.mk cb [] 24 1 false true)]∧([none,none]:List (Option Tok))=[none,none]∧∃(n'
 : Nat),n' < ap∧I [slice a n c,int i64 (IntKind.wrap i64 (aj+(1:Int)))] [cs] [slice al am an,slice au av d] m' n')) (Box.mk cb [slice ca cn cc] 24 1 false true=Box.mk cb [slice ca cn cc] 24 1 false true∧R
 (int i64 0) m' [cs] [slice af ag ah])))
theorem ZnQ(aJ:Option Addr)(aB aL:Nat)(aK:Option Addr)(aC aM:Nat)(aH:Option Addr)(aD aI:Nat)(aF:Option Addr)(aE aG:Nat)(aA:Bool)(p1a:Option Addr)(p1n p1c:Nat)(p2:Bool)(p3g:Nat)(p3fi p3ca:List Value)(ca:Option Addr)(cn cc cb:Nat)(t0a:Option Addr)(t0n t0c:Nat)(m:Mem)(Y:Nat→Prop)(R:RTY)(h:Zld aJ aB aL aK aC aM aH aD aI aF aE aG aA p1a p1n p1c p2 p3g p3fi p3ca ca cn cc cb t0a t0n t0c m Y R):CXY Try.prog 80 #[.agg #[.slice aJ aB aL,.slice aK aC aM,.slice aH aD aI,.slice aF aE aG,.bool aA],.slice p1a p1n p1c,.bool p2,.func (.func p3g) p3fi.toArray p3ca.toArray] m Y [⟨cb,[.slice ca cn cc],24,1,false,true⟩] [⟨.slice t0a t0n t0c,1⟩] R:=
 ZaL (E:=Zrb) Zaz mix Try.func80 [.v (.agg #[.slice aJ aB aL,.slice aK aC aM,.slice aH aD aI,.slice aF aE aG,.bool aA]),.v (.slice p1a p1n p1c),.v (.bool p2),.v (.func (.func p3g) p3fi.toArray p3ca.toArray)] [⟨cb,[.slice ca cn cc],24,1,false,true⟩] [900] [⟨.slice t0a t0n t0c,1⟩] (by decide) (by kernel_rfl) (Eq.mp (by kernel_rfl) h)
noncomputable def ZnR:Env:={ EB with
 thaw:=true }
def ZhB(p0:Int)(p1a:Option Addr)(p1n p1c c0b:Nat)(c0_0a:Option Addr)(c0_0n c0_0c:Nat)(t0a:Option Addr)(t0n t0c:Nat)(m:Mem)(Y:Nat→Prop)(R:RTY):Prop:=
 Box.mk c0b [slice c0_0a c0_0n c0_0c] 24 1 false true=Box.mk c0b [slice c0_0a c0_0n c0_0c] 24 1 false true∧R (Value.tuple (Array.mk [])) m [[slice p1a p1n p1c]] [slice t0a t0n t0c]
theorem Zkc(p0:Int)(p1a:Option Addr)(p1n p1c c0b:Nat)(c0_0a:Option Addr)(c0_0n c0_0c:Nat)(t0a:Option Addr)(t0n t0c:Nat)(m:Mem)(Y:Nat→Prop)(R:RTY)(h:ZhB p0 p1a p1n p1c c0b c0_0a c0_0n c0_0c t0a t0n t0c m Y R):CXY Try.prog 81 #[.int .i64 p0,.slice p1a p1n p1c,.pointer (some ⟨c0b,0,none⟩)] m Y [⟨c0b,[.slice c0_0a c0_0n c0_0c],24,1,false,true⟩] [⟨.slice t0a t0n t0c,1⟩] R:=
 ZaL (E:=ZnR) Zaz mix Try.func81 [.v (.int .i64 p0),.v (.slice p1a p1n p1c),.loc 100000 0] [⟨c0b,[.slice c0_0a c0_0n c0_0c],24,1,false,true⟩] [900] [⟨.slice t0a t0n t0c,1⟩] (by decide) (by kernel_rfl) (Eq.mp (by kernel_rfl) h)
noncomputable def Zrc:Env:={ EB with
 borrow:=(fun i=>bif Nat.beq i 11 then[6]else[])
 frzNew:=[2]
 thaw:=true
 lentC:=(fun i=>bif Nat.beq i 11 then some [(900,1)]else none) }
def Zle(aJ:Option Addr)(aB aL:Nat)(aK:Option Addr)(aC aM:Nat)(aH:Option Addr)(aD aI:Nat)(aF:Option Addr)(aE aG:Nat)(aA:Bool)(p1a:Option Addr)(p1n p1c:Nat)(m:Mem)(R:RT):Prop:=
 ∀(b:Nat)(m':Mem),Mem.le m m'→Mem.reads m' b 0 [slice aJ aB aL,slice aK aC aM,slice aH aD aI,slice aF aE aG,Value.bool aA]→Mem.free m b→(∀(b' o:Nat)(u:Value),
 m' b' o=some u→m b' o=some u∨b'=b)→∀(b_1:Nat),∃(Y:Nat→Prop),∃(R_1:Value→Mem→List (List Value)→List Value→Prop),CXY Try.prog 80 (Array.mk [agg (Array.mk [slice aJ aB aL,slice
 aK aC aM,slice aH aD aI,slice aF aE aG,Value.bool aA]),slice p1a p1n p1c,Value.bool false,Value.func (Fn.func 81) (Array.mk []) (Array.mk [Value.pointer (some (Addr.mk b_1 0 none))])])
 m' Y [Box.mk b_1 [slice none 0 0] 24 1 false true] [Tok.mk (slice none 0 0) 1] R_1∧(∀(t:Tok),t∈[Tok.mk (slice none 0 0) 1]→∀(b:Nat),Tok.blk t=some b→Y b)∧(∀(b_2:Nat),Y b_2→(∃(t:Tok),t ∈
 [Tok.mk (slice none 0 0) 1]∧Tok.blk t=some b_2)∨Mem.free m b_2∧(∃(o:Nat),∃(v:Value),m' b_2 o=some v)∧b≠b_2∧True)∧(∀(v:Value)(m':Mem) (css:List (List Value)) (tvs:List Value),R_1 v m'
 css tvs→Shape.fits (Shape.int i64) v=true)∧∀(n:Int)(m'_1:Mem),Mem.le (Mem.off m' Y) m'_1→(∀(b o:Nat)(u:Value),m'_1 b o=some u→m' b o=some u∨Y b∨Mem.free m' b)→∀(cs:List Value) (a:
 Option Addr) (c d:Nat),R_1 (int i64 n) m'_1 [cs] [slice a c d]→Eng.Zrv cs 0 fun(v:Value)=>∃(m'':Mem),Mem.le m m''∧Mem.le m'' m'_1∧R (Value.tuple (Array.mk [v,int i64 n])) m'' []
theorem Zo6(aJ:Option Addr)(aB aL:Nat)(aK:Option Addr)(aC aM:Nat)(aH:Option Addr)(aD aI:Nat)(aF:Option Addr)(aE aG:Nat)(aA:Bool)(p1a:Option Addr)(p1n p1c:Nat)(m:Mem)(R:RT)(h:Zle aJ aB aL aK aC aM aH aD aI aF aE aG aA p1a p1n p1c m R):CX Try.prog 29 #[.agg #[.slice aJ aB aL,.slice aK aC aM,.slice aH aD aI,.slice aF aE aG,.bool aA],.slice p1a p1n p1c] m [] R:=
 Zal (E:=Zrc) Zaz mix Try.func29 [.v (.agg #[.slice aJ aB aL,.slice aK aC aM,.slice aH aD aI,.slice aF aE aG,.bool aA]),.v (.slice p1a p1n p1c)] [] (by kernel_rfl) (Eq.mp (by kernel_rfl) h)
noncomputable def Ziw:Env:={ EB with
 tokOf:=(fun i=>bif Nat.beq i 12 then 900 else 0)
 thaw:=true }
def ZeA(p0:Int)(p1a:Option Addr)(p1n p1c c0b c0o c1b:Nat)(c1_0a:Option Addr)(c1_0n c1_0c:Nat)(t0a:Option Addr)(t0n t0c:Nat)(m:Mem)(Y:Nat→Prop)(R:RTY):Prop:=
 ∃(v:Value),∃(v_1:Value),∃(v_2:Value),∃(v_3:Value),∃(v_4:Value),Mem.reads m c0b c0o [v,v_1,v_2,v_3,v_4]∧∃(R_1:RT),True∧CX Try.prog 68 (Array.mk [agg (Array.mk [v,v_1,v_2,v_3,v_4]),
 slice p1a p1n p1c]) m [] R_1∧ZaF Shape.bool R_1∧∀(b:Bool)(m':Mem),Mem.le m m'→R_1 (Value.bool b) m' []→br b (∀(b:Nat),Mem.free m' b→(Tok.mk (slice t0a t0n t0c) 1=Tok.mk (slice c1_0a c1_0n c1_0c)
 1∨slice c1_0a c1_0n c1_0c=slice none 0 0∨c1_0c < c1_0n+1)∧∃(xs:List Value),∃(ys:List Value),List.length xs=c1_0n*1∧List.length ys=1*1∧rowRd (Mem.add m' b [int i64 p0]) c1_0a xs∧rowRd
 (Mem.add m' b [int i64 p0]) (some (Addr.mk b 0 none)) ys∧(∀(u:Value),u∈ys→Value.oneCell' u=true)∧(c1_0n+1)*8≤140737488355328∧c1_0n+1≤9223372036854775807∧∀(a':Option Addr)(c':Nat) (m'_1
 : Mem),Mem.le (Mem.add m' b [int i64 p0]) m'_1→rowRd m'_1 a' (List.append xs ys)→TokFact (Mem.add m' b [int i64 p0]) c1_0a a' (c1_0n+1) c'→Box.mk c1b [slice c1_0a c1_0n c1_0c] 24 1 false true=Box.mk c1b
 [slice c1_0a c1_0n c1_0c] 24 1 false true∧R (Value.tuple (Array.mk [])) m'_1 [[slice a' (c1_0n+1) c']] [slice a' (c1_0n+1) c']) (Box.mk c1b [slice c1_0a c1_0n c1_0c] 24 1 false true=Box.mk c1b [slice c1_0a c1_0n
 c1_0c] 24 1 false true∧R (Value.tuple (Array.mk [])) m' [[slice c1_0a c1_0n c1_0c]] [slice t0a t0n t0c])
theorem ZgB(p0:Int)(p1a:Option Addr)(p1n p1c c0b c0o c1b:Nat)(c1_0a:Option Addr)(c1_0n c1_0c:Nat)(t0a:Option Addr)(t0n t0c:Nat)(m:Mem)(Y:Nat→Prop)(R:RTY)(h:ZeA p0 p1a p1n p1c c0b c0o c1b c1_0a c1_0n c1_0c t0a t0n t0c m Y R):CXY Try.prog 82 #[.int .i64 p0,.slice p1a p1n p1c,.pointer (some ⟨c0b,c0o,none⟩),.pointer (some ⟨c1b,0,none⟩)] m Y [⟨c1b,[.slice c1_0a c1_0n c1_0c],24,1,false,true⟩] [⟨.slice t0a t0n t0c,1⟩] R:=
 ZaL (E:=Ziw) Zaz mix Try.func82 [.v (.int .i64 p0),.v (.slice p1a p1n p1c),.v (.pointer (some ⟨c0b,c0o,none⟩)),.loc 100000 0] [⟨c1b,[.slice c1_0a c1_0n c1_0c],24,1,false,true⟩] [900] [⟨.slice t0a t0n t0c,1⟩] (by decide) (by kernel_rfl) (Eq.mp (by kernel_rfl) h)
noncomputable def ZlR:Env:={ EB with
 borrow:=(fun i=>bif Nat.beq i 11 then[6]else[])
 frzNew:=[2]
 thaw:=true
 lentC:=(fun i=>bif Nat.beq i 11 then some [(900,1)]else none) }
def Zgr(aJ:Option Addr)(aB aL:Nat)(aK:Option Addr)(aC aM:Nat)(aH:Option Addr)(aD aI:Nat)(aF:Option Addr)(aE aG:Nat)(aA:Bool)(p1a:Option Addr)(p1n p1c:Nat)(m:Mem)(R:RT):Prop:=
 ∀(b:Nat)(m':Mem),Mem.le m m'→Mem.reads m' b 0 [slice aJ aB aL,slice aK aC aM,slice aH aD aI,slice aF aE aG,Value.bool aA]→Mem.free m b→(∀(b' o:Nat)(u:Value),
 m' b' o=some u→m b' o=some u∨b'=b)→∀(b_1:Nat),∃(Y:Nat→Prop),∃(R_1:Value→Mem→List (List Value)→List Value→Prop),CXY Try.prog 80 (Array.mk [agg (Array.mk [slice aJ aB aL,slice
 aK aC aM,slice aH aD aI,slice aF aE aG,Value.bool aA]),slice p1a p1n p1c,Value.bool true,Value.func (Fn.func 82) (Array.mk []) (Array.mk [Value.pointer (some (Addr.mk b 0 none)),
 Value.pointer (some (Addr.mk b_1 0 none))])]) m' Y [Box.mk b_1 [slice none 0 0] 24 1 false true] [Tok.mk (slice none 0 0) 1] R_1∧(∀(t:Tok),t∈[Tok.mk (slice none 0 0) 1]→∀(b:Nat),Tok.blk t=some b→Y b)∧
 (∀(b_2:Nat),Y b_2→(∃(t:Tok),t∈[Tok.mk (slice none 0 0) 1]∧Tok.blk t=some b_2)∨Mem.free m b_2∧(∃(o:Nat),∃(v:Value),m' b_2 o=some v)∧b≠b_2∧True)∧(∀(v:Value)(m':Mem) (css:List
 (List Value)) (tvs:List Value),R_1 v m' css tvs→Shape.fits (Shape.int i64) v=true)∧∀(n:Int)(m'_1:Mem),Mem.le (Mem.off m' Y) m'_1→(∀(b o:Nat)(u:Value),m'_1 b o=some u→m' b o=some u∨Y b∨
 Mem.free m' b)→∀(cs:List Value)(a:Option Addr)(c d:Nat),R_1 (int i64 n) m'_1 [cs] [slice a c d]→Eng.Zrv cs 0 fun(v:Value)=>∃(m'':Mem),Mem.le m m''∧Mem.le m'' m'_1∧R (Value.tuple (Array.mk [v,
 int i64 n])) m'' []
theorem Zkd(aJ:Option Addr)(aB aL:Nat)(aK:Option Addr)(aC aM:Nat)(aH:Option Addr)(aD aI:Nat)(aF:Option Addr)(aE aG:Nat)(aA:Bool)(p1a:Option Addr)(p1n p1c:Nat)(m:Mem)(R:RT)(h:Zgr aJ aB aL aK aC aM aH aD aI aF aE aG aA p1a p1n p1c m R):CX Try.prog 30 #[.agg #[.slice aJ aB aL,.slice aK aC aM,.slice aH aD aI,.slice aF aE aG,.bool aA],.slice p1a p1n p1c] m [] R:=
 Zal (E:=ZlR) Zaz mix Try.func30 [.v (.agg #[.slice aJ aB aL,.slice aK aC aM,.slice aH aD aI,.slice aF aE aG,.bool aA]),.v (.slice p1a p1n p1c)] [] (by kernel_rfl) (Eq.mp (by kernel_rfl) h)
noncomputable def Zke:Env:={ EB with
 joins:=(fun i=>bif Nat.beq i 2 then some [(4,.bool),(5,.int .i64)]else none)
 frzNew:=[2] }
def Zfk(aJ:Option Addr)(aB aL:Nat)(aK:Option Addr)(aC aM:Nat)(aH:Option Addr)(aD aI:Nat)(aF:Option Addr)(aE aG:Nat)(aA:Bool)(p1a:Option Addr)(p1n p1c:Nat)(m:Mem)(R:RT):Prop:=
 ∀(b:Nat)(m':Mem),Mem.le m m'→Mem.reads m' b 0 [slice aJ aB aL,slice aK aC aM,slice aH aD aI,slice aF aE aG,Value.bool aA]→∃(R_1:RT),True∧CX Try.prog 29
 (Array.mk [agg (Array.mk [slice aJ aB aL,slice aK aC aM,slice aH aD aI,slice aF aE aG,Value.bool aA]),slice p1a p1n p1c]) m' [] R_1∧ZaF (Shape.tup [Shape.slice,Shape.int
 i64]) R_1∧∀(a:Option Addr)(n c:Nat)(n_1:Int)(m'_1:Mem),Mem.le m' m'_1→R_1 (Value.tuple (Array.mk [slice a n c,int i64 n_1])) m'_1 []→∃(b_1:Bool),∃(n_2:Int),br (n_1 == (0:Int)) (∃(R:RT),
 True∧CX Try.prog 68 (Array.mk [agg (Array.mk [slice aJ aB aL,slice aK aC aM,slice aH aD aI,slice aF aE aG,Value.bool aA]),slice a n c]) m'_1 [] R∧ZaF Shape.bool R∧∀(b_2
 : Bool) (m':Mem),Mem.le m'_1 m'→R (Value.bool b_2) m' []→[some (Box.mk b [slice aJ aB aL,slice aK aC aM,slice aH aD aI,slice aF aE aG,Value.bool aA] 26 5 true true)] =
 [some (Box.mk b [slice aJ aB aL,slice aK aC aM,slice aH aD aI,slice aF aE aG,Value.bool aA] 26 5 true true)]∧[Value.bool b_2,int i64 n_1]=[Value.bool b_1,int i64 n_2])
 ([some (Box.mk b [slice aJ aB aL,slice aK aC aM,slice aH aD aI,slice aF aE aG,Value.bool aA] 26 5 true true)]=[some (Box.mk b [slice aJ aB aL,slice aK aC
 aM,slice aH aD aI,slice aF aE aG,Value.bool aA] 26 5 true true)]∧[Value.bool false,int i64 n_1]=[Value.bool b_1,int i64 n_2])∧∃(m'':Mem),Mem.le m m''∧Mem.le m'' m'_1∧R
 (Value.tuple (Array.mk [Value.bool b_1,int i64 n_2])) m'' []
theorem Zix(aJ:Option Addr)(aB aL:Nat)(aK:Option Addr)(aC aM:Nat)(aH:Option Addr)(aD aI:Nat)(aF:Option Addr)(aE aG:Nat)(aA:Bool)(p1a:Option Addr)(p1n p1c:Nat)(m:Mem)(R:RT)(h:Zfk aJ aB aL aK aC aM aH aD aI aF aE aG aA p1a p1n p1c m R):CX Try.prog 18 #[.agg #[.slice aJ aB aL,.slice aK aC aM,.slice aH aD aI,.slice aF aE aG,.bool aA],.slice p1a p1n p1c] m [] R:=
 Zal (E:=Zke) Zaz mix Try.func18 [.v (.agg #[.slice aJ aB aL,.slice aK aC aM,.slice aH aD aI,.slice aF aE aG,.bool aA]),.v (.slice p1a p1n p1c)] [] (by kernel_rfl) (Eq.mp (by kernel_rfl) h)
end Go.Proofs.Ytplacemlpkhmfaa
