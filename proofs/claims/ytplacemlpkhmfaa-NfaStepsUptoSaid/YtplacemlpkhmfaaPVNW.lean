/- Part of the proof: conditions and contracts of functions of this program. No condition of its own. -/
import Derived.Test.YtplacemlpkhmfaaPEnv
set_option linter.unusedVariables false
namespace Go.Proofs.Ytplacemlpkhmfaa
open Go Go.Eng Go.Proofs Go.RowKit
open Go.Value (int slice agg)
open Go.IntKind (u8 u64 i64)
set_option maxRecDepth 100000
noncomputable def Zkt:Env:={ EB with
 frzNew:=[2] }
def Zfs(aJ:Option Addr)(aB aL:Nat)(aK:Option Addr)(aC aM:Nat)(aH:Option Addr)(aD aI:Nat)(aF:Option Addr)(aE aG:Nat)(aA:Bool)(p1a:Option Addr)(p1n p1c:Nat)(m:Mem)(R:RT):Prop:=
 ∀(b:Nat)(m':Mem),Mem.le m m'→Mem.reads m' b 0 [slice aJ aB aL,slice aK aC aM,slice aH aD aI,slice aF aE aG,Value.bool aA]→∃(R_1:RT),True∧CX Try.prog 78
 (Array.mk [agg (Array.mk [slice aJ aB aL,slice aK aC aM,slice aH aD aI,slice aF aE aG,Value.bool aA]),slice p1a p1n p1c]) m' [] R_1∧ZaF (Shape.int i64) R_1∧∀(n:Int)
 (m'_1:Mem),Mem.le m' m'_1→R_1 (int i64 n) m'_1 []→br (!n == (0:Int)) (∃(m'':Mem),Mem.le m m''∧Mem.le m'' m'_1∧R (Value.tuple (Array.mk [Value.bool false,int i64 n])) m'' []) (∃(R_2:RT),True∧CX
 Try.prog 68 (Array.mk [agg (Array.mk [slice aJ aB aL,slice aK aC aM,slice aH aD aI,slice aF aE aG,Value.bool aA]),slice p1a p1n p1c]) m'_1 [] R_2∧ZaF Shape.bool R_2∧∀(b:
 Bool) (m':Mem),Mem.le m'_1 m'→R_2 (Value.bool b) m' []→∃(m'':Mem),Mem.le m m''∧Mem.le m'' m'∧R (Value.tuple (Array.mk [Value.bool b,int i64 0])) m'' [])
theorem ZiL(aJ:Option Addr)(aB aL:Nat)(aK:Option Addr)(aC aM:Nat)(aH:Option Addr)(aD aI:Nat)(aF:Option Addr)(aE aG:Nat)(aA:Bool)(p1a:Option Addr)(p1n p1c:Nat)(m:Mem)(R:RT)(h:Zfs aJ aB aL aK aC aM aH aD aI aF aE aG aA p1a p1n p1c m R):CX Try.prog 28 #[.agg #[.slice aJ aB aL,.slice aK aC aM,.slice aH aD aI,.slice aF aE aG,.bool aA],.slice p1a p1n p1c] m [] R:=
 Zal (E:=Zkt) Zaz mix Try.func28 [.v (.agg #[.slice aJ aB aL,.slice aK aC aM,.slice aH aD aI,.slice aF aE aG,.bool aA]),.v (.slice p1a p1n p1c)] [] (by kernel_rfl) (Eq.mp (by kernel_rfl) h)
end Go.Proofs.Ytplacemlpkhmfaa

