/- Part of the proof: conditions and contracts of functions of this program. No condition of its own. -/
import Derived.Test.YtmggihkjgbnhbaaPEnv
/- Conditions of functions of this seat's program, as they were printed by a program, and the contracts that follow from them. -/
set_option linter.unusedVariables false
namespace Go.Proofs.Ytmggihkjgbnhbaa
open Go Go.Eng Go.Proofs Go.RowKit
open Go.Value (int slice agg)
open Go.IntKind (u8 u64 i64)
set_option maxRecDepth 100000
noncomputable def E_math_bits_Mul64 : Env := EB
def VC_math_bits_Mul64 (p0 : Int) (p1 : Int) (m : Mem) (R : Value → Mem → List (List Value) → Prop) : Prop :=
 (0 : Int) ≤ (32 : Int) ∧ (0 : Int) ≤ (32 : Int) ∧ (0 : Int) ≤ (32 : Int) ∧ (0 : Int) ≤ (32 : Int) ∧ (0 : Int) ≤ (32 : Int) ∧ ∃ (m'' : Mem), Mem.le m m'' ∧ Mem.le m'' m ∧ R (Value.tuple (Array.mk [int u64 (IntKind.wrap
 u64 (IntKind.wrap u64 (IntKind.wrap u64 (Int.fdiv p0 ((2 : Int) ^ (32 : Nat)) * Int.fdiv p1 ((2 : Int) ^ (32 : Nat))) + Int.fdiv (IntKind.wrap u64 (IntKind.wrap u64 (Int.fdiv p0 ((2 : Int) ^ (32 : Nat)) * IntKind.wrap
 u64 (↑(BitVec.toNat (BitVec.ofInt (64 : Nat) p1 &&& BitVec.ofInt (64 : Nat) (4294967295 : Int))) : Int)) + Int.fdiv (IntKind.wrap u64 (IntKind.wrap u64 (↑(BitVec.toNat (BitVec.ofInt (64 : Nat) p0 &&& BitVec.ofInt (64 :
 Nat) (4294967295 : Int))) : Int) * IntKind.wrap u64 (↑(BitVec.toNat (BitVec.ofInt (64 : Nat) p1 &&& BitVec.ofInt (64 : Nat) (4294967295 : Int))) : Int))) ((2 : Int) ^ (32 : Nat)))) ((2 : Int) ^ (32 : Nat))) + Int.fdiv
 (IntKind.wrap u64 (IntKind.wrap u64 (↑(BitVec.toNat (BitVec.ofInt (64 : Nat) (IntKind.wrap u64 (IntKind.wrap u64 (Int.fdiv p0 ((2 : Int) ^ (32 : Nat)) * IntKind.wrap u64 (↑(BitVec.toNat (BitVec.ofInt (64 : Nat) p1 &&&
 BitVec.ofInt (64 : Nat) (4294967295 : Int))) : Int)) + Int.fdiv (IntKind.wrap u64 (IntKind.wrap u64 (↑(BitVec.toNat (BitVec.ofInt (64 : Nat) p0 &&& BitVec.ofInt (64 : Nat) (4294967295 : Int))) : Int) * IntKind.wrap u64
 (↑(BitVec.toNat (BitVec.ofInt (64 : Nat) p1 &&& BitVec.ofInt (64 : Nat) (4294967295 : Int))) : Int))) ((2 : Int) ^ (32 : Nat)))) &&& BitVec.ofInt (64 : Nat) (4294967295 : Int))) : Int) + IntKind.wrap u64 (IntKind.wrap
 u64 (↑(BitVec.toNat (BitVec.ofInt (64 : Nat) p0 &&& BitVec.ofInt (64 : Nat) (4294967295 : Int))) : Int) * Int.fdiv p1 ((2 : Int) ^ (32 : Nat))))) ((2 : Int) ^ (32 : Nat)))), int u64 (IntKind.wrap u64 (p0 * p1))])) m''
 []
theorem VC_math_bits_Mul64_eq (p0 : Int) (p1 : Int) (m : Mem) (R : Value → Mem → List (List Value) → Prop) : VC_math_bits_Mul64 p0 p1 m R = FW E_math_bits_Mul64 Try.f74 [.v (.int .u64 p0), .v (.int .u64 p1)] [] m R := by kernel_rfl
theorem cx_math_bits_Mul64 (p0 : Int) (p1 : Int) (m : Mem) (R : Value → Mem → List (List Value) → Prop) (h : VC_math_bits_Mul64 p0 p1 m R) : CX Try.prog 74 #[.int .u64 p0, .int .u64 p1] m [] R :=
  CX_of_FW (E := E_math_bits_Mul64) (fun t i h => EB_ok t i h) mix Try.func74 [.v (.int .u64 p0), .v (.int .u64 p1)] [] (by kernel_rfl) ((VC_math_bits_Mul64_eq p0 p1 m R).mp h)
noncomputable def E_math_bits_Mul : Env := EB
def VC_math_bits_Mul (p0 : Int) (p1 : Int) (m : Mem) (R : Value → Mem → List (List Value) → Prop) : Prop :=
 ∃ (R_1 : RT), True ∧ CX Try.prog (74 : Nat) (Array.mk [int u64 p0, int u64 p1]) m [] R_1 ∧ Fits (Shape.tup [Shape.int u64, Shape.int u64]) R_1 ∧ ∀ (n n_1 : Int) (m' : Mem), Mem.le m m' → R_1 (Value.tuple (Array.mk [int
 u64 n, int u64 n_1])) m' [] → ∃ (m'' : Mem), Mem.le m m'' ∧ Mem.le m'' m' ∧ R (Value.tuple (Array.mk [int u64 n, int u64 n_1])) m'' []
theorem VC_math_bits_Mul_eq (p0 : Int) (p1 : Int) (m : Mem) (R : Value → Mem → List (List Value) → Prop) : VC_math_bits_Mul p0 p1 m R = FW E_math_bits_Mul Try.f56 [.v (.int .u64 p0), .v (.int .u64 p1)] [] m R := by kernel_rfl
theorem cx_math_bits_Mul (p0 : Int) (p1 : Int) (m : Mem) (R : Value → Mem → List (List Value) → Prop) (h : VC_math_bits_Mul p0 p1 m R) : CX Try.prog 56 #[.int .u64 p0, .int .u64 p1] m [] R :=
  CX_of_FW (E := E_math_bits_Mul) (fun t i h => EB_ok t i h) mix Try.func56 [.v (.int .u64 p0), .v (.int .u64 p1)] [] (by kernel_rfl) ((VC_math_bits_Mul_eq p0 p1 m R).mp h)
noncomputable def E_slices_Repeat_rx_Node_rx_Node : Env := { EB with
  loops := (fun i => bif Nat.beq i 8 then ⟨[(8, .int .i64)], [30], [], false⟩ else ⟨[], [], [], false⟩)
  joins := (fun i => bif Nat.beq i 4 then some [(26, .bool)] else none)
  dr := (fun i => bif Nat.beq i 9 then [⟨0, [], [], none, [], []⟩, ⟨1, [30], [], none, [], []⟩, ⟨2, [], [], none, [], []⟩, ⟨3, [30], [], none, [1, 2], []⟩, ⟨4, [30], [], none, [], []⟩, ⟨5, [], [], none, [], []⟩, ⟨6, [30], [], none, [4, 5], []⟩, ⟨7, [30], [30], none, [1, 2, 3, 4, 5, 6], []⟩, ⟨8, [], [], none, [0, 1, 2, 3, 4, 5, 6, 7], []⟩, ⟨9, [], [], none, [0, 1, 2, 3, 4, 5, 6, 7, 8], []⟩] else [])
  hint := (fun i => bif Nat.beq i 31 then some 30 else bif Nat.beq i 41 then some 30 else none)
  frz := [30] }
def VC_slices_Repeat_rx_Node_rx_Node (p0a : Option Addr) (p0n p0c : Nat) (p1 : Int) (m : Mem) (R : Value → Mem → List (List Value) → Prop) : Prop :=
 br (decide (p1 < (0 : Int))) False (∃ (R_1 : RT), True ∧ CX Try.prog (56 : Nat) (Array.mk [int u64 (IntKind.wrap u64 (↑p0n : Int)), int u64 (IntKind.wrap u64 p1)]) m [] R_1 ∧ Fits (Shape.tup [Shape.int u64, Shape.int
 u64]) R_1 ∧ ∀ (n aa : Int) (m' : Mem), Mem.le m m' → R_1 (Value.tuple (Array.mk [int u64 n, int u64 aa])) m' [] → ∃ (b : Bool), br (decide (n > (0 : Int))) ([Value.bool true] = [Value.bool b]) ([Value.bool (decide (aa >
 (9223372036854775807 : Int)))] = [Value.bool b]) ∧ br b False (((0 : Int) ≤ IntKind.wrap i64 aa ∧ IntKind.wrap i64 aa ≤ IntKind.wrap i64 aa ∧ IntKind.wrap i64 aa * (↑(80 : Nat) : Int) ≤ (281474976710656 : Int) ∧
 IntKind.wrap i64 aa ≤ (9223372036854775807 : Int)) ∧ ∀ (b : Nat), Mem.free m' b → ∃ (o : Nat), ∃ (xs : List Value), some (Addr.mk b (0 : Nat) none) = some (Addr.mk b o none) ∧ List.length xs = min p0n (Int.toNat
 (IntKind.wrap i64 aa)) * (8 : Nat) ∧ o + List.length xs ≤ List.length (List.flatten (List.replicate (Int.toNat (IntKind.wrap i64 aa)) [int u8 (0 : Int), int u64 (0 : Int), int u64 (0 : Int), int u64 (0 : Int), int u64
 (0 : Int), int i64 (0 : Int), int i64 (0 : Int), slice none (0 : Nat) (0 : Nat)])) ∧ (∀ (u : Value), u ∈ xs → Value.oneCell' u = true) ∧ (rowRd m' p0a xs ∨ ∃ (o' : Nat), p0a = some (Addr.mk b o' none) ∧ ∀ (i : Nat) (u :
 Value), List.get?Internal xs i = some u → List.get?Internal (List.flatten (List.replicate (Int.toNat (IntKind.wrap i64 aa)) [int u8 (0 : Int), int u64 (0 : Int), int u64 (0 : Int), int u64 (0 : Int), int u64 (0 : Int),
 int i64 (0 : Int), int i64 (0 : Int), slice none (0 : Nat) (0 : Nat)])) (o' + i) = some u) ∧ ∃ (I : IT), (∃ (n : Nat), I [int i64 (↑(min p0n (Int.toNat (IntKind.wrap i64 aa))) : Int)] [splice (List.flatten
 (List.replicate (Int.toNat (IntKind.wrap i64 aa)) [int u8 (0 : Int), int u64 (0 : Int), int u64 (0 : Int), int u64 (0 : Int), int u64 (0 : Int), int i64 (0 : Int), int i64 (0 : Int), slice none (0 : Nat) (0 : Nat)])) o
 xs] [] m' n) ∧ ∀ (n : Int) (cs : List Value) (ab : Mem) (ac : Nat), Mem.le m' ab → I [int i64 n] [cs] [] ab ac → br (decide (n < (↑(Int.toNat (IntKind.wrap i64 aa)) : Int))) (((0 : Int) ≤ n ∧ n ≤ (↑(Int.toNat
 (IntKind.wrap i64 aa)) : Int)) ∧ ((0 : Int) ≤ n ∧ n ≤ (↑(Int.toNat (IntKind.wrap i64 aa)) : Int)) ∧ (Mem.free ab b → ∃ (o : Nat), ∃ (xs : List Value), slBase (some (Addr.mk b (0 : Nat) none)) (Int.toNat n) (Int.toNat
 (IntKind.wrap i64 aa)) (8 : Nat) = some (Addr.mk b o none) ∧ List.length xs = min (Int.toNat n - (0 : Nat)) (Int.toNat (IntKind.wrap i64 aa) - Int.toNat n) * (8 : Nat) ∧ o + List.length xs ≤ List.length cs ∧ (∀ (u :
 Value), u ∈ xs → Value.oneCell' u = true) ∧ (rowRd ab (slBase (some (Addr.mk b (0 : Nat) none)) (0 : Nat) (Int.toNat (IntKind.wrap i64 aa)) (8 : Nat)) xs ∨ ∃ (o' : Nat), slBase (some (Addr.mk b (0 : Nat) none)) (0 :
 Nat) (Int.toNat (IntKind.wrap i64 aa)) (8 : Nat) = some (Addr.mk b o' none) ∧ ∀ (i : Nat) (u : Value), List.get?Internal xs i = some u → List.get?Internal cs (o' + i) = some u) ∧ [some (Box.mk b [] (30 : TypeId)
 (Int.toNat (IntKind.wrap i64 aa) * (8 : Nat)) false true)] = [some (Box.mk b [] (30 : TypeId) (Int.toNat (IntKind.wrap i64 aa) * (8 : Nat)) false true)] ∧ ∃ (n' : Nat), n' < ac ∧ I [int i64 (IntKind.wrap i64 (n + (↑(min
 (Int.toNat n - (0 : Nat)) (Int.toNat (IntKind.wrap i64 aa) - Int.toNat n)) : Int)))] [splice cs o xs] [] ab n')) (∃ (m'' : Mem), Mem.le m m'' ∧ Mem.le m'' (Mem.add ab b cs) ∧ R (slice (some (Addr.mk b (0 : Nat) none))
 (Int.toNat (IntKind.wrap i64 aa)) (Int.toNat (IntKind.wrap i64 aa))) m'' [])))
theorem VC_slices_Repeat_rx_Node_rx_Node_eq (p0a : Option Addr) (p0n p0c : Nat) (p1 : Int) (m : Mem) (R : Value → Mem → List (List Value) → Prop) : VC_slices_Repeat_rx_Node_rx_Node p0a p0n p0c p1 m R = FW E_slices_Repeat_rx_Node_rx_Node Try.f30 [.v (.slice p0a p0n p0c), .v (.int .i64 p1)] [] m R := by kernel_rfl
theorem cx_slices_Repeat_rx_Node_rx_Node (p0a : Option Addr) (p0n p0c : Nat) (p1 : Int) (m : Mem) (R : Value → Mem → List (List Value) → Prop) (h : VC_slices_Repeat_rx_Node_rx_Node p0a p0n p0c p1 m R) : CX Try.prog 30 #[.slice p0a p0n p0c, .int .i64 p1] m [] R :=
  CX_of_FW (E := E_slices_Repeat_rx_Node_rx_Node) (fun t i h => EB_ok t i h) mix Try.func30 [.v (.slice p0a p0n p0c), .v (.int .i64 p1)] [] (by kernel_rfl) ((VC_slices_Repeat_rx_Node_rx_Node_eq p0a p0n p0c p1 m R).mp h)
end Go.Proofs.Ytmggihkjgbnhbaa

