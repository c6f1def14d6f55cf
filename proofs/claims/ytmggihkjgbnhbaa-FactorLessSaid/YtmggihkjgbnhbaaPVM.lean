/- Part of the proof: conditions and contracts of functions of this program. No condition of its own. -/
import Derived.Test.YtmggihkjgbnhbaaPEnv
/- Conditions of functions of this seat's program, as they were printed by a program, and the contracts that follow from them. -/
set_option linter.unusedVariables false
namespace Go.Proofs.Ytmggihkjgbnhbaa
open Go Go.Eng Go.Proofs Go.RowKit
open Go.Value (int slice agg)
open Go.IntKind (u8 u64 i64)
set_option maxRecDepth 100000
noncomputable def E_rx_copied : Env := { EB with
  loops := (fun i => bif Nat.beq i 3 then ⟨[(12, .int .i64)], [], [], false⟩ else ⟨[], [], [], false⟩)
  dr := (fun i => bif Nat.beq i 5 then [⟨0, [1], [], none, [], []⟩, ⟨1, [1], [], none, [0], []⟩, ⟨2, [], [], none, [], []⟩, ⟨3, [4], [], none, [], []⟩, ⟨4, [], [], none, [3], []⟩, ⟨5, [], [], none, [0, 1, 2, 3, 4], []⟩] else [])
  thaw := true
  stAt := (fun i => bif Nat.beq i 22 then some 7 else none)
  last := (fun i => bif Nat.beq i 5 then true else false)
  tokC := (fun i => bif Nat.beq i 7 then some (7, 8) else none) }
def VC_rx_copied (p0_0 : Int) (p0_1 : Int) (p0_2 : Int) (p0_3 : Int) (p0_4 : Int) (p0_5 : Int) (p0_6 : Int) (p0_7a : Option Addr) (p0_7n p0_7c : Nat) (m : Mem) (R : Value → Mem → List (List Value) → Prop) : Prop :=
 ∀ (b b_1 : Nat), ∃ (R_1 : RT), CXT Try.prog (75 : Nat) (Array.mk [slice p0_7a p0_7n p0_7c]) m (8 : Nat) R_1 ∧ (∀ (v : Value) (m' : Mem) (css : List (List Value)), R_1 v m' css → Shape.fits Shape.slice v = true) ∧ ∀ (a :
 Option Addr) (n c : Nat) (m' : Mem), Mem.le m m' → R_1 (slice a n c) m' [] → ∃ (I : IT), (∃ (n : Nat), I [int i64 (0 : Int)] [] [] m' n) ∧ ∀ (n_1 : Int) (m' : Mem) (n_2 : Nat), True → I [int i64 n_1] [] [] m' n_2 → br
 (decide (n_1 < (↑n : Int))) (∃ (b_2 : Nat), ∃ (o : Nat), a = some (Addr.mk b_2 o none) ∧ inRange n_1 n ∧ ∃ (v : Value), ∃ (v_1 : Value), ∃ (v_2 : Value), ∃ (v_3 : Value), ∃ (v_4 : Value), ∃ (v_5 : Value), ∃ (v_6 :
 Value), ∃ (v_7 : Value), Mem.reads m' b_2 (o + Int.toNat n_1 * (8 : Nat)) [v, v_1, v_2, v_3, v_4, v_5, v_6, v_7] ∧ ∀ (b_3 : Nat), chk (Value.oneCell' v && (Value.oneCell' v_1 && (Value.oneCell' v_2 && (Value.oneCell'
 v_3 && (Value.oneCell' v_4 && (Value.oneCell' v_5 && (Value.oneCell' v_6 && (Value.oneCell' v_7 && true)))))))) (∃ (f : Fx), ∃ (R : RT), R = f (4 : Nat) [agg (Array.mk [v, v_1, v_2, v_3, v_4, v_5, v_6, v_7])] m' ∧ CX
 Try.prog (58 : Nat) (Array.mk [agg (Array.mk [v, v_1, v_2, v_3, v_4, v_5, v_6, v_7])]) m' [] R ∧ (∀ (v : Value) (m' : Mem) (css : List (List Value)), R v m' css → Shape.fits (Shape.agg [Shape.int u8, Shape.int u64,
 Shape.int u64, Shape.int u64, Shape.int u64, Shape.int i64, Shape.int i64, Shape.slice]) v = true) ∧ ∀ (n_3 n_4 n_5 n_6 n_7 n_8 n_9 : Int) (a_5 : Option Addr) (n_10 c_1 : Nat) (m'_1 : Mem), Mem.le m' m'_1 → R (agg
 (Array.mk [int u8 n_3, int u64 n_4, int u64 n_5, int u64 n_6, int u64 n_7, int i64 n_8, int i64 n_9, slice a_5 n_10 c_1])) m'_1 [] → ∃ (b_4 : Nat), ∃ (o : Nat), a = some (Addr.mk b_4 o none) ∧ inRange n_1 n ∧ ∀ (M :
 Mem), Mem.le m' M → Mem.le m'_1 M → slice a n c = slice (some (Addr.mk b_4 (0 : Nat) none)) n c ∧ o + Int.toNat n_1 * (8 : Nat) + (8 : Nat) ≤ n * (8 : Nat) ∧ [some (Box.mk b_1 [int u8 (0 : Int), int u64 (0 : Int), int
 u64 (0 : Int), int u64 (0 : Int), int u64 (0 : Int), int i64 (0 : Int), int i64 (0 : Int), slice none (0 : Nat) (0 : Nat)] (30 : Nat) (8 : Nat) false true), some (Box.mk b [int u8 p0_0, int u64 p0_1, int u64 p0_2, int
 u64 p0_3, int u64 p0_4, int i64 p0_5, int i64 p0_6, slice a n c] (30 : Nat) (8 : Nat) false true)] = [some (Box.mk b_1 [int u8 (0 : Int), int u64 (0 : Int), int u64 (0 : Int), int u64 (0 : Int), int u64 (0 : Int), int
 i64 (0 : Int), int i64 (0 : Int), slice none (0 : Nat) (0 : Nat)] (30 : Nat) (8 : Nat) false true), some (Box.mk b [int u8 p0_0, int u64 p0_1, int u64 p0_2, int u64 p0_3, int u64 p0_4, int i64 p0_5, int i64 p0_6, slice
 a n c] (30 : Nat) (8 : Nat) false true)] ∧ [some (Tok.mk (slice a n c) (8 : Nat))] = [some (Tok.mk (slice a n c) (8 : Nat))] ∧ ∃ (n' : Nat), n' < n_2 ∧ I [int i64 (IntKind.wrap i64 (n_1 + (1 : Int)))] [] [] (Mem.upd M
 b_4 (o + Int.toNat n_1 * (8 : Nat)) [int u8 n_3, int u64 n_4, int u64 n_5, int u64 n_6, int u64 n_7, int i64 n_8, int i64 n_9, slice a_5 n_10 c_1]) n')) (∃ (m'' : Mem), Mem.le m m'' ∧ Mem.le m'' m' ∧ R (agg (Array.mk
 [int u8 p0_0, int u64 p0_1, int u64 p0_2, int u64 p0_3, int u64 p0_4, int i64 p0_5, int i64 p0_6, slice a n c])) m'' [])
theorem VC_rx_copied_eq (p0_0 : Int) (p0_1 : Int) (p0_2 : Int) (p0_3 : Int) (p0_4 : Int) (p0_5 : Int) (p0_6 : Int) (p0_7a : Option Addr) (p0_7n p0_7c : Nat) (m : Mem) (R : Value → Mem → List (List Value) → Prop) : VC_rx_copied p0_0 p0_1 p0_2 p0_3 p0_4 p0_5 p0_6 p0_7a p0_7n p0_7c m R = FW E_rx_copied Try.f58 [.v (.agg #[.int .u8 p0_0, .int .u64 p0_1, .int .u64 p0_2, .int .u64 p0_3, .int .u64 p0_4, .int .i64 p0_5, .int .i64 p0_6, .slice p0_7a p0_7n p0_7c])] [] m R := by kernel_rfl
theorem cx_rx_copied (p0_0 : Int) (p0_1 : Int) (p0_2 : Int) (p0_3 : Int) (p0_4 : Int) (p0_5 : Int) (p0_6 : Int) (p0_7a : Option Addr) (p0_7n p0_7c : Nat) (m : Mem) (R : Value → Mem → List (List Value) → Prop) (h : VC_rx_copied p0_0 p0_1 p0_2 p0_3 p0_4 p0_5 p0_6 p0_7a p0_7n p0_7c m R) : CX Try.prog 58 #[.agg #[.int .u8 p0_0, .int .u64 p0_1, .int .u64 p0_2, .int .u64 p0_3, .int .u64 p0_4, .int .i64 p0_5, .int .i64 p0_6, .slice p0_7a p0_7n p0_7c]] m [] R :=
  CX_of_FW (E := E_rx_copied) (fun t i h => EB_ok t i h) mix Try.func58 [.v (.agg #[.int .u8 p0_0, .int .u64 p0_1, .int .u64 p0_2, .int .u64 p0_3, .int .u64 p0_4, .int .i64 p0_5, .int .i64 p0_6, .slice p0_7a p0_7n p0_7c])] [] (by kernel_rfl) ((VC_rx_copied_eq p0_0 p0_1 p0_2 p0_3 p0_4 p0_5 p0_6 p0_7a p0_7n p0_7c m R).mp h)
end Go.Proofs.Ytmggihkjgbnhbaa

