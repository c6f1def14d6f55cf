/- Part of the proof: conditions and contracts of functions of this program. No condition of its own. -/
import Derived.Test.YthiefodednaikaaPEnv
/- Conditions of functions of this seat's program, as they were printed by a program, and the contracts that follow from them. -/
set_option linter.unusedVariables false
namespace Go.Proofs.Ythiefodednaikaa
open Go Go.Eng Go.Proofs Go.RowKit
open Go.Value (int slice agg)
open Go.IntKind (u8 u64 i64)
set_option maxRecDepth 100000
noncomputable def E_slices_Concat_byte_byte : Env := { EB with
  loops := (fun i => bif Nat.beq i 3 then ⟨[(3, .int .i64), (11, .int .i64)], [], [], false⟩ else bif Nat.beq i 11 then ⟨[(6, .slice), (27, .int .i64)], [], [(33, 1)], false⟩ else ⟨[], [], [], false⟩)
  tokOf := (fun i => bif Nat.beq i 33 then 33 else 0)
  tokC := (fun i => bif Nat.beq i 24 then some (33, 1) else none) }
def VC_slices_Concat_byte_byte (p0a : Option Addr) (p0n p0c : Nat) (m : Mem) (R : Value → Mem → List (List Value) → Prop) : Prop :=
 ∃ (I : IT), (∃ (n : Nat), I [int i64 (0 : Int), int i64 (0 : Int)] [] [] m n) ∧ ∀ (n n_1 : Int) (m' : Mem) (n_2 : Nat), Mem.le m m' → I [int i64 n, int i64 n_1] [] [] m' n_2 → br (decide (n_1 < (↑p0n : Int))) (∃ (b :
 Nat), ∃ (o : Nat), p0a = some (Addr.mk b o none) ∧ inRange n_1 p0n ∧ ∃ (v : Value), m' b (o + Int.toNat n_1 * (1 : Nat)) = some v ∧ chk (isSl v) (br (decide (IntKind.wrap i64 (n + (↑(slN v) : Int)) < (0 : Int))) False
 (∃ (n' : Nat), n' < n_2 ∧ I [int i64 (IntKind.wrap i64 (n + (↑(slN v) : Int))), int i64 (IntKind.wrap i64 (n_1 + (1 : Int)))] [] [] m' n'))) (∃ (R_1 : RT), CXT Try.prog (67 : Nat) (Array.mk [slice none (0 : Nat) (0 :
 Nat), int i64 n]) m' (1 : Nat) R_1 ∧ (∀ (v : Value) (m' : Mem) (css : List (List Value)), R_1 v m' css → Shape.fits Shape.slice v = true) ∧ ∀ (a : Option Addr) (n c : Nat) (m'_1 : Mem), Mem.le m' m'_1 → R_1 (slice a n
 c) m'_1 [] → ∃ (I : IT), (∃ (n_3 : Nat), I [slice a n c, int i64 (0 : Int)] [] [slice a n c] m'_1 n_3) ∧ ∀ (a : Option Addr) (n c : Nat) (n_3 : Int) (a_3 : Option Addr) (n_4 c_1 : Nat) (m' : Mem) (n_5 : Nat), Mem.le
 m'_1 m' → I [slice a n c, int i64 n_3] [] [slice a_3 n_4 c_1] m' n_5 → br (decide (n_3 < (↑p0n : Int))) (∃ (b : Nat), ∃ (o : Nat), p0a = some (Addr.mk b o none) ∧ inRange n_3 p0n ∧ ∃ (v : Value), m' b (o + Int.toNat n_3
 * (1 : Nat)) = some v ∧ chk (isSl v && true) ((Tok.mk (slice a_3 n_4 c_1) (1 : Nat) = Tok.mk (slice a n c) (1 : Nat) ∨ slice a n c = slice none (0 : Nat) (0 : Nat) ∨ c < n + slN v) ∧ ∃ (xs : List Value), ∃ (ys : List
 Value), List.length xs = n * (1 : Nat) ∧ List.length ys = slN v * (1 : Nat) ∧ rowRd m' a xs ∧ rowRd m' (slA v) ys ∧ (∀ (u : Value), u ∈ ys → Value.oneCell' u = true) ∧ (n + slN v) * (1 : Nat) ≤ (140737488355328 : Nat) ∧
 n + slN v ≤ (9223372036854775807 : Nat) ∧ ∀ (a' : Option Addr) (c' : Nat) (m'_2 : Mem), Mem.le m' m'_2 → rowRd m'_2 a' (List.append xs ys) → ([none] : List (Option Tok)) = [none] ∧ ∃ (n' : Nat), n' < n_5 ∧ I [slice a'
 (n + slN v) c', int i64 (IntKind.wrap i64 (n_3 + (1 : Int)))] [] [slice a' (n + slN v) c'] m'_2 n')) (∃ (m'' : Mem), Mem.le m m'' ∧ Mem.le m'' m' ∧ R (slice a n c) m'' []))
theorem VC_slices_Concat_byte_byte_eq (p0a : Option Addr) (p0n p0c : Nat) (m : Mem) (R : Value → Mem → List (List Value) → Prop) : VC_slices_Concat_byte_byte p0a p0n p0c m R = FW E_slices_Concat_byte_byte Try.f25 [.v (.slice p0a p0n p0c)] [] m R := by kernel_rfl
theorem cx_slices_Concat_byte_byte (p0a : Option Addr) (p0n p0c : Nat) (m : Mem) (R : Value → Mem → List (List Value) → Prop) (h : VC_slices_Concat_byte_byte p0a p0n p0c m R) : CX Try.prog 25 #[.slice p0a p0n p0c] m [] R :=
  CX_of_FW (E := E_slices_Concat_byte_byte) (fun t i h => EB_ok t i h) mix Try.func25 [.v (.slice p0a p0n p0c)] [] (by kernel_rfl) ((VC_slices_Concat_byte_byte_eq p0a p0n p0c m R).mp h)
noncomputable def E_slices_Concat_rx_Regex_rx_Regex : Env := { EB with
  loops := (fun i => bif Nat.beq i 3 then ⟨[(3, .int .i64), (11, .int .i64)], [], [], false⟩ else bif Nat.beq i 11 then ⟨[(6, .slice), (27, .int .i64)], [], [(33, 10)], false⟩ else ⟨[], [], [], false⟩)
  tokOf := (fun i => bif Nat.beq i 33 then 33 else 0)
  tokC := (fun i => bif Nat.beq i 24 then some (33, 10) else none) }
def VC_slices_Concat_rx_Regex_rx_Regex (p0a : Option Addr) (p0n p0c : Nat) (m : Mem) (R : Value → Mem → List (List Value) → Prop) : Prop :=
 ∃ (I : IT), (∃ (n : Nat), I [int i64 (0 : Int), int i64 (0 : Int)] [] [] m n) ∧ ∀ (n n_1 : Int) (m' : Mem) (n_2 : Nat), Mem.le m m' → I [int i64 n, int i64 n_1] [] [] m' n_2 → br (decide (n_1 < (↑p0n : Int))) (∃ (b :
 Nat), ∃ (o : Nat), p0a = some (Addr.mk b o none) ∧ inRange n_1 p0n ∧ ∃ (v : Value), m' b (o + Int.toNat n_1 * (1 : Nat)) = some v ∧ chk (isSl v) (br (decide (IntKind.wrap i64 (n + (↑(slN v) : Int)) < (0 : Int))) False
 (∃ (n' : Nat), n' < n_2 ∧ I [int i64 (IntKind.wrap i64 (n + (↑(slN v) : Int))), int i64 (IntKind.wrap i64 (n_1 + (1 : Int)))] [] [] m' n'))) (∃ (R_1 : RT), CXT Try.prog (68 : Nat) (Array.mk [slice none (0 : Nat) (0 :
 Nat), int i64 n]) m' (10 : Nat) R_1 ∧ (∀ (v : Value) (m' : Mem) (css : List (List Value)), R_1 v m' css → Shape.fits Shape.slice v = true) ∧ ∀ (a : Option Addr) (n c : Nat) (m'_1 : Mem), Mem.le m' m'_1 → R_1 (slice a n
 c) m'_1 [] → ∃ (I : IT), (∃ (n_3 : Nat), I [slice a n c, int i64 (0 : Int)] [] [slice a n c] m'_1 n_3) ∧ ∀ (a : Option Addr) (n c : Nat) (n_3 : Int) (a_3 : Option Addr) (n_4 c_1 : Nat) (m' : Mem) (n_5 : Nat), Mem.le
 m'_1 m' → I [slice a n c, int i64 n_3] [] [slice a_3 n_4 c_1] m' n_5 → br (decide (n_3 < (↑p0n : Int))) (∃ (b : Nat), ∃ (o : Nat), p0a = some (Addr.mk b o none) ∧ inRange n_3 p0n ∧ ∃ (v : Value), m' b (o + Int.toNat n_3
 * (1 : Nat)) = some v ∧ chk (isSl v && true) ((Tok.mk (slice a_3 n_4 c_1) (10 : Nat) = Tok.mk (slice a n c) (10 : Nat) ∨ slice a n c = slice none (0 : Nat) (0 : Nat) ∨ c < n + slN v) ∧ ∃ (xs : List Value), ∃ (ys : List
 Value), List.length xs = n * (10 : Nat) ∧ List.length ys = slN v * (10 : Nat) ∧ rowRd m' a xs ∧ rowRd m' (slA v) ys ∧ (∀ (u : Value), u ∈ ys → Value.oneCell' u = true) ∧ (n + slN v) * (88 : Nat) ≤ (140737488355328 :
 Nat) ∧ n + slN v ≤ (9223372036854775807 : Nat) ∧ ∀ (a' : Option Addr) (c' : Nat) (m'_2 : Mem), Mem.le m' m'_2 → rowRd m'_2 a' (List.append xs ys) → ([none] : List (Option Tok)) = [none] ∧ ∃ (n' : Nat), n' < n_5 ∧ I
 [slice a' (n + slN v) c', int i64 (IntKind.wrap i64 (n_3 + (1 : Int)))] [] [slice a' (n + slN v) c'] m'_2 n')) (∃ (m'' : Mem), Mem.le m m'' ∧ Mem.le m'' m' ∧ R (slice a n c) m'' []))
theorem VC_slices_Concat_rx_Regex_rx_Regex_eq (p0a : Option Addr) (p0n p0c : Nat) (m : Mem) (R : Value → Mem → List (List Value) → Prop) : VC_slices_Concat_rx_Regex_rx_Regex p0a p0n p0c m R = FW E_slices_Concat_rx_Regex_rx_Regex Try.f26 [.v (.slice p0a p0n p0c)] [] m R := by kernel_rfl
theorem cx_slices_Concat_rx_Regex_rx_Regex (p0a : Option Addr) (p0n p0c : Nat) (m : Mem) (R : Value → Mem → List (List Value) → Prop) (h : VC_slices_Concat_rx_Regex_rx_Regex p0a p0n p0c m R) : CX Try.prog 26 #[.slice p0a p0n p0c] m [] R :=
  CX_of_FW (E := E_slices_Concat_rx_Regex_rx_Regex) (fun t i h => EB_ok t i h) mix Try.func26 [.v (.slice p0a p0n p0c)] [] (by kernel_rfl) ((VC_slices_Concat_rx_Regex_rx_Regex_eq p0a p0n p0c m R).mp h)
end Go.Proofs.Ythiefodednaikaa

