/- Part of the proof: conditions and contracts of functions of this program. No condition of its own. -/
import Derived.Test.YtmggihkjgbnhbaaPEnv
/- Conditions of functions of this seat's program, as they were printed by a program, and the contracts that follow from them. -/
set_option linter.unusedVariables false
namespace Go.Proofs.Ytmggihkjgbnhbaa
open Go Go.Eng Go.Proofs Go.RowKit
open Go.Value (int slice agg)
open Go.IntKind (u8 u64 i64)
set_option maxRecDepth 100000
noncomputable def E_rx_Text : Env := { EB with
  loops := (fun i => bif Nat.beq i 3 then ⟨[(3, .slice), (8, .int .i64)], [], [(17, 8)], false⟩ else ⟨[], [], [], false⟩)
  tokOf := (fun i => bif Nat.beq i 17 then 17 else 0) }
def VC_rx_Text (p0 : ByteArray) (m : Mem) (R : Value → Mem → List (List Value) → Prop) : Prop :=
 ∀ (b : Nat), ∃ (I : IT), (∃ (n : Nat), I [slice none (0 : Nat) (0 : Nat), int i64 (0 : Int)] [] [slice none (0 : Nat) (0 : Nat)] m n) ∧ ∀ (a : Option Addr) (n c : Nat) (n_1 : Int) (a_1 : Option Addr) (n_2 c_1 : Nat) (m'
 : Mem) (n_3 : Nat), Mem.le m m' → I [slice a n c, int i64 n_1] [] [slice a_1 n_2 c_1] m' n_3 → br (decide (n_1 < if (10000 : Int) < (↑(ByteArray.size p0) : Int) then (10000 : Int) else (↑(ByteArray.size p0) : Int)))
 (inRange n_1 (ByteArray.size p0) ∧ ∃ (R : RT), True ∧ CX Try.prog (31 : Nat) (Array.mk [int u8 (strAt p0 (Int.toNat n_1))]) m' [] R ∧ (∀ (v : Value) (m' : Mem) (css : List (List Value)), R v m' css → Shape.fits
 (Shape.agg [Shape.int u8, Shape.int u64, Shape.int u64, Shape.int u64, Shape.int u64, Shape.int i64, Shape.int i64, Shape.slice]) v = true) ∧ ∀ (n_4 n_5 n_6 n_7 n_8 n_9 n_10 : Int) (a_4 : Option Addr) (n_11 c_2 : Nat)
 (m'_1 : Mem), Mem.le m' m'_1 → R (agg (Array.mk [int u8 n_4, int u64 n_5, int u64 n_6, int u64 n_7, int u64 n_8, int i64 n_9, int i64 n_10, slice a_4 n_11 c_2])) m'_1 [] → ∀ (b_1 : Nat), Mem.free m'_1 b_1 → (Tok.mk
 (slice a_1 n_2 c_1) (8 : Nat) = Tok.mk (slice a n c) (8 : Nat) ∨ slice a n c = slice none (0 : Nat) (0 : Nat) ∨ c < n + (1 : Nat)) ∧ ∃ (xs : List Value), ∃ (ys : List Value), List.length xs = n * (8 : Nat) ∧ List.length
 ys = (1 : Nat) * (8 : Nat) ∧ rowRd (Mem.add m'_1 b_1 [int u8 n_4, int u64 n_5, int u64 n_6, int u64 n_7, int u64 n_8, int i64 n_9, int i64 n_10, slice a_4 n_11 c_2]) a xs ∧ rowRd (Mem.add m'_1 b_1 [int u8 n_4, int u64
 n_5, int u64 n_6, int u64 n_7, int u64 n_8, int i64 n_9, int i64 n_10, slice a_4 n_11 c_2]) (some (Addr.mk b_1 (0 : Nat) none)) ys ∧ (∀ (u : Value), u ∈ ys → Value.oneCell' u = true) ∧ (n + (1 : Nat)) * (80 : Nat) ≤
 (140737488355328 : Nat) ∧ n + (1 : Nat) ≤ (9223372036854775807 : Nat) ∧ ∀ (a' : Option Addr) (c' : Nat) (m' : Mem), Mem.le (Mem.add m'_1 b_1 [int u8 n_4, int u64 n_5, int u64 n_6, int u64 n_7, int u64 n_8, int i64 n_9,
 int i64 n_10, slice a_4 n_11 c_2]) m' → rowRd m' a' (List.append xs ys) → [some (Box.mk b [int u8 (0 : Int), int u64 (0 : Int), int u64 (0 : Int), int u64 (0 : Int), int u64 (0 : Int), int i64 (0 : Int), int i64 (0 :
 Int), slice none (0 : Nat) (0 : Nat)] (30 : Nat) (8 : Nat) false true)] = [some (Box.mk b [int u8 (0 : Int), int u64 (0 : Int), int u64 (0 : Int), int u64 (0 : Int), int u64 (0 : Int), int i64 (0 : Int), int i64 (0 :
 Int), slice none (0 : Nat) (0 : Nat)] (30 : Nat) (8 : Nat) false true)] ∧ ∃ (n' : Nat), n' < n_3 ∧ I [slice a' (n + (1 : Nat)) c', int i64 (IntKind.wrap i64 (n_1 + (1 : Int)))] [] [slice a' (n + (1 : Nat)) c'] m' n') (∃
 (R_1 : RT), True ∧ CX Try.prog (33 : Nat) (Array.mk [int u8 (3 : Int), slice a n c, agg (Array.mk [int u8 (1 : Int), int u64 (0 : Int), int u64 (0 : Int), int u64 (0 : Int), int u64 (0 : Int), int i64 (0 : Int), int i64
 (0 : Int), slice none (0 : Nat) (0 : Nat)])]) m' [] R_1 ∧ (∀ (v : Value) (m' : Mem) (css : List (List Value)), R_1 v m' css → Shape.fits (Shape.agg [Shape.int u8, Shape.int u64, Shape.int u64, Shape.int u64, Shape.int
 u64, Shape.int i64, Shape.int i64, Shape.slice]) v = true) ∧ ∀ (n n_4 n_5 n_6 n_7 n_8 n_9 : Int) (a : Option Addr) (n_10 c : Nat) (m'_1 : Mem), Mem.le m' m'_1 → R_1 (agg (Array.mk [int u8 n, int u64 n_4, int u64 n_5,
 int u64 n_6, int u64 n_7, int i64 n_8, int i64 n_9, slice a n_10 c])) m'_1 [] → ∃ (m'' : Mem), Mem.le m m'' ∧ Mem.le m'' m'_1 ∧ R (agg (Array.mk [int u8 n, int u64 n_4, int u64 n_5, int u64 n_6, int u64 n_7, int i64
 n_8, int i64 n_9, slice a n_10 c])) m'' [])
theorem VC_rx_Text_eq (p0 : ByteArray) (m : Mem) (R : Value → Mem → List (List Value) → Prop) : VC_rx_Text p0 m R = FW E_rx_Text Try.f10 [.v (.string p0)] [] m R := by kernel_rfl
theorem cx_rx_Text (p0 : ByteArray) (m : Mem) (R : Value → Mem → List (List Value) → Prop) (h : VC_rx_Text p0 m R) : CX Try.prog 10 #[.string p0] m [] R :=
  CX_of_FW (E := E_rx_Text) (fun t i h => EB_ok t i h) mix Try.func10 [.v (.string p0)] [] (by kernel_rfl) ((VC_rx_Text_eq p0 m R).mp h)
noncomputable def E_law15_text : Env := { EB with
  loops := (fun i => bif Nat.beq i 3 then ⟨[(3, .slice), (8, .int .i64)], [], [(16, 8)], false⟩ else ⟨[], [], [], false⟩)
  tokOf := (fun i => bif Nat.beq i 16 then 16 else 0) }
def VC_law15_text (p0a : Option Addr) (p0n p0c : Nat) (m : Mem) (R : Value → Mem → List (List Value) → Prop) : Prop :=
 ∀ (b : Nat), ∃ (I : IT), (∃ (n : Nat), I [slice none (0 : Nat) (0 : Nat), int i64 (0 : Int)] [] [slice none (0 : Nat) (0 : Nat)] m n) ∧ ∀ (a : Option Addr) (n c : Nat) (n_1 : Int) (a_1 : Option Addr) (n_2 c_1 : Nat) (m'
 : Mem) (n_3 : Nat), Mem.le m m' → I [slice a n c, int i64 n_1] [] [slice a_1 n_2 c_1] m' n_3 → br (decide (n_1 < (↑p0n : Int))) (∃ (b_1 : Nat), ∃ (o : Nat), p0a = some (Addr.mk b_1 o none) ∧ inRange n_1 p0n ∧ ∃ (v :
 Value), m' b_1 (o + Int.toNat n_1 * (1 : Nat)) = some v ∧ ∃ (R : RT), True ∧ CX Try.prog (10 : Nat) (Array.mk [v]) m' [] R ∧ (∀ (v : Value) (m' : Mem) (css : List (List Value)), R v m' css → Shape.fits (Shape.agg
 [Shape.int u8, Shape.int u64, Shape.int u64, Shape.int u64, Shape.int u64, Shape.int i64, Shape.int i64, Shape.slice]) v = true) ∧ ∀ (n_4 n_5 n_6 n_7 n_8 n_9 n_10 : Int) (a_4 : Option Addr) (n_11 c_2 : Nat) (m'_1 :
 Mem), Mem.le m' m'_1 → R (agg (Array.mk [int u8 n_4, int u64 n_5, int u64 n_6, int u64 n_7, int u64 n_8, int i64 n_9, int i64 n_10, slice a_4 n_11 c_2])) m'_1 [] → ∀ (b_2 : Nat), Mem.free m'_1 b_2 → (Tok.mk (slice a_1
 n_2 c_1) (8 : Nat) = Tok.mk (slice a n c) (8 : Nat) ∨ slice a n c = slice none (0 : Nat) (0 : Nat) ∨ c < n + (1 : Nat)) ∧ ∃ (xs : List Value), ∃ (ys : List Value), List.length xs = n * (8 : Nat) ∧ List.length ys = (1 :
 Nat) * (8 : Nat) ∧ rowRd (Mem.add m'_1 b_2 [int u8 n_4, int u64 n_5, int u64 n_6, int u64 n_7, int u64 n_8, int i64 n_9, int i64 n_10, slice a_4 n_11 c_2]) a xs ∧ rowRd (Mem.add m'_1 b_2 [int u8 n_4, int u64 n_5, int
 u64 n_6, int u64 n_7, int u64 n_8, int i64 n_9, int i64 n_10, slice a_4 n_11 c_2]) (some (Addr.mk b_2 (0 : Nat) none)) ys ∧ (∀ (u : Value), u ∈ ys → Value.oneCell' u = true) ∧ (n + (1 : Nat)) * (80 : Nat) ≤
 (140737488355328 : Nat) ∧ n + (1 : Nat) ≤ (9223372036854775807 : Nat) ∧ ∀ (a' : Option Addr) (c' : Nat) (m' : Mem), Mem.le (Mem.add m'_1 b_2 [int u8 n_4, int u64 n_5, int u64 n_6, int u64 n_7, int u64 n_8, int i64 n_9,
 int i64 n_10, slice a_4 n_11 c_2]) m' → rowRd m' a' (List.append xs ys) → [some (Box.mk b [int u8 (0 : Int), int u64 (0 : Int), int u64 (0 : Int), int u64 (0 : Int), int u64 (0 : Int), int i64 (0 : Int), int i64 (0 :
 Int), slice none (0 : Nat) (0 : Nat)] (30 : Nat) (8 : Nat) false true)] = [some (Box.mk b [int u8 (0 : Int), int u64 (0 : Int), int u64 (0 : Int), int u64 (0 : Int), int u64 (0 : Int), int i64 (0 : Int), int i64 (0 :
 Int), slice none (0 : Nat) (0 : Nat)] (30 : Nat) (8 : Nat) false true)] ∧ ∃ (n' : Nat), n' < n_3 ∧ I [slice a' (n + (1 : Nat)) c', int i64 (IntKind.wrap i64 (n_1 + (1 : Int)))] [] [slice a' (n + (1 : Nat)) c'] m' n') (∃
 (R_1 : RT), True ∧ CX Try.prog (12 : Nat) (Array.mk [slice a n c]) m' [] R_1 ∧ (∀ (v : Value) (m' : Mem) (css : List (List Value)), R_1 v m' css → Shape.fits (Shape.agg [Shape.int u8, Shape.int u64, Shape.int u64,
 Shape.int u64, Shape.int u64, Shape.int i64, Shape.int i64, Shape.slice]) v = true) ∧ ∀ (n n_4 n_5 n_6 n_7 n_8 n_9 : Int) (a : Option Addr) (n_10 c : Nat) (m'_1 : Mem), Mem.le m' m'_1 → R_1 (agg (Array.mk [int u8 n, int
 u64 n_4, int u64 n_5, int u64 n_6, int u64 n_7, int i64 n_8, int i64 n_9, slice a n_10 c])) m'_1 [] → ∃ (m'' : Mem), Mem.le m m'' ∧ Mem.le m'' m'_1 ∧ R (agg (Array.mk [int u8 n, int u64 n_4, int u64 n_5, int u64 n_6,
 int u64 n_7, int i64 n_8, int i64 n_9, slice a n_10 c])) m'' [])
theorem VC_law15_text_eq (p0a : Option Addr) (p0n p0c : Nat) (m : Mem) (R : Value → Mem → List (List Value) → Prop) : VC_law15_text p0a p0n p0c m R = FW E_law15_text Try.f32 [.v (.slice p0a p0n p0c)] [] m R := by kernel_rfl
theorem cx_law15_text (p0a : Option Addr) (p0n p0c : Nat) (m : Mem) (R : Value → Mem → List (List Value) → Prop) (h : VC_law15_text p0a p0n p0c m R) : CX Try.prog 32 #[.slice p0a p0n p0c] m [] R :=
  CX_of_FW (E := E_law15_text) (fun t i h => EB_ok t i h) mix Try.func32 [.v (.slice p0a p0n p0c)] [] (by kernel_rfl) ((VC_law15_text_eq p0a p0n p0c m R).mp h)
end Go.Proofs.Ytmggihkjgbnhbaa

