/- Part of the proof: conditions and contracts of functions of this program. No condition of its own. -/
import Derived.Test.YthiefodednaikaaPEnv
/- Conditions of functions of this seat's program, as they were printed by a program, and the contracts that follow from them. -/
set_option linter.unusedVariables false
namespace Go.Proofs.Ythiefodednaikaa
open Go Go.Eng Go.Proofs Go.RowKit
open Go.Value (int slice agg)
open Go.IntKind (u8 u64 i64)
set_option maxRecDepth 100000
noncomputable def E_law13_matches : Env := { EB with
  joins := (fun i => bif Nat.beq i 2 then some [(4, .bool)] else none)
  frzNew := [2] }
def VC_law13_matches (p0_0 : Int) (p0_1 : Int) (p0_2 : Int) (p0_3 : Int) (p0_4 : Int) (p0_5 : Int) (p0_6 : Int) (p0_7a : Option Addr) (p0_7n p0_7c : Nat) (p1a : Option Addr) (p1n p1c : Nat) (m : Mem) (R : Value → Mem → List (List Value) → Prop) : Prop :=
 ∀ (b : Nat) (m' : Mem), Mem.le m m' → Mem.reads m' b (0 : Nat) [int u8 p0_0, int u64 p0_1, int u64 p0_2, int u64 p0_3, int u64 p0_4, int i64 p0_5, int i64 p0_6, slice p0_7a p0_7n p0_7c] → ∃ (R_1 : RT), True ∧ CX
 Try.prog (19 : Nat) (Array.mk [agg (Array.mk [int u8 p0_0, int u64 p0_1, int u64 p0_2, int u64 p0_3, int u64 p0_4, int i64 p0_5, int i64 p0_6, slice p0_7a p0_7n p0_7c]), slice p1a p1n p1c]) m' [] R_1 ∧ (∀ (v : Value)
 (m' : Mem) (css : List (List Value)), R_1 v m' css → Shape.fits (Shape.tup [Shape.bool, Shape.int i64]) v = true) ∧ ∀ (b_1 : Bool) (n : Int) (m'_1 : Mem), Mem.le m' m'_1 → R_1 (Value.tuple (Array.mk [Value.bool b_1, int
 i64 n])) m'_1 [] → ∃ (b_2 : Bool), br b_1 ([some (Box.mk b [int u8 p0_0, int u64 p0_1, int u64 p0_2, int u64 p0_3, int u64 p0_4, int i64 p0_5, int i64 p0_6, slice p0_7a p0_7n p0_7c] (29 : Nat) (8 : Nat) true true)] =
 [some (Box.mk b [int u8 p0_0, int u64 p0_1, int u64 p0_2, int u64 p0_3, int u64 p0_4, int i64 p0_5, int i64 p0_6, slice p0_7a p0_7n p0_7c] (29 : Nat) (8 : Nat) true true)] ∧ [Value.bool (n == (0 : Int))] = [Value.bool
 b_2]) ([some (Box.mk b [int u8 p0_0, int u64 p0_1, int u64 p0_2, int u64 p0_3, int u64 p0_4, int i64 p0_5, int i64 p0_6, slice p0_7a p0_7n p0_7c] (29 : Nat) (8 : Nat) true true)] = [some (Box.mk b [int u8 p0_0, int u64
 p0_1, int u64 p0_2, int u64 p0_3, int u64 p0_4, int i64 p0_5, int i64 p0_6, slice p0_7a p0_7n p0_7c] (29 : Nat) (8 : Nat) true true)] ∧ [Value.bool false] = [Value.bool b_2]) ∧ ∃ (m'' : Mem), Mem.le m m'' ∧ Mem.le m''
 m'_1 ∧ R (Value.bool b_2) m'' []
theorem VC_law13_matches_eq (p0_0 : Int) (p0_1 : Int) (p0_2 : Int) (p0_3 : Int) (p0_4 : Int) (p0_5 : Int) (p0_6 : Int) (p0_7a : Option Addr) (p0_7n p0_7c : Nat) (p1a : Option Addr) (p1n p1c : Nat) (m : Mem) (R : Value → Mem → List (List Value) → Prop) : VC_law13_matches p0_0 p0_1 p0_2 p0_3 p0_4 p0_5 p0_6 p0_7a p0_7n p0_7c p1a p1n p1c m R = FW E_law13_matches Try.f24 [.v (.agg #[.int .u8 p0_0, .int .u64 p0_1, .int .u64 p0_2, .int .u64 p0_3, .int .u64 p0_4, .int .i64 p0_5, .int .i64 p0_6, .slice p0_7a p0_7n p0_7c]), .v (.slice p1a p1n p1c)] [] m R := by kernel_rfl
theorem cx_law13_matches (p0_0 : Int) (p0_1 : Int) (p0_2 : Int) (p0_3 : Int) (p0_4 : Int) (p0_5 : Int) (p0_6 : Int) (p0_7a : Option Addr) (p0_7n p0_7c : Nat) (p1a : Option Addr) (p1n p1c : Nat) (m : Mem) (R : Value → Mem → List (List Value) → Prop) (h : VC_law13_matches p0_0 p0_1 p0_2 p0_3 p0_4 p0_5 p0_6 p0_7a p0_7n p0_7c p1a p1n p1c m R) : CX Try.prog 24 #[.agg #[.int .u8 p0_0, .int .u64 p0_1, .int .u64 p0_2, .int .u64 p0_3, .int .u64 p0_4, .int .i64 p0_5, .int .i64 p0_6, .slice p0_7a p0_7n p0_7c], .slice p1a p1n p1c] m [] R :=
  CX_of_FW (E := E_law13_matches) (fun t i h => EB_ok t i h) mix Try.func24 [.v (.agg #[.int .u8 p0_0, .int .u64 p0_1, .int .u64 p0_2, .int .u64 p0_3, .int .u64 p0_4, .int .i64 p0_5, .int .i64 p0_6, .slice p0_7a p0_7n p0_7c]), .v (.slice p1a p1n p1c)] [] (by kernel_rfl) ((VC_law13_matches_eq p0_0 p0_1 p0_2 p0_3 p0_4 p0_5 p0_6 p0_7a p0_7n p0_7c p1a p1n p1c m R).mp h)
noncomputable def E_cmp_isNaN_int : Env := EB
def VC_cmp_isNaN_int (p0 : Int) (m : Mem) (R : Value → Mem → List (List Value) → Prop) : Prop :=
 ∃ (m'' : Mem), Mem.le m m'' ∧ Mem.le m'' m ∧ R (Value.bool !p0 == p0) m'' []
theorem VC_cmp_isNaN_int_eq (p0 : Int) (m : Mem) (R : Value → Mem → List (List Value) → Prop) : VC_cmp_isNaN_int p0 m R = FW E_cmp_isNaN_int Try.f90 [.v (.int .i64 p0)] [] m R := by kernel_rfl
theorem cx_cmp_isNaN_int (p0 : Int) (m : Mem) (R : Value → Mem → List (List Value) → Prop) (h : VC_cmp_isNaN_int p0 m R) : CX Try.prog 90 #[.int .i64 p0] m [] R :=
  CX_of_FW (E := E_cmp_isNaN_int) (fun t i h => EB_ok t i h) mix Try.func90 [.v (.int .i64 p0)] [] (by kernel_rfl) ((VC_cmp_isNaN_int_eq p0 m R).mp h)
noncomputable def E_cmp_Less_int : Env := { EB with
  joins := (fun i => bif Nat.beq i 1 then some [(4, .bool)] else none) }
def VC_cmp_Less_int (p0 : Int) (p1 : Int) (m : Mem) (R : Value → Mem → List (List Value) → Prop) : Prop :=
 ∃ (b : Bool), (∃ (R : RT), True ∧ CX Try.prog (90 : Nat) (Array.mk [int i64 p0]) m [] R ∧ (∀ (v : Value) (m' : Mem) (css : List (List Value)), R v m' css → Shape.fits Shape.bool v = true) ∧ ∀ (b_1 : Bool) (m' : Mem),
 Mem.le m m' → R (Value.bool b_1) m' [] → br b_1 (∃ (R : RT), True ∧ CX Try.prog (90 : Nat) (Array.mk [int i64 p1]) m' [] R ∧ (∀ (v : Value) (m' : Mem) (css : List (List Value)), R v m' css → Shape.fits Shape.bool v =
 true) ∧ ∀ (b_2 : Bool) (m'_1 : Mem), Mem.le m' m'_1 → R (Value.bool b_2) m'_1 [] → br (!b_2) ([Value.bool true] = [Value.bool b]) ([Value.bool (decide (p0 < p1))] = [Value.bool b])) ([Value.bool (decide (p0 < p1))] =
 [Value.bool b])) ∧ ∃ (m'' : Mem), Mem.le m m'' ∧ Mem.le m'' m ∧ R (Value.bool b) m'' []
theorem VC_cmp_Less_int_eq (p0 : Int) (p1 : Int) (m : Mem) (R : Value → Mem → List (List Value) → Prop) : VC_cmp_Less_int p0 p1 m R = FW E_cmp_Less_int Try.f69 [.v (.int .i64 p0), .v (.int .i64 p1)] [] m R := by kernel_rfl
theorem cx_cmp_Less_int (p0 : Int) (p1 : Int) (m : Mem) (R : Value → Mem → List (List Value) → Prop) (h : VC_cmp_Less_int p0 p1 m R) : CX Try.prog 69 #[.int .i64 p0, .int .i64 p1] m [] R :=
  CX_of_FW (E := E_cmp_Less_int) (fun t i h => EB_ok t i h) mix Try.func69 [.v (.int .i64 p0), .v (.int .i64 p1)] [] (by kernel_rfl) ((VC_cmp_Less_int_eq p0 p1 m R).mp h)
noncomputable def E_slices_Index_int_int : Env := { EB with
  loops := (fun i => bif Nat.beq i 2 then ⟨[(8, .int .i64)], [], [], false⟩ else ⟨[], [], [], false⟩) }
def VC_slices_Index_int_int (p0a : Option Addr) (p0n p0c : Nat) (p1 : Int) (m : Mem) (R : Value → Mem → List (List Value) → Prop) : Prop :=
 ∃ (I : IT), (∃ (n : Nat), I [int i64 (0 : Int)] [] [] m n) ∧ ∀ (n : Int) (m' : Mem) (n_1 : Nat), Mem.le m m' → I [int i64 n] [] [] m' n_1 → br (decide (n < (↑p0n : Int))) (∃ (b : Nat), ∃ (o : Nat), p0a = some (Addr.mk b
 o none) ∧ inRange n p0n ∧ ∃ (v : Value), m' b (o + Int.toNat n * (1 : Nat)) = some v ∧ chk (isInt i64 v) (br (p1 == RowKit.intOf v) (∃ (m'' : Mem), Mem.le m m'' ∧ Mem.le m'' m' ∧ R (int i64 n) m'' []) (∃ (n' : Nat), n'
 < n_1 ∧ I [int i64 (IntKind.wrap i64 (n + (1 : Int)))] [] [] m' n'))) (∃ (m'' : Mem), Mem.le m m'' ∧ Mem.le m'' m' ∧ R (int i64 (-1 : Int)) m'' [])
theorem VC_slices_Index_int_int_eq (p0a : Option Addr) (p0n p0c : Nat) (p1 : Int) (m : Mem) (R : Value → Mem → List (List Value) → Prop) : VC_slices_Index_int_int p0a p0n p0c p1 m R = FW E_slices_Index_int_int Try.f70 [.v (.slice p0a p0n p0c), .v (.int .i64 p1)] [] m R := by kernel_rfl
theorem cx_slices_Index_int_int (p0a : Option Addr) (p0n p0c : Nat) (p1 : Int) (m : Mem) (R : Value → Mem → List (List Value) → Prop) (h : VC_slices_Index_int_int p0a p0n p0c p1 m R) : CX Try.prog 70 #[.slice p0a p0n p0c, .int .i64 p1] m [] R :=
  CX_of_FW (E := E_slices_Index_int_int) (fun t i h => EB_ok t i h) mix Try.func70 [.v (.slice p0a p0n p0c), .v (.int .i64 p1)] [] (by kernel_rfl) ((VC_slices_Index_int_int_eq p0a p0n p0c p1 m R).mp h)
noncomputable def E_slices_IsSorted_int_int : Env := { EB with
  loops := (fun i => bif Nat.beq i 2 then ⟨[(3, .int .i64)], [], [], false⟩ else ⟨[], [], [], false⟩)
  dr := (fun i => bif Nat.beq i 4 then [⟨0, [], [], none, [], []⟩, ⟨1, [], [], none, [], []⟩, ⟨2, [], [], none, [0, 1], []⟩, ⟨3, [], [], none, [0, 1, 2], []⟩, ⟨4, [], [], none, [], []⟩, ⟨5, [], [], none, [], []⟩, ⟨6, [], [], none, [5], []⟩, ⟨7, [], [], none, [4, 5, 6], []⟩, ⟨8, [], [], none, [4, 5, 6, 7], []⟩, ⟨9, [], [], none, [0, 1, 2, 3, 4, 5, 6, 7, 8], []⟩] else []) }
def VC_slices_IsSorted_int_int (p0a : Option Addr) (p0n p0c : Nat) (m : Mem) (R : Value → Mem → List (List Value) → Prop) : Prop :=
 ∃ (I : IT), (∃ (n : Nat), I [int i64 (IntKind.wrap i64 ((↑p0n : Int) - (1 : Int)))] [] [] m n) ∧ ∀ (n : Int) (m' : Mem) (n_1 : Nat), Mem.le m m' → I [int i64 n] [] [] m' n_1 → br (decide (n > (0 : Int))) (∃ (f : Fx), ∃
 (b : Nat), ∃ (o : Nat), p0a = some (Addr.mk b o none) ∧ inRange n p0n ∧ ∃ (v : Value), m' b (o + Int.toNat n * (1 : Nat)) = some v ∧ ∃ (b : Nat), ∃ (o : Nat), p0a = some (Addr.mk b o none) ∧ inRange (IntKind.wrap i64 (n
 - (1 : Int))) p0n ∧ ∃ (v_1 : Value), m' b (o + Int.toNat (IntKind.wrap i64 (n - (1 : Int))) * (1 : Nat)) = some v_1 ∧ ∃ (R_1 : RT), R_1 = f (9 : Nat) [v, v_1] m' ∧ CX Try.prog (69 : Nat) (Array.mk [v, v_1]) m' [] R_1 ∧
 (∀ (v : Value) (m' : Mem) (css : List (List Value)), R_1 v m' css → Shape.fits Shape.bool v = true) ∧ ∀ (b : Bool) (m'_1 : Mem), Mem.le m' m'_1 → R_1 (Value.bool b) m'_1 [] → ∀ (M : Mem), Mem.le m' M → Mem.le m'_1 M →
 br b (∃ (m'' : Mem), Mem.le m m'' ∧ Mem.le m'' M ∧ R (Value.bool false) m'' []) (∃ (n' : Nat), n' < n_1 ∧ I [int i64 (IntKind.wrap i64 (n - (1 : Int)))] [] [] M n')) (∃ (m'' : Mem), Mem.le m m'' ∧ Mem.le m'' m' ∧ R
 (Value.bool true) m'' [])
theorem VC_slices_IsSorted_int_int_eq (p0a : Option Addr) (p0n p0c : Nat) (m : Mem) (R : Value → Mem → List (List Value) → Prop) : VC_slices_IsSorted_int_int p0a p0n p0c m R = FW E_slices_IsSorted_int_int Try.f27 [.v (.slice p0a p0n p0c)] [] m R := by kernel_rfl
theorem cx_slices_IsSorted_int_int (p0a : Option Addr) (p0n p0c : Nat) (m : Mem) (R : Value → Mem → List (List Value) → Prop) (h : VC_slices_IsSorted_int_int p0a p0n p0c m R) : CX Try.prog 27 #[.slice p0a p0n p0c] m [] R :=
  CX_of_FW (E := E_slices_IsSorted_int_int) (fun t i h => EB_ok t i h) mix Try.func27 [.v (.slice p0a p0n p0c)] [] (by kernel_rfl) ((VC_slices_IsSorted_int_int_eq p0a p0n p0c m R).mp h)
noncomputable def E_slices_Contains_int_int : Env := EB
def VC_slices_Contains_int_int (p0a : Option Addr) (p0n p0c : Nat) (p1 : Int) (m : Mem) (R : Value → Mem → List (List Value) → Prop) : Prop :=
 ∃ (R_1 : RT), True ∧ CX Try.prog (70 : Nat) (Array.mk [slice p0a p0n p0c, int i64 p1]) m [] R_1 ∧ (∀ (v : Value) (m' : Mem) (css : List (List Value)), R_1 v m' css → Shape.fits (Shape.int i64) v = true) ∧ ∀ (n : Int)
 (m' : Mem), Mem.le m m' → R_1 (int i64 n) m' [] → ∃ (m'' : Mem), Mem.le m m'' ∧ Mem.le m'' m' ∧ R (Value.bool (decide (n ≥ (0 : Int)))) m'' []
theorem VC_slices_Contains_int_int_eq (p0a : Option Addr) (p0n p0c : Nat) (p1 : Int) (m : Mem) (R : Value → Mem → List (List Value) → Prop) : VC_slices_Contains_int_int p0a p0n p0c p1 m R = FW E_slices_Contains_int_int Try.f29 [.v (.slice p0a p0n p0c), .v (.int .i64 p1)] [] m R := by kernel_rfl
theorem cx_slices_Contains_int_int (p0a : Option Addr) (p0n p0c : Nat) (p1 : Int) (m : Mem) (R : Value → Mem → List (List Value) → Prop) (h : VC_slices_Contains_int_int p0a p0n p0c p1 m R) : CX Try.prog 29 #[.slice p0a p0n p0c, .int .i64 p1] m [] R :=
  CX_of_FW (E := E_slices_Contains_int_int) (fun t i h => EB_ok t i h) mix Try.func29 [.v (.slice p0a p0n p0c), .v (.int .i64 p1)] [] (by kernel_rfl) ((VC_slices_Contains_int_int_eq p0a p0n p0c p1 m R).mp h)
end Go.Proofs.Ythiefodednaikaa

