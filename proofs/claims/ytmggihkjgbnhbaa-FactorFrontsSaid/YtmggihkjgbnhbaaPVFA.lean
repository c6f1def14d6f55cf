/- Part of the proof: conditions and contracts of functions of this program. No condition of its own. -/
import Derived.Test.YtmggihkjgbnhbaaPEnv
set_option linter.unusedVariables false
namespace Go.Proofs.Ytmggihkjgbnhbaa
open Go Go.Eng Go.Proofs Go.RowKit
open Go.Value (int slice agg)
open Go.IntKind (u8 u64 i64)
set_option maxRecDepth 100000
noncomputable def E_factor_alts : Env := { EB with
 frzNew := [1] }
def VC_factor_alts (p0_0 : Int) (p0_1 : Int) (p0_2 : Int) (p0_3 : Int) (p0_4 : Int) (p0_5 : Int) (p0_6 : Int) (p0_7a : Option Addr) (p0_7n p0_7c : Nat) (m : Mem) (R : RT) : Prop :=
 ∀ (b : Nat) (m' : Mem), Mem.le m m' → Mem.reads m' b (0 : Nat) [int u8 p0_0, int u64 p0_1, int u64 p0_2, int u64 p0_3, int u64 p0_4, int i64 p0_5, int i64 p0_6, slice p0_7a p0_7n p0_7c] → ∃ (m'' : Mem), Mem.le m m'' ∧
 Mem.le m'' m' ∧ R (Value.func (Fn.func (78 : Nat)) (Array.mk []) (Array.mk [Value.pointer (some (Addr.mk b (0 : Nat) none))])) m'' []
theorem cx_factor_alts (p0_0 : Int) (p0_1 : Int) (p0_2 : Int) (p0_3 : Int) (p0_4 : Int) (p0_5 : Int) (p0_6 : Int) (p0_7a : Option Addr) (p0_7n p0_7c : Nat) (m : Mem) (R : RT) (h : VC_factor_alts p0_0 p0_1 p0_2 p0_3 p0_4 p0_5 p0_6 p0_7a p0_7n p0_7c m R) : CX Try.prog 67 #[.agg #[.int .u8 p0_0, .int .u64 p0_1, .int .u64 p0_2, .int .u64 p0_3, .int .u64 p0_4, .int .i64 p0_5, .int .i64 p0_6, .slice p0_7a p0_7n p0_7c]] m [] R :=
 CX_of_FW (E := E_factor_alts) (fun t i h => EB_ok t i h) mix Try.func67 [.v (.agg #[.int .u8 p0_0, .int .u64 p0_1, .int .u64 p0_2, .int .u64 p0_3, .int .u64 p0_4, .int .i64 p0_5, .int .i64 p0_6, .slice p0_7a p0_7n p0_7c])] [] (by kernel_rfl) ((show VC_factor_alts p0_0 p0_1 p0_2 p0_3 p0_4 p0_5 p0_6 p0_7a p0_7n p0_7c m R = FW E_factor_alts Try.f67 [.v (.agg #[.int .u8 p0_0, .int .u64 p0_1, .int .u64 p0_2, .int .u64 p0_3, .int .u64 p0_4, .int .i64 p0_5, .int .i64 p0_6, .slice p0_7a p0_7n p0_7c])] [] m R by kernel_rfl).mp h)
noncomputable def E_factor_alts_1 : Env := { EB with
 frzNew := [2]
 frzAt := (fun i => bif Nat.beq i 7 then [3] else [])
 eff := (fun i => bif Nat.beq i 7 then true else false) }
def VC_factor_alts_1 (p0g : Nat) (p0fi p0ca : List Value) (c0b c0o : Nat) (m : Mem) (xs : List (List Value)) : Prop :=
 ∀ (l b : Nat) (m' : Mem), Mem.le m m' → Mem.reads m' b (0 : Nat) [Value.func (Fn.yield l) (Array.mk []) (Array.mk [])] → ∀ (b_1 : Nat), ∃ (v : Value), ∃ (v_1 : Value), ∃ (v_2 : Value), ∃ (v_3 : Value), ∃ (v_4 : Value),
 ∃ (v_5 : Value), ∃ (v_6 : Value), ∃ (v_7 : Value), Mem.reads m' c0b c0o [v, v_1, v_2, v_3, v_4, v_5, v_6, v_7] ∧ ∀ (m'_1 : Mem), Mem.le m' m'_1 → Mem.reads m'_1 b_1 (0 : Nat) [Value.func (Fn.func (79 : Nat)) (Array.mk
 []) (Array.mk [Value.pointer (some (Addr.mk b (0 : Nat) none)), Value.pointer (some (Addr.mk b_1 (0 : Nat) none))])] → ∃ (l_1 : Nat), ∃ (xs_1 : List (List Value)), ∃ (go : Value → Prop), ∃ (stop : Value → Prop), CY
 Try.prog (79 : Nat) [agg (Array.mk [v, v_1, v_2, v_3, v_4, v_5, v_6, v_7]), Value.pointer (some (Addr.mk b (0 : Nat) none)), Value.pointer (some (Addr.mk b_1 (0 : Nat) none))] m'_1 l_1 xs_1 go stop ∧ (∀ (j : Nat) (v :
 List Value), List.get?Internal xs_1 j = some v → l_1 = l ∧ (0 : Int) ≤ (0 : Int) + (↑j : Int) ∧ List.get?Internal xs (Int.toNat ((0 : Int) + (↑j : Int))) = some v) ∧ (∀ (v : Value), go v ∨ stop v → Shape.fits Shape.bool
 v = true) ∧ ∀ (b : Bool), (go (Value.bool b) → (0 : Int) + (↑(List.length xs_1) : Int) = (↑(List.length xs) : Int) ∨ (0 : Int) + (↑(List.length xs_1) : Int) = (-1 : Int)) ∧ (stop (Value.bool b) → (-1 : Int) =
 (↑(List.length xs) : Int) ∨ (-1 : Int) = (-1 : Int))
theorem ix_factor_alts_1 (p0g : Nat) (p0fi p0ca : List Value) (c0b c0o : Nat) (m : Mem) (xs : List (List Value)) (h : VC_factor_alts_1 p0g p0fi p0ca c0b c0o m xs) : IX Try.prog 78 [] [.pointer (some ⟨c0b, c0o, none⟩)] m xs :=
 IX_of_FWI (E := E_factor_alts_1) (fun t i h => EB_ok t i h) mix Try.func78 [] [.pointer (some ⟨c0b, c0o, none⟩)] xs (by kernel_rfl) ((show VC_factor_alts_1 p0g p0fi p0ca c0b c0o m xs = FWI E_factor_alts_1 Try.f78 [] [.pointer (some ⟨c0b, c0o, none⟩)] m xs by kernel_rfl).mp h)
noncomputable def E_factor_alts_1_1 : Env := { EB with
 frzNew := [3]
 eff := (fun i => bif Nat.beq i 17 then true else false)
 ldF := (fun i => bif Nat.beq i 9 then some true else none) }
def VC_factor_alts_1_1 (p0_0 : Int) (p0_1 : Int) (p0_2 : Int) (p0_3 : Int) (p0_4 : Int) (p0_5 : Int) (p0_6 : Int) (p0_7a : Option Addr) (p0_7n p0_7c : Nat) (c0b c0o : Nat) (c1b c1o : Nat) (m : Mem) (l : Nat) (xs : List (List Value)) (go stop : Value → Prop) : Prop :=
 ∀ (b : Nat) (m' : Mem), Mem.le m m' → Mem.reads m' b (0 : Nat) [int u8 p0_0, int u64 p0_1, int u64 p0_2, int u64 p0_3, int u64 p0_4, int i64 p0_5, int i64 p0_6, slice p0_7a p0_7n p0_7c] → br (p0_0 == (4 : Int)) (∃ (v :
 Value), m' c0b c0o = some v ∧ ∃ (l_1 : Nat), v = Value.func (Fn.yield l_1) (Array.mk []) (Array.mk []) ∧ (l_1 = l ∧ (0 : Int) ≤ (0 : Int) ∧ List.get?Internal xs (Int.toNat (0 : Int)) = some [agg (Array.mk [int u8 p0_0,
 int u64 p0_1, int u64 p0_2, int u64 p0_3, int u64 p0_4, int i64 p0_5, int i64 p0_6, slice p0_7a p0_7n p0_7c])]) ∧ (∃ (l_2 : Nat), ∃ (xs_1 : List (List Value)), ∃ (go_1 : Value → Prop), ∃ (stop_1 : Value → Prop), CY
 Try.prog (76 : Nat) [slice p0_7a p0_7n p0_7c, Value.func (Fn.func (80 : Nat)) (Array.mk []) (Array.mk [Value.pointer (some (Addr.mk c1b c1o none))])] m' l_2 xs_1 go_1 stop_1 ∧ (∀ (j : Nat) (v : List Value),
 List.get?Internal xs_1 j = some v → l_2 = l ∧ (0 : Int) ≤ (0 : Int) + (1 : Int) + (↑j : Int) ∧ List.get?Internal xs (Int.toNat ((0 : Int) + (1 : Int) + (↑j : Int))) = some v) ∧ (∀ (v : Value), go_1 v ∨ stop_1 v →
 Shape.fits Shape.bool v = true) ∧ ∀ (b : Bool), (go_1 (Value.bool b) → (0 : Int) + (1 : Int) + (↑(List.length xs_1) : Int) = (↑(List.length xs) : Int) ∧ go (Value.bool !b) ∨ (0 : Int) + (1 : Int) + (↑(List.length xs_1)
 : Int) = (-1 : Int) ∧ stop (Value.bool !b)) ∧ (stop_1 (Value.bool b) → (-1 : Int) = (↑(List.length xs) : Int) ∧ go (Value.bool !b) ∨ (-1 : Int) = (-1 : Int) ∧ stop (Value.bool !b))) ∧ ((-1 : Int) = (↑(List.length xs) :
 Int) ∧ go (Value.bool false) ∨ (-1 : Int) = (-1 : Int) ∧ stop (Value.bool false))) (∃ (l_1 : Nat), ∃ (xs_1 : List (List Value)), ∃ (go_1 : Value → Prop), ∃ (stop_1 : Value → Prop), CY Try.prog (76 : Nat) [slice p0_7a
 p0_7n p0_7c, Value.func (Fn.func (80 : Nat)) (Array.mk []) (Array.mk [Value.pointer (some (Addr.mk c1b c1o none))])] m' l_1 xs_1 go_1 stop_1 ∧ (∀ (j : Nat) (v : List Value), List.get?Internal xs_1 j = some v → l_1 = l ∧
 (0 : Int) ≤ (0 : Int) + (↑j : Int) ∧ List.get?Internal xs (Int.toNat ((0 : Int) + (↑j : Int))) = some v) ∧ (∀ (v : Value), go_1 v ∨ stop_1 v → Shape.fits Shape.bool v = true) ∧ ∀ (b : Bool), (go_1 (Value.bool b) → (0 :
 Int) + (↑(List.length xs_1) : Int) = (↑(List.length xs) : Int) ∧ go (Value.bool !b) ∨ (0 : Int) + (↑(List.length xs_1) : Int) = (-1 : Int) ∧ stop (Value.bool !b)) ∧ (stop_1 (Value.bool b) → (-1 : Int) = (↑(List.length
 xs) : Int) ∧ go (Value.bool !b) ∨ (-1 : Int) = (-1 : Int) ∧ stop (Value.bool !b)))
theorem cy_factor_alts_1_1 (p0_0 : Int) (p0_1 : Int) (p0_2 : Int) (p0_3 : Int) (p0_4 : Int) (p0_5 : Int) (p0_6 : Int) (p0_7a : Option Addr) (p0_7n p0_7c : Nat) (c0b c0o : Nat) (c1b c1o : Nat) (m : Mem) (l : Nat) (xs : List (List Value)) (go stop : Value → Prop) (h : VC_factor_alts_1_1 p0_0 p0_1 p0_2 p0_3 p0_4 p0_5 p0_6 p0_7a p0_7n p0_7c c0b c0o c1b c1o m l xs go stop) : CY Try.prog 79 [.agg #[.int .u8 p0_0, .int .u64 p0_1, .int .u64 p0_2, .int .u64 p0_3, .int .u64 p0_4, .int .i64 p0_5, .int .i64 p0_6, .slice p0_7a p0_7n p0_7c], .pointer (some ⟨c0b, c0o, none⟩), .pointer (some ⟨c1b, c1o, none⟩)] m l xs go stop :=
 CY_of_FWC (E := E_factor_alts_1_1) (fun t i h => EB_ok t i h) mix Try.func79 [.agg #[.int .u8 p0_0, .int .u64 p0_1, .int .u64 p0_2, .int .u64 p0_3, .int .u64 p0_4, .int .i64 p0_5, .int .i64 p0_6, .slice p0_7a p0_7n p0_7c], .pointer (some ⟨c0b, c0o, none⟩), .pointer (some ⟨c1b, c1o, none⟩)] l xs go stop (by kernel_rfl) ((show VC_factor_alts_1_1 p0_0 p0_1 p0_2 p0_3 p0_4 p0_5 p0_6 p0_7a p0_7n p0_7c c0b c0o c1b c1o m l xs go stop = FWC E_factor_alts_1_1 Try.f79 [.agg #[.int .u8 p0_0, .int .u64 p0_1, .int .u64 p0_2, .int .u64 p0_3, .int .u64 p0_4, .int .i64 p0_5, .int .i64 p0_6, .slice p0_7a p0_7n p0_7c], .pointer (some ⟨c0b, c0o, none⟩), .pointer (some ⟨c1b, c1o, none⟩)] m l xs go stop by kernel_rfl).mp h)
noncomputable def E_factor_alts_1_1_1 : Env := { EB with
 frzNew := [2]
 eff := (fun i => bif Nat.beq i 6 then true else false)
 ldF := (fun i => bif Nat.beq i 4 then some false else none) }
def VC_factor_alts_1_1_1 (p0_0 : Int) (p0_1 : Int) (p0_2 : Int) (p0_3 : Int) (p0_4 : Int) (p0_5 : Int) (p0_6 : Int) (p0_7a : Option Addr) (p0_7n p0_7c : Nat) (c0b c0o : Nat) (m : Mem) (l : Nat) (xs : List (List Value)) (go stop : Value → Prop) : Prop :=
 ∀ (b : Nat) (m' : Mem), Mem.le m m' → Mem.reads m' b (0 : Nat) [int u8 p0_0, int u64 p0_1, int u64 p0_2, int u64 p0_3, int u64 p0_4, int i64 p0_5, int i64 p0_6, slice p0_7a p0_7n p0_7c] → ∃ (v : Value), m' c0b c0o =
 some v ∧ ∃ (g : Nat), ∃ (fi : List Value), ∃ (ca : List Value), v = Value.func (Fn.func g) (Array.mk fi) (Array.mk ca) ∧ ∃ (l_1 : Nat), ∃ (xs_1 : List (List Value)), ∃ (go_1 : Value → Prop), ∃ (stop_1 : Value → Prop),
 CY Try.prog g (List.append (List.append fi [agg (Array.mk [int u8 p0_0, int u64 p0_1, int u64 p0_2, int u64 p0_3, int u64 p0_4, int i64 p0_5, int i64 p0_6, slice p0_7a p0_7n p0_7c])]) ca) m' l_1 xs_1 go_1 stop_1 ∧ (∀ (j
 : Nat) (v : List Value), List.get?Internal xs_1 j = some v → l_1 = l ∧ (0 : Int) ≤ (0 : Int) + (↑j : Int) ∧ List.get?Internal xs (Int.toNat ((0 : Int) + (↑j : Int))) = some v) ∧ (∀ (v : Value), go_1 v ∨ stop_1 v →
 Shape.fits Shape.bool v = true) ∧ ∀ (b : Bool), (go_1 (Value.bool b) → (0 : Int) + (↑(List.length xs_1) : Int) = (↑(List.length xs) : Int) ∧ go (Value.bool !b) ∨ (0 : Int) + (↑(List.length xs_1) : Int) = (-1 : Int) ∧
 stop (Value.bool !b)) ∧ (stop_1 (Value.bool b) → (-1 : Int) = (↑(List.length xs) : Int) ∧ go (Value.bool !b) ∨ (-1 : Int) = (-1 : Int) ∧ stop (Value.bool !b))
theorem cy_factor_alts_1_1_1 (p0_0 : Int) (p0_1 : Int) (p0_2 : Int) (p0_3 : Int) (p0_4 : Int) (p0_5 : Int) (p0_6 : Int) (p0_7a : Option Addr) (p0_7n p0_7c : Nat) (c0b c0o : Nat) (m : Mem) (l : Nat) (xs : List (List Value)) (go stop : Value → Prop) (h : VC_factor_alts_1_1_1 p0_0 p0_1 p0_2 p0_3 p0_4 p0_5 p0_6 p0_7a p0_7n p0_7c c0b c0o m l xs go stop) : CY Try.prog 80 [.agg #[.int .u8 p0_0, .int .u64 p0_1, .int .u64 p0_2, .int .u64 p0_3, .int .u64 p0_4, .int .i64 p0_5, .int .i64 p0_6, .slice p0_7a p0_7n p0_7c], .pointer (some ⟨c0b, c0o, none⟩)] m l xs go stop :=
 CY_of_FWC (E := E_factor_alts_1_1_1) (fun t i h => EB_ok t i h) mix Try.func80 [.agg #[.int .u8 p0_0, .int .u64 p0_1, .int .u64 p0_2, .int .u64 p0_3, .int .u64 p0_4, .int .i64 p0_5, .int .i64 p0_6, .slice p0_7a p0_7n p0_7c], .pointer (some ⟨c0b, c0o, none⟩)] l xs go stop (by kernel_rfl) ((show VC_factor_alts_1_1_1 p0_0 p0_1 p0_2 p0_3 p0_4 p0_5 p0_6 p0_7a p0_7n p0_7c c0b c0o m l xs go stop = FWC E_factor_alts_1_1_1 Try.f80 [.agg #[.int .u8 p0_0, .int .u64 p0_1, .int .u64 p0_2, .int .u64 p0_3, .int .u64 p0_4, .int .i64 p0_5, .int .i64 p0_6, .slice p0_7a p0_7n p0_7c], .pointer (some ⟨c0b, c0o, none⟩)] m l xs go stop by kernel_rfl).mp h)
noncomputable def E_slices_ContainsFunc_rx_Node_rx_Node_cy : Env := { EB with
 eff := (fun i => bif Nat.beq i 7 then true else false) }
def VC_slices_ContainsFunc_rx_Node_rx_Node_cy (p0a : Option Addr) (p0n p0c : Nat) (p1g : Nat) (p1fi p1ca : List Value) (m : Mem) (l : Nat) (xs : List (List Value)) (go stop : Value → Prop) : Prop :=
 ∃ (l_1 : Nat), ∃ (xs_1 : List (List Value)), ∃ (go_1 : Value → Prop), ∃ (stop_1 : Value → Prop), CY Try.prog (59 : Nat) [slice p0a p0n p0c, Value.func (Fn.func p1g) (Array.mk p1fi) (Array.mk p1ca)] m l_1 xs_1 go_1
 stop_1 ∧ (∀ (j : Nat) (v : List Value), List.get?Internal xs_1 j = some v → l_1 = l ∧ (0 : Int) ≤ (0 : Int) + (↑j : Int) ∧ List.get?Internal xs (Int.toNat ((0 : Int) + (↑j : Int))) = some v) ∧ (∀ (v : Value), go_1 v ∨
 stop_1 v → Shape.fits (Shape.int i64) v = true) ∧ ∀ (n : Int), (go_1 (int i64 n) → (0 : Int) + (↑(List.length xs_1) : Int) = (↑(List.length xs) : Int) ∧ go (Value.bool (decide (n ≥ (0 : Int)))) ∨ (0 : Int) +
 (↑(List.length xs_1) : Int) = (-1 : Int) ∧ stop (Value.bool (decide (n ≥ (0 : Int))))) ∧ (stop_1 (int i64 n) → (-1 : Int) = (↑(List.length xs) : Int) ∧ go (Value.bool (decide (n ≥ (0 : Int)))) ∨ (-1 : Int) = (-1 : Int)
 ∧ stop (Value.bool (decide (n ≥ (0 : Int)))))
theorem cy_slices_ContainsFunc_rx_Node_rx_Node_cy (p0a : Option Addr) (p0n p0c : Nat) (p1g : Nat) (p1fi p1ca : List Value) (m : Mem) (l : Nat) (xs : List (List Value)) (go stop : Value → Prop) (h : VC_slices_ContainsFunc_rx_Node_rx_Node_cy p0a p0n p0c p1g p1fi p1ca m l xs go stop) : CY Try.prog 76 [.slice p0a p0n p0c, .func (.func p1g) p1fi.toArray p1ca.toArray] m l xs go stop :=
 CY_of_FWC (E := E_slices_ContainsFunc_rx_Node_rx_Node_cy) (fun t i h => EB_ok t i h) mix Try.func76 [.slice p0a p0n p0c, .func (.func p1g) p1fi.toArray p1ca.toArray] l xs go stop (by kernel_rfl) ((show VC_slices_ContainsFunc_rx_Node_rx_Node_cy p0a p0n p0c p1g p1fi p1ca m l xs go stop = FWC E_slices_ContainsFunc_rx_Node_rx_Node_cy Try.f76 [.slice p0a p0n p0c, .func (.func p1g) p1fi.toArray p1ca.toArray] m l xs go stop by kernel_rfl).mp h)
noncomputable def E_slices_IndexFunc_rx_Node_rx_Node_cy : Env := { EB with
 loops := (fun i => bif Nat.beq i 2 then ⟨[(8, .int .i64)], [], [], true⟩ else ⟨[], [], [], false⟩)
 eff := (fun i => bif Nat.beq i 16 then true else false) }
def VC_slices_IndexFunc_rx_Node_rx_Node_cy (p0a : Option Addr) (p0n p0c : Nat) (p1g : Nat) (p1fi p1ca : List Value) (m : Mem) (l : Nat) (xs : List (List Value)) (go stop : Value → Prop) : Prop :=
 ∃ (I : IT), (∃ (n : Nat), I [int i64 (0 : Int), int i64 (0 : Int)] [] [] m n) ∧ ∀ (y n : Int) (m' : Mem) (n_1 : Nat), Mem.le m m' → I [int i64 y, int i64 n] [] [] m' n_1 → br (decide (n < (↑p0n : Int))) (∃ (b : Nat), ∃
 (o : Nat), p0a = some (Addr.mk b o none) ∧ inRange n p0n ∧ ∃ (v : Value), ∃ (v_1 : Value), ∃ (v_2 : Value), ∃ (v_3 : Value), ∃ (v_4 : Value), ∃ (v_5 : Value), ∃ (v_6 : Value), ∃ (v_7 : Value), Mem.reads m' b (o +
 Int.toNat n * (8 : Nat)) [v, v_1, v_2, v_3, v_4, v_5, v_6, v_7] ∧ ∃ (l_1 : Nat), ∃ (xs_1 : List (List Value)), ∃ (go_1 : Value → Prop), ∃ (stop_1 : Value → Prop), CY Try.prog p1g (List.append (List.append p1fi [agg
 (Array.mk [v, v_1, v_2, v_3, v_4, v_5, v_6, v_7])]) p1ca) m' l_1 xs_1 go_1 stop_1 ∧ (∀ (j : Nat) (v : List Value), List.get?Internal xs_1 j = some v → l_1 = l ∧ (0 : Int) ≤ y + (↑j : Int) ∧ List.get?Internal xs
 (Int.toNat (y + (↑j : Int))) = some v) ∧ (∀ (v : Value), go_1 v ∨ stop_1 v → Shape.fits Shape.bool v = true) ∧ ∀ (b : Bool), (go_1 (Value.bool b) → br b (y + (↑(List.length xs_1) : Int) = (↑(List.length xs) : Int) ∧ go
 (int i64 n) ∨ y + (↑(List.length xs_1) : Int) = (-1 : Int) ∧ stop (int i64 n)) (∃ (n' : Nat), n' < n_1 ∧ I [int i64 (y + (↑(List.length xs_1) : Int)), int i64 (IntKind.wrap i64 (n + (1 : Int)))] [] [] m' n')) ∧ (stop_1
 (Value.bool b) → br b ((-1 : Int) = (↑(List.length xs) : Int) ∧ go (int i64 n) ∨ (-1 : Int) = (-1 : Int) ∧ stop (int i64 n)) (∃ (n' : Nat), n' < n_1 ∧ I [int i64 (-1 : Int), int i64 (IntKind.wrap i64 (n + (1 : Int)))]
 [] [] m' n'))) (y = (↑(List.length xs) : Int) ∧ go (int i64 (-1 : Int)) ∨ y = (-1 : Int) ∧ stop (int i64 (-1 : Int)))
theorem cy_slices_IndexFunc_rx_Node_rx_Node_cy (p0a : Option Addr) (p0n p0c : Nat) (p1g : Nat) (p1fi p1ca : List Value) (m : Mem) (l : Nat) (xs : List (List Value)) (go stop : Value → Prop) (h : VC_slices_IndexFunc_rx_Node_rx_Node_cy p0a p0n p0c p1g p1fi p1ca m l xs go stop) : CY Try.prog 59 [.slice p0a p0n p0c, .func (.func p1g) p1fi.toArray p1ca.toArray] m l xs go stop :=
 CY_of_FWC (E := E_slices_IndexFunc_rx_Node_rx_Node_cy) (fun t i h => EB_ok t i h) mix Try.func59 [.slice p0a p0n p0c, .func (.func p1g) p1fi.toArray p1ca.toArray] l xs go stop (by kernel_rfl) ((show VC_slices_IndexFunc_rx_Node_rx_Node_cy p0a p0n p0c p1g p1fi p1ca m l xs go stop = FWC E_slices_IndexFunc_rx_Node_rx_Node_cy Try.f59 [.slice p0a p0n p0c, .func (.func p1g) p1fi.toArray p1ca.toArray] m l xs go stop by kernel_rfl).mp h)
end Go.Proofs.Ytmggihkjgbnhbaa

