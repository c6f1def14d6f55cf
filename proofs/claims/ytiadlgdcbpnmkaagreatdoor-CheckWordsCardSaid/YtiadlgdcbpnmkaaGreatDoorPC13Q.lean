/- Part of the proof: conditions and contracts of functions of this program. No condition of its own. -/
import Derived.Test.YtiadlgdcbpnmkaaGreatDoorPEnv
import Derived.Test.YtiadlgdcbpnmkaaGreatDoorMr
import Derived.Test.YtiadlgdcbpnmkaaGreatDoorMc
import Derived.Laws.StructEq
import Derived.Laws.Tables
import Derived.Laws.Cover2
set_option linter.unusedVariables false
namespace Go.Proofs.YtiadlgdcbpnmkaaGreatDoor
open Go Go.Eng Go.Proofs Go.RowKit
open Go.Value (int slice agg bool string tuple func)
open Go.IntKind (u8 u64 i64)
set_option maxRecDepth 100000
noncomputable def E_rx_nodes : Env := { EB with
 frzNew := [1] }
def VC_rx_nodes (p0_0 p0_1 p0_2 p0_3 p0_4 p0_5 p0_6 : Int) (p0_7a : Option Addr) (p0_7n p0_7c : Nat) (m : Mem) (R : RT) : Prop :=
 ∀ (b : Nat) (m' : Mem), Mem.le m m' → Mem.reads m' b 0 [int u8 p0_0, int u64 p0_1, int u64 p0_2, int u64 p0_3, int u64 p0_4, int i64 p0_5, int i64 p0_6, slice p0_7a p0_7n p0_7c] → ∃ (m'' : Mem), Mem.le m m'' ∧ Mem.le
 m'' m' ∧ R (func (Fn.func 79) (Array.mk []) (Array.mk [Value.pointer (some (Addr.mk b 0 none))])) m'' []
theorem cx_rx_nodes (p0_0 p0_1 p0_2 p0_3 p0_4 p0_5 p0_6 : Int) (p0_7a : Option Addr) (p0_7n p0_7c : Nat) (m : Mem) (R : RT) (h : VC_rx_nodes p0_0 p0_1 p0_2 p0_3 p0_4 p0_5 p0_6 p0_7a p0_7n p0_7c m R) : CX Tryz.prog 44 #[.agg #[.int .u8 p0_0, .int .u64 p0_1, .int .u64 p0_2, .int .u64 p0_3, .int .u64 p0_4, .int .i64 p0_5, .int .i64 p0_6, .slice p0_7a p0_7n p0_7c]] m [] R :=
 CX_of_FW (E := E_rx_nodes) EB_ok mix Tryz.func44 [.v (.agg #[.int .u8 p0_0, .int .u64 p0_1, .int .u64 p0_2, .int .u64 p0_3, .int .u64 p0_4, .int .i64 p0_5, .int .i64 p0_6, .slice p0_7a p0_7n p0_7c])] [] (by kernel_rfl) (Eq.mp (by kernel_rfl) h)
noncomputable def E_rx_nodes_1 : Env := { EB with
 loops := (fun i => bif Nat.beq i 3 then ⟨[(13, .int .i64)], [], [], true⟩ else bif Nat.beq i 7 then ⟨[(19, .agg [.int .u8, .int .u64, .int .u64, .int .u64, .int .u64, .int .i64, .int .i64, .slice])], [], [], true⟩ else ⟨[], [], [], false⟩)
 frzNew := [2] }
def VC_rx_nodes_1 (p0g : Nat) (p0fi p0ca : List Value) (c0b c0o : Nat) (m : Mem) (xs : List (List Value)) : Prop :=
 ∀ (l b : Nat) (m' : Mem), Mem.le m m' → Mem.reads m' b 0 [func (Fn.yield l) (Array.mk []) (Array.mk [])] → ∃ (v : Value), ∃ (an : Value), ∃ (ao : Value), ∃ (ap : Value), ∃ (aq : Value), ∃ (ar : Value), ∃ (au : Value), ∃
 (av : Value), Mem.reads m' c0b c0o [v, an, ao, ap, aq, ar, au, av] ∧ (l = l ∧ (0 : Int) ≤ (0 : Int) ∧ List.get?Internal xs (Int.toNat (0 : Int)) = some [agg (Array.mk [v, an, ao, ap, aq, ar, au, av])]) ∧ (∃ (v : Value),
 m' c0b (c0o + 7) = some v ∧ chk (isSl v) (∃ (I : IT), (∃ (n : Nat), I [int i64 ((0 : Int) + (1 : Int)), int i64 0] [] [] m' n) ∧ ∀ (y n : Int) (ai : Mem) (aw : Nat), Mem.le m' ai → I [int i64 y, int i64 n] [] [] ai aw →
 br (decide (n < (↑(slN v) : Int))) (chk (isSl v) (∃ (ax : Nat), ∃ (o : Nat), slA v = some (Addr.mk ax o none) ∧ inRange n (slN v) ∧ ∃ (v : Value), ∃ (aa : Value), ∃ (ab : Value), ∃ (ac : Value), ∃ (ad : Value), ∃ (ae :
 Value), ∃ (af : Value), ∃ (ag : Value), Mem.reads ai ax (o + Int.toNat n * 8) [v, aa, ab, ac, ad, ae, af, ag] ∧ ∀ (aj : Nat), chk (Value.oneCell' v && (Value.oneCell' aa && (Value.oneCell' ab && (Value.oneCell' ac &&
 (Value.oneCell' ad && (Value.oneCell' ae && (Value.oneCell' af && (Value.oneCell' ag && true)))))))) (∃ (R : RT), True ∧ CX Tryz.prog 44 (Array.mk [agg (Array.mk [v, aa, ab, ac, ad, ae, af, ag])]) ai [] R ∧ Fits
 Shape.fn R ∧ ∀ (g : Nat) (fi ca : List Value) (m' : Mem), Mem.le ai m' → R (func (Fn.func g) (Array.mk fi) (Array.mk ca)) m' [] → ∃ (ak : List (List Value)), IX Tryz.prog g fi ca m' ak ∧ (∀ (x : List Value), x ∈ ak →
 Shape.fitsL [shT] x = true) ∧ ∃ (al : IT), al [int i64 y] [] [] m' 0 ∧ (∀ (y n ay az a0 a1 a2 a3 : Int) (a : Option Addr) (a4 c : Nat) (ah : Mem) (am : Nat), Mem.le m' ah → List.get?Internal ak am = some [agg (Array.mk
 [int u8 n, int u64 ay, int u64 az, int u64 a0, int u64 a1, int i64 a2, int i64 a3, slice a a4 c])] → al [int i64 y] [] [] ah am → ∀ (a5 : Nat), (l = l ∧ (0 : Int) ≤ y ∧ List.get?Internal xs (Int.toNat y) = some [agg
 (Array.mk [int u8 n, int u64 ay, int u64 az, int u64 a0, int u64 a1, int i64 a2, int i64 a3, slice a a4 c])]) ∧ ([some (Box.mk aj [v, aa, ab, ac, ad, ae, af, ag] 63 8 false true), some (Box.mk b [func (Fn.yield l)
 (Array.mk []) (Array.mk [])] 96 1 true true)] = [some (Box.mk aj [v, aa, ab, ac, ad, ae, af, ag] 63 8 false true), some (Box.mk b [func (Fn.yield l) (Array.mk []) (Array.mk [])] 96 1 true true)] ∧ al [int i64 (y + (1 :
 Int))] [] [] ah (am + 1)) ∧ [some (Box.mk aj [v, aa, ab, ac, ad, ae, af, ag] 63 8 false true), some (Box.mk b [func (Fn.yield l) (Array.mk []) (Array.mk [])] 96 1 true true)] = [some (Box.mk aj [v, aa, ab, ac, ad, ae,
 af, ag] 63 8 false true), some (Box.mk b [func (Fn.yield l) (Array.mk []) (Array.mk [])] 96 1 true true)] ∧ ((-1 : Int) = (↑(List.length xs) : Int) ∨ (-1 : Int) = (-1 : Int))) ∧ ∀ (y : Int) (ah : Mem), Mem.le m' ah → al
 [int i64 y] [] [] ah (List.length ak) → [some (Box.mk b [func (Fn.yield l) (Array.mk []) (Array.mk [])] 96 1 true true)] = [some (Box.mk b [func (Fn.yield l) (Array.mk []) (Array.mk [])] 96 1 true true)] ∧ ∃ (n' : Nat),
 n' < aw ∧ I [int i64 y, int i64 (IntKind.wrap i64 (n + (1 : Int)))] [] [] ah n'))) (y = (↑(List.length xs) : Int) ∨ y = (-1 : Int)))) ∧ ((-1 : Int) = (↑(List.length xs) : Int) ∨ (-1 : Int) = (-1 : Int))
theorem ix_rx_nodes_1 (p0g : Nat) (p0fi p0ca : List Value) (c0b c0o : Nat) (m : Mem) (xs : List (List Value)) (h : VC_rx_nodes_1 p0g p0fi p0ca c0b c0o m xs) : IX Tryz.prog 79 [] [.pointer (some ⟨c0b, c0o, none⟩)] m xs :=
 IX_of_FWI (E := E_rx_nodes_1) EB_ok mix Tryz.func79 [] [.pointer (some ⟨c0b, c0o, none⟩)] xs (by kernel_rfl) (Eq.mp (by kernel_rfl) h)
noncomputable def E_rx_Light : Env := { EB with
 loops := (fun i => bif Nat.beq i 3 then ⟨[(6, .agg [.int .u8, .int .u64, .int .u64, .int .u64, .int .u64, .int .i64, .int .i64, .slice])], [3], [], false⟩ else ⟨[], [], [], false⟩)
 frzNew := [1] }
def VC_rx_Light (p0_0 p0_1 p0_2 p0_3 p0_4 p0_5 p0_6 : Int) (p0_7a : Option Addr) (p0_7n p0_7c : Nat) (m : Mem) (R : RT) : Prop :=
 ∀ (b : Nat) (m' : Mem), Mem.le m m' → Mem.reads m' b 0 [int u8 p0_0, int u64 p0_1, int u64 p0_2, int u64 p0_3, int u64 p0_4, int i64 p0_5, int i64 p0_6, slice p0_7a p0_7n p0_7c] → ∀ (b_1 : Nat), ∃ (R_1 : RT), True ∧ CX
 Tryz.prog 44 (Array.mk [agg (Array.mk [int u8 p0_0, int u64 p0_1, int u64 p0_2, int u64 p0_3, int u64 p0_4, int i64 p0_5, int i64 p0_6, slice p0_7a p0_7n p0_7c])]) m' [] R_1 ∧ Fits Shape.fn R_1 ∧ ∀ (g : Nat) (fi ca :
 List Value) (m'_1 : Mem), Mem.le m' m'_1 → R_1 (func (Fn.func g) (Array.mk fi) (Array.mk ca)) m'_1 [] → ∃ (xs : List (List Value)), IX Tryz.prog g fi ca m'_1 xs ∧ (∀ (x : List Value), x ∈ xs → Shape.fitsL [shT] x =
 true) ∧ ∃ (I : IT), I [] [[int i64 0]] [] m'_1 0 ∧ (∀ (n n_1 n_2 n_3 n_4 n_5 n_6 : Int) (a : Option Addr) (n_7 c : Nat) (cs : List Value) (m' : Mem) (n_8 : Nat), Mem.le m'_1 m' → List.get?Internal xs n_8 = some [agg
 (Array.mk [int u8 n, int u64 n_1, int u64 n_2, int u64 n_3, int u64 n_4, int i64 n_5, int i64 n_6, slice a n_7 c])] → I [] [cs] [] m' n_8 → Eng.look cs 0 fun (v : Value) => chk (isInt i64 v && decide (i64 = i64)) (br
 (decide (IntKind.wrap i64 (RowKit.intOf v + (1 : Int)) > (10000 : Int))) ([some (Box.mk b_1 [] 3 1 false true), some (Box.mk b [int u8 p0_0, int u64 p0_1, int u64 p0_2, int u64 p0_3, int u64 p0_4, int i64 p0_5, int i64
 p0_6, slice p0_7a p0_7n p0_7c] 63 8 true true)] = [some (Box.mk b_1 [] 3 1 false true), some (Box.mk b [int u8 p0_0, int u64 p0_1, int u64 p0_2, int u64 p0_3, int u64 p0_4, int i64 p0_5, int i64 p0_6, slice p0_7a p0_7n
 p0_7c] 63 8 true true)] ∧ ∃ (m'' : Mem), Mem.le m m'' ∧ Mem.le m'' m' ∧ R (bool (decide (IntKind.wrap i64 (RowKit.intOf v + (1 : Int)) ≤ (10000 : Int)))) m'' []) ([some (Box.mk b_1 [] 3 1 false true), some (Box.mk b
 [int u8 p0_0, int u64 p0_1, int u64 p0_2, int u64 p0_3, int u64 p0_4, int i64 p0_5, int i64 p0_6, slice p0_7a p0_7n p0_7c] 63 8 true true)] = [some (Box.mk b_1 [] 3 1 false true), some (Box.mk b [int u8 p0_0, int u64
 p0_1, int u64 p0_2, int u64 p0_3, int u64 p0_4, int i64 p0_5, int i64 p0_6, slice p0_7a p0_7n p0_7c] 63 8 true true)] ∧ I [] [[int i64 (IntKind.wrap i64 (RowKit.intOf v + (1 : Int)))]] [] m' (n_8 + 1)))) ∧ ∀ (cs : List
 Value) (m' : Mem), Mem.le m'_1 m' → I [] [cs] [] m' (List.length xs) → Eng.look cs 0 fun (v : Value) => chk (isInt i64 v && decide (i64 = i64)) (∃ (m'' : Mem), Mem.le m m'' ∧ Mem.le m'' m' ∧ R (bool (decide
 (RowKit.intOf v ≤ (10000 : Int)))) m'' [])
theorem cx_rx_Light (p0_0 p0_1 p0_2 p0_3 p0_4 p0_5 p0_6 : Int) (p0_7a : Option Addr) (p0_7n p0_7c : Nat) (m : Mem) (R : RT) (h : VC_rx_Light p0_0 p0_1 p0_2 p0_3 p0_4 p0_5 p0_6 p0_7a p0_7n p0_7c m R) : CX Tryz.prog 33 #[.agg #[.int .u8 p0_0, .int .u64 p0_1, .int .u64 p0_2, .int .u64 p0_3, .int .u64 p0_4, .int .i64 p0_5, .int .i64 p0_6, .slice p0_7a p0_7n p0_7c]] m [] R :=
 CX_of_FW (E := E_rx_Light) EB_ok mix Tryz.func33 [.v (.agg #[.int .u8 p0_0, .int .u64 p0_1, .int .u64 p0_2, .int .u64 p0_3, .int .u64 p0_4, .int .i64 p0_5, .int .i64 p0_6, .slice p0_7a p0_7n p0_7c])] [] (by kernel_rfl) (Eq.mp (by kernel_rfl) h)
noncomputable def E_rx_bounds : Env := { EB with
 joins := (fun i => bif Nat.beq i 1 then some [(18, .bool)] else bif Nat.beq i 3 then some [(4, .bool)] else none) }
def VC_rx_bounds (p0 p1 : Int) (m : Mem) (R : RT) : Prop :=
 ∃ (b : Bool), br (decide (p0 < (0 : Int))) ([bool true] = [bool b]) (br (decide (p0 > (16 : Int))) ([bool true] = [bool b]) (br (p0 == (1 : Int)) ([bool (p1 == (1 : Int))] = [bool b]) ([bool false] = [bool b]))) ∧ br b
 (∃ (m'' : Mem), Mem.le m m'' ∧ Mem.le m'' m ∧ R (bool false) m'' []) (∃ (b : Bool), br (p1 == (-1 : Int)) ([bool true] = [bool b]) (br (decide (p1 ≥ (1 : Int))) (br (decide (p1 ≤ (16 : Int))) ([bool (decide (p1 ≥ p0))]
 = [bool b]) ([bool false] = [bool b])) ([bool false] = [bool b])) ∧ ∃ (m'' : Mem), Mem.le m m'' ∧ Mem.le m'' m ∧ R (bool b) m'' [])
theorem cx_rx_bounds (p0 p1 : Int) (m : Mem) (R : RT) (h : VC_rx_bounds p0 p1 m R) : CX Tryz.prog 122 #[.int .i64 p0, .int .i64 p1] m [] R :=
 CX_of_FW (E := E_rx_bounds) EB_ok mix Tryz.func122 [.v (.int .i64 p0), .v (.int .i64 p1)] [] (by kernel_rfl) (Eq.mp (by kernel_rfl) h)
noncomputable def E_rx_has_1 : Env := { EB with
 frzNew := [2] }
def VC_rx_has_1 (p0_0 p0_1 p0_2 p0_3 p0_4 p0_5 p0_6 : Int) (p0_7a : Option Addr) (p0_7n p0_7c c0b c0o : Nat) (m : Mem) (R : RT) : Prop :=
 ∀ (b : Nat) (m' : Mem), Mem.le m m' → Mem.reads m' b 0 [int u8 p0_0, int u64 p0_1, int u64 p0_2, int u64 p0_3, int u64 p0_4, int i64 p0_5, int i64 p0_6, slice p0_7a p0_7n p0_7c] → ∃ (v : Value), m' c0b c0o = some v ∧
 chk (isInt u8 v) (∃ (m'' : Mem), Mem.le m m'' ∧ Mem.le m'' m' ∧ R (bool (p0_0 == RowKit.intOf v)) m'' [])
theorem cx_rx_has_1 (p0_0 p0_1 p0_2 p0_3 p0_4 p0_5 p0_6 : Int) (p0_7a : Option Addr) (p0_7n p0_7c c0b c0o : Nat) (m : Mem) (R : RT) (h : VC_rx_has_1 p0_0 p0_1 p0_2 p0_3 p0_4 p0_5 p0_6 p0_7a p0_7n p0_7c c0b c0o m R) : CX Tryz.prog 129 #[.agg #[.int .u8 p0_0, .int .u64 p0_1, .int .u64 p0_2, .int .u64 p0_3, .int .u64 p0_4, .int .i64 p0_5, .int .i64 p0_6, .slice p0_7a p0_7n p0_7c], .pointer (some ⟨c0b, c0o, none⟩)] m [] R :=
 CX_of_FW (E := E_rx_has_1) EB_ok mix Tryz.func129 [.v (.agg #[.int .u8 p0_0, .int .u64 p0_1, .int .u64 p0_2, .int .u64 p0_3, .int .u64 p0_4, .int .i64 p0_5, .int .i64 p0_6, .slice p0_7a p0_7n p0_7c]), .v (.pointer (some ⟨c0b, c0o, none⟩))] [] (by kernel_rfl) (Eq.mp (by kernel_rfl) h)
noncomputable def E_slices_IndexFunc_rx_Node_rx_Node : Env := { EB with
 loops := (fun i => bif Nat.beq i 2 then ⟨[(8, .int .i64)], [], [], false⟩ else ⟨[], [], [], false⟩) }
def VC_slices_IndexFunc_rx_Node_rx_Node (p0a : Option Addr) (p0n p0c p1g : Nat) (p1fi p1ca : List Value) (m : Mem) (R : RT) : Prop :=
 ∃ (I : IT), (∃ (n : Nat), I [int i64 0] [] [] m n) ∧ ∀ (n : Int) (m' : Mem) (n_1 : Nat), Mem.le m m' → I [int i64 n] [] [] m' n_1 → br (decide (n < (↑p0n : Int))) (∃ (b : Nat), ∃ (o : Nat), p0a = some (Addr.mk b o none)
 ∧ inRange n p0n ∧ ∃ (v : Value), ∃ (v_1 : Value), ∃ (v_2 : Value), ∃ (v_3 : Value), ∃ (v_4 : Value), ∃ (v_5 : Value), ∃ (v_6 : Value), ∃ (v_7 : Value), Mem.reads m' b (o + Int.toNat n * 8) [v, v_1, v_2, v_3, v_4, v_5,
 v_6, v_7] ∧ ∃ (R_1 : RT), True ∧ CX Tryz.prog p1g (Array.mk (List.append (List.append p1fi [agg (Array.mk [v, v_1, v_2, v_3, v_4, v_5, v_6, v_7])]) p1ca)) m' [] R_1 ∧ Fits Shape.bool R_1 ∧ ∀ (b : Bool) (m'_1 : Mem),
 Mem.le m' m'_1 → R_1 (bool b) m'_1 [] → br b (∃ (m'' : Mem), Mem.le m m'' ∧ Mem.le m'' m'_1 ∧ R (int i64 n) m'' []) (∃ (n' : Nat), n' < n_1 ∧ I [int i64 (IntKind.wrap i64 (n + (1 : Int)))] [] [] m'_1 n')) (∃ (m'' :
 Mem), Mem.le m m'' ∧ Mem.le m'' m' ∧ R (int i64 (-1 : Int)) m'' [])
theorem cx_slices_IndexFunc_rx_Node_rx_Node (p0a : Option Addr) (p0n p0c p1g : Nat) (p1fi p1ca : List Value) (m : Mem) (R : RT) (h : VC_slices_IndexFunc_rx_Node_rx_Node p0a p0n p0c p1g p1fi p1ca m R) : CX Tryz.prog 135 #[.slice p0a p0n p0c, .func (.func p1g) p1fi.toArray p1ca.toArray] m [] R :=
 CX_of_FW (E := E_slices_IndexFunc_rx_Node_rx_Node) EB_ok mix Tryz.func135 [.v (.slice p0a p0n p0c), .v (.func (.func p1g) p1fi.toArray p1ca.toArray)] [] (by kernel_rfl) (Eq.mp (by kernel_rfl) h)
noncomputable def E_slices_ContainsFunc_rx_Node_rx_Node : Env := EB
def VC_slices_ContainsFunc_rx_Node_rx_Node (p0a : Option Addr) (p0n p0c p1g : Nat) (p1fi p1ca : List Value) (m : Mem) (R : RT) : Prop :=
 ∃ (R_1 : RT), True ∧ CX Tryz.prog 135 (Array.mk [slice p0a p0n p0c, func (Fn.func p1g) (Array.mk p1fi) (Array.mk p1ca)]) m [] R_1 ∧ Fits (Shape.int i64) R_1 ∧ ∀ (n : Int) (m' : Mem), Mem.le m m' → R_1 (int i64 n) m' []
 → ∃ (m'' : Mem), Mem.le m m'' ∧ Mem.le m'' m' ∧ R (bool (decide (n ≥ (0 : Int)))) m'' []
theorem cx_slices_ContainsFunc_rx_Node_rx_Node (p0a : Option Addr) (p0n p0c p1g : Nat) (p1fi p1ca : List Value) (m : Mem) (R : RT) (h : VC_slices_ContainsFunc_rx_Node_rx_Node p0a p0n p0c p1g p1fi p1ca m R) : CX Tryz.prog 128 #[.slice p0a p0n p0c, .func (.func p1g) p1fi.toArray p1ca.toArray] m [] R :=
 CX_of_FW (E := E_slices_ContainsFunc_rx_Node_rx_Node) EB_ok mix Tryz.func128 [.v (.slice p0a p0n p0c), .v (.func (.func p1g) p1fi.toArray p1ca.toArray)] [] (by kernel_rfl) (Eq.mp (by kernel_rfl) h)
noncomputable def E_rx_has : Env := { EB with
 frzNew := [2, 3] }
def VC_rx_has (p0_0 p0_1 p0_2 p0_3 p0_4 p0_5 p0_6 : Int) (p0_7a : Option Addr) (p0_7n p0_7c : Nat) (p1 : Int) (m : Mem) (R : RT) : Prop :=
 ∀ (b : Nat) (m' : Mem), Mem.le m m' → Mem.reads m' b 0 [int u8 p0_0, int u64 p0_1, int u64 p0_2, int u64 p0_3, int u64 p0_4, int i64 p0_5, int i64 p0_6, slice p0_7a p0_7n p0_7c] → ∀ (b : Nat) (m'_1 : Mem), Mem.le m'
 m'_1 → Mem.reads m'_1 b 0 [int u8 p1] → ∃ (R_1 : RT), True ∧ CX Tryz.prog 128 (Array.mk [slice p0_7a p0_7n p0_7c, func (Fn.func 129) (Array.mk []) (Array.mk [Value.pointer (some (Addr.mk b 0 none))])]) m'_1 [] R_1 ∧
 Fits Shape.bool R_1 ∧ ∀ (b : Bool) (m' : Mem), Mem.le m'_1 m' → R_1 (bool b) m' [] → ∃ (m'' : Mem), Mem.le m m'' ∧ Mem.le m'' m' ∧ R (bool b) m'' []
theorem cx_rx_has (p0_0 p0_1 p0_2 p0_3 p0_4 p0_5 p0_6 : Int) (p0_7a : Option Addr) (p0_7n p0_7c : Nat) (p1 : Int) (m : Mem) (R : RT) (h : VC_rx_has p0_0 p0_1 p0_2 p0_3 p0_4 p0_5 p0_6 p0_7a p0_7n p0_7c p1 m R) : CX Tryz.prog 121 #[.agg #[.int .u8 p0_0, .int .u64 p0_1, .int .u64 p0_2, .int .u64 p0_3, .int .u64 p0_4, .int .i64 p0_5, .int .i64 p0_6, .slice p0_7a p0_7n p0_7c], .int .u8 p1] m [] R :=
 CX_of_FW (E := E_rx_has) EB_ok mix Tryz.func121 [.v (.agg #[.int .u8 p0_0, .int .u64 p0_1, .int .u64 p0_2, .int .u64 p0_3, .int .u64 p0_4, .int .i64 p0_5, .int .i64 p0_6, .slice p0_7a p0_7n p0_7c]), .v (.int .u8 p1)] [] (by kernel_rfl) (Eq.mp (by kernel_rfl) h)
noncomputable def E_rx_right : Env := { EB with
 joins := (fun i => bif Nat.beq i 1 then some [(37, .bool)] else bif Nat.beq i 9 then some [(2, .bool)] else bif Nat.beq i 11 then some [(2, .bool)] else bif Nat.beq i 13 then some [(2, .bool)] else bif Nat.beq i 14 then some [(2, .bool)] else none)
 frzNew := [1] }
def VC_rx_right (p0_0 p0_1 p0_2 p0_3 p0_4 p0_5 p0_6 : Int) (p0_7a : Option Addr) (p0_7n p0_7c : Nat) (m : Mem) (R : RT) : Prop :=
 ∀ (b : Nat) (m' : Mem), Mem.le m m' → Mem.reads m' b 0 [int u8 p0_0, int u64 p0_1, int u64 p0_2, int u64 p0_3, int u64 p0_4, int i64 p0_5, int i64 p0_6, slice p0_7a p0_7n p0_7c] → ∃ (ab : Bool), br (!p0_0 == (2 : Int))
 (∃ (aa : Bool), EqIs Tryz.prog 60 (agg (Array.mk [int u64 p0_1, int u64 p0_2, int u64 p0_3, int u64 p0_4])) (agg (Array.mk [int u64 0, int u64 0, int u64 0, int u64 0])) aa ∧ br (!aa) ([some (Box.mk b [int u8 p0_0, int
 u64 p0_1, int u64 p0_2, int u64 p0_3, int u64 p0_4, int i64 p0_5, int i64 p0_6, slice p0_7a p0_7n p0_7c] 63 8 true true)] = [some (Box.mk b [int u8 p0_0, int u64 p0_1, int u64 p0_2, int u64 p0_3, int u64 p0_4, int i64
 p0_5, int i64 p0_6, slice p0_7a p0_7n p0_7c] 63 8 true true)] ∧ [bool true] = [bool ab]) (br (!p0_0 == (5 : Int)) (br (!p0_5 == (0 : Int)) ([some (Box.mk b [int u8 p0_0, int u64 p0_1, int u64 p0_2, int u64 p0_3, int u64
 p0_4, int i64 p0_5, int i64 p0_6, slice p0_7a p0_7n p0_7c] 63 8 true true)] = [some (Box.mk b [int u8 p0_0, int u64 p0_1, int u64 p0_2, int u64 p0_3, int u64 p0_4, int i64 p0_5, int i64 p0_6, slice p0_7a p0_7n p0_7c] 63
 8 true true)] ∧ [bool true] = [bool ab]) (br (!p0_6 == (0 : Int)) ([some (Box.mk b [int u8 p0_0, int u64 p0_1, int u64 p0_2, int u64 p0_3, int u64 p0_4, int i64 p0_5, int i64 p0_6, slice p0_7a p0_7n p0_7c] 63 8 true
 true)] = [some (Box.mk b [int u8 p0_0, int u64 p0_1, int u64 p0_2, int u64 p0_3, int u64 p0_4, int i64 p0_5, int i64 p0_6, slice p0_7a p0_7n p0_7c] 63 8 true true)] ∧ [bool true] = [bool ab]) (br (decide (p0_0 < (3 :
 Int))) ([some (Box.mk b [int u8 p0_0, int u64 p0_1, int u64 p0_2, int u64 p0_3, int u64 p0_4, int i64 p0_5, int i64 p0_6, slice p0_7a p0_7n p0_7c] 63 8 true true)] = [some (Box.mk b [int u8 p0_0, int u64 p0_1, int u64
 p0_2, int u64 p0_3, int u64 p0_4, int i64 p0_5, int i64 p0_6, slice p0_7a p0_7n p0_7c] 63 8 true true)] ∧ [bool (decide ((↑p0_7n : Int) > (0 : Int)))] = [bool ab]) ([some (Box.mk b [int u8 p0_0, int u64 p0_1, int u64
 p0_2, int u64 p0_3, int u64 p0_4, int i64 p0_5, int i64 p0_6, slice p0_7a p0_7n p0_7c] 63 8 true true)] = [some (Box.mk b [int u8 p0_0, int u64 p0_1, int u64 p0_2, int u64 p0_3, int u64 p0_4, int i64 p0_5, int i64 p0_6,
 slice p0_7a p0_7n p0_7c] 63 8 true true)] ∧ [bool false] = [bool ab])))) (br (decide (p0_0 < (3 : Int))) ([some (Box.mk b [int u8 p0_0, int u64 p0_1, int u64 p0_2, int u64 p0_3, int u64 p0_4, int i64 p0_5, int i64 p0_6,
 slice p0_7a p0_7n p0_7c] 63 8 true true)] = [some (Box.mk b [int u8 p0_0, int u64 p0_1, int u64 p0_2, int u64 p0_3, int u64 p0_4, int i64 p0_5, int i64 p0_6, slice p0_7a p0_7n p0_7c] 63 8 true true)] ∧ [bool (decide
 ((↑p0_7n : Int) > (0 : Int)))] = [bool ab]) ([some (Box.mk b [int u8 p0_0, int u64 p0_1, int u64 p0_2, int u64 p0_3, int u64 p0_4, int i64 p0_5, int i64 p0_6, slice p0_7a p0_7n p0_7c] 63 8 true true)] = [some (Box.mk b
 [int u8 p0_0, int u64 p0_1, int u64 p0_2, int u64 p0_3, int u64 p0_4, int i64 p0_5, int i64 p0_6, slice p0_7a p0_7n p0_7c] 63 8 true true)] ∧ [bool false] = [bool ab])))) (br (!p0_0 == (5 : Int)) (br (!p0_5 == (0 :
 Int)) ([some (Box.mk b [int u8 p0_0, int u64 p0_1, int u64 p0_2, int u64 p0_3, int u64 p0_4, int i64 p0_5, int i64 p0_6, slice p0_7a p0_7n p0_7c] 63 8 true true)] = [some (Box.mk b [int u8 p0_0, int u64 p0_1, int u64
 p0_2, int u64 p0_3, int u64 p0_4, int i64 p0_5, int i64 p0_6, slice p0_7a p0_7n p0_7c] 63 8 true true)] ∧ [bool true] = [bool ab]) (br (!p0_6 == (0 : Int)) ([some (Box.mk b [int u8 p0_0, int u64 p0_1, int u64 p0_2, int
 u64 p0_3, int u64 p0_4, int i64 p0_5, int i64 p0_6, slice p0_7a p0_7n p0_7c] 63 8 true true)] = [some (Box.mk b [int u8 p0_0, int u64 p0_1, int u64 p0_2, int u64 p0_3, int u64 p0_4, int i64 p0_5, int i64 p0_6, slice
 p0_7a p0_7n p0_7c] 63 8 true true)] ∧ [bool true] = [bool ab]) (br (decide (p0_0 < (3 : Int))) ([some (Box.mk b [int u8 p0_0, int u64 p0_1, int u64 p0_2, int u64 p0_3, int u64 p0_4, int i64 p0_5, int i64 p0_6, slice
 p0_7a p0_7n p0_7c] 63 8 true true)] = [some (Box.mk b [int u8 p0_0, int u64 p0_1, int u64 p0_2, int u64 p0_3, int u64 p0_4, int i64 p0_5, int i64 p0_6, slice p0_7a p0_7n p0_7c] 63 8 true true)] ∧ [bool (decide ((↑p0_7n
 : Int) > (0 : Int)))] = [bool ab]) ([some (Box.mk b [int u8 p0_0, int u64 p0_1, int u64 p0_2, int u64 p0_3, int u64 p0_4, int i64 p0_5, int i64 p0_6, slice p0_7a p0_7n p0_7c] 63 8 true true)] = [some (Box.mk b [int u8
 p0_0, int u64 p0_1, int u64 p0_2, int u64 p0_3, int u64 p0_4, int i64 p0_5, int i64 p0_6, slice p0_7a p0_7n p0_7c] 63 8 true true)] ∧ [bool false] = [bool ab])))) (br (decide (p0_0 < (3 : Int))) ([some (Box.mk b [int u8
 p0_0, int u64 p0_1, int u64 p0_2, int u64 p0_3, int u64 p0_4, int i64 p0_5, int i64 p0_6, slice p0_7a p0_7n p0_7c] 63 8 true true)] = [some (Box.mk b [int u8 p0_0, int u64 p0_1, int u64 p0_2, int u64 p0_3, int u64 p0_4,
 int i64 p0_5, int i64 p0_6, slice p0_7a p0_7n p0_7c] 63 8 true true)] ∧ [bool (decide ((↑p0_7n : Int) > (0 : Int)))] = [bool ab]) ([some (Box.mk b [int u8 p0_0, int u64 p0_1, int u64 p0_2, int u64 p0_3, int u64 p0_4,
 int i64 p0_5, int i64 p0_6, slice p0_7a p0_7n p0_7c] 63 8 true true)] = [some (Box.mk b [int u8 p0_0, int u64 p0_1, int u64 p0_2, int u64 p0_3, int u64 p0_4, int i64 p0_5, int i64 p0_6, slice p0_7a p0_7n p0_7c] 63 8
 true true)] ∧ [bool false] = [bool ab]))) ∧ br ab (∃ (m'' : Mem), Mem.le m m'' ∧ Mem.le m'' m' ∧ R (bool false) m'' []) (br (p0_0 == (1 : Int)) (∃ (m'' : Mem), Mem.le m m'' ∧ Mem.le m'' m' ∧ R (bool true) m'' []) (br
 (p0_0 == (2 : Int)) (∃ (b : Bool), EqIs Tryz.prog 60 (agg (Array.mk [int u64 p0_1, int u64 p0_2, int u64 p0_3, int u64 p0_4])) (agg (Array.mk [int u64 0, int u64 0, int u64 0, int u64 0])) b ∧ ∃ (m'' : Mem), Mem.le m
 m'' ∧ Mem.le m'' m' ∧ R (bool !b) m'' []) (br (p0_0 == (3 : Int)) (∃ (aa : Bool), br (decide ((↑p0_7n : Int) > (1 : Int))) (∃ (R : RT), True ∧ CX Tryz.prog 121 (Array.mk [agg (Array.mk [int u8 p0_0, int u64 p0_1, int
 u64 p0_2, int u64 p0_3, int u64 p0_4, int i64 p0_5, int i64 p0_6, slice p0_7a p0_7n p0_7c]), int u8 1]) m' [] R ∧ Fits Shape.bool R ∧ ∀ (ad : Bool) (ac : Mem), Mem.le m' ac → R (bool ad) ac [] → br (!ad) (∃ (R : RT),
 True ∧ CX Tryz.prog 121 (Array.mk [agg (Array.mk [int u8 p0_0, int u64 p0_1, int u64 p0_2, int u64 p0_3, int u64 p0_4, int i64 p0_5, int i64 p0_6, slice p0_7a p0_7n p0_7c]), int u8 3]) ac [] R ∧ Fits Shape.bool R ∧ ∀
 (ae : Bool) (m' : Mem), Mem.le ac m' → R (bool ae) m' [] → [some (Box.mk b [int u8 p0_0, int u64 p0_1, int u64 p0_2, int u64 p0_3, int u64 p0_4, int i64 p0_5, int i64 p0_6, slice p0_7a p0_7n p0_7c] 63 8 true true)] =
 [some (Box.mk b [int u8 p0_0, int u64 p0_1, int u64 p0_2, int u64 p0_3, int u64 p0_4, int i64 p0_5, int i64 p0_6, slice p0_7a p0_7n p0_7c] 63 8 true true)] ∧ [bool !ae] = [bool aa]) ([some (Box.mk b [int u8 p0_0, int
 u64 p0_1, int u64 p0_2, int u64 p0_3, int u64 p0_4, int i64 p0_5, int i64 p0_6, slice p0_7a p0_7n p0_7c] 63 8 true true)] = [some (Box.mk b [int u8 p0_0, int u64 p0_1, int u64 p0_2, int u64 p0_3, int u64 p0_4, int i64
 p0_5, int i64 p0_6, slice p0_7a p0_7n p0_7c] 63 8 true true)] ∧ [bool false] = [bool aa])) ([some (Box.mk b [int u8 p0_0, int u64 p0_1, int u64 p0_2, int u64 p0_3, int u64 p0_4, int i64 p0_5, int i64 p0_6, slice p0_7a
 p0_7n p0_7c] 63 8 true true)] = [some (Box.mk b [int u8 p0_0, int u64 p0_1, int u64 p0_2, int u64 p0_3, int u64 p0_4, int i64 p0_5, int i64 p0_6, slice p0_7a p0_7n p0_7c] 63 8 true true)] ∧ [bool false] = [bool aa]) ∧ ∃
 (m'' : Mem), Mem.le m m'' ∧ Mem.le m'' m' ∧ R (bool aa) m'' []) (br (p0_0 == (4 : Int)) (∃ (aa : Bool), br (decide ((↑p0_7n : Int) > (1 : Int))) (∃ (R : RT), True ∧ CX Tryz.prog 121 (Array.mk [agg (Array.mk [int u8
 p0_0, int u64 p0_1, int u64 p0_2, int u64 p0_3, int u64 p0_4, int i64 p0_5, int i64 p0_6, slice p0_7a p0_7n p0_7c]), int u8 4]) m' [] R ∧ Fits Shape.bool R ∧ ∀ (ad : Bool) (ac : Mem), Mem.le m' ac → R (bool ad) ac [] →
 [some (Box.mk b [int u8 p0_0, int u64 p0_1, int u64 p0_2, int u64 p0_3, int u64 p0_4, int i64 p0_5, int i64 p0_6, slice p0_7a p0_7n p0_7c] 63 8 true true)] = [some (Box.mk b [int u8 p0_0, int u64 p0_1, int u64 p0_2, int
 u64 p0_3, int u64 p0_4, int i64 p0_5, int i64 p0_6, slice p0_7a p0_7n p0_7c] 63 8 true true)] ∧ [bool !ad] = [bool aa]) ([some (Box.mk b [int u8 p0_0, int u64 p0_1, int u64 p0_2, int u64 p0_3, int u64 p0_4, int i64
 p0_5, int i64 p0_6, slice p0_7a p0_7n p0_7c] 63 8 true true)] = [some (Box.mk b [int u8 p0_0, int u64 p0_1, int u64 p0_2, int u64 p0_3, int u64 p0_4, int i64 p0_5, int i64 p0_6, slice p0_7a p0_7n p0_7c] 63 8 true true)]
 ∧ [bool false] = [bool aa]) ∧ ∃ (m'' : Mem), Mem.le m m'' ∧ Mem.le m'' m' ∧ R (bool aa) m'' []) (br (p0_0 == (5 : Int)) (∃ (aa : Bool), br ((↑p0_7n : Int) == (1 : Int)) (∃ (R : RT), True ∧ CX Tryz.prog 122 (Array.mk
 [int i64 p0_5, int i64 p0_6]) m' [] R ∧ Fits Shape.bool R ∧ ∀ (ad : Bool) (ac : Mem), Mem.le m' ac → R (bool ad) ac [] → br ad (∃ (R : RT), True ∧ CX Tryz.prog 121 (Array.mk [agg (Array.mk [int u8 p0_0, int u64 p0_1,
 int u64 p0_2, int u64 p0_3, int u64 p0_4, int i64 p0_5, int i64 p0_6, slice p0_7a p0_7n p0_7c]), int u8 1]) ac [] R ∧ Fits Shape.bool R ∧ ∀ (ae : Bool) (m' : Mem), Mem.le ac m' → R (bool ae) m' [] → [some (Box.mk b [int
 u8 p0_0, int u64 p0_1, int u64 p0_2, int u64 p0_3, int u64 p0_4, int i64 p0_5, int i64 p0_6, slice p0_7a p0_7n p0_7c] 63 8 true true)] = [some (Box.mk b [int u8 p0_0, int u64 p0_1, int u64 p0_2, int u64 p0_3, int u64
 p0_4, int i64 p0_5, int i64 p0_6, slice p0_7a p0_7n p0_7c] 63 8 true true)] ∧ [bool !ae] = [bool aa]) ([some (Box.mk b [int u8 p0_0, int u64 p0_1, int u64 p0_2, int u64 p0_3, int u64 p0_4, int i64 p0_5, int i64 p0_6,
 slice p0_7a p0_7n p0_7c] 63 8 true true)] = [some (Box.mk b [int u8 p0_0, int u64 p0_1, int u64 p0_2, int u64 p0_3, int u64 p0_4, int i64 p0_5, int i64 p0_6, slice p0_7a p0_7n p0_7c] 63 8 true true)] ∧ [bool false] =
 [bool aa])) ([some (Box.mk b [int u8 p0_0, int u64 p0_1, int u64 p0_2, int u64 p0_3, int u64 p0_4, int i64 p0_5, int i64 p0_6, slice p0_7a p0_7n p0_7c] 63 8 true true)] = [some (Box.mk b [int u8 p0_0, int u64 p0_1, int
 u64 p0_2, int u64 p0_3, int u64 p0_4, int i64 p0_5, int i64 p0_6, slice p0_7a p0_7n p0_7c] 63 8 true true)] ∧ [bool false] = [bool aa]) ∧ ∃ (m'' : Mem), Mem.le m m'' ∧ Mem.le m'' m' ∧ R (bool aa) m'' []) (∃ (aa : Bool),
 br (p0_0 == (6 : Int)) ([some (Box.mk b [int u8 p0_0, int u64 p0_1, int u64 p0_2, int u64 p0_3, int u64 p0_4, int i64 p0_5, int i64 p0_6, slice p0_7a p0_7n p0_7c] 63 8 true true)] = [some (Box.mk b [int u8 p0_0, int u64
 p0_1, int u64 p0_2, int u64 p0_3, int u64 p0_4, int i64 p0_5, int i64 p0_6, slice p0_7a p0_7n p0_7c] 63 8 true true)] ∧ [bool ((↑p0_7n : Int) == (1 : Int))] = [bool aa]) ([some (Box.mk b [int u8 p0_0, int u64 p0_1, int
 u64 p0_2, int u64 p0_3, int u64 p0_4, int i64 p0_5, int i64 p0_6, slice p0_7a p0_7n p0_7c] 63 8 true true)] = [some (Box.mk b [int u8 p0_0, int u64 p0_1, int u64 p0_2, int u64 p0_3, int u64 p0_4, int i64 p0_5, int i64
 p0_6, slice p0_7a p0_7n p0_7c] 63 8 true true)] ∧ [bool false] = [bool aa]) ∧ ∃ (m'' : Mem), Mem.le m m'' ∧ Mem.le m'' m' ∧ R (bool aa) m'' []))))))
theorem cx_rx_right (p0_0 p0_1 p0_2 p0_3 p0_4 p0_5 p0_6 : Int) (p0_7a : Option Addr) (p0_7n p0_7c : Nat) (m : Mem) (R : RT) (h : VC_rx_right p0_0 p0_1 p0_2 p0_3 p0_4 p0_5 p0_6 p0_7a p0_7n p0_7c m R) : CX Tryz.prog 109 #[.agg #[.int .u8 p0_0, .int .u64 p0_1, .int .u64 p0_2, .int .u64 p0_3, .int .u64 p0_4, .int .i64 p0_5, .int .i64 p0_6, .slice p0_7a p0_7n p0_7c]] m [] R :=
 CX_of_FW (E := E_rx_right) EB_ok mix Tryz.func109 [.v (.agg #[.int .u8 p0_0, .int .u64 p0_1, .int .u64 p0_2, .int .u64 p0_3, .int .u64 p0_4, .int .i64 p0_5, .int .i64 p0_6, .slice p0_7a p0_7n p0_7c])] [] (by kernel_rfl) (Eq.mp (by kernel_rfl) h)
noncomputable def E_rx_Clean : Env := { EB with
 loops := (fun i => bif Nat.beq i 5 then ⟨[(9, .agg [.int .u8, .int .u64, .int .u64, .int .u64, .int .u64, .int .i64, .int .i64, .slice])], [2], [], false⟩ else ⟨[], [], [], false⟩)
 frzNew := [1] }
def VC_rx_Clean (p0_0 p0_1 p0_2 p0_3 p0_4 p0_5 p0_6 : Int) (p0_7a : Option Addr) (p0_7n p0_7c : Nat) (m : Mem) (R : RT) : Prop :=
 ∀ (b : Nat) (m' : Mem), Mem.le m m' → Mem.reads m' b 0 [int u8 p0_0, int u64 p0_1, int u64 p0_2, int u64 p0_3, int u64 p0_4, int i64 p0_5, int i64 p0_6, slice p0_7a p0_7n p0_7c] → ∀ (ac : Nat), ∃ (R_1 : RT), True ∧ CX
 Tryz.prog 33 (Array.mk [agg (Array.mk [int u8 p0_0, int u64 p0_1, int u64 p0_2, int u64 p0_3, int u64 p0_4, int i64 p0_5, int i64 p0_6, slice p0_7a p0_7n p0_7c])]) m' [] R_1 ∧ Fits Shape.bool R_1 ∧ ∀ (ae : Bool) (ab :
 Mem), Mem.le m' ab → R_1 (bool ae) ab [] → br (!ae) (∃ (m'' : Mem), Mem.le m m'' ∧ Mem.le m'' ab ∧ R (bool false) m'' []) (∃ (R_2 : RT), True ∧ CX Tryz.prog 44 (Array.mk [agg (Array.mk [int u8 p0_0, int u64 p0_1, int
 u64 p0_2, int u64 p0_3, int u64 p0_4, int i64 p0_5, int i64 p0_6, slice p0_7a p0_7n p0_7c])]) ab [] R_2 ∧ Fits Shape.fn R_2 ∧ ∀ (g : Nat) (fi ca : List Value) (m' : Mem), Mem.le ab m' → R_2 (func (Fn.func g) (Array.mk
 fi) (Array.mk ca)) m' [] → ∃ (xs : List (List Value)), IX Tryz.prog g fi ca m' xs ∧ (∀ (x : List Value), x ∈ xs → Shape.fitsL [shT] x = true) ∧ ∃ (I : IT), I [] [[bool false]] [] m' 0 ∧ (∀ (n af ag ah ai aj ak : Int) (a
 : Option Addr) (al c : Nat) (cs : List Value) (aa : Mem) (ad : Nat), Mem.le m' aa → List.get?Internal xs ad = some [agg (Array.mk [int u8 n, int u64 af, int u64 ag, int u64 ah, int u64 ai, int i64 aj, int i64 ak, slice
 a al c])] → I [] [cs] [] aa ad → ∀ (an : Nat), ∃ (R_3 : RT), True ∧ CX Tryz.prog 109 (Array.mk [agg (Array.mk [int u8 n, int u64 af, int u64 ag, int u64 ah, int u64 ai, int i64 aj, int i64 ak, slice a al c])]) aa [] R_3
 ∧ Fits Shape.bool R_3 ∧ ∀ (am : Bool) (m' : Mem), Mem.le aa m' → R_3 (bool am) m' [] → br (!am) ([some (Box.mk ac [] 4 1 false true), some (Box.mk b [int u8 p0_0, int u64 p0_1, int u64 p0_2, int u64 p0_3, int u64 p0_4,
 int i64 p0_5, int i64 p0_6, slice p0_7a p0_7n p0_7c] 63 8 true true)] = [some (Box.mk ac [] 4 1 false true), some (Box.mk b [int u8 p0_0, int u64 p0_1, int u64 p0_2, int u64 p0_3, int u64 p0_4, int i64 p0_5, int i64
 p0_6, slice p0_7a p0_7n p0_7c] 63 8 true true)] ∧ ∃ (m'' : Mem), Mem.le m m'' ∧ Mem.le m'' m' ∧ R (bool false) m'' []) ([some (Box.mk ac [] 4 1 false true), some (Box.mk b [int u8 p0_0, int u64 p0_1, int u64 p0_2, int
 u64 p0_3, int u64 p0_4, int i64 p0_5, int i64 p0_6, slice p0_7a p0_7n p0_7c] 63 8 true true)] = [some (Box.mk ac [] 4 1 false true), some (Box.mk b [int u8 p0_0, int u64 p0_1, int u64 p0_2, int u64 p0_3, int u64 p0_4,
 int i64 p0_5, int i64 p0_6, slice p0_7a p0_7n p0_7c] 63 8 true true)] ∧ I [] [cs] [] m' (ad + 1))) ∧ ∀ (cs : List Value) (aa : Mem), Mem.le m' aa → I [] [cs] [] aa (List.length xs) → ∃ (m'' : Mem), Mem.le m m'' ∧ Mem.le
 m'' aa ∧ R (bool true) m'' [])
theorem cx_rx_Clean (p0_0 p0_1 p0_2 p0_3 p0_4 p0_5 p0_6 : Int) (p0_7a : Option Addr) (p0_7n p0_7c : Nat) (m : Mem) (R : RT) (h : VC_rx_Clean p0_0 p0_1 p0_2 p0_3 p0_4 p0_5 p0_6 p0_7a p0_7n p0_7c m R) : CX Tryz.prog 88 #[.agg #[.int .u8 p0_0, .int .u64 p0_1, .int .u64 p0_2, .int .u64 p0_3, .int .u64 p0_4, .int .i64 p0_5, .int .i64 p0_6, .slice p0_7a p0_7n p0_7c]] m [] R :=
 CX_of_FW (E := E_rx_Clean) EB_ok mix Tryz.func88 [.v (.agg #[.int .u8 p0_0, .int .u64 p0_1, .int .u64 p0_2, .int .u64 p0_3, .int .u64 p0_4, .int .i64 p0_5, .int .i64 p0_6, .slice p0_7a p0_7n p0_7c])] [] (by kernel_rfl) (Eq.mp (by kernel_rfl) h)
noncomputable def E_rx_Size : Env := { EB with
 loops := (fun i => bif Nat.beq i 5 then ⟨[(9, .agg [.int .u8, .int .u64, .int .u64, .int .u64, .int .u64, .int .i64, .int .i64, .slice])], [3], [], false⟩ else ⟨[], [], [], false⟩)
 frzNew := [1] }
def VC_rx_Size (p0_0 p0_1 p0_2 p0_3 p0_4 p0_5 p0_6 : Int) (p0_7a : Option Addr) (p0_7n p0_7c : Nat) (m : Mem) (R : RT) : Prop :=
 ∀ (b : Nat) (m' : Mem), Mem.le m m' → Mem.reads m' b 0 [int u8 p0_0, int u64 p0_1, int u64 p0_2, int u64 p0_3, int u64 p0_4, int i64 p0_5, int i64 p0_6, slice p0_7a p0_7n p0_7c] → ∃ (R_1 : RT), True ∧ CX Tryz.prog 33
 (Array.mk [agg (Array.mk [int u8 p0_0, int u64 p0_1, int u64 p0_2, int u64 p0_3, int u64 p0_4, int i64 p0_5, int i64 p0_6, slice p0_7a p0_7n p0_7c])]) m' [] R_1 ∧ Fits Shape.bool R_1 ∧ ∀ (b_1 : Bool) (m'_1 : Mem),
 Mem.le m' m'_1 → R_1 (bool b_1) m'_1 [] → br (!b_1) (∃ (m'' : Mem), Mem.le m m'' ∧ Mem.le m'' m'_1 ∧ R (int i64 10001) m'' []) (∀ (b_2 : Nat), ∃ (R_2 : RT), True ∧ CX Tryz.prog 44 (Array.mk [agg (Array.mk [int u8 p0_0,
 int u64 p0_1, int u64 p0_2, int u64 p0_3, int u64 p0_4, int i64 p0_5, int i64 p0_6, slice p0_7a p0_7n p0_7c])]) m'_1 [] R_2 ∧ Fits Shape.fn R_2 ∧ ∀ (g : Nat) (fi ca : List Value) (m' : Mem), Mem.le m'_1 m' → R_2 (func
 (Fn.func g) (Array.mk fi) (Array.mk ca)) m' [] → ∃ (xs : List (List Value)), IX Tryz.prog g fi ca m' xs ∧ (∀ (x : List Value), x ∈ xs → Shape.fitsL [shT] x = true) ∧ ∃ (I : IT), I [] [[int i64 0]] [] m' 0 ∧ (∀ (n n_1
 n_2 n_3 n_4 n_5 n_6 : Int) (a : Option Addr) (n_7 c : Nat) (cs : List Value) (m'_2 : Mem) (n_8 : Nat), Mem.le m' m'_2 → List.get?Internal xs n_8 = some [agg (Array.mk [int u8 n, int u64 n_1, int u64 n_2, int u64 n_3,
 int u64 n_4, int i64 n_5, int i64 n_6, slice a n_7 c])] → I [] [cs] [] m'_2 n_8 → Eng.look cs 0 fun (v : Value) => chk (isInt i64 v && decide (i64 = i64)) ([some (Box.mk b_2 [] 3 1 false true), some (Box.mk b [int u8
 p0_0, int u64 p0_1, int u64 p0_2, int u64 p0_3, int u64 p0_4, int i64 p0_5, int i64 p0_6, slice p0_7a p0_7n p0_7c] 63 8 true true)] = [some (Box.mk b_2 [] 3 1 false true), some (Box.mk b [int u8 p0_0, int u64 p0_1, int
 u64 p0_2, int u64 p0_3, int u64 p0_4, int i64 p0_5, int i64 p0_6, slice p0_7a p0_7n p0_7c] 63 8 true true)] ∧ I [] [[int i64 (IntKind.wrap i64 (RowKit.intOf v + (1 : Int)))]] [] m'_2 (n_8 + 1))) ∧ ∀ (cs : List Value)
 (m'_2 : Mem), Mem.le m' m'_2 → I [] [cs] [] m'_2 (List.length xs) → Eng.look cs 0 fun (v : Value) => ∃ (m'' : Mem), Mem.le m m'' ∧ Mem.le m'' m'_2 ∧ R v m'' [])
theorem cx_rx_Size (p0_0 p0_1 p0_2 p0_3 p0_4 p0_5 p0_6 : Int) (p0_7a : Option Addr) (p0_7n p0_7c : Nat) (m : Mem) (R : RT) (h : VC_rx_Size p0_0 p0_1 p0_2 p0_3 p0_4 p0_5 p0_6 p0_7a p0_7n p0_7c m R) : CX Tryz.prog 32 #[.agg #[.int .u8 p0_0, .int .u64 p0_1, .int .u64 p0_2, .int .u64 p0_3, .int .u64 p0_4, .int .i64 p0_5, .int .i64 p0_6, .slice p0_7a p0_7n p0_7c]] m [] R :=
 CX_of_FW (E := E_rx_Size) EB_ok mix Tryz.func32 [.v (.agg #[.int .u8 p0_0, .int .u64 p0_1, .int .u64 p0_2, .int .u64 p0_3, .int .u64 p0_4, .int .i64 p0_5, .int .i64 p0_6, .slice p0_7a p0_7n p0_7c])] [] (by kernel_rfl) (Eq.mp (by kernel_rfl) h)
noncomputable def E_rx_positions : Env := { EB with
 loops := (fun i => bif Nat.beq i 5 then ⟨[(3, .int .i64), (14, .int .i64)], [], [], false⟩ else ⟨[], [], [], false⟩)
 frzNew := [1] }
def VC_rx_positions (p0_0 p0_1 p0_2 p0_3 p0_4 p0_5 p0_6 : Int) (p0_7a : Option Addr) (p0_7n p0_7c : Nat) (m : Mem) (R : RT) : Prop :=
 ∀ (b : Nat) (m' : Mem), Mem.le m m' → Mem.reads m' b 0 [int u8 p0_0, int u64 p0_1, int u64 p0_2, int u64 p0_3, int u64 p0_4, int i64 p0_5, int i64 p0_6, slice p0_7a p0_7n p0_7c] → br (p0_0 == (2 : Int)) (∃ (I : IT), (∃
 (n : Nat), I [int i64 1, int i64 0] [] [] m' n) ∧ ∀ (n ab : Int) (aa : Mem) (aj : Nat), Mem.le m' aa → I [int i64 n, int i64 ab] [] [] aa aj → br (decide (ab < (↑p0_7n : Int))) (∃ (ak : Nat), ∃ (o : Nat), p0_7a = some
 (Addr.mk ak o none) ∧ inRange ab p0_7n ∧ ∃ (v : Value), ∃ (ac : Value), ∃ (ad : Value), ∃ (ae : Value), ∃ (af : Value), ∃ (ag : Value), ∃ (ah : Value), ∃ (ai : Value), Mem.reads aa ak (o + Int.toNat ab * 8) [v, ac, ad,
 ae, af, ag, ah, ai] ∧ ∀ (am : Nat), chk (Value.oneCell' v && (Value.oneCell' ac && (Value.oneCell' ad && (Value.oneCell' ae && (Value.oneCell' af && (Value.oneCell' ag && (Value.oneCell' ah && (Value.oneCell' ai &&
 true)))))))) (∃ (R : RT), True ∧ CX Tryz.prog 110 (Array.mk [agg (Array.mk [v, ac, ad, ae, af, ag, ah, ai])]) aa [] R ∧ Fits (Shape.int i64) R ∧ ∀ (al : Int) (m' : Mem), Mem.le aa m' → R (int i64 al) m' [] → [some
 (Box.mk b [int u8 p0_0, int u64 p0_1, int u64 p0_2, int u64 p0_3, int u64 p0_4, int i64 p0_5, int i64 p0_6, slice p0_7a p0_7n p0_7c] 63 8 true true)] = [some (Box.mk b [int u8 p0_0, int u64 p0_1, int u64 p0_2, int u64
 p0_3, int u64 p0_4, int i64 p0_5, int i64 p0_6, slice p0_7a p0_7n p0_7c] 63 8 true true)] ∧ ∃ (n' : Nat), n' < aj ∧ I [int i64 (IntKind.wrap i64 (n + al)), int i64 (IntKind.wrap i64 (ab + (1 : Int)))] [] [] m' n')) (br
 (p0_0 == (5 : Int)) (br (p0_6 == (-1 : Int)) (∃ (m'' : Mem), Mem.le m m'' ∧ Mem.le m'' aa ∧ R (int i64 (if (10001 : Int) < IntKind.wrap i64 (n * if (10001 : Int) < if (1 : Int) > if (0 : Int) > p0_5 then (0 : Int) else
 p0_5 then (1 : Int) else if (0 : Int) > p0_5 then (0 : Int) else p0_5 then (10001 : Int) else if (1 : Int) > if (0 : Int) > p0_5 then (0 : Int) else p0_5 then (1 : Int) else if (0 : Int) > p0_5 then (0 : Int) else p0_5)
 then (10001 : Int) else IntKind.wrap i64 (n * if (10001 : Int) < if (1 : Int) > if (0 : Int) > p0_5 then (0 : Int) else p0_5 then (1 : Int) else if (0 : Int) > p0_5 then (0 : Int) else p0_5 then (10001 : Int) else if (1
 : Int) > if (0 : Int) > p0_5 then (0 : Int) else p0_5 then (1 : Int) else if (0 : Int) > p0_5 then (0 : Int) else p0_5))) m'' []) (∃ (m'' : Mem), Mem.le m m'' ∧ Mem.le m'' aa ∧ R (int i64 (if (10001 : Int) <
 IntKind.wrap i64 (n * if (10001 : Int) < if p0_6 > if (0 : Int) > p0_5 then (0 : Int) else p0_5 then p0_6 else if (0 : Int) > p0_5 then (0 : Int) else p0_5 then (10001 : Int) else if p0_6 > if (0 : Int) > p0_5 then (0 :
 Int) else p0_5 then p0_6 else if (0 : Int) > p0_5 then (0 : Int) else p0_5) then (10001 : Int) else IntKind.wrap i64 (n * if (10001 : Int) < if p0_6 > if (0 : Int) > p0_5 then (0 : Int) else p0_5 then p0_6 else if (0 :
 Int) > p0_5 then (0 : Int) else p0_5 then (10001 : Int) else if p0_6 > if (0 : Int) > p0_5 then (0 : Int) else p0_5 then p0_6 else if (0 : Int) > p0_5 then (0 : Int) else p0_5))) m'' [])) (∃ (m'' : Mem), Mem.le m m'' ∧
 Mem.le m'' aa ∧ R (int i64 (if (10001 : Int) < n then (10001 : Int) else n)) m'' []))) (∃ (I : IT), (∃ (n : Nat), I [int i64 0, int i64 0] [] [] m' n) ∧ ∀ (n ab : Int) (aa : Mem) (aj : Nat), Mem.le m' aa → I [int i64 n,
 int i64 ab] [] [] aa aj → br (decide (ab < (↑p0_7n : Int))) (∃ (ak : Nat), ∃ (o : Nat), p0_7a = some (Addr.mk ak o none) ∧ inRange ab p0_7n ∧ ∃ (v : Value), ∃ (ac : Value), ∃ (ad : Value), ∃ (ae : Value), ∃ (af :
 Value), ∃ (ag : Value), ∃ (ah : Value), ∃ (ai : Value), Mem.reads aa ak (o + Int.toNat ab * 8) [v, ac, ad, ae, af, ag, ah, ai] ∧ ∀ (am : Nat), chk (Value.oneCell' v && (Value.oneCell' ac && (Value.oneCell' ad &&
 (Value.oneCell' ae && (Value.oneCell' af && (Value.oneCell' ag && (Value.oneCell' ah && (Value.oneCell' ai && true)))))))) (∃ (R : RT), True ∧ CX Tryz.prog 110 (Array.mk [agg (Array.mk [v, ac, ad, ae, af, ag, ah, ai])])
 aa [] R ∧ Fits (Shape.int i64) R ∧ ∀ (al : Int) (m' : Mem), Mem.le aa m' → R (int i64 al) m' [] → [some (Box.mk b [int u8 p0_0, int u64 p0_1, int u64 p0_2, int u64 p0_3, int u64 p0_4, int i64 p0_5, int i64 p0_6, slice
 p0_7a p0_7n p0_7c] 63 8 true true)] = [some (Box.mk b [int u8 p0_0, int u64 p0_1, int u64 p0_2, int u64 p0_3, int u64 p0_4, int i64 p0_5, int i64 p0_6, slice p0_7a p0_7n p0_7c] 63 8 true true)] ∧ ∃ (n' : Nat), n' < aj ∧
 I [int i64 (IntKind.wrap i64 (n + al)), int i64 (IntKind.wrap i64 (ab + (1 : Int)))] [] [] m' n')) (br (p0_0 == (5 : Int)) (br (p0_6 == (-1 : Int)) (∃ (m'' : Mem), Mem.le m m'' ∧ Mem.le m'' aa ∧ R (int i64 (if (10001 :
 Int) < IntKind.wrap i64 (n * if (10001 : Int) < if (1 : Int) > if (0 : Int) > p0_5 then (0 : Int) else p0_5 then (1 : Int) else if (0 : Int) > p0_5 then (0 : Int) else p0_5 then (10001 : Int) else if (1 : Int) > if (0 :
 Int) > p0_5 then (0 : Int) else p0_5 then (1 : Int) else if (0 : Int) > p0_5 then (0 : Int) else p0_5) then (10001 : Int) else IntKind.wrap i64 (n * if (10001 : Int) < if (1 : Int) > if (0 : Int) > p0_5 then (0 : Int)
 else p0_5 then (1 : Int) else if (0 : Int) > p0_5 then (0 : Int) else p0_5 then (10001 : Int) else if (1 : Int) > if (0 : Int) > p0_5 then (0 : Int) else p0_5 then (1 : Int) else if (0 : Int) > p0_5 then (0 : Int) else
 p0_5))) m'' []) (∃ (m'' : Mem), Mem.le m m'' ∧ Mem.le m'' aa ∧ R (int i64 (if (10001 : Int) < IntKind.wrap i64 (n * if (10001 : Int) < if p0_6 > if (0 : Int) > p0_5 then (0 : Int) else p0_5 then p0_6 else if (0 : Int) >
 p0_5 then (0 : Int) else p0_5 then (10001 : Int) else if p0_6 > if (0 : Int) > p0_5 then (0 : Int) else p0_5 then p0_6 else if (0 : Int) > p0_5 then (0 : Int) else p0_5) then (10001 : Int) else IntKind.wrap i64 (n * if
 (10001 : Int) < if p0_6 > if (0 : Int) > p0_5 then (0 : Int) else p0_5 then p0_6 else if (0 : Int) > p0_5 then (0 : Int) else p0_5 then (10001 : Int) else if p0_6 > if (0 : Int) > p0_5 then (0 : Int) else p0_5 then p0_6
 else if (0 : Int) > p0_5 then (0 : Int) else p0_5))) m'' [])) (∃ (m'' : Mem), Mem.le m m'' ∧ Mem.le m'' aa ∧ R (int i64 (if (10001 : Int) < n then (10001 : Int) else n)) m'' [])))
theorem cx_rx_positions (p0_0 p0_1 p0_2 p0_3 p0_4 p0_5 p0_6 : Int) (p0_7a : Option Addr) (p0_7n p0_7c : Nat) (m : Mem) (R : RT) (h : VC_rx_positions p0_0 p0_1 p0_2 p0_3 p0_4 p0_5 p0_6 p0_7a p0_7n p0_7c m R) : CX Tryz.prog 110 #[.agg #[.int .u8 p0_0, .int .u64 p0_1, .int .u64 p0_2, .int .u64 p0_3, .int .u64 p0_4, .int .i64 p0_5, .int .i64 p0_6, .slice p0_7a p0_7n p0_7c]] m [] R :=
 CX_of_FW (E := E_rx_positions) EB_ok mix Tryz.func110 [.v (.agg #[.int .u8 p0_0, .int .u64 p0_1, .int .u64 p0_2, .int .u64 p0_3, .int .u64 p0_4, .int .i64 p0_5, .int .i64 p0_6, .slice p0_7a p0_7n p0_7c])] [] (by kernel_rfl) (Eq.mp (by kernel_rfl) h)
noncomputable def E_rx_Positions : Env := { EB with
 frzNew := [1] }
def VC_rx_Positions (p0_0 p0_1 p0_2 p0_3 p0_4 p0_5 p0_6 : Int) (p0_7a : Option Addr) (p0_7n p0_7c : Nat) (m : Mem) (R : RT) : Prop :=
 ∀ (b : Nat) (m' : Mem), Mem.le m m' → Mem.reads m' b 0 [int u8 p0_0, int u64 p0_1, int u64 p0_2, int u64 p0_3, int u64 p0_4, int i64 p0_5, int i64 p0_6, slice p0_7a p0_7n p0_7c] → ∃ (R_1 : RT), True ∧ CX Tryz.prog 33
 (Array.mk [agg (Array.mk [int u8 p0_0, int u64 p0_1, int u64 p0_2, int u64 p0_3, int u64 p0_4, int i64 p0_5, int i64 p0_6, slice p0_7a p0_7n p0_7c])]) m' [] R_1 ∧ Fits Shape.bool R_1 ∧ ∀ (b : Bool) (m'_1 : Mem), Mem.le
 m' m'_1 → R_1 (bool b) m'_1 [] → br (!b) (∃ (m'' : Mem), Mem.le m m'' ∧ Mem.le m'' m'_1 ∧ R (int i64 10001) m'' []) (∃ (R_2 : RT), True ∧ CX Tryz.prog 110 (Array.mk [agg (Array.mk [int u8 p0_0, int u64 p0_1, int u64
 p0_2, int u64 p0_3, int u64 p0_4, int i64 p0_5, int i64 p0_6, slice p0_7a p0_7n p0_7c])]) m'_1 [] R_2 ∧ Fits (Shape.int i64) R_2 ∧ ∀ (n : Int) (m' : Mem), Mem.le m'_1 m' → R_2 (int i64 n) m' [] → ∃ (m'' : Mem), Mem.le m
 m'' ∧ Mem.le m'' m' ∧ R (int i64 n) m'' [])
theorem cx_rx_Positions (p0_0 p0_1 p0_2 p0_3 p0_4 p0_5 p0_6 : Int) (p0_7a : Option Addr) (p0_7n p0_7c : Nat) (m : Mem) (R : RT) (h : VC_rx_Positions p0_0 p0_1 p0_2 p0_3 p0_4 p0_5 p0_6 p0_7a p0_7n p0_7c m R) : CX Tryz.prog 89 #[.agg #[.int .u8 p0_0, .int .u64 p0_1, .int .u64 p0_2, .int .u64 p0_3, .int .u64 p0_4, .int .i64 p0_5, .int .i64 p0_6, .slice p0_7a p0_7n p0_7c]] m [] R :=
 CX_of_FW (E := E_rx_Positions) EB_ok mix Tryz.func89 [.v (.agg #[.int .u8 p0_0, .int .u64 p0_1, .int .u64 p0_2, .int .u64 p0_3, .int .u64 p0_4, .int .i64 p0_5, .int .i64 p0_6, .slice p0_7a p0_7n p0_7c])] [] (by kernel_rfl) (Eq.mp (by kernel_rfl) h)
noncomputable def E_rx_Groups : Env := { EB with
 loops := (fun i => bif Nat.beq i 6 then ⟨[(10, .agg [.int .u8, .int .u64, .int .u64, .int .u64, .int .u64, .int .i64, .int .i64, .slice])], [3], [], false⟩ else ⟨[], [], [], false⟩)
 frzNew := [1] }
def VC_rx_Groups (p0_0 p0_1 p0_2 p0_3 p0_4 p0_5 p0_6 : Int) (p0_7a : Option Addr) (p0_7n p0_7c : Nat) (m : Mem) (R : RT) : Prop :=
 ∀ (b : Nat) (m' : Mem), Mem.le m m' → Mem.reads m' b 0 [int u8 p0_0, int u64 p0_1, int u64 p0_2, int u64 p0_3, int u64 p0_4, int i64 p0_5, int i64 p0_6, slice p0_7a p0_7n p0_7c] → ∃ (R_1 : RT), True ∧ CX Tryz.prog 33
 (Array.mk [agg (Array.mk [int u8 p0_0, int u64 p0_1, int u64 p0_2, int u64 p0_3, int u64 p0_4, int i64 p0_5, int i64 p0_6, slice p0_7a p0_7n p0_7c])]) m' [] R_1 ∧ Fits Shape.bool R_1 ∧ ∀ (ae : Bool) (ab : Mem), Mem.le
 m' ab → R_1 (bool ae) ab [] → br (!ae) (∃ (m'' : Mem), Mem.le m m'' ∧ Mem.le m'' ab ∧ R (int i64 10001) m'' []) (∀ (ac : Nat), ∃ (R_2 : RT), True ∧ CX Tryz.prog 44 (Array.mk [agg (Array.mk [int u8 p0_0, int u64 p0_1,
 int u64 p0_2, int u64 p0_3, int u64 p0_4, int i64 p0_5, int i64 p0_6, slice p0_7a p0_7n p0_7c])]) ab [] R_2 ∧ Fits Shape.fn R_2 ∧ ∀ (g : Nat) (fi ca : List Value) (m' : Mem), Mem.le ab m' → R_2 (func (Fn.func g)
 (Array.mk fi) (Array.mk ca)) m' [] → ∃ (xs : List (List Value)), IX Tryz.prog g fi ca m' xs ∧ (∀ (x : List Value), x ∈ xs → Shape.fitsL [shT] x = true) ∧ ∃ (I : IT), I [] [[int i64 0]] [] m' 0 ∧ (∀ (n af ag ah ai aj ak
 : Int) (a : Option Addr) (al c : Nat) (cs : List Value) (aa : Mem) (ad : Nat), Mem.le m' aa → List.get?Internal xs ad = some [agg (Array.mk [int u8 n, int u64 af, int u64 ag, int u64 ah, int u64 ai, int i64 aj, int i64
 ak, slice a al c])] → I [] [cs] [] aa ad → ∀ (am : Nat), br (n == (6 : Int)) (Eng.look cs 0 fun (v : Value) => chk (isInt i64 v && decide (i64 = i64)) ([some (Box.mk ac [] 3 1 false true), some (Box.mk b [int u8 p0_0,
 int u64 p0_1, int u64 p0_2, int u64 p0_3, int u64 p0_4, int i64 p0_5, int i64 p0_6, slice p0_7a p0_7n p0_7c] 63 8 true true)] = [some (Box.mk ac [] 3 1 false true), some (Box.mk b [int u8 p0_0, int u64 p0_1, int u64
 p0_2, int u64 p0_3, int u64 p0_4, int i64 p0_5, int i64 p0_6, slice p0_7a p0_7n p0_7c] 63 8 true true)] ∧ I [] [[int i64 (IntKind.wrap i64 (RowKit.intOf v + (1 : Int)))]] [] aa (ad + 1))) ([some (Box.mk ac [] 3 1 false
 true), some (Box.mk b [int u8 p0_0, int u64 p0_1, int u64 p0_2, int u64 p0_3, int u64 p0_4, int i64 p0_5, int i64 p0_6, slice p0_7a p0_7n p0_7c] 63 8 true true)] = [some (Box.mk ac [] 3 1 false true), some (Box.mk b
 [int u8 p0_0, int u64 p0_1, int u64 p0_2, int u64 p0_3, int u64 p0_4, int i64 p0_5, int i64 p0_6, slice p0_7a p0_7n p0_7c] 63 8 true true)] ∧ I [] [cs] [] aa (ad + 1))) ∧ ∀ (cs : List Value) (aa : Mem), Mem.le m' aa → I
 [] [cs] [] aa (List.length xs) → Eng.look cs 0 fun (v : Value) => ∃ (m'' : Mem), Mem.le m m'' ∧ Mem.le m'' aa ∧ R v m'' [])
theorem cx_rx_Groups (p0_0 p0_1 p0_2 p0_3 p0_4 p0_5 p0_6 : Int) (p0_7a : Option Addr) (p0_7n p0_7c : Nat) (m : Mem) (R : RT) (h : VC_rx_Groups p0_0 p0_1 p0_2 p0_3 p0_4 p0_5 p0_6 p0_7a p0_7n p0_7c m R) : CX Tryz.prog 90 #[.agg #[.int .u8 p0_0, .int .u64 p0_1, .int .u64 p0_2, .int .u64 p0_3, .int .u64 p0_4, .int .i64 p0_5, .int .i64 p0_6, .slice p0_7a p0_7n p0_7c]] m [] R :=
 CX_of_FW (E := E_rx_Groups) EB_ok mix Tryz.func90 [.v (.agg #[.int .u8 p0_0, .int .u64 p0_1, .int .u64 p0_2, .int .u64 p0_3, .int .u64 p0_4, .int .i64 p0_5, .int .i64 p0_6, .slice p0_7a p0_7n p0_7c])] [] (by kernel_rfl) (Eq.mp (by kernel_rfl) h)
noncomputable def E_rx_Check : Env := { EB with
 frzNew := [1] }
def VC_rx_Check (p0_0 p0_1 : Bool) (p0_2 p0_3 p0_4 p0_5 p0_6 p0_7 p0_8 : Int) (p0_9a : Option Addr) (p0_9n p0_9c : Nat) (m : Mem) (R : RT) : Prop :=
 ∀ (b : Nat) (m' : Mem), Mem.le m m' → Mem.reads m' b 0 [bool p0_0, bool p0_1, int u8 p0_2, int u64 p0_3, int u64 p0_4, int u64 p0_5, int u64 p0_6, int i64 p0_7, int i64 p0_8, slice p0_9a p0_9n p0_9c] → ∃ (R_1 : RT),
 True ∧ CX Tryz.prog 88 (Array.mk [agg (Array.mk [int u8 p0_2, int u64 p0_3, int u64 p0_4, int u64 p0_5, int u64 p0_6, int i64 p0_7, int i64 p0_8, slice p0_9a p0_9n p0_9c])]) m' [] R_1 ∧ Fits Shape.bool R_1 ∧ ∀ (b :
 Bool) (m'_1 : Mem), Mem.le m' m'_1 → R_1 (bool b) m'_1 [] → br (!b) (∃ (m'' : Mem), Mem.le m m'' ∧ Mem.le m'' m'_1 ∧ R (int i64 80) m'' []) (∃ (R_2 : RT), True ∧ CX Tryz.prog 32 (Array.mk [agg (Array.mk [int u8 p0_2,
 int u64 p0_3, int u64 p0_4, int u64 p0_5, int u64 p0_6, int i64 p0_7, int i64 p0_8, slice p0_9a p0_9n p0_9c])]) m'_1 [] R_2 ∧ Fits (Shape.int i64) R_2 ∧ ∀ (n : Int) (m' : Mem), Mem.le m'_1 m' → R_2 (int i64 n) m' [] →
 br (decide (n > (120 : Int))) (∃ (m'' : Mem), Mem.le m m'' ∧ Mem.le m'' m' ∧ R (int i64 81) m'' []) (∃ (R_3 : RT), True ∧ CX Tryz.prog 89 (Array.mk [agg (Array.mk [int u8 p0_2, int u64 p0_3, int u64 p0_4, int u64 p0_5,
 int u64 p0_6, int i64 p0_7, int i64 p0_8, slice p0_9a p0_9n p0_9c])]) m' [] R_3 ∧ Fits (Shape.int i64) R_3 ∧ ∀ (n : Int) (m'_2 : Mem), Mem.le m' m'_2 → R_3 (int i64 n) m'_2 [] → br (decide (n > (400 : Int))) (∃ (m'' :
 Mem), Mem.le m m'' ∧ Mem.le m'' m'_2 ∧ R (int i64 82) m'' []) (∃ (R_4 : RT), True ∧ CX Tryz.prog 90 (Array.mk [agg (Array.mk [int u8 p0_2, int u64 p0_3, int u64 p0_4, int u64 p0_5, int u64 p0_6, int i64 p0_7, int i64
 p0_8, slice p0_9a p0_9n p0_9c])]) m'_2 [] R_4 ∧ Fits (Shape.int i64) R_4 ∧ ∀ (n : Int) (m' : Mem), Mem.le m'_2 m' → R_4 (int i64 n) m' [] → br (decide (n > (9 : Int))) (∃ (m'' : Mem), Mem.le m m'' ∧ Mem.le m'' m' ∧ R
 (int i64 83) m'' []) (∃ (m'' : Mem), Mem.le m m'' ∧ Mem.le m'' m' ∧ R (int i64 0) m'' []))))
theorem cx_rx_Check (p0_0 p0_1 : Bool) (p0_2 p0_3 p0_4 p0_5 p0_6 p0_7 p0_8 : Int) (p0_9a : Option Addr) (p0_9n p0_9c : Nat) (m : Mem) (R : RT) (h : VC_rx_Check p0_0 p0_1 p0_2 p0_3 p0_4 p0_5 p0_6 p0_7 p0_8 p0_9a p0_9n p0_9c m R) : CX Tryz.prog 63 #[.agg #[.bool p0_0, .bool p0_1, .int .u8 p0_2, .int .u64 p0_3, .int .u64 p0_4, .int .u64 p0_5, .int .u64 p0_6, .int .i64 p0_7, .int .i64 p0_8, .slice p0_9a p0_9n p0_9c]] m [] R :=
 CX_of_FW (E := E_rx_Check) EB_ok mix Tryz.func63 [.v (.agg #[.bool p0_0, .bool p0_1, .int .u8 p0_2, .int .u64 p0_3, .int .u64 p0_4, .int .u64 p0_5, .int .u64 p0_6, .int .i64 p0_7, .int .i64 p0_8, .slice p0_9a p0_9n p0_9c])] [] (by kernel_rfl) (Eq.mp (by kernel_rfl) h)
noncomputable def E_slices_EqualFunc_rx_Node_rx_Node_rx_Node_rx_Node : Env := { EB with
 loops := (fun i => bif Nat.beq i 4 then ⟨[(17, .int .i64)], [], [], false⟩ else ⟨[], [], [], false⟩) }
def VC_slices_EqualFunc_rx_Node_rx_Node_rx_Node_rx_Node (p0a : Option Addr) (p0n p0c : Nat) (p1a : Option Addr) (p1n p1c p2g : Nat) (p2fi p2ca : List Value) (m : Mem) (R : RT) : Prop :=
 br (!(↑p0n : Int) == (↑p1n : Int)) (∃ (m'' : Mem), Mem.le m m'' ∧ Mem.le m'' m ∧ R (bool false) m'' []) (∃ (I : IT), (∃ (n : Nat), I [int i64 0] [] [] m n) ∧ ∀ (n : Int) (m' : Mem) (n_1 : Nat), Mem.le m m' → I [int i64
 n] [] [] m' n_1 → br (decide (n < (↑p0n : Int))) (∃ (b : Nat), ∃ (o : Nat), p0a = some (Addr.mk b o none) ∧ inRange n p0n ∧ ∃ (v : Value), ∃ (v_1 : Value), ∃ (v_2 : Value), ∃ (v_3 : Value), ∃ (v_4 : Value), ∃ (v_5 :
 Value), ∃ (v_6 : Value), ∃ (v_7 : Value), Mem.reads m' b (o + Int.toNat n * 8) [v, v_1, v_2, v_3, v_4, v_5, v_6, v_7] ∧ ∀ (b : Nat), chk (Value.oneCell' v && (Value.oneCell' v_1 && (Value.oneCell' v_2 && (Value.oneCell'
 v_3 && (Value.oneCell' v_4 && (Value.oneCell' v_5 && (Value.oneCell' v_6 && (Value.oneCell' v_7 && true)))))))) (∃ (b : Nat), ∃ (o : Nat), p1a = some (Addr.mk b o none) ∧ inRange n p1n ∧ ∃ (v_8 : Value), ∃ (v_9 :
 Value), ∃ (v_10 : Value), ∃ (v_11 : Value), ∃ (v_12 : Value), ∃ (v_13 : Value), ∃ (v_14 : Value), ∃ (v_15 : Value), Mem.reads m' b (o + Int.toNat n * 8) [v_8, v_9, v_10, v_11, v_12, v_13, v_14, v_15] ∧ ∀ (b : Nat), chk
 (Value.oneCell' v_8 && (Value.oneCell' v_9 && (Value.oneCell' v_10 && (Value.oneCell' v_11 && (Value.oneCell' v_12 && (Value.oneCell' v_13 && (Value.oneCell' v_14 && (Value.oneCell' v_15 && true)))))))) (∃ (R_1 : RT),
 True ∧ CX Tryz.prog p2g (Array.mk (List.append (List.append p2fi [agg (Array.mk [v, v_1, v_2, v_3, v_4, v_5, v_6, v_7]), agg (Array.mk [v_8, v_9, v_10, v_11, v_12, v_13, v_14, v_15])]) p2ca)) m' [] R_1 ∧ Fits Shape.bool
 R_1 ∧ ∀ (b : Bool) (m'_1 : Mem), Mem.le m' m'_1 → R_1 (bool b) m'_1 [] → br (!b) (∃ (m'' : Mem), Mem.le m m'' ∧ Mem.le m'' m'_1 ∧ R (bool false) m'' []) (∃ (n' : Nat), n' < n_1 ∧ I [int i64 (IntKind.wrap i64 (n + (1 :
 Int)))] [] [] m'_1 n')))) (∃ (m'' : Mem), Mem.le m m'' ∧ Mem.le m'' m' ∧ R (bool true) m'' []))
theorem cx_slices_EqualFunc_rx_Node_rx_Node_rx_Node_rx_Node (p0a : Option Addr) (p0n p0c : Nat) (p1a : Option Addr) (p1n p1c p2g : Nat) (p2fi p2ca : List Value) (m : Mem) (R : RT) (h : VC_slices_EqualFunc_rx_Node_rx_Node_rx_Node_rx_Node p0a p0n p0c p1a p1n p1c p2g p2fi p2ca m R) : CX Tryz.prog 120 #[.slice p0a p0n p0c, .slice p1a p1n p1c, .func (.func p2g) p2fi.toArray p2ca.toArray] m [] R :=
 CX_of_FW (E := E_slices_EqualFunc_rx_Node_rx_Node_rx_Node_rx_Node) EB_ok mix Tryz.func120 [.v (.slice p0a p0n p0c), .v (.slice p1a p1n p1c), .v (.func (.func p2g) p2fi.toArray p2ca.toArray)] [] (by kernel_rfl) (Eq.mp (by kernel_rfl) h)
noncomputable def E_rx_same : Env := { EB with
 joins := (fun i => bif Nat.beq i 1 then some [(4, .bool)] else none)
 frzNew := [2, 3] }
def VC_rx_same (p0_0 p0_1 p0_2 p0_3 p0_4 p0_5 p0_6 : Int) (p0_7a : Option Addr) (p0_7n p0_7c : Nat) (p1_0 p1_1 p1_2 p1_3 p1_4 p1_5 p1_6 : Int) (p1_7a : Option Addr) (p1_7n p1_7c : Nat) (m : Mem) (R : RT) : Prop :=
 ∀ (b : Nat) (m' : Mem), Mem.le m m' → Mem.reads m' b 0 [int u8 p0_0, int u64 p0_1, int u64 p0_2, int u64 p0_3, int u64 p0_4, int i64 p0_5, int i64 p0_6, slice p0_7a p0_7n p0_7c] → ∀ (aa : Nat) (ac : Mem), Mem.le m' ac →
 Mem.reads ac aa 0 [int u8 p1_0, int u64 p1_1, int u64 p1_2, int u64 p1_3, int u64 p1_4, int i64 p1_5, int i64 p1_6, slice p1_7a p1_7n p1_7c] → ∃ (ab : Bool), br (p0_0 == p1_0) (∃ (ad : Bool), EqIs Tryz.prog 60 (agg
 (Array.mk [int u64 p0_1, int u64 p0_2, int u64 p0_3, int u64 p0_4])) (agg (Array.mk [int u64 p1_1, int u64 p1_2, int u64 p1_3, int u64 p1_4])) ad ∧ br ad (br (p0_5 == p1_5) (br (p0_6 == p1_6) (∃ (R : RT), True ∧ CX
 Tryz.prog 120 (Array.mk [slice p0_7a p0_7n p0_7c, slice p1_7a p1_7n p1_7c, func (Fn.func 108) (Array.mk []) (Array.mk [])]) ac [] R ∧ Fits Shape.bool R ∧ ∀ (ae : Bool) (m' : Mem), Mem.le ac m' → R (bool ae) m' [] →
 [some (Box.mk aa [int u8 p1_0, int u64 p1_1, int u64 p1_2, int u64 p1_3, int u64 p1_4, int i64 p1_5, int i64 p1_6, slice p1_7a p1_7n p1_7c] 63 8 true true), some (Box.mk b [int u8 p0_0, int u64 p0_1, int u64 p0_2, int
 u64 p0_3, int u64 p0_4, int i64 p0_5, int i64 p0_6, slice p0_7a p0_7n p0_7c] 63 8 true true)] = [some (Box.mk aa [int u8 p1_0, int u64 p1_1, int u64 p1_2, int u64 p1_3, int u64 p1_4, int i64 p1_5, int i64 p1_6, slice
 p1_7a p1_7n p1_7c] 63 8 true true), some (Box.mk b [int u8 p0_0, int u64 p0_1, int u64 p0_2, int u64 p0_3, int u64 p0_4, int i64 p0_5, int i64 p0_6, slice p0_7a p0_7n p0_7c] 63 8 true true)] ∧ [bool ae] = [bool ab])
 ([some (Box.mk aa [int u8 p1_0, int u64 p1_1, int u64 p1_2, int u64 p1_3, int u64 p1_4, int i64 p1_5, int i64 p1_6, slice p1_7a p1_7n p1_7c] 63 8 true true), some (Box.mk b [int u8 p0_0, int u64 p0_1, int u64 p0_2, int
 u64 p0_3, int u64 p0_4, int i64 p0_5, int i64 p0_6, slice p0_7a p0_7n p0_7c] 63 8 true true)] = [some (Box.mk aa [int u8 p1_0, int u64 p1_1, int u64 p1_2, int u64 p1_3, int u64 p1_4, int i64 p1_5, int i64 p1_6, slice
 p1_7a p1_7n p1_7c] 63 8 true true), some (Box.mk b [int u8 p0_0, int u64 p0_1, int u64 p0_2, int u64 p0_3, int u64 p0_4, int i64 p0_5, int i64 p0_6, slice p0_7a p0_7n p0_7c] 63 8 true true)] ∧ [bool false] = [bool ab]))
 ([some (Box.mk aa [int u8 p1_0, int u64 p1_1, int u64 p1_2, int u64 p1_3, int u64 p1_4, int i64 p1_5, int i64 p1_6, slice p1_7a p1_7n p1_7c] 63 8 true true), some (Box.mk b [int u8 p0_0, int u64 p0_1, int u64 p0_2, int
 u64 p0_3, int u64 p0_4, int i64 p0_5, int i64 p0_6, slice p0_7a p0_7n p0_7c] 63 8 true true)] = [some (Box.mk aa [int u8 p1_0, int u64 p1_1, int u64 p1_2, int u64 p1_3, int u64 p1_4, int i64 p1_5, int i64 p1_6, slice
 p1_7a p1_7n p1_7c] 63 8 true true), some (Box.mk b [int u8 p0_0, int u64 p0_1, int u64 p0_2, int u64 p0_3, int u64 p0_4, int i64 p0_5, int i64 p0_6, slice p0_7a p0_7n p0_7c] 63 8 true true)] ∧ [bool false] = [bool ab]))
 ([some (Box.mk aa [int u8 p1_0, int u64 p1_1, int u64 p1_2, int u64 p1_3, int u64 p1_4, int i64 p1_5, int i64 p1_6, slice p1_7a p1_7n p1_7c] 63 8 true true), some (Box.mk b [int u8 p0_0, int u64 p0_1, int u64 p0_2, int
 u64 p0_3, int u64 p0_4, int i64 p0_5, int i64 p0_6, slice p0_7a p0_7n p0_7c] 63 8 true true)] = [some (Box.mk aa [int u8 p1_0, int u64 p1_1, int u64 p1_2, int u64 p1_3, int u64 p1_4, int i64 p1_5, int i64 p1_6, slice
 p1_7a p1_7n p1_7c] 63 8 true true), some (Box.mk b [int u8 p0_0, int u64 p0_1, int u64 p0_2, int u64 p0_3, int u64 p0_4, int i64 p0_5, int i64 p0_6, slice p0_7a p0_7n p0_7c] 63 8 true true)] ∧ [bool false] = [bool ab]))
 ([some (Box.mk aa [int u8 p1_0, int u64 p1_1, int u64 p1_2, int u64 p1_3, int u64 p1_4, int i64 p1_5, int i64 p1_6, slice p1_7a p1_7n p1_7c] 63 8 true true), some (Box.mk b [int u8 p0_0, int u64 p0_1, int u64 p0_2, int
 u64 p0_3, int u64 p0_4, int i64 p0_5, int i64 p0_6, slice p0_7a p0_7n p0_7c] 63 8 true true)] = [some (Box.mk aa [int u8 p1_0, int u64 p1_1, int u64 p1_2, int u64 p1_3, int u64 p1_4, int i64 p1_5, int i64 p1_6, slice
 p1_7a p1_7n p1_7c] 63 8 true true), some (Box.mk b [int u8 p0_0, int u64 p0_1, int u64 p0_2, int u64 p0_3, int u64 p0_4, int i64 p0_5, int i64 p0_6, slice p0_7a p0_7n p0_7c] 63 8 true true)] ∧ [bool false] = [bool ab])
 ∧ ∃ (m'' : Mem), Mem.le m m'' ∧ Mem.le m'' ac ∧ R (bool ab) m'' []
theorem cx_rx_same (p0_0 p0_1 p0_2 p0_3 p0_4 p0_5 p0_6 : Int) (p0_7a : Option Addr) (p0_7n p0_7c : Nat) (p1_0 p1_1 p1_2 p1_3 p1_4 p1_5 p1_6 : Int) (p1_7a : Option Addr) (p1_7n p1_7c : Nat) (m : Mem) (R : RT) (h : VC_rx_same p0_0 p0_1 p0_2 p0_3 p0_4 p0_5 p0_6 p0_7a p0_7n p0_7c p1_0 p1_1 p1_2 p1_3 p1_4 p1_5 p1_6 p1_7a p1_7n p1_7c m R) : CX Tryz.prog 108 #[.agg #[.int .u8 p0_0, .int .u64 p0_1, .int .u64 p0_2, .int .u64 p0_3, .int .u64 p0_4, .int .i64 p0_5, .int .i64 p0_6, .slice p0_7a p0_7n p0_7c], .agg #[.int .u8 p1_0, .int .u64 p1_1, .int .u64 p1_2, .int .u64 p1_3, .int .u64 p1_4, .int .i64 p1_5, .int .i64 p1_6, .slice p1_7a p1_7n p1_7c]] m [] R :=
 CX_of_FW (E := E_rx_same) EB_ok mix Tryz.func108 [.v (.agg #[.int .u8 p0_0, .int .u64 p0_1, .int .u64 p0_2, .int .u64 p0_3, .int .u64 p0_4, .int .i64 p0_5, .int .i64 p0_6, .slice p0_7a p0_7n p0_7c]), .v (.agg #[.int .u8 p1_0, .int .u64 p1_1, .int .u64 p1_2, .int .u64 p1_3, .int .u64 p1_4, .int .i64 p1_5, .int .i64 p1_6, .slice p1_7a p1_7n p1_7c])] [] (by kernel_rfl) (Eq.mp (by kernel_rfl) h)
noncomputable def E_rx_Same : Env := { EB with
 joins := (fun i => bif Nat.beq i 1 then some [(4, .bool)] else none)
 frzNew := [2, 3] }
def VC_rx_Same (p0_0 p0_1 p0_2 p0_3 p0_4 p0_5 p0_6 : Int) (p0_7a : Option Addr) (p0_7n p0_7c : Nat) (p1_0 p1_1 p1_2 p1_3 p1_4 p1_5 p1_6 : Int) (p1_7a : Option Addr) (p1_7n p1_7c : Nat) (m : Mem) (R : RT) : Prop :=
 ∀ (b : Nat) (m' : Mem), Mem.le m m' → Mem.reads m' b 0 [int u8 p0_0, int u64 p0_1, int u64 p0_2, int u64 p0_3, int u64 p0_4, int i64 p0_5, int i64 p0_6, slice p0_7a p0_7n p0_7c] → ∀ (aa : Nat) (ab : Mem), Mem.le m' ab →
 Mem.reads ab aa 0 [int u8 p1_0, int u64 p1_1, int u64 p1_2, int u64 p1_3, int u64 p1_4, int i64 p1_5, int i64 p1_6, slice p1_7a p1_7n p1_7c] → ∃ (ac : Bool), (∃ (R : RT), True ∧ CX Tryz.prog 33 (Array.mk [agg (Array.mk
 [int u8 p0_0, int u64 p0_1, int u64 p0_2, int u64 p0_3, int u64 p0_4, int i64 p0_5, int i64 p0_6, slice p0_7a p0_7n p0_7c])]) ab [] R ∧ Fits Shape.bool R ∧ ∀ (ae : Bool) (m' : Mem), Mem.le ab m' → R (bool ae) m' [] → br
 ae (∃ (R : RT), True ∧ CX Tryz.prog 33 (Array.mk [agg (Array.mk [int u8 p1_0, int u64 p1_1, int u64 p1_2, int u64 p1_3, int u64 p1_4, int i64 p1_5, int i64 p1_6, slice p1_7a p1_7n p1_7c])]) m' [] R ∧ Fits Shape.bool R ∧
 ∀ (af : Bool) (ad : Mem), Mem.le m' ad → R (bool af) ad [] → br af (∃ (R : RT), True ∧ CX Tryz.prog 108 (Array.mk [agg (Array.mk [int u8 p0_0, int u64 p0_1, int u64 p0_2, int u64 p0_3, int u64 p0_4, int i64 p0_5, int
 i64 p0_6, slice p0_7a p0_7n p0_7c]), agg (Array.mk [int u8 p1_0, int u64 p1_1, int u64 p1_2, int u64 p1_3, int u64 p1_4, int i64 p1_5, int i64 p1_6, slice p1_7a p1_7n p1_7c])]) ad [] R ∧ Fits Shape.bool R ∧ ∀ (ag :
 Bool) (m' : Mem), Mem.le ad m' → R (bool ag) m' [] → [some (Box.mk aa [int u8 p1_0, int u64 p1_1, int u64 p1_2, int u64 p1_3, int u64 p1_4, int i64 p1_5, int i64 p1_6, slice p1_7a p1_7n p1_7c] 63 8 true true), some
 (Box.mk b [int u8 p0_0, int u64 p0_1, int u64 p0_2, int u64 p0_3, int u64 p0_4, int i64 p0_5, int i64 p0_6, slice p0_7a p0_7n p0_7c] 63 8 true true)] = [some (Box.mk aa [int u8 p1_0, int u64 p1_1, int u64 p1_2, int u64
 p1_3, int u64 p1_4, int i64 p1_5, int i64 p1_6, slice p1_7a p1_7n p1_7c] 63 8 true true), some (Box.mk b [int u8 p0_0, int u64 p0_1, int u64 p0_2, int u64 p0_3, int u64 p0_4, int i64 p0_5, int i64 p0_6, slice p0_7a
 p0_7n p0_7c] 63 8 true true)] ∧ [bool ag] = [bool ac]) ([some (Box.mk aa [int u8 p1_0, int u64 p1_1, int u64 p1_2, int u64 p1_3, int u64 p1_4, int i64 p1_5, int i64 p1_6, slice p1_7a p1_7n p1_7c] 63 8 true true), some
 (Box.mk b [int u8 p0_0, int u64 p0_1, int u64 p0_2, int u64 p0_3, int u64 p0_4, int i64 p0_5, int i64 p0_6, slice p0_7a p0_7n p0_7c] 63 8 true true)] = [some (Box.mk aa [int u8 p1_0, int u64 p1_1, int u64 p1_2, int u64
 p1_3, int u64 p1_4, int i64 p1_5, int i64 p1_6, slice p1_7a p1_7n p1_7c] 63 8 true true), some (Box.mk b [int u8 p0_0, int u64 p0_1, int u64 p0_2, int u64 p0_3, int u64 p0_4, int i64 p0_5, int i64 p0_6, slice p0_7a
 p0_7n p0_7c] 63 8 true true)] ∧ [bool false] = [bool ac])) ([some (Box.mk aa [int u8 p1_0, int u64 p1_1, int u64 p1_2, int u64 p1_3, int u64 p1_4, int i64 p1_5, int i64 p1_6, slice p1_7a p1_7n p1_7c] 63 8 true true),
 some (Box.mk b [int u8 p0_0, int u64 p0_1, int u64 p0_2, int u64 p0_3, int u64 p0_4, int i64 p0_5, int i64 p0_6, slice p0_7a p0_7n p0_7c] 63 8 true true)] = [some (Box.mk aa [int u8 p1_0, int u64 p1_1, int u64 p1_2, int
 u64 p1_3, int u64 p1_4, int i64 p1_5, int i64 p1_6, slice p1_7a p1_7n p1_7c] 63 8 true true), some (Box.mk b [int u8 p0_0, int u64 p0_1, int u64 p0_2, int u64 p0_3, int u64 p0_4, int i64 p0_5, int i64 p0_6, slice p0_7a
 p0_7n p0_7c] 63 8 true true)] ∧ [bool false] = [bool ac])) ∧ ∃ (m'' : Mem), Mem.le m m'' ∧ Mem.le m'' ab ∧ R (bool ac) m'' []
theorem cx_rx_Same (p0_0 p0_1 p0_2 p0_3 p0_4 p0_5 p0_6 : Int) (p0_7a : Option Addr) (p0_7n p0_7c : Nat) (p1_0 p1_1 p1_2 p1_3 p1_4 p1_5 p1_6 : Int) (p1_7a : Option Addr) (p1_7n p1_7c : Nat) (m : Mem) (R : RT) (h : VC_rx_Same p0_0 p0_1 p0_2 p0_3 p0_4 p0_5 p0_6 p0_7a p0_7n p0_7c p1_0 p1_1 p1_2 p1_3 p1_4 p1_5 p1_6 p1_7a p1_7n p1_7c m R) : CX Tryz.prog 87 #[.agg #[.int .u8 p0_0, .int .u64 p0_1, .int .u64 p0_2, .int .u64 p0_3, .int .u64 p0_4, .int .i64 p0_5, .int .i64 p0_6, .slice p0_7a p0_7n p0_7c], .agg #[.int .u8 p1_0, .int .u64 p1_1, .int .u64 p1_2, .int .u64 p1_3, .int .u64 p1_4, .int .i64 p1_5, .int .i64 p1_6, .slice p1_7a p1_7n p1_7c]] m [] R :=
 CX_of_FW (E := E_rx_Same) EB_ok mix Tryz.func87 [.v (.agg #[.int .u8 p0_0, .int .u64 p0_1, .int .u64 p0_2, .int .u64 p0_3, .int .u64 p0_4, .int .i64 p0_5, .int .i64 p0_6, .slice p0_7a p0_7n p0_7c]), .v (.agg #[.int .u8 p1_0, .int .u64 p1_1, .int .u64 p1_2, .int .u64 p1_3, .int .u64 p1_4, .int .i64 p1_5, .int .i64 p1_6, .slice p1_7a p1_7n p1_7c])] [] (by kernel_rfl) (Eq.mp (by kernel_rfl) h)
end Go.Proofs.YtiadlgdcbpnmkaaGreatDoor
set_option linter.unusedVariables false
set_option linter.unusedSimpArgs false
namespace Go.Proofs.YtiadlgdcbpnmkaaGreatDoor
open Go Go.Eng Go.Rx Go.Proofs Go.RowKit
set_option maxRecDepth 100000
theorem cx_nodes (t : T) (m : Mem) : CX Tryz.prog 44 #[t.v] m [] (fun v m' _ => ∃ b, v = .func (.func 79) #[] #[.pointer (some ⟨b, 0, none⟩)] ∧ m'.reads b 0 t.cs) := by
 apply cx_rx_nodes
 unfold VC_rx_nodes
 intro b m' hm hb
 exact ⟨m', hm, Mem.le_refl _, b, rfl, hb⟩
theorem ix_nodes1 (t : T) (m : Mem) (c0b : Nat) (hrd : m.reads c0b 0 t.cs) (hrep : Rep m t) : IX Tryz.prog 79 [] [.pointer (some ⟨c0b, 0, none⟩)] m (t.nodes.map fun x => [x.v]) := by
 apply ix_rx_nodes_1 0 [] [] c0b 0
 unfold VC_rx_nodes_1
 intro l b m' hm hb
 have hrd' := hrd.mono hm
 refine ⟨_, _, _, _, _, _, _, _, hrd', ⟨rfl, by omega, ?_⟩, ?_, .inr rfl⟩
 ·rw [nodes_eq]; rfl
 refine ⟨t.sl, hrd' 7 _ rfl, chk_intro rfl ?_⟩
 refine ⟨fun xs _ _ m'' q => ∃ i : Nat, i ≤ t.subs.length ∧ xs = [.int .i64 ((1 + (nodesL (t.subs.take i)).length : Nat) : Int), .int .i64 i] ∧ m'.le m'' ∧ q = t.subs.length - i, ⟨t.subs.length, 0, by omega, ?_, Mem.le_refl _, by omega⟩, ?_⟩
 ·simp [nodesL]
 rintro y n m2 q hm2 ⟨i, hi, hxs, hmle, hq⟩
 simp only [List.cons.injEq, Value.int.injEq, true_and, and_true] at hxs
 obtain ⟨rfl, rfl⟩ := hxs
 have hlen : slN t.sl = t.subs.length := rfl
 rw [hlen]
 refine br_intro (fun hlt => ?_) (fun hge => ?_)
 ·have hlt' : i < t.subs.length := by simpa using hlt
  obtain ⟨x, hx⟩ : ∃ x, t.subs[i]? = some x := ⟨_, List.getElem?_eq_getElem hlt'⟩
  have hmem : x ∈ t.subs := List.mem_of_getElem? hx
  have hsz := sub_lt hmem
  obtain ⟨hmax, h0 | ⟨b1, o1, ha, hat⟩⟩ := Rep_iff hrep
  ·rw [h0] at hlt'; simp at hlt'
  obtain ⟨hxr, hxrep⟩ := (hat.mono ((mLt hm hmle))).get hx
  refine chk_intro rfl ⟨b1, o1, ha, ⟨by omega, by omega⟩, _, _, _, _, _, _, _, _, hxr, fun b2 => chk_intro rfl ?_⟩
  refine ⟨_, trivial, cx_nodes x m2, fun v m' css h => ?_, ?_⟩
  ·obtain ⟨b3, rfl, _⟩ := h; rfl
  rintro g fi ca m3 hm3 ⟨b3, hv, hb3⟩
  obtain ⟨rfl, rfl, rfl⟩ := func_inj hv
  refine ⟨_, ix_nodes1 x m3 b3 hb3 (hxrep.mono hm3), fun y hy => ?_, ?_⟩
  ·obtain ⟨z, _, rfl⟩ := List.mem_map.1 hy; exact fits_v z
  refine ⟨fun xs _ _ m'' q => q ≤ x.nodes.length ∧ xs = [.int .i64 ((1 + (nodesL (t.subs.take i)).length + q : Nat) : Int)] ∧ m3.le m'', ⟨Nat.zero_le _, rfl, Mem.le_refl _⟩, ?_, ?_⟩
  ·rintro y n0 n1 n2 n3 n4 n5 n6 a n7 c m4 q hm4 hq ⟨hq1, hy, _⟩ b4
   simp only [List.cons.injEq, Value.int.injEq, true_and, and_true] at hy
   subst hy
   have hq' : (List.map (fun z : T => [z.v]) x.nodes)[(q : Nat)]? = some [Value.agg #[.int .u8 n0, .int .u64 n1, .int .u64 n2, .int .u64 n3, .int .u64 n4, .int .i64 n5, .int .i64 n6, .slice a n7 c]] := hq
   rw [List.getElem?_map] at hq'
   obtain ⟨z, hz, hzv⟩ := Option.map_eq_some_iff.1 hq'
   have hql : q < x.nodes.length := (List.getElem?_eq_some_iff.1 hz).1
   refine ⟨⟨rfl, by omega, ?_⟩, ⟨rfl, by omega, ?_, hm4⟩, rfl, .inr rfl⟩
   ·rw [Int.toNat_natCast]
    show (t.nodes.map fun x => [x.v])[1 + (nodesL (t.subs.take i)).length + q]? = _
    rw [List.getElem?_map, nodes_at hx hz, ← hzv]; rfl
   ·congr 2
  ·rintro y m4 hm4 ⟨hq1, hy, _⟩
   simp only [List.cons.injEq, Value.int.injEq, true_and, and_true] at hy
   subst hy
   refine ⟨rfl, t.subs.length - (i + 1), by omega, i + 1, by omega, ?_, mLt hmle (mLt hm3 hm4), rfl⟩
   rw [wrap64 (by omega) (by omega), nodesL_take hx, List.length_append]
   simp [T.v, Nat.add_assoc]
 ·have hi' : i = t.subs.length := by
   have : ¬ ((i : Int) < (t.subs.length : Int)) := by simpa using hge
   omega
  subst hi'
  left
  rw [List.take_length, nodes_eq]
  simp
  omega
termination_by SizeOf.sizeOf t
decreasing_by exact hsz
theorem cx_bounds (least most : Int) (m : Mem) : CX Tryz.prog 122 #[.int .i64 least, .int .i64 most] m [] (Ret (.bool (bounds least most))) := by
 apply cx_rx_bounds
 unfold VC_rx_bounds
 refine ⟨decide (least < 0) || decide (least > 16) || (least == 1 && most == 1), ?_, br_intro (fun h => ret_pure (Mem.le_refl _) ?_) (fun h => ⟨most == -1 || (decide (most ≥ 1) && decide (most ≤ 16) && decide (most ≥ least)), ?_, ret_pure (Mem.le_refl _) ?_⟩)⟩
 ·simp only [br_ite]; (repeat' split) <;> simp_all <;> omega
 ·simp [Ret, bounds, h]
 ·simp only [br_ite]; (repeat' split) <;> simp_all <;> omega
 ·simp [Ret, bounds, h]
theorem cx_IndexFunc (l : List T) (a : Option Addr) (c : Nat) (g : Nat) (ca : List Value) (p : T → Bool) (m : Mem) (hl : l.length ≤ 1000000000000000) (hr : l = [] ∨ ∃ b o, a = some ⟨b, o, none⟩ ∧ RepAt m b o l)
  (hp : ∀ x ∈ l, ∀ m', m.le m' → Rep m' x → CX Tryz.prog g (x.v :: ca).toArray m' [] (Ret (.bool (p x)))) :
  CX Tryz.prog 135 #[.slice a l.length c, .func (.func g) #[] ca.toArray] m [] (Ret (.int .i64 (if l.any p then (l.findIdx p : Nat) else (-1 : Int)))) := by
 apply cx_slices_IndexFunc_rx_Node_rx_Node a l.length c g [] ca
 unfold VC_slices_IndexFunc_rx_Node_rx_Node
 refine ⟨fun xs _ _ m'' q => ∃ i : Nat, i ≤ l.length ∧ xs = [.int .i64 i] ∧ (∀ x ∈ l.take i, p x = false) ∧ m.le m'' ∧ q = l.length - i, ⟨l.length, 0, by omega, rfl, by simp, Mem.le_refl _, by omega⟩, ?_⟩
 rintro n m' q hm ⟨i, hi, hn, hno, hle, hq⟩
 obtain rfl : n = i := by simpa using hn
 refine br_intro (fun hlt => ?_) (fun hge => ?_)
 ·have hlt' : i < l.length := by simpa using hlt
  obtain ⟨x, hx⟩ : ∃ x, l[i]? = some x := ⟨_, List.getElem?_eq_getElem hlt'⟩
  have hmem : x ∈ l := List.mem_of_getElem? hx
  rcases hr with h0 | ⟨b1, o1, ha, hat⟩
  ·rw [h0] at hlt'; simp at hlt'
  obtain ⟨hxr, hxrep⟩ := (hat.mono hm).get hx
  refine ⟨b1, o1, ha, ⟨by omega, by omega⟩, _, _, _, _, _, _, _, _, hxr, call_bool (hp x hmem m' hm hxrep) fun m1 hm1 => br_intro (fun hpx => ?_) (fun hpx => ?_)⟩
  ·refine ret_pure (mLt hm hm1) ?_
   have hany : l.any p = true := List.any_eq_true.2 ⟨x, hmem, hpx⟩
   have hfind : l.findIdx p = i := by
    rw [List.findIdx_eq hlt']
    refine ⟨by rw [(List.getElem?_eq_some_iff.1 hx).2]; exact hpx, fun j hj => ?_⟩
    exact hno _ (List.mem_of_getElem? (i := j) (by rw [List.getElem?_take_of_lt hj]; exact List.getElem?_eq_getElem (by omega)))
   simp [Ret, hany, hfind]
  ·refine ⟨l.length - (i + 1), by omega, i + 1, by omega, by rw [wrap64 (by omega) (by omega)]; rfl, ?_, mLt hm hm1, rfl⟩
   intro y hy
   rw [List.take_add_one, hx] at hy
   rcases List.mem_append.1 hy with hy | hy
   ·exact hno y hy
   ·simp at hy; rw [hy]; exact hpx
 ·have hi' : i = l.length := by
   have : ¬ ((i : Int) < (l.length : Int)) := by simpa using hge
   omega
  subst hi'
  refine ret_pure hm ?_
  have hany : l.any p = false := by
   rw [List.any_eq_false]
   rw [List.take_length] at hno
   exact fun x hx => by simp [hno x hx]
  simp [Ret, hany]
theorem cx_ContainsFunc (l : List T) (a : Option Addr) (c : Nat) (g : Nat) (ca : List Value) (p : T → Bool) (m : Mem) (hl : l.length ≤ 1000000000000000) (hr : l = [] ∨ ∃ b o, a = some ⟨b, o, none⟩ ∧ RepAt m b o l)
  (hp : ∀ x ∈ l, ∀ m', m.le m' → Rep m' x → CX Tryz.prog g (x.v :: ca).toArray m' [] (Ret (.bool (p x)))) :
  CX Tryz.prog 128 #[.slice a l.length c, .func (.func g) #[] ca.toArray] m [] (Ret (.bool (l.any p))) := by
 apply cx_slices_ContainsFunc_rx_Node_rx_Node a l.length c g [] ca
 unfold VC_slices_ContainsFunc_rx_Node_rx_Node
 refine call_int (cx_IndexFunc l a c g ca p m hl hr hp) fun m' hm => ret_pure hm ?_
 cases h : l.any p <;> simp [Ret]
theorem cx_has1 (t : T) (k : Int) (b : Nat) (m : Mem) (hb : m.reads b 0 [.int .u8 k]) : CX Tryz.prog 129 #[t.v, .pointer (some ⟨b, 0, none⟩)] m [] (Ret (.bool (t.k == k))) := by
 apply cx_rx_has_1 (c0b := b) (c0o := 0)
 unfold VC_rx_has_1
 intro b' m' hm _
 exact ⟨_, hm _ _ _ (hb 0 _ rfl), chk_intro rfl (ret_pure hm rfl)⟩
theorem cx_has (t : T) (k : Int) (m : Mem) (hr : Rep m t) : CX Tryz.prog 121 #[t.v, .int .u8 k] m [] (Ret (.bool (t.has k))) := by
 apply cx_rx_has
 unfold VC_rx_has
 intro b m1 hm1 _ b2 m2 hm2 hb2
 have hr' := Rep_iff (hr.mono (mLt hm1 hm2))
 exact call_bool (cx_ContainsFunc t.subs t.a t.c _ [.pointer (some ⟨b2, 0, none⟩)] (fun x => x.k == k) m2 hr'.1 hr'.2 fun x _ m' hm' _ => cx_has1 x k b2 m' (hb2.mono hm')) fun m3 hm3 => ret_pure (mLt hm1 (mLt hm2 hm3)) rfl
theorem cx_Light (t : T) (m : Mem) (hr : Rep m t) : CX Tryz.prog 33 #[t.v] m [] (Ret (.bool t.light)) := by
 apply cx_rx_Light
 unfold VC_rx_Light
 intro b m1 hm1 _ b2
 refine call_any (cx_nodes t m1) (fun v m' css h => by obtain ⟨_, rfl, _⟩ := h; rfl) ?_
 rintro g fi ca m2 hm2 ⟨b3, hv, hb3⟩
 obtain ⟨rfl, rfl, rfl⟩ := func_inj hv
 have hle := mLt hm1 hm2
 refine ⟨_, ix_nodes1 t m2 b3 hb3 (hr.mono hle), fun y hy => ?_, fun _ css _ m' q => css = [[.int .i64 q]] ∧ q ≤ 10000 ∧ q ≤ t.nodes.length, ⟨rfl, by omega, by omega⟩, ?_, ?_⟩
 ·obtain ⟨z, _, rfl⟩ := List.mem_map.1 hy; exact fits_v z
 ·rintro n0 n1 n2 n3 n4 n5 n6 a n7 c cs m3 q hm3 hq ⟨hcs, hq1, _⟩
  obtain rfl : cs = [.int .i64 q] := by simpa using hcs
  have hlt : q < t.nodes.length := by
   have := (List.getElem?_eq_some_iff.1 (show (List.map (fun z : T => [z.v]) t.nodes)[(q : Nat)]? = some _ from hq)).1
   simpa using this
  refine look_intro rfl (chk_intro rfl ?_)
  have hw : IntKind.i64.wrap (intOf (Value.int .i64 (q : Int)) + 1) = (q : Int) + 1 := wrap64 (n := (q : Int) + 1) (by omega) (by omega)
  simp only [hw]
  refine br_intro (fun h => ⟨by trivial, ret_pure (mLt hle hm3) ?_⟩) (fun h => ⟨by trivial, ?_, ?_, by omega⟩)
  ·have : ((q : Int) + 1 > 10000) := by simpa using h
   simp [Ret, T.light]; omega
  ·simp
  ·have : ¬ ((q : Int) + 1 > 10000) := by simpa using h
   omega
 ·rintro cs m3 hm3 ⟨hcs, hq1, _⟩
  obtain rfl : cs = [.int .i64 t.nodes.length] := by simpa using hcs
  refine look_intro rfl (chk_intro rfl (ret_pure (mLt hle hm3) ?_))
  show Value.bool (decide ((t.nodes.length : Int) ≤ 10000)) = Value.bool t.light
  congr 1
  rw [T.light, decide_eq_decide]; omega
end Go.Proofs.YtiadlgdcbpnmkaaGreatDoor
set_option linter.unusedVariables false
set_option linter.unusedSimpArgs false
namespace Go.Proofs.YtiadlgdcbpnmkaaGreatDoor
open Go Go.Eng Go.Proofs Go.RowKit
theorem eqGuard_free {P : Program} {T : TypeId} (hg : P.eqGuardType P.depth T = false) (op : BinOp) (ox oy : Operand) (xs ys : Array Value) (w : World) : (eqGuard op T ox oy (.agg xs) (.agg ys)).run P w = .ok () w := by
 unfold eqGuard
 have h1 : (P.eqGuardType P.depth T) = true → False := fun h => by rw [hg] at h; cases h
 split
 ·simp [go_sem]; exact fun h => (h1 h).elim
 ·simp [go_sem]; exact fun h => (h1 h).elim
 ·simp
theorem eq_set (a b c d a' b' c' d' : Int) : EqIs Tryz.prog 60 (.agg #[.int .u64 a, .int .u64 b, .int .u64 c, .int .u64 d]) (.agg #[.int .u64 a', .int .u64 b', .int .u64 c', .int .u64 d']) (a == a' && b == b' && c == c' && d == d') := by
 refine ⟨fun w => ?_, fun op ox oy w => eqGuard_free (by kernel_rfl) op ox oy _ _ w⟩
 have u3 := Tryz.underlying58
 have a3 := Tryz.isAgg58
 have z3 := Tryz.sizeOf58
 rw [Op.equal, Op.maxDepth, show (10000 : Nat) = 9999 + 1 from rfl, Op.equalIn]
 simp only [Sem.run_bind, run_underlying Tryz.underlying60, Result.andThen_ok]
 simp only [Std.Legacy.Range.forIn_eq_forIn_range', Std.Legacy.Range.size, Nat.sub_zero, Nat.add_sub_cancel, Nat.div_one, List.range'_succ, List.range'_zero, List.forIn_cons, List.forIn_nil]
 go_simp
 by_cases h1 : a = a' <;> by_cases h2 : b = b' <;> by_cases h3 : c = c' <;> by_cases h4 : d = d' <;> simp [h1, h2, h3, h4]
end Go.Proofs.YtiadlgdcbpnmkaaGreatDoor
