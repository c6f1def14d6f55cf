/- Part of the proof: conditions and contracts of functions of this program. No condition of its own. -/
import Derived.Test.YtmggihkjgbnhbaaPEnv
import Derived.Test.YtmggihkjgbnhbaaMc
/- Conditions of functions of this seat's program, as they were printed by a program, and the contracts that follow from them. -/
set_option linter.unusedVariables false
namespace Go.Proofs.Ytmggihkjgbnhbaa
open Go Go.Eng Go.Proofs Go.RowKit
open Go.Value (int slice agg)
open Go.IntKind (u8 u64 i64)
set_option maxRecDepth 100000
noncomputable def E_sets_Of : Env := { EB with
  loops := (fun i => bif Nat.beq i 3 then ⟨[(8, .int .i64)], [3], [], false⟩ else ⟨[], [], [], false⟩) }
def VC_sets_Of (p0a : Option Addr) (p0n p0c : Nat) (m : Mem) (R : Value → Mem → List (List Value) → Prop) : Prop :=
 ∀ (b b_1 : Nat), ∃ (I : IT), (∃ (n : Nat), I [int i64 (0 : Int)] [[int u64 (0 : Int), int u64 (0 : Int), int u64 (0 : Int), int u64 (0 : Int)]] [] m n) ∧ ∀ (n : Int) (cs : List Value) (m' : Mem) (n_1 : Nat), Mem.le m m'
 → I [int i64 n] [cs] [] m' n_1 → br (decide (n < (↑p0n : Int))) (∃ (b_2 : Nat), ∃ (o : Nat), p0a = some (Addr.mk b_2 o none) ∧ inRange n p0n ∧ ∃ (v : Value), m' b_2 (o + Int.toNat n * (1 : Nat)) = some v ∧ chk (isInt u8
 v && true) ((0 : Int) ≤ (6 : Int) ∧ inRange (Int.fdiv (RowKit.intOf v) ((2 : Int) ^ (6 : Nat))) (4 : Nat) ∧ Eng.look cs ((0 : Nat) + Int.toNat (Int.fdiv (RowKit.intOf v) ((2 : Int) ^ (6 : Nat))) * (1 : Nat)) fun (v_1 :
 Value) => chk (isInt u8 v && decide (u8 = u8)) ((0 : Int) ≤ IntKind.wrap u8 (↑(BitVec.toNat (BitVec.ofInt (8 : Nat) (RowKit.intOf v) &&& BitVec.ofInt (8 : Nat) (63 : Int))) : Int) ∧ chk (isInt u64 v_1 && decide (u64 =
 u64)) (inRange (Int.fdiv (RowKit.intOf v) ((2 : Int) ^ (6 : Nat))) (4 : Nat) ∧ chk (Nat.ble ((0 : Nat) + Int.toNat (Int.fdiv (RowKit.intOf v) ((2 : Int) ^ (6 : Nat))) * (1 : Nat) + (1 : Nat)) (List.length cs)) ([some
 (Box.mk b_1 [] (28 : Nat) (4 : Nat) false true), some (Box.mk b [int u64 (0 : Int), int u64 (0 : Int), int u64 (0 : Int), int u64 (0 : Int)] (28 : Nat) (4 : Nat) false true)] = [some (Box.mk b_1 [] (28 : Nat) (4 : Nat)
 false true), some (Box.mk b [int u64 (0 : Int), int u64 (0 : Int), int u64 (0 : Int), int u64 (0 : Int)] (28 : Nat) (4 : Nat) false true)] ∧ ∃ (n' : Nat), n' < n_1 ∧ I [int i64 (IntKind.wrap i64 (n + (1 : Int)))]
 [splice cs ((0 : Nat) + Int.toNat (Int.fdiv (RowKit.intOf v) ((2 : Int) ^ (6 : Nat))) * (1 : Nat)) [int u64 (IntKind.wrap u64 (↑(BitVec.toNat (BitVec.ofInt (64 : Nat) (RowKit.intOf v_1) ||| BitVec.ofInt (64 : Nat)
 (IntKind.wrap u64 ((1 : Int) * (2 : Int) ^ min (Int.toNat (IntKind.wrap u8 (↑(BitVec.toNat (BitVec.ofInt (8 : Nat) (RowKit.intOf v) &&& BitVec.ofInt (8 : Nat) (63 : Int))) : Int))) (64 : Nat))))) : Int))]] [] m' n')))))
 (chk (Nat.beq (List.length cs) (4 : Nat) && onesL cs) (∃ (m'' : Mem), Mem.le m m'' ∧ Mem.le m'' m' ∧ R (agg (Array.mk cs)) m'' []))
theorem VC_sets_Of_eq (p0a : Option Addr) (p0n p0c : Nat) (m : Mem) (R : Value → Mem → List (List Value) → Prop) : VC_sets_Of p0a p0n p0c m R = FW E_sets_Of Try.f17 [.v (.slice p0a p0n p0c)] [] m R := by kernel_rfl
theorem cx_sets_Of (p0a : Option Addr) (p0n p0c : Nat) (m : Mem) (R : Value → Mem → List (List Value) → Prop) (h : VC_sets_Of p0a p0n p0c m R) : CX Try.prog 17 #[.slice p0a p0n p0c] m [] R :=
  CX_of_FW (E := E_sets_Of) (fun t i h => EB_ok t i h) mix Try.func17 [.v (.slice p0a p0n p0c)] [] (by kernel_rfl) ((VC_sets_Of_eq p0a p0n p0c m R).mp h)
noncomputable def E_sets_Range : Env := { EB with
  loops := (fun i => bif Nat.beq i 3 then ⟨[(6, .int .i64)], [5], [], false⟩ else ⟨[], [], [], false⟩)
  dr := (fun i => bif Nat.beq i 5 then [⟨0, [], [], none, [], []⟩, ⟨1, [], [], none, [0], []⟩, ⟨2, [5], [], none, [0, 1], []⟩, ⟨3, [5], [], none, [0, 1, 2], []⟩, ⟨4, [], [], none, [], []⟩, ⟨5, [], [], none, [4], []⟩, ⟨6, [], [], none, [4, 5], []⟩, ⟨7, [], [], none, [0, 1, 2, 3, 4, 5, 6], []⟩, ⟨8, [5], [], none, [0, 1, 2, 3, 4, 5, 6, 7], []⟩, ⟨9, [5], [5], none, [0, 1, 2, 3, 4, 5, 6, 7, 8], []⟩] else []) }
def VC_sets_Range (p0 : Int) (p1 : Int) (m : Mem) (R : Value → Mem → List (List Value) → Prop) : Prop :=
 ∀ (b b_1 : Nat), ∃ (I : IT), (∃ (n : Nat), I [int i64 (IntKind.wrap i64 p0)] [[int u64 (0 : Int), int u64 (0 : Int), int u64 (0 : Int), int u64 (0 : Int)]] [] m n) ∧ ∀ (n : Int) (cs : List Value) (m' : Mem) (n_1 : Nat),
 Mem.le m m' → I [int i64 n] [cs] [] m' n_1 → br (decide (n ≤ IntKind.wrap i64 p1)) ((0 : Int) ≤ (6 : Int) ∧ inRange (Int.fdiv n ((2 : Int) ^ (6 : Nat))) (4 : Nat) ∧ Eng.look cs ((0 : Nat) + Int.toNat (Int.fdiv n ((2 :
 Int) ^ (6 : Nat))) * (1 : Nat)) fun (v : Value) => (0 : Int) ≤ IntKind.wrap i64 (↑(BitVec.toNat (BitVec.ofInt (64 : Nat) n &&& BitVec.ofInt (64 : Nat) (63 : Int))) : Int) ∧ chk (isInt u64 v && decide (u64 = u64))
 (inRange (Int.fdiv n ((2 : Int) ^ (6 : Nat))) (4 : Nat) ∧ chk (Nat.ble ((0 : Nat) + Int.toNat (Int.fdiv n ((2 : Int) ^ (6 : Nat))) * (1 : Nat) + (1 : Nat)) (List.length cs)) ([some (Box.mk b_1 [] (28 : Nat) (4 : Nat)
 false true), some (Box.mk b [int u64 (0 : Int), int u64 (0 : Int), int u64 (0 : Int), int u64 (0 : Int)] (28 : Nat) (4 : Nat) false true)] = [some (Box.mk b_1 [] (28 : Nat) (4 : Nat) false true), some (Box.mk b [int u64
 (0 : Int), int u64 (0 : Int), int u64 (0 : Int), int u64 (0 : Int)] (28 : Nat) (4 : Nat) false true)] ∧ ∃ (n' : Nat), n' < n_1 ∧ I [int i64 (IntKind.wrap i64 (n + (1 : Int)))] [splice cs ((0 : Nat) + Int.toNat (Int.fdiv
 n ((2 : Int) ^ (6 : Nat))) * (1 : Nat)) [int u64 (IntKind.wrap u64 (↑(BitVec.toNat (BitVec.ofInt (64 : Nat) (RowKit.intOf v) ||| BitVec.ofInt (64 : Nat) (IntKind.wrap u64 ((1 : Int) * (2 : Int) ^ min (Int.toNat
 (IntKind.wrap i64 (↑(BitVec.toNat (BitVec.ofInt (64 : Nat) n &&& BitVec.ofInt (64 : Nat) (63 : Int))) : Int))) (64 : Nat))))) : Int))]] [] m' n'))) (chk (Nat.beq (List.length cs) (4 : Nat) && onesL cs) (∃ (m'' : Mem),
 Mem.le m m'' ∧ Mem.le m'' m' ∧ R (agg (Array.mk cs)) m'' []))
theorem VC_sets_Range_eq (p0 : Int) (p1 : Int) (m : Mem) (R : Value → Mem → List (List Value) → Prop) : VC_sets_Range p0 p1 m R = FW E_sets_Range Try.f46 [.v (.int .u8 p0), .v (.int .u8 p1)] [] m R := by kernel_rfl
theorem cx_sets_Range (p0 : Int) (p1 : Int) (m : Mem) (R : Value → Mem → List (List Value) → Prop) (h : VC_sets_Range p0 p1 m R) : CX Try.prog 46 #[.int .u8 p0, .int .u8 p1] m [] R :=
  CX_of_FW (E := E_sets_Range) (fun t i h => EB_ok t i h) mix Try.func46 [.v (.int .u8 p0), .v (.int .u8 p1)] [] (by kernel_rfl) ((VC_sets_Range_eq p0 p1 m R).mp h)
noncomputable def E_rx_Of : Env := { EB with
  frzNew := [1] }
def VC_rx_Of (p0_0 : Int) (p0_1 : Int) (p0_2 : Int) (p0_3 : Int) (m : Mem) (R : Value → Mem → List (List Value) → Prop) : Prop :=
 ∀ (b : Nat) (m' : Mem), Mem.le m m' → Mem.reads m' b (0 : Nat) [int u64 p0_0, int u64 p0_1, int u64 p0_2, int u64 p0_3] → ∀ (b : Nat), ∃ (b : Bool), EqIs Try.prog (28 : Nat) (agg (Array.mk [int u64 p0_0, int u64 p0_1,
 int u64 p0_2, int u64 p0_3])) (agg (Array.mk [int u64 (0 : Int), int u64 (0 : Int), int u64 (0 : Int), int u64 (0 : Int)])) b ∧ br b (∃ (m'' : Mem), Mem.le m m'' ∧ Mem.le m'' m' ∧ R (agg (Array.mk [int u8 (0 : Int), int
 u64 (0 : Int), int u64 (0 : Int), int u64 (0 : Int), int u64 (0 : Int), int i64 (0 : Int), int i64 (0 : Int), slice none (0 : Nat) (0 : Nat)])) m'' []) (∃ (m'' : Mem), Mem.le m m'' ∧ Mem.le m'' m' ∧ R (agg (Array.mk
 [int u8 (2 : Int), int u64 p0_0, int u64 p0_1, int u64 p0_2, int u64 p0_3, int i64 (0 : Int), int i64 (0 : Int), slice none (0 : Nat) (0 : Nat)])) m'' [])
theorem VC_rx_Of_eq (p0_0 : Int) (p0_1 : Int) (p0_2 : Int) (p0_3 : Int) (m : Mem) (R : Value → Mem → List (List Value) → Prop) : VC_rx_Of p0_0 p0_1 p0_2 p0_3 m R = FW E_rx_Of Try.f45 [.v (.agg #[.int .u64 p0_0, .int .u64 p0_1, .int .u64 p0_2, .int .u64 p0_3])] [] m R := by kernel_rfl
theorem cx_rx_Of (p0_0 : Int) (p0_1 : Int) (p0_2 : Int) (p0_3 : Int) (m : Mem) (R : Value → Mem → List (List Value) → Prop) (h : VC_rx_Of p0_0 p0_1 p0_2 p0_3 m R) : CX Try.prog 45 #[.agg #[.int .u64 p0_0, .int .u64 p0_1, .int .u64 p0_2, .int .u64 p0_3]] m [] R :=
  CX_of_FW (E := E_rx_Of) (fun t i h => EB_ok t i h) mix Try.func45 [.v (.agg #[.int .u64 p0_0, .int .u64 p0_1, .int .u64 p0_2, .int .u64 p0_3])] [] (by kernel_rfl) ((VC_rx_Of_eq p0_0 p0_1 p0_2 p0_3 m R).mp h)
noncomputable def E_rx_Byte : Env := EB
def VC_rx_Byte (p0 : Int) (m : Mem) (R : Value → Mem → List (List Value) → Prop) : Prop :=
 ∀ (b b : Nat), Mem.free m b → ∃ (R_1 : RT), True ∧ CX Try.prog (17 : Nat) (Array.mk [slice (some (Addr.mk b (0 : Nat) none)) (1 : Nat) (1 : Nat)]) (Mem.add m b [int u8 p0]) [] R_1 ∧ Fits (Shape.agg [Shape.int u64,
 Shape.int u64, Shape.int u64, Shape.int u64]) R_1 ∧ ∀ (n n_1 n_2 n_3 : Int) (m' : Mem), Mem.le (Mem.add m b [int u8 p0]) m' → R_1 (agg (Array.mk [int u64 n, int u64 n_1, int u64 n_2, int u64 n_3])) m' [] → ∃ (R_2 : RT),
 True ∧ CX Try.prog (45 : Nat) (Array.mk [agg (Array.mk [int u64 n, int u64 n_1, int u64 n_2, int u64 n_3])]) m' [] R_2 ∧ Fits (shT) R_2 ∧ ∀ (n n_4 n_5 n_6 n_7 n_8 n_9 : Int) (a : Option Addr) (n_10 c : Nat) (m'_1 :
 Mem), Mem.le m' m'_1 → R_2 (agg (Array.mk [int u8 n, int u64 n_4, int u64 n_5, int u64 n_6, int u64 n_7, int i64 n_8, int i64 n_9, slice a n_10 c])) m'_1 [] → ∃ (m'' : Mem), Mem.le m m'' ∧ Mem.le m'' m'_1 ∧ R (agg
 (Array.mk [int u8 n, int u64 n_4, int u64 n_5, int u64 n_6, int u64 n_7, int i64 n_8, int i64 n_9, slice a n_10 c])) m'' []
theorem VC_rx_Byte_eq (p0 : Int) (m : Mem) (R : Value → Mem → List (List Value) → Prop) : VC_rx_Byte p0 m R = FW E_rx_Byte Try.f31 [.v (.int .u8 p0)] [] m R := by kernel_rfl
theorem cx_rx_Byte (p0 : Int) (m : Mem) (R : Value → Mem → List (List Value) → Prop) (h : VC_rx_Byte p0 m R) : CX Try.prog 31 #[.int .u8 p0] m [] R :=
  CX_of_FW (E := E_rx_Byte) (fun t i h => EB_ok t i h) mix Try.func31 [.v (.int .u8 p0)] [] (by kernel_rfl) ((VC_rx_Byte_eq p0 m R).mp h)
noncomputable def E_law15_fits : Env := { EB with
  joins := (fun i => bif Nat.beq i 1 then some [(2, .bool)] else none)
  frzNew := [1]
  gb := true }
def VC_law15_fits (p0_0 : Int) (p0_1 : Int) (p0_2 : Int) (p0_3 : Int) (p0_4 : Int) (p0_5 : Int) (p0_6 : Int) (p0_7a : Option Addr) (p0_7n p0_7c : Nat) (m : Mem) (R : Value → Mem → List (List Value) → Prop) : Prop :=
 ∀ (b : Nat) (m' : Mem), Mem.le m m' → Mem.reads m' b (0 : Nat) [int u8 p0_0, int u64 p0_1, int u64 p0_2, int u64 p0_3, int u64 p0_4, int i64 p0_5, int i64 p0_6, slice p0_7a p0_7n p0_7c] → ∃ (b_1 : Bool), (∃ (R : RT),
 True ∧ CX Try.prog (65 : Nat) (Array.mk [agg (Array.mk [Value.bool false, Value.bool false, int u8 p0_0, int u64 p0_1, int u64 p0_2, int u64 p0_3, int u64 p0_4, int i64 p0_5, int i64 p0_6, slice p0_7a p0_7n p0_7c])]) m'
 [] R ∧ Fits (Shape.int i64) R ∧ ∀ (n : Int) (m'_1 : Mem), Mem.le m' m'_1 → R (int i64 n) m'_1 [] → br (n == (0 : Int)) (∃ (R : RT), True ∧ CX Try.prog (22 : Nat) (Array.mk [agg (Array.mk [int u8 p0_0, int u64 p0_1, int
 u64 p0_2, int u64 p0_3, int u64 p0_4, int i64 p0_5, int i64 p0_6, slice p0_7a p0_7n p0_7c])]) m'_1 [] R ∧ Fits (Shape.int i64) R ∧ ∀ (n : Int) (m' : Mem), Mem.le m'_1 m' → R (int i64 n) m' [] → [some (Box.mk b [int u8
 p0_0, int u64 p0_1, int u64 p0_2, int u64 p0_3, int u64 p0_4, int i64 p0_5, int i64 p0_6, slice p0_7a p0_7n p0_7c] (30 : Nat) (8 : Nat) true true)] = [some (Box.mk b [int u8 p0_0, int u64 p0_1, int u64 p0_2, int u64
 p0_3, int u64 p0_4, int i64 p0_5, int i64 p0_6, slice p0_7a p0_7n p0_7c] (30 : Nat) (8 : Nat) true true)] ∧ [Value.bool (decide (n ≤ (60 : Int)))] = [Value.bool b_1]) ([some (Box.mk b [int u8 p0_0, int u64 p0_1, int u64
 p0_2, int u64 p0_3, int u64 p0_4, int i64 p0_5, int i64 p0_6, slice p0_7a p0_7n p0_7c] (30 : Nat) (8 : Nat) true true)] = [some (Box.mk b [int u8 p0_0, int u64 p0_1, int u64 p0_2, int u64 p0_3, int u64 p0_4, int i64
 p0_5, int i64 p0_6, slice p0_7a p0_7n p0_7c] (30 : Nat) (8 : Nat) true true)] ∧ [Value.bool false] = [Value.bool b_1])) ∧ ∃ (m'' : Mem), Mem.le m m'' ∧ Mem.le m'' m' ∧ R (Value.bool b_1) m'' []
theorem VC_law15_fits_eq (p0_0 : Int) (p0_1 : Int) (p0_2 : Int) (p0_3 : Int) (p0_4 : Int) (p0_5 : Int) (p0_6 : Int) (p0_7a : Option Addr) (p0_7n p0_7c : Nat) (m : Mem) (R : Value → Mem → List (List Value) → Prop) : VC_law15_fits p0_0 p0_1 p0_2 p0_3 p0_4 p0_5 p0_6 p0_7a p0_7n p0_7c m R = FW E_law15_fits Try.f49 [.v (.agg #[.int .u8 p0_0, .int .u64 p0_1, .int .u64 p0_2, .int .u64 p0_3, .int .u64 p0_4, .int .i64 p0_5, .int .i64 p0_6, .slice p0_7a p0_7n p0_7c])] [] m R := by kernel_rfl
theorem cx_law15_fits (p0_0 : Int) (p0_1 : Int) (p0_2 : Int) (p0_3 : Int) (p0_4 : Int) (p0_5 : Int) (p0_6 : Int) (p0_7a : Option Addr) (p0_7n p0_7c : Nat) (m : Mem) (R : Value → Mem → List (List Value) → Prop) (h : VC_law15_fits p0_0 p0_1 p0_2 p0_3 p0_4 p0_5 p0_6 p0_7a p0_7n p0_7c m R) : CX Try.prog 49 #[.agg #[.int .u8 p0_0, .int .u64 p0_1, .int .u64 p0_2, .int .u64 p0_3, .int .u64 p0_4, .int .i64 p0_5, .int .i64 p0_6, .slice p0_7a p0_7n p0_7c]] m [] R :=
  CX_of_FW (E := E_law15_fits) (fun t i h => EB_ok t i h) mix Try.func49 [.v (.agg #[.int .u8 p0_0, .int .u64 p0_1, .int .u64 p0_2, .int .u64 p0_3, .int .u64 p0_4, .int .i64 p0_5, .int .i64 p0_6, .slice p0_7a p0_7n p0_7c])] [] (by kernel_rfl) ((VC_law15_fits_eq p0_0 p0_1 p0_2 p0_3 p0_4 p0_5 p0_6 p0_7a p0_7n p0_7c m R).mp h)
noncomputable def E_law15_word : Env := { EB with
  loops := (fun i => bif Nat.beq i 3 then ⟨[(3, .slice), (12, .int .i64)], [], [(21, 1)], false⟩ else ⟨[], [], [], false⟩)
  tokOf := (fun i => bif Nat.beq i 21 then 21 else 0) }
def VC_law15_word (p0a : Option Addr) (p0n p0c : Nat) (m : Mem) (R : Value → Mem → List (List Value) → Prop) : Prop :=
 (((0 : Int) ≤ if (8 : Int) < (↑p0n : Int) then (8 : Int) else (↑p0n : Int)) ∧ (if (8 : Int) < (↑p0n : Int) then (8 : Int) else (↑p0n : Int)) ≤ (↑p0c : Int)) ∧ ∃ (I : IT), (∃ (n : Nat), I [slice none (0 : Nat) (0 : Nat),
 int i64 (0 : Int)] [] [slice none (0 : Nat) (0 : Nat)] m n) ∧ ∀ (a : Option Addr) (n c : Nat) (n_1 : Int) (a_1 : Option Addr) (n_2 c_1 : Nat) (m' : Mem) (n_3 : Nat), Mem.le m m' → I [slice a n c, int i64 n_1] [] [slice
 a_1 n_2 c_1] m' n_3 → br (decide (n_1 < (↑(Int.toNat (if (8 : Int) < (↑p0n : Int) then (8 : Int) else (↑p0n : Int)) - (0 : Nat)) : Int))) (∃ (b : Nat), ∃ (o : Nat), slBase p0a (0 : Nat) p0c (1 : Nat) = some (Addr.mk b o
 none) ∧ inRange n_1 (Int.toNat (if (8 : Int) < (↑p0n : Int) then (8 : Int) else (↑p0n : Int)) - (0 : Nat)) ∧ ∃ (v : Value), m' b (o + Int.toNat n_1 * (1 : Nat)) = some v ∧ chk (isInt u8 v && decide (u8 = u8)) ((4 : Int)
 ≠ (0 : Int) ∧ ∀ (b : Nat), Mem.free m' b → (Tok.mk (slice a_1 n_2 c_1) (1 : Nat) = Tok.mk (slice a n c) (1 : Nat) ∨ slice a n c = slice none (0 : Nat) (0 : Nat) ∨ c < n + (1 : Nat)) ∧ ∃ (xs : List Value), ∃ (ys : List
 Value), List.length xs = n * (1 : Nat) ∧ List.length ys = (1 : Nat) * (1 : Nat) ∧ rowRd (Mem.add m' b [int u8 (IntKind.wrap u8 ((97 : Int) + Int.tmod (RowKit.intOf v) (4 : Int)))]) a xs ∧ rowRd (Mem.add m' b [int u8
 (IntKind.wrap u8 ((97 : Int) + Int.tmod (RowKit.intOf v) (4 : Int)))]) (some (Addr.mk b (0 : Nat) none)) ys ∧ (∀ (u : Value), u ∈ ys → Value.oneCell' u = true) ∧ (n + (1 : Nat)) * (1 : Nat) ≤ (140737488355328 : Nat) ∧ n
 + (1 : Nat) ≤ (9223372036854775807 : Nat) ∧ ∀ (a' : Option Addr) (c' : Nat) (m'_1 : Mem), Mem.le (Mem.add m' b [int u8 (IntKind.wrap u8 ((97 : Int) + Int.tmod (RowKit.intOf v) (4 : Int)))]) m'_1 → rowRd m'_1 a'
 (List.append xs ys) → ∃ (n' : Nat), n' < n_3 ∧ I [slice a' (n + (1 : Nat)) c', int i64 (IntKind.wrap i64 (n_1 + (1 : Int)))] [] [slice a' (n + (1 : Nat)) c'] m'_1 n')) (∃ (m'' : Mem), Mem.le m m'' ∧ Mem.le m'' m' ∧ R
 (slice a n c) m'' [])
theorem VC_law15_word_eq (p0a : Option Addr) (p0n p0c : Nat) (m : Mem) (R : Value → Mem → List (List Value) → Prop) : VC_law15_word p0a p0n p0c m R = FW E_law15_word Try.f9 [.v (.slice p0a p0n p0c)] [] m R := by kernel_rfl
theorem cx_law15_word (p0a : Option Addr) (p0n p0c : Nat) (m : Mem) (R : Value → Mem → List (List Value) → Prop) (h : VC_law15_word p0a p0n p0c m R) : CX Try.prog 9 #[.slice p0a p0n p0c] m [] R :=
  CX_of_FW (E := E_law15_word) (fun t i h => EB_ok t i h) mix Try.func9 [.v (.slice p0a p0n p0c)] [] (by kernel_rfl) ((VC_law15_word_eq p0a p0n p0c m R).mp h)
noncomputable def E_law15_put : Env := { EB with
  tokOf := (fun i => bif Nat.beq i 6 then 18 else bif Nat.beq i 18 then 18 else bif Nat.beq i 21 then 18 else 0)
  frzNew := [4]
  thaw := true }
def VC_law15_put (p0a : Option Addr) (p0n p0c : Nat) (p1_0 : Int) (p1_1 : Int) (p1_2 : Int) (p1_3 : Int) (p1_4 : Int) (p1_5 : Int) (p1_6 : Int) (p1_7a : Option Addr) (p1_7n p1_7c : Nat) (p2a : Option Addr) (p2n p2c : Nat) (m : Mem) (R : Value → Mem → List (List Value) → Prop) : Prop :=
 ∀ (b : Nat) (m' : Mem), Mem.le m m' → Mem.reads m' b (0 : Nat) [int u8 p1_0, int u64 p1_1, int u64 p1_2, int u64 p1_3, int u64 p1_4, int i64 p1_5, int i64 p1_6, slice p1_7a p1_7n p1_7c] → ((0 : Int) ≤ (↑p0n : Int) ∧
 (↑p0n : Int) ≤ (↑p0c : Int)) ∧ ((0 : Int) ≤ (↑p0n : Int) ∧ (↑p0n : Int) ≤ (↑(Int.toNat (↑p0n : Int)) : Int)) ∧ ∃ (R_1 : RT), True ∧ CX Try.prog (49 : Nat) (Array.mk [agg (Array.mk [int u8 p1_0, int u64 p1_1, int u64
 p1_2, int u64 p1_3, int u64 p1_4, int i64 p1_5, int i64 p1_6, slice p1_7a p1_7n p1_7c])]) m' [] R_1 ∧ Fits Shape.bool R_1 ∧ ∀ (b : Bool) (aa : Mem), Mem.le m' aa → R_1 (Value.bool b) aa [] → br b (∀ (b : Nat), Mem.free
 aa b → (slice (slBase p0a (0 : Nat) (Int.toNat (↑p0n : Int)) (8 : Nat)) (Int.toNat (↑p0n : Int) - (0 : Nat)) (Int.toNat (↑p0n : Int) - (0 : Nat)) = slice none (0 : Nat) (0 : Nat) ∨ Int.toNat (↑p0n : Int) - (0 : Nat) <
 Int.toNat (↑p0n : Int) - (0 : Nat) + (1 : Nat)) ∧ ∃ (xs : List Value), ∃ (ys : List Value), List.length xs = (Int.toNat (↑p0n : Int) - (0 : Nat)) * (8 : Nat) ∧ List.length ys = (1 : Nat) * (8 : Nat) ∧ rowRd (Mem.add aa
 b [int u8 p1_0, int u64 p1_1, int u64 p1_2, int u64 p1_3, int u64 p1_4, int i64 p1_5, int i64 p1_6, slice p1_7a p1_7n p1_7c]) (slBase p0a (0 : Nat) (Int.toNat (↑p0n : Int)) (8 : Nat)) xs ∧ rowRd (Mem.add aa b [int u8
 p1_0, int u64 p1_1, int u64 p1_2, int u64 p1_3, int u64 p1_4, int i64 p1_5, int i64 p1_6, slice p1_7a p1_7n p1_7c]) (some (Addr.mk b (0 : Nat) none)) ys ∧ (∀ (u : Value), u ∈ ys → Value.oneCell' u = true) ∧ (Int.toNat
 (↑p0n : Int) - (0 : Nat) + (1 : Nat)) * (80 : Nat) ≤ (140737488355328 : Nat) ∧ Int.toNat (↑p0n : Int) - (0 : Nat) + (1 : Nat) ≤ (9223372036854775807 : Nat) ∧ ∀ (a' : Option Addr) (c' : Nat) (m' : Mem), Mem.le (Mem.add
 aa b [int u8 p1_0, int u64 p1_1, int u64 p1_2, int u64 p1_3, int u64 p1_4, int i64 p1_5, int i64 p1_6, slice p1_7a p1_7n p1_7c]) m' → rowRd m' a' (List.append xs ys) → TokFact (Mem.add aa b [int u8 p1_0, int u64 p1_1,
 int u64 p1_2, int u64 p1_3, int u64 p1_4, int i64 p1_5, int i64 p1_6, slice p1_7a p1_7n p1_7c]) (slBase p0a (0 : Nat) (Int.toNat (↑p0n : Int)) (8 : Nat)) a' (Int.toNat (↑p0n : Int) - (0 : Nat) + (1 : Nat)) c' → some
 (Tok.mk (slice a' (Int.toNat (↑p0n : Int) - (0 : Nat) + (1 : Nat)) c') (8 : Nat)) = some (Tok.mk (slice a' (Int.toNat (↑p0n : Int) - (0 : Nat) + (1 : Nat)) c') (8 : Nat)) ∧ R (slice a' (Int.toNat (↑p0n : Int) - (0 :
 Nat) + (1 : Nat)) c') m' []) ((slice (slBase p0a (0 : Nat) (Int.toNat (↑p0n : Int)) (8 : Nat)) (Int.toNat (↑p0n : Int) - (0 : Nat)) (Int.toNat (↑p0n : Int) - (0 : Nat)) = slice none (0 : Nat) (0 : Nat) ∨ Int.toNat (↑p0n
 : Int) - (0 : Nat) < Int.toNat (↑p0n : Int) - (0 : Nat) + p2n) ∧ ∃ (xs : List Value), ∃ (ys : List Value), List.length xs = (Int.toNat (↑p0n : Int) - (0 : Nat)) * (8 : Nat) ∧ List.length ys = p2n * (8 : Nat) ∧ rowRd aa
 (slBase p0a (0 : Nat) (Int.toNat (↑p0n : Int)) (8 : Nat)) xs ∧ rowRd aa p2a ys ∧ (∀ (u : Value), u ∈ ys → Value.oneCell' u = true) ∧ (Int.toNat (↑p0n : Int) - (0 : Nat) + p2n) * (80 : Nat) ≤ (140737488355328 : Nat) ∧
 Int.toNat (↑p0n : Int) - (0 : Nat) + p2n ≤ (9223372036854775807 : Nat) ∧ ∀ (a' : Option Addr) (c' : Nat) (m' : Mem), Mem.le aa m' → rowRd m' a' (List.append xs ys) → TokFact aa (slBase p0a (0 : Nat) (Int.toNat (↑p0n :
 Int)) (8 : Nat)) a' (Int.toNat (↑p0n : Int) - (0 : Nat) + p2n) c' → some (Tok.mk (slice a' (Int.toNat (↑p0n : Int) - (0 : Nat) + p2n) c') (8 : Nat)) = some (Tok.mk (slice a' (Int.toNat (↑p0n : Int) - (0 : Nat) + p2n)
 c') (8 : Nat)) ∧ R (slice a' (Int.toNat (↑p0n : Int) - (0 : Nat) + p2n) c') m' [])
theorem VC_law15_put_eq (p0a : Option Addr) (p0n p0c : Nat) (p1_0 : Int) (p1_1 : Int) (p1_2 : Int) (p1_3 : Int) (p1_4 : Int) (p1_5 : Int) (p1_6 : Int) (p1_7a : Option Addr) (p1_7n p1_7c : Nat) (p2a : Option Addr) (p2n p2c : Nat) (m : Mem) (R : Value → Mem → List (List Value) → Prop) : VC_law15_put p0a p0n p0c p1_0 p1_1 p1_2 p1_3 p1_4 p1_5 p1_6 p1_7a p1_7n p1_7c p2a p2n p2c m R = FWT E_law15_put Try.f47 [.v (.slice p0a p0n p0c), .v (.agg #[.int .u8 p1_0, .int .u64 p1_1, .int .u64 p1_2, .int .u64 p1_3, .int .u64 p1_4, .int .i64 p1_5, .int .i64 p1_6, .slice p1_7a p1_7n p1_7c]), .v (.slice p2a p2n p2c)] m 8 R := by kernel_rfl
theorem cxt_law15_put (p0a : Option Addr) (p0n p0c : Nat) (p1_0 : Int) (p1_1 : Int) (p1_2 : Int) (p1_3 : Int) (p1_4 : Int) (p1_5 : Int) (p1_6 : Int) (p1_7a : Option Addr) (p1_7n p1_7c : Nat) (p2a : Option Addr) (p2n p2c : Nat) (m : Mem) (R : Value → Mem → List (List Value) → Prop) (h : VC_law15_put p0a p0n p0c p1_0 p1_1 p1_2 p1_3 p1_4 p1_5 p1_6 p1_7a p1_7n p1_7c p2a p2n p2c m R) : CXT Try.prog 47 #[.slice p0a p0n p0c, .agg #[.int .u8 p1_0, .int .u64 p1_1, .int .u64 p1_2, .int .u64 p1_3, .int .u64 p1_4, .int .i64 p1_5, .int .i64 p1_6, .slice p1_7a p1_7n p1_7c], .slice p2a p2n p2c] m 8 R :=
  CXT_of_FWT (E := E_law15_put) (fun t i h => EB_ok t i h) mix Try.func47 [.v (.slice p0a p0n p0c), .v (.agg #[.int .u8 p1_0, .int .u64 p1_1, .int .u64 p1_2, .int .u64 p1_3, .int .u64 p1_4, .int .i64 p1_5, .int .i64 p1_6, .slice p1_7a p1_7n p1_7c]), .v (.slice p2a p2n p2c)] (by kernel_rfl) ((VC_law15_put_eq p0a p0n p0c p1_0 p1_1 p1_2 p1_3 p1_4 p1_5 p1_6 p1_7a p1_7n p1_7c p2a p2n p2c m R).mp h)
end Go.Proofs.Ytmggihkjgbnhbaa

