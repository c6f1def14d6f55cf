/- Part of the proof: conditions and contracts of functions of this program. No condition of its own. -/
import Derived.Test.YtmggihkjgbnhbaaPEnv
import Derived.Test.YtmggihkjgbnhbaaMc
set_option linter.unusedVariables false
namespace Go.Proofs.Ytmggihkjgbnhbaa
open Go Go.Eng Go.Proofs Go.RowKit
open Go.Value (int slice agg)
open Go.IntKind (u8 u64 i64)
set_option maxRecDepth 100000
noncomputable def E_sets_Of : Env := { EB with
 loops := (fun i => bif Nat.beq i 3 then ⟨[(8, .int .i64)], [3], [], false⟩ else ⟨[], [], [], false⟩) }
def VC_sets_Of (p0a : Option Addr) (p0n p0c : Nat) (m : Mem) (R : RT) : Prop :=
 ∀ (b b_1 : Nat), ∃ (I : IT), (∃ (n : Nat), I [int i64 (0 : Int)] [[int u64 (0 : Int), int u64 (0 : Int), int u64 (0 : Int), int u64 (0 : Int)]] [] m n) ∧ ∀ (n : Int) (cs : List Value) (m' : Mem) (n_1 : Nat), Mem.le m m'
 → I [int i64 n] [cs] [] m' n_1 → br (decide (n < (↑p0n : Int))) (∃ (b_2 : Nat), ∃ (o : Nat), p0a = some (Addr.mk b_2 o none) ∧ inRange n p0n ∧ ∃ (v : Value), m' b_2 (o + Int.toNat n * (1 : Nat)) = some v ∧ chk (isInt u8
 v && true) ((0 : Int) ≤ (6 : Int) ∧ inRange (Int.fdiv (RowKit.intOf v) ((2 : Int) ^ (6 : Nat))) (4 : Nat) ∧ Eng.look cs ((0 : Nat) + Int.toNat (Int.fdiv (RowKit.intOf v) ((2 : Int) ^ (6 : Nat))) * (1 : Nat)) fun (v_1 :
 Value) => chk (isInt u8 v && decide (u8 = u8)) ((0 : Int) ≤ IntKind.wrap u8 (↑(BitVec.toNat (BitVec.ofInt (8 : Nat) (RowKit.intOf v) &&& BitVec.ofInt (8 : Nat) (63 : Int))) : Int) ∧ chk (isInt u64 v_1 && decide (u64 =
 u64)) (inRange (Int.fdiv (RowKit.intOf v) ((2 : Int) ^ (6 : Nat))) (4 : Nat) ∧ chk (Nat.ble ((0 : Nat) + Int.toNat (Int.fdiv (RowKit.intOf v) ((2 : Int) ^ (6 : Nat))) * (1 : Nat) + (1 : Nat)) (List.length cs)) ([some
 (Box.mk b_1 [] (28 : Nat) (4 : Nat) false true), some (Box.mk b [int u64 (0 : Int), int u64 (0 : Int), int u64 (0 : Int), int u64 (0 : Int)] (28 : Nat) (4 : Nat) false true)] = [some (Box.mk b_1 [] (28 : Nat) (4 : Nat)
 false true), some (Box.mk b [int u64 (0 : Int), int u64 (0 : Int), int u64 (0 : Int), int u64 (0 : Int)] (28 : Nat) (4 : Nat) false true)] ∧ ∃ (n' : Nat), n' < n_1 ∧ I [int i64 (IntKind.wrap i64 (n + (1 : Int)))]
 [splice cs ((0 : Nat) + Int.toNat (Int.fdiv (RowKit.intOf v) ((2 : Int) ^ (6 : Nat))) * (1 : Nat)) [int u64 (IntKind.wrap u64 (↑(BitVec.toNat (BitVec.ofInt (64 : Nat) (RowKit.intOf v_1) ||| BitVec.ofInt (64 : Nat)
 (IntKind.wrap u64 ((1 : Int) * (2 : Int) ^ min (Int.toNat (IntKind.wrap u8 (↑(BitVec.toNat (BitVec.ofInt (8 : Nat) (RowKit.intOf v) &&& BitVec.ofInt (8 : Nat) (63 : Int))) : Int))) (64 : Nat))))) : Int))]] [] m' n')))))
 (chk (Nat.beq (List.length cs) (4 : Nat) && onesL cs) (∃ (m'' : Mem), Mem.le m m'' ∧ Mem.le m'' m' ∧ R (agg (Array.mk cs)) m'' []))
theorem cx_sets_Of (p0a : Option Addr) (p0n p0c : Nat) (m : Mem) (R : RT) (h : VC_sets_Of p0a p0n p0c m R) : CX Try.prog 17 #[.slice p0a p0n p0c] m [] R :=
 CX_of_FW (E := E_sets_Of) (fun t i h => EB_ok t i h) mix Try.func17 [.v (.slice p0a p0n p0c)] [] (by kernel_rfl) ((show VC_sets_Of p0a p0n p0c m R = FW E_sets_Of Try.f17 [.v (.slice p0a p0n p0c)] [] m R by kernel_rfl).mp h)
noncomputable def E_rx_Of : Env := { EB with
 frzNew := [1] }
def VC_rx_Of (p0_0 : Int) (p0_1 : Int) (p0_2 : Int) (p0_3 : Int) (m : Mem) (R : RT) : Prop :=
 ∀ (b : Nat) (m' : Mem), Mem.le m m' → Mem.reads m' b (0 : Nat) [int u64 p0_0, int u64 p0_1, int u64 p0_2, int u64 p0_3] → ∀ (b : Nat), ∃ (b : Bool), EqIs Try.prog (28 : Nat) (agg (Array.mk [int u64 p0_0, int u64 p0_1,
 int u64 p0_2, int u64 p0_3])) (agg (Array.mk [int u64 (0 : Int), int u64 (0 : Int), int u64 (0 : Int), int u64 (0 : Int)])) b ∧ br b (∃ (m'' : Mem), Mem.le m m'' ∧ Mem.le m'' m' ∧ R (agg (Array.mk [int u8 (0 : Int), int
 u64 (0 : Int), int u64 (0 : Int), int u64 (0 : Int), int u64 (0 : Int), int i64 (0 : Int), int i64 (0 : Int), slice none (0 : Nat) (0 : Nat)])) m'' []) (∃ (m'' : Mem), Mem.le m m'' ∧ Mem.le m'' m' ∧ R (agg (Array.mk
 [int u8 (2 : Int), int u64 p0_0, int u64 p0_1, int u64 p0_2, int u64 p0_3, int i64 (0 : Int), int i64 (0 : Int), slice none (0 : Nat) (0 : Nat)])) m'' [])
theorem cx_rx_Of (p0_0 : Int) (p0_1 : Int) (p0_2 : Int) (p0_3 : Int) (m : Mem) (R : RT) (h : VC_rx_Of p0_0 p0_1 p0_2 p0_3 m R) : CX Try.prog 45 #[.agg #[.int .u64 p0_0, .int .u64 p0_1, .int .u64 p0_2, .int .u64 p0_3]] m [] R :=
 CX_of_FW (E := E_rx_Of) (fun t i h => EB_ok t i h) mix Try.func45 [.v (.agg #[.int .u64 p0_0, .int .u64 p0_1, .int .u64 p0_2, .int .u64 p0_3])] [] (by kernel_rfl) ((show VC_rx_Of p0_0 p0_1 p0_2 p0_3 m R = FW E_rx_Of Try.f45 [.v (.agg #[.int .u64 p0_0, .int .u64 p0_1, .int .u64 p0_2, .int .u64 p0_3])] [] m R by kernel_rfl).mp h)
noncomputable def E_rx_Byte : Env := EB
def VC_rx_Byte (p0 : Int) (m : Mem) (R : RT) : Prop :=
 ∀ (b b : Nat), Mem.free m b → ∃ (R_1 : RT), True ∧ CX Try.prog (17 : Nat) (Array.mk [slice (some (Addr.mk b (0 : Nat) none)) (1 : Nat) (1 : Nat)]) (Mem.add m b [int u8 p0]) [] R_1 ∧ Fits (Shape.agg [Shape.int u64,
 Shape.int u64, Shape.int u64, Shape.int u64]) R_1 ∧ ∀ (n n_1 n_2 n_3 : Int) (m' : Mem), Mem.le (Mem.add m b [int u8 p0]) m' → R_1 (agg (Array.mk [int u64 n, int u64 n_1, int u64 n_2, int u64 n_3])) m' [] → ∃ (R_2 : RT),
 True ∧ CX Try.prog (45 : Nat) (Array.mk [agg (Array.mk [int u64 n, int u64 n_1, int u64 n_2, int u64 n_3])]) m' [] R_2 ∧ Fits (shT) R_2 ∧ ∀ (n n_4 n_5 n_6 n_7 n_8 n_9 : Int) (a : Option Addr) (n_10 c : Nat) (m'_1 :
 Mem), Mem.le m' m'_1 → R_2 (agg (Array.mk [int u8 n, int u64 n_4, int u64 n_5, int u64 n_6, int u64 n_7, int i64 n_8, int i64 n_9, slice a n_10 c])) m'_1 [] → ∃ (m'' : Mem), Mem.le m m'' ∧ Mem.le m'' m'_1 ∧ R (agg
 (Array.mk [int u8 n, int u64 n_4, int u64 n_5, int u64 n_6, int u64 n_7, int i64 n_8, int i64 n_9, slice a n_10 c])) m'' []
theorem cx_rx_Byte (p0 : Int) (m : Mem) (R : RT) (h : VC_rx_Byte p0 m R) : CX Try.prog 31 #[.int .u8 p0] m [] R :=
 CX_of_FW (E := E_rx_Byte) (fun t i h => EB_ok t i h) mix Try.func31 [.v (.int .u8 p0)] [] (by kernel_rfl) ((show VC_rx_Byte p0 m R = FW E_rx_Byte Try.f31 [.v (.int .u8 p0)] [] m R by kernel_rfl).mp h)
noncomputable def E_law15_word : Env := { EB with
 loops := (fun i => bif Nat.beq i 3 then ⟨[(3, .slice), (12, .int .i64)], [], [(21, 1)], false⟩ else ⟨[], [], [], false⟩)
 tokOf := (fun i => bif Nat.beq i 21 then 21 else 0) }
def VC_law15_word (p0a : Option Addr) (p0n p0c : Nat) (m : Mem) (R : RT) : Prop :=
 (((0 : Int) ≤ if (8 : Int) < (↑p0n : Int) then (8 : Int) else (↑p0n : Int)) ∧ (if (8 : Int) < (↑p0n : Int) then (8 : Int) else (↑p0n : Int)) ≤ (↑p0c : Int)) ∧ ∃ (I : IT), (∃ (n : Nat), I [slice none (0 : Nat) (0 : Nat),
 int i64 (0 : Int)] [] [slice none (0 : Nat) (0 : Nat)] m n) ∧ ∀ (a : Option Addr) (n c : Nat) (n_1 : Int) (a_1 : Option Addr) (n_2 c_1 : Nat) (m' : Mem) (n_3 : Nat), Mem.le m m' → I [slice a n c, int i64 n_1] [] [slice
 a_1 n_2 c_1] m' n_3 → br (decide (n_1 < (↑(Int.toNat (if (8 : Int) < (↑p0n : Int) then (8 : Int) else (↑p0n : Int)) - (0 : Nat)) : Int))) (∃ (b : Nat), ∃ (o : Nat), slBase p0a (0 : Nat) p0c (1 : Nat) = some (Addr.mk b o
 none) ∧ inRange n_1 (Int.toNat (if (8 : Int) < (↑p0n : Int) then (8 : Int) else (↑p0n : Int)) - (0 : Nat)) ∧ ∃ (v : Value), m' b (o + Int.toNat n_1 * (1 : Nat)) = some v ∧ chk (isInt u8 v && decide (u8 = u8)) ((4 : Int)
 ≠ (0 : Int) ∧ ∀ (b : Nat), Mem.free m' b → (Tok.mk (slice a_1 n_2 c_1) (1 : Nat) = Tok.mk (slice a n c) (1 : Nat) ∨ slice a n c = slice none (0 : Nat) (0 : Nat) ∨ c < n + (1 : Nat)) ∧ ∃ (xs : List Value), ∃ (ys : List
 Value), List.length xs = n * (1 : Nat) ∧ List.length ys = (1 : Nat) * (1 : Nat) ∧ rowRd (Mem.add m' b [int u8 (IntKind.wrap u8 ((97 : Int) + Int.tmod (RowKit.intOf v) (4 : Int)))]) a xs ∧ rowRd (Mem.add m' b [int u8
 (IntKind.wrap u8 ((97 : Int) + Int.tmod (RowKit.intOf v) (4 : Int)))]) (some (Addr.mk b (0 : Nat) none)) ys ∧ (∀ (u : Value), u ∈ ys → Value.oneCell' u = true) ∧ (n + (1 : Nat)) * (1 : Nat) ≤ (140737488355328 : Nat) ∧ n
 + (1 : Nat) ≤ (9223372036854775807 : Nat) ∧ ∀ (a' : Option Addr) (c' : Nat) (m'_1 : Mem), Mem.le (Mem.add m' b [int u8 (IntKind.wrap u8 ((97 : Int) + Int.tmod (RowKit.intOf v) (4 : Int)))]) m'_1 → rowRd m'_1 a'
 (List.append xs ys) → ∃ (n' : Nat), n' < n_3 ∧ I [slice a' (n + (1 : Nat)) c', int i64 (IntKind.wrap i64 (n_1 + (1 : Int)))] [] [slice a' (n + (1 : Nat)) c'] m'_1 n')) (∃ (m'' : Mem), Mem.le m m'' ∧ Mem.le m'' m' ∧ R
 (slice a n c) m'' [])
theorem cx_law15_word (p0a : Option Addr) (p0n p0c : Nat) (m : Mem) (R : RT) (h : VC_law15_word p0a p0n p0c m R) : CX Try.prog 9 #[.slice p0a p0n p0c] m [] R :=
 CX_of_FW (E := E_law15_word) (fun t i h => EB_ok t i h) mix Try.func9 [.v (.slice p0a p0n p0c)] [] (by kernel_rfl) ((show VC_law15_word p0a p0n p0c m R = FW E_law15_word Try.f9 [.v (.slice p0a p0n p0c)] [] m R by kernel_rfl).mp h)
end Go.Proofs.Ytmggihkjgbnhbaa

