/- Part of the proof: conditions and contracts of functions of this program. No condition of its own. -/
import Derived.Test.YtmggihkjgbnhbaaPEnv
import Derived.Test.YtmggihkjgbnhbaaMc
set_option linter.unusedVariables false
namespace Go.Proofs.Ytmggihkjgbnhbaa
open Go Go.Eng Go.Proofs Go.RowKit
open Go.Value (int slice agg)
open Go.IntKind (u8 u64 i64)
set_option maxRecDepth 100000
noncomputable def E_rx_copied : Env := { EB with
 loops := (fun i => bif Nat.beq i 3 then ⟨[(12, .int .i64)], [], [], false⟩ else ⟨[], [], [], false⟩)
 dr := (fun i => bif Nat.beq i 5 then [⟨0, [1], [], none, [], []⟩, ⟨1, [1], [], none, [0], []⟩, ⟨2, [], [], none, [], []⟩, ⟨3, [4], [], none, [], []⟩, ⟨4, [], [], none, [3], []⟩, ⟨5, [], [], none, [0, 1, 2, 3, 4], []⟩] else [])
 thaw := true
 stAt := (fun i => bif Nat.beq i 22 then some 7 else none)
 last := (fun i => bif Nat.beq i 5 then true else false)
 tokC := (fun i => bif Nat.beq i 7 then some (7, 8) else none) }
def VC_rx_copied (p0_0 : Int) (p0_1 : Int) (p0_2 : Int) (p0_3 : Int) (p0_4 : Int) (p0_5 : Int) (p0_6 : Int) (p0_7a : Option Addr) (p0_7n p0_7c : Nat) (m : Mem) (R : RT) : Prop :=
 ∀ (b ak : Nat), ∃ (R_1 : RT), CXT Try.prog (75 : Nat) (Array.mk [slice p0_7a p0_7n p0_7c]) m (8 : Nat) R_1 ∧ Fits Shape.slice R_1 ∧ ∀ (a : Option Addr) (n c : Nat) (m' : Mem), Mem.le m m' → R_1 (slice a n c) m' [] → ∃
 (I : IT), (∃ (n : Nat), I [int i64 (0 : Int)] [] [] m' n) ∧ ∀ (aa : Int) (m' : Mem) (al : Nat), True → I [int i64 aa] [] [] m' al → br (decide (aa < (↑n : Int))) (∃ (am : Nat), ∃ (o : Nat), a = some (Addr.mk am o none)
 ∧ inRange aa n ∧ ∃ (v : Value), ∃ (ab : Value), ∃ (ac : Value), ∃ (ad : Value), ∃ (ae : Value), ∃ (af : Value), ∃ (ag : Value), ∃ (ah : Value), Mem.reads m' am (o + Int.toNat aa * (8 : Nat)) [v, ab, ac, ad, ae, af, ag,
 ah] ∧ ∀ (az : Nat), chk (Value.oneCell' v && (Value.oneCell' ab && (Value.oneCell' ac && (Value.oneCell' ad && (Value.oneCell' ae && (Value.oneCell' af && (Value.oneCell' ag && (Value.oneCell' ah && true)))))))) (∃ (f :
 Fx), ∃ (R : RT), R = f (4 : Nat) [agg (Array.mk [v, ab, ac, ad, ae, af, ag, ah])] m' ∧ CX Try.prog (58 : Nat) (Array.mk [agg (Array.mk [v, ab, ac, ad, ae, af, ag, ah])]) m' [] R ∧ Fits (shT) R ∧ ∀ (an ao ap aq ar au av
 : Int) (aw : Option Addr) (ax ay : Nat) (ai : Mem), Mem.le m' ai → R (agg (Array.mk [int u8 an, int u64 ao, int u64 ap, int u64 aq, int u64 ar, int i64 au, int i64 av, slice aw ax ay])) ai [] → ∃ (aj : Nat), ∃ (o :
 Nat), a = some (Addr.mk aj o none) ∧ inRange aa n ∧ ∀ (M : Mem), Mem.le m' M → Mem.le ai M → slice a n c = slice (some (Addr.mk aj (0 : Nat) none)) n c ∧ o + Int.toNat aa * (8 : Nat) + (8 : Nat) ≤ n * (8 : Nat) ∧ [some
 (Box.mk ak [int u8 (0 : Int), int u64 (0 : Int), int u64 (0 : Int), int u64 (0 : Int), int u64 (0 : Int), int i64 (0 : Int), int i64 (0 : Int), slice none (0 : Nat) (0 : Nat)] (30 : Nat) (8 : Nat) false true), some
 (Box.mk b [int u8 p0_0, int u64 p0_1, int u64 p0_2, int u64 p0_3, int u64 p0_4, int i64 p0_5, int i64 p0_6, slice a n c] (30 : Nat) (8 : Nat) false true)] = [some (Box.mk ak [int u8 (0 : Int), int u64 (0 : Int), int u64
 (0 : Int), int u64 (0 : Int), int u64 (0 : Int), int i64 (0 : Int), int i64 (0 : Int), slice none (0 : Nat) (0 : Nat)] (30 : Nat) (8 : Nat) false true), some (Box.mk b [int u8 p0_0, int u64 p0_1, int u64 p0_2, int u64
 p0_3, int u64 p0_4, int i64 p0_5, int i64 p0_6, slice a n c] (30 : Nat) (8 : Nat) false true)] ∧ [some (Tok.mk (slice a n c) (8 : Nat))] = [some (Tok.mk (slice a n c) (8 : Nat))] ∧ ∃ (n' : Nat), n' < al ∧ I [int i64
 (IntKind.wrap i64 (aa + (1 : Int)))] [] [] (Mem.upd M aj (o + Int.toNat aa * (8 : Nat)) [int u8 an, int u64 ao, int u64 ap, int u64 aq, int u64 ar, int i64 au, int i64 av, slice aw ax ay]) n')) (∃ (m'' : Mem), Mem.le m
 m'' ∧ Mem.le m'' m' ∧ R (agg (Array.mk [int u8 p0_0, int u64 p0_1, int u64 p0_2, int u64 p0_3, int u64 p0_4, int i64 p0_5, int i64 p0_6, slice a n c])) m'' [])
theorem cx_rx_copied (p0_0 : Int) (p0_1 : Int) (p0_2 : Int) (p0_3 : Int) (p0_4 : Int) (p0_5 : Int) (p0_6 : Int) (p0_7a : Option Addr) (p0_7n p0_7c : Nat) (m : Mem) (R : RT) (h : VC_rx_copied p0_0 p0_1 p0_2 p0_3 p0_4 p0_5 p0_6 p0_7a p0_7n p0_7c m R) : CX Try.prog 58 #[.agg #[.int .u8 p0_0, .int .u64 p0_1, .int .u64 p0_2, .int .u64 p0_3, .int .u64 p0_4, .int .i64 p0_5, .int .i64 p0_6, .slice p0_7a p0_7n p0_7c]] m [] R :=
 CX_of_FW (E := E_rx_copied) (fun t i h => EB_ok t i h) mix Try.func58 [.v (.agg #[.int .u8 p0_0, .int .u64 p0_1, .int .u64 p0_2, .int .u64 p0_3, .int .u64 p0_4, .int .i64 p0_5, .int .i64 p0_6, .slice p0_7a p0_7n p0_7c])] [] (by kernel_rfl) ((show VC_rx_copied p0_0 p0_1 p0_2 p0_3 p0_4 p0_5 p0_6 p0_7a p0_7n p0_7c m R = FW E_rx_copied Try.f58 [.v (.agg #[.int .u8 p0_0, .int .u64 p0_1, .int .u64 p0_2, .int .u64 p0_3, .int .u64 p0_4, .int .i64 p0_5, .int .i64 p0_6, .slice p0_7a p0_7n p0_7c])] [] m R by kernel_rfl).mp h)
noncomputable def E_slices_Clone_rx_Node_rx_Node : Env := { EB with
 tokOf := (fun i => bif Nat.beq i 2 then 7 else bif Nat.beq i 7 then 7 else 0)
 tokC := (fun i => bif Nat.beq i 5 then some (7, 8) else none)
 thaw := true }
def VC_slices_Clone_rx_Node_rx_Node (p0a : Option Addr) (p0n p0c : Nat) (m : Mem) (R : RT) : Prop :=
 br (Option.isNone p0a) (slice none (0 : Nat) (0 : Nat) = slice none (0 : Nat) (0 : Nat) ∧ R (slice none (0 : Nat) (0 : Nat)) m []) (((0 : Int) = (0 : Int) ∧ (0 : Int) ≤ (0 : Int) ∧ (0 : Int) * (↑(80 : Nat) : Int) ≤
 (281474976710656 : Int) ∧ (0 : Int) ≤ (9223372036854775807 : Int)) ∧ ∀ (b : Nat), Mem.free m b → (Tok.mk (slice (some (Addr.mk b (0 : Nat) none)) (0 : Nat) (Int.toNat (0 : Int))) (8 : Nat) = Tok.mk (slice (some (Addr.mk
 b (0 : Nat) none)) (0 : Nat) (Int.toNat (0 : Int))) (8 : Nat) ∨ slice (some (Addr.mk b (0 : Nat) none)) (0 : Nat) (Int.toNat (0 : Int)) = slice none (0 : Nat) (0 : Nat) ∨ Int.toNat (0 : Int) < (0 : Nat) + p0n) ∧ ∃ (xs :
 List Value), ∃ (ys : List Value), List.length xs = (0 : Nat) * (8 : Nat) ∧ List.length ys = p0n * (8 : Nat) ∧ rowRd m (some (Addr.mk b (0 : Nat) none)) xs ∧ rowRd m p0a ys ∧ (∀ (u : Value), u ∈ ys → Value.oneCell' u =
 true) ∧ ((0 : Nat) + p0n) * (80 : Nat) ≤ (140737488355328 : Nat) ∧ (0 : Nat) + p0n ≤ (9223372036854775807 : Nat) ∧ ∀ (a' : Option Addr) (c' : Nat) (m' : Mem), Mem.le m m' → rowRd m' a' (List.append xs ys) → TokFact m
 (some (Addr.mk b (0 : Nat) none)) a' ((0 : Nat) + p0n) c' → some (Tok.mk (slice a' ((0 : Nat) + p0n) c') (8 : Nat)) = some (Tok.mk (slice a' ((0 : Nat) + p0n) c') (8 : Nat)) ∧ R (slice a' ((0 : Nat) + p0n) c') m' [])
theorem cxt_slices_Clone_rx_Node_rx_Node (p0a : Option Addr) (p0n p0c : Nat) (m : Mem) (R : RT) (h : VC_slices_Clone_rx_Node_rx_Node p0a p0n p0c m R) : CXT Try.prog 75 #[.slice p0a p0n p0c] m 8 R :=
 CXT_of_FWT (E := E_slices_Clone_rx_Node_rx_Node) (fun t i h => EB_ok t i h) mix Try.func75 [.v (.slice p0a p0n p0c)] (by kernel_rfl) ((show VC_slices_Clone_rx_Node_rx_Node p0a p0n p0c m R = FWT E_slices_Clone_rx_Node_rx_Node Try.f75 [.v (.slice p0a p0n p0c)] m 8 R by kernel_rfl).mp h)
end Go.Proofs.Ytmggihkjgbnhbaa

