/- Part of the proof: conditions and contracts of functions of this program. No condition of its own. -/
import Derived.Test.YtmggihkjgbnhbaaPEnv
set_option linter.unusedVariables false
namespace Go.Proofs.Ytmggihkjgbnhbaa
open Go Go.Eng Go.Proofs Go.RowKit
open Go.Value (int slice agg)
open Go.IntKind (u8 u64 i64)
set_option maxRecDepth 100000
noncomputable def E_rx_Text : Env := { EB with
 loops := (fun i => bif Nat.beq i 3 then ⟨[(3, .slice), (8, .int .i64)], [], [(17, 8)], false⟩ else ⟨[], [], [], false⟩)
 tokOf := (fun i => bif Nat.beq i 17 then 17 else 0) }
def VC_rx_Text (p0 : ByteArray) (m : Mem) (R : RT) : Prop :=
 ∀ (b : Nat), ∃ (I : IT), (∃ (n : Nat), I [slice none (0 : Nat) (0 : Nat), int i64 (0 : Int)] [] [slice none (0 : Nat) (0 : Nat)] m n) ∧ ∀ (a : Option Addr) (n c : Nat) (ai : Int) (an : Option Addr) (ao ap : Nat) (m' :
 Mem) (aq : Nat), Mem.le m m' → I [slice a n c, int i64 ai] [] [slice an ao ap] m' aq → br (decide (ai < if (10000 : Int) < (↑(ByteArray.size p0) : Int) then (10000 : Int) else (↑(ByteArray.size p0) : Int))) (inRange ai
 (ByteArray.size p0) ∧ ∃ (R : RT), True ∧ CX Try.prog (31 : Nat) (Array.mk [int u8 (strAt p0 (Int.toNat ai))]) m' [] R ∧ Fits (shT) R ∧ ∀ (ab ac ad ae af ag ah : Int) (ak : Option Addr) (al am : Nat) (aa : Mem), Mem.le
 m' aa → R (agg (Array.mk [int u8 ab, int u64 ac, int u64 ad, int u64 ae, int u64 af, int i64 ag, int i64 ah, slice ak al am])) aa [] → ∀ (aj : Nat), Mem.free aa aj → (Tok.mk (slice an ao ap) (8 : Nat) = Tok.mk (slice a
 n c) (8 : Nat) ∨ slice a n c = slice none (0 : Nat) (0 : Nat) ∨ c < n + (1 : Nat)) ∧ ∃ (xs : List Value), ∃ (ys : List Value), List.length xs = n * (8 : Nat) ∧ List.length ys = (1 : Nat) * (8 : Nat) ∧ rowRd (Mem.add aa
 aj [int u8 ab, int u64 ac, int u64 ad, int u64 ae, int u64 af, int i64 ag, int i64 ah, slice ak al am]) a xs ∧ rowRd (Mem.add aa aj [int u8 ab, int u64 ac, int u64 ad, int u64 ae, int u64 af, int i64 ag, int i64 ah,
 slice ak al am]) (some (Addr.mk aj (0 : Nat) none)) ys ∧ (∀ (u : Value), u ∈ ys → Value.oneCell' u = true) ∧ (n + (1 : Nat)) * (80 : Nat) ≤ (140737488355328 : Nat) ∧ n + (1 : Nat) ≤ (9223372036854775807 : Nat) ∧ ∀ (a' :
 Option Addr) (c' : Nat) (m' : Mem), Mem.le (Mem.add aa aj [int u8 ab, int u64 ac, int u64 ad, int u64 ae, int u64 af, int i64 ag, int i64 ah, slice ak al am]) m' → rowRd m' a' (List.append xs ys) → [some (Box.mk b [int
 u8 (0 : Int), int u64 (0 : Int), int u64 (0 : Int), int u64 (0 : Int), int u64 (0 : Int), int i64 (0 : Int), int i64 (0 : Int), slice none (0 : Nat) (0 : Nat)] (30 : Nat) (8 : Nat) false true)] = [some (Box.mk b [int u8
 (0 : Int), int u64 (0 : Int), int u64 (0 : Int), int u64 (0 : Int), int u64 (0 : Int), int i64 (0 : Int), int i64 (0 : Int), slice none (0 : Nat) (0 : Nat)] (30 : Nat) (8 : Nat) false true)] ∧ ∃ (n' : Nat), n' < aq ∧ I
 [slice a' (n + (1 : Nat)) c', int i64 (IntKind.wrap i64 (ai + (1 : Int)))] [] [slice a' (n + (1 : Nat)) c'] m' n') (∃ (R_1 : RT), True ∧ CX Try.prog (33 : Nat) (Array.mk [int u8 (3 : Int), slice a n c, agg (Array.mk
 [int u8 (1 : Int), int u64 (0 : Int), int u64 (0 : Int), int u64 (0 : Int), int u64 (0 : Int), int i64 (0 : Int), int i64 (0 : Int), slice none (0 : Nat) (0 : Nat)])]) m' [] R_1 ∧ Fits (shT) R_1 ∧ ∀ (n ab ac ad ae af ag
 : Int) (a : Option Addr) (ah c : Nat) (aa : Mem), Mem.le m' aa → R_1 (agg (Array.mk [int u8 n, int u64 ab, int u64 ac, int u64 ad, int u64 ae, int i64 af, int i64 ag, slice a ah c])) aa [] → ∃ (m'' : Mem), Mem.le m m''
 ∧ Mem.le m'' aa ∧ R (agg (Array.mk [int u8 n, int u64 ab, int u64 ac, int u64 ad, int u64 ae, int i64 af, int i64 ag, slice a ah c])) m'' [])
theorem cx_rx_Text (p0 : ByteArray) (m : Mem) (R : RT) (h : VC_rx_Text p0 m R) : CX Try.prog 10 #[.string p0] m [] R :=
 CX_of_FW (E := E_rx_Text) (fun t i h => EB_ok t i h) mix Try.func10 [.v (.string p0)] [] (by kernel_rfl) ((show VC_rx_Text p0 m R = FW E_rx_Text Try.f10 [.v (.string p0)] [] m R by kernel_rfl).mp h)
noncomputable def E_law15_text : Env := { EB with
 loops := (fun i => bif Nat.beq i 3 then ⟨[(3, .slice), (8, .int .i64)], [], [(16, 8)], false⟩ else ⟨[], [], [], false⟩)
 tokOf := (fun i => bif Nat.beq i 16 then 16 else 0) }
def VC_law15_text (p0a : Option Addr) (p0n p0c : Nat) (m : Mem) (R : RT) : Prop :=
 ∀ (b : Nat), ∃ (I : IT), (∃ (n : Nat), I [slice none (0 : Nat) (0 : Nat), int i64 (0 : Int)] [] [slice none (0 : Nat) (0 : Nat)] m n) ∧ ∀ (a : Option Addr) (n c : Nat) (ai : Int) (an : Option Addr) (ao ap : Nat) (m' :
 Mem) (aq : Nat), Mem.le m m' → I [slice a n c, int i64 ai] [] [slice an ao ap] m' aq → br (decide (ai < (↑p0n : Int))) (∃ (ar : Nat), ∃ (o : Nat), p0a = some (Addr.mk ar o none) ∧ inRange ai p0n ∧ ∃ (v : Value), m' ar
 (o + Int.toNat ai * (1 : Nat)) = some v ∧ ∃ (R : RT), True ∧ CX Try.prog (10 : Nat) (Array.mk [v]) m' [] R ∧ Fits (shT) R ∧ ∀ (ab ac ad ae af ag ah : Int) (ak : Option Addr) (al am : Nat) (aa : Mem), Mem.le m' aa → R
 (agg (Array.mk [int u8 ab, int u64 ac, int u64 ad, int u64 ae, int u64 af, int i64 ag, int i64 ah, slice ak al am])) aa [] → ∀ (aj : Nat), Mem.free aa aj → (Tok.mk (slice an ao ap) (8 : Nat) = Tok.mk (slice a n c) (8 :
 Nat) ∨ slice a n c = slice none (0 : Nat) (0 : Nat) ∨ c < n + (1 : Nat)) ∧ ∃ (xs : List Value), ∃ (ys : List Value), List.length xs = n * (8 : Nat) ∧ List.length ys = (1 : Nat) * (8 : Nat) ∧ rowRd (Mem.add aa aj [int u8
 ab, int u64 ac, int u64 ad, int u64 ae, int u64 af, int i64 ag, int i64 ah, slice ak al am]) a xs ∧ rowRd (Mem.add aa aj [int u8 ab, int u64 ac, int u64 ad, int u64 ae, int u64 af, int i64 ag, int i64 ah, slice ak al
 am]) (some (Addr.mk aj (0 : Nat) none)) ys ∧ (∀ (u : Value), u ∈ ys → Value.oneCell' u = true) ∧ (n + (1 : Nat)) * (80 : Nat) ≤ (140737488355328 : Nat) ∧ n + (1 : Nat) ≤ (9223372036854775807 : Nat) ∧ ∀ (a' : Option
 Addr) (c' : Nat) (m' : Mem), Mem.le (Mem.add aa aj [int u8 ab, int u64 ac, int u64 ad, int u64 ae, int u64 af, int i64 ag, int i64 ah, slice ak al am]) m' → rowRd m' a' (List.append xs ys) → [some (Box.mk b [int u8 (0 :
 Int), int u64 (0 : Int), int u64 (0 : Int), int u64 (0 : Int), int u64 (0 : Int), int i64 (0 : Int), int i64 (0 : Int), slice none (0 : Nat) (0 : Nat)] (30 : Nat) (8 : Nat) false true)] = [some (Box.mk b [int u8 (0 :
 Int), int u64 (0 : Int), int u64 (0 : Int), int u64 (0 : Int), int u64 (0 : Int), int i64 (0 : Int), int i64 (0 : Int), slice none (0 : Nat) (0 : Nat)] (30 : Nat) (8 : Nat) false true)] ∧ ∃ (n' : Nat), n' < aq ∧ I
 [slice a' (n + (1 : Nat)) c', int i64 (IntKind.wrap i64 (ai + (1 : Int)))] [] [slice a' (n + (1 : Nat)) c'] m' n') (∃ (R_1 : RT), True ∧ CX Try.prog (12 : Nat) (Array.mk [slice a n c]) m' [] R_1 ∧ Fits (shT) R_1 ∧ ∀ (n
 ab ac ad ae af ag : Int) (a : Option Addr) (ah c : Nat) (aa : Mem), Mem.le m' aa → R_1 (agg (Array.mk [int u8 n, int u64 ab, int u64 ac, int u64 ad, int u64 ae, int i64 af, int i64 ag, slice a ah c])) aa [] → ∃ (m'' :
 Mem), Mem.le m m'' ∧ Mem.le m'' aa ∧ R (agg (Array.mk [int u8 n, int u64 ab, int u64 ac, int u64 ad, int u64 ae, int i64 af, int i64 ag, slice a ah c])) m'' [])
theorem cx_law15_text (p0a : Option Addr) (p0n p0c : Nat) (m : Mem) (R : RT) (h : VC_law15_text p0a p0n p0c m R) : CX Try.prog 32 #[.slice p0a p0n p0c] m [] R :=
 CX_of_FW (E := E_law15_text) (fun t i h => EB_ok t i h) mix Try.func32 [.v (.slice p0a p0n p0c)] [] (by kernel_rfl) ((show VC_law15_text p0a p0n p0c m R = FW E_law15_text Try.f32 [.v (.slice p0a p0n p0c)] [] m R by kernel_rfl).mp h)
end Go.Proofs.Ytmggihkjgbnhbaa

