/- Part of the proof: conditions and contracts of functions of this program. No condition of its own. -/
import Derived.Test.YtmggihkjgbnhbaaProg
import Derived.Test.YtmggihkjgbnhbaaMc
import Derived.KernelRfl
set_option linter.unusedVariables false
namespace Go.Proofs.Ytmggihkjgbnhbaa
open Go Go.Eng Go.Proofs
set_option maxRecDepth 100000
abbrev Fits (s : Shape) (R : Value → Mem → List (List Value) → Prop) : Prop := ∀ (v : Value) (m' : Mem) (css : List (List Value)), R v m' css → Shape.fits s v = true
abbrev shT : Shape := .agg [.int .u8, .int .u64, .int .u64, .int .u64, .int .u64, .int .i64, .int .i64, .slice]
noncomputable def tyTab : List (Nat × TI) := [
 (3, ⟨.int .i64, 1, .int .i64 0, 8⟩),
 (4, ⟨.bool, 1, .bool .false, 1⟩),
 (5, ⟨.int .u8, 1, .int .u8 0, 1⟩),
 (9, ⟨.string, 1, .string .empty, 16⟩),
 (22, ⟨.slice 5, 1, .slice none 0 0, 24⟩),
 (25, ⟨.slice 30, 1, .slice none 0 0, 24⟩),
 (26, ⟨.int .u64, 1, .int .u64 0, 8⟩),
 (28, ⟨.array 4 26, 4, .agg #[.int .u64 0, .int .u64 0, .int .u64 0, .int .u64 0], 32⟩),
 (30, ⟨.struct #[⟨ "Kind", 5, 0, .false, "", "", 0⟩, ⟨ "Set", 28, 1, .false, "", "", 8⟩, ⟨ "Min", 3, 5, .false, "", "", 40⟩, ⟨ "Max", 3, 6, .false, "", "", 48⟩, ⟨ "Subs", 25, 7, .false, "", "", 56⟩], 8, .agg #[.int .u8 0, .int .u64 0, .int .u64 0, .int .u64 0, .int .u64 0, .int .i64 0, .int .i64 0, .slice none 0 0], 80⟩),
 (33, ⟨.int .i64, 1, .int .i64 0, 8⟩),
 (36, ⟨.slice 28, 1, .slice none 0 0, 24⟩),
 (39, ⟨.func #[30] #[4] .false, 1, .nilFunc, 8⟩),
 (40, ⟨.func #[30, 30] #[4] .false, 1, .nilFunc, 8⟩),
 (42, ⟨.func #[30] #[30] .false, 1, .nilFunc, 8⟩),
 (47, ⟨.slice 51, 1, .slice none 0 0, 24⟩),
 (51, ⟨.struct #[⟨ "Alt", 3, 0, .false, "", "", 0⟩, ⟨ "From", 3, 1, .false, "", "", 8⟩, ⟨ "To", 3, 2, .false, "", "", 16⟩, ⟨ "Length", 3, 3, .false, "", "", 24⟩], 4, .agg #[.int .i64 0, .int .i64 0, .int .i64 0, .int .i64 0], 32⟩),
 (59, ⟨.slice 3, 1, .slice none 0 0, 24⟩),
 (62, ⟨.slice 33, 1, .slice none 0 0, 24⟩),
 (65, ⟨.struct #[⟨ "n", 30, 0, .false, "", "repartee/reparteelaw15", 0⟩, ⟨ "want", 30, 8, .false, "", "repartee/reparteelaw15", 80⟩, ⟨ "cuts", 3, 16, .false, "", "repartee/reparteelaw15", 160⟩], 17, .agg #[.int .u8 0, .int .u64 0, .int .u64 0, .int .u64 0, .int .u64 0, .int .i64 0, .int .i64 0, .slice none 0 0, .int .u8 0, .int .u64 0, .int .u64 0, .int .u64 0, .int .u64 0, .int .i64 0, .int .i64 0, .slice none 0 0, .int .i64 0], 168⟩),
 (66, ⟨.slice 65, 1, .slice none 0 0, 24⟩),
 (72, ⟨.func #[39] #[] .false, 1, .nilFunc, 8⟩),
 (73, ⟨.func #[39] #[] .false, 1, .nilFunc, 8⟩),
 (75, ⟨.int .u64, 1, .int .u64 0, 8⟩),
 (79, ⟨.array 2 3, 2, .agg #[.int .i64 0, .int .i64 0], 16⟩),
 (80, ⟨.slice 79, 1, .slice none 0 0, 24⟩),
 (82, ⟨.func #[100] #[] .false, 1, .nilFunc, 8⟩),
 (83, ⟨.func #[100] #[] .false, 1, .nilFunc, 8⟩),
 (91, ⟨.slice 9, 1, .slice none 0 0, 24⟩),
 (92, ⟨.func #[51, 3] #[4] .false, 1, .nilFunc, 8⟩),
 (99, ⟨.struct #[⟨ "Begin", 4, 0, .false, "", "", 0⟩, ⟨ "End", 4, 1, .false, "", "", 1⟩, ⟨ "Root", 30, 2, .false, "", "", 8⟩], 10, .agg #[.bool .false, .bool .false, .int .u8 0, .int .u64 0, .int .u64 0, .int .u64 0, .int .u64 0, .int .i64 0, .int .i64 0, .slice none 0 0], 88⟩),
 (100, ⟨.func #[51] #[4] .false, 1, .nilFunc, 8⟩),
 (105, ⟨.int .u32, 1, .int .u32 0, 4⟩),
 (114, ⟨.slice 25, 1, .slice none 0 0, 24⟩)]
theorem tyTab_ok : tabOk Try.prog tyTab := ⟨⟨by kernel_rfl, by kernel_rfl, by kernel_rfl⟩, ⟨⟨by kernel_rfl, by kernel_rfl, by kernel_rfl⟩, ⟨⟨by kernel_rfl, by kernel_rfl, by kernel_rfl⟩, ⟨⟨by kernel_rfl, by kernel_rfl, by kernel_rfl⟩, ⟨⟨by kernel_rfl, by kernel_rfl, by kernel_rfl⟩, ⟨⟨by kernel_rfl, by kernel_rfl, by kernel_rfl⟩, ⟨⟨by kernel_rfl, by kernel_rfl, by kernel_rfl⟩, ⟨⟨by kernel_rfl, by kernel_rfl, by kernel_rfl⟩, ⟨⟨by kernel_rfl, by kernel_rfl, by kernel_rfl⟩, ⟨⟨by kernel_rfl, by kernel_rfl, by kernel_rfl⟩, ⟨⟨by kernel_rfl, by kernel_rfl, by kernel_rfl⟩, ⟨⟨by kernel_rfl, by kernel_rfl, by kernel_rfl⟩, ⟨⟨by kernel_rfl, by kernel_rfl, by kernel_rfl⟩, ⟨⟨by kernel_rfl, by kernel_rfl, by kernel_rfl⟩, ⟨⟨by kernel_rfl, by kernel_rfl, by kernel_rfl⟩, ⟨⟨by kernel_rfl, by kernel_rfl, by kernel_rfl⟩, ⟨⟨by kernel_rfl, by kernel_rfl, by kernel_rfl⟩, ⟨⟨by kernel_rfl, by kernel_rfl, by kernel_rfl⟩, ⟨⟨by kernel_rfl, by kernel_rfl, by kernel_rfl⟩, ⟨⟨by kernel_rfl, by kernel_rfl, by kernel_rfl⟩, ⟨⟨by kernel_rfl, by kernel_rfl, by kernel_rfl⟩, ⟨⟨by kernel_rfl, by kernel_rfl, by kernel_rfl⟩, ⟨⟨by kernel_rfl, by kernel_rfl, by kernel_rfl⟩, ⟨⟨by kernel_rfl, by kernel_rfl, by kernel_rfl⟩, ⟨⟨by kernel_rfl, by kernel_rfl, by kernel_rfl⟩, ⟨⟨by kernel_rfl, by kernel_rfl, by kernel_rfl⟩, ⟨⟨by kernel_rfl, by kernel_rfl, by kernel_rfl⟩, ⟨⟨by kernel_rfl, by kernel_rfl, by kernel_rfl⟩, ⟨⟨by kernel_rfl, by kernel_rfl, by kernel_rfl⟩, ⟨⟨by kernel_rfl, by kernel_rfl, by kernel_rfl⟩, ⟨⟨by kernel_rfl, by kernel_rfl, by kernel_rfl⟩, ⟨⟨by kernel_rfl, by kernel_rfl, by kernel_rfl⟩, ⟨⟨by kernel_rfl, by kernel_rfl, by kernel_rfl⟩, trivial⟩⟩⟩⟩⟩⟩⟩⟩⟩⟩⟩⟩⟩⟩⟩⟩⟩⟩⟩⟩⟩⟩⟩⟩⟩⟩⟩⟩⟩⟩⟩⟩⟩
noncomputable def shTab : Nat → Shape := fun i => bif Nat.beq i 0 then .tup [] else bif Nat.beq i 3 then .int .i64 else bif Nat.beq i 4 then .bool else bif Nat.beq i 5 then .int .u8 else bif Nat.beq i 9 then .str else bif Nat.beq i 22 then .slice else bif Nat.beq i 25 then .slice else bif Nat.beq i 26 then .int .u64 else bif Nat.beq i 28 then .agg [.int .u64, .int .u64, .int .u64, .int .u64] else bif Nat.beq i 30 then .agg [.int .u8, .int .u64, .int .u64, .int .u64, .int .u64, .int .i64, .int .i64, .slice] else bif Nat.beq i 33 then .int .i64 else bif Nat.beq i 34 then .tup [.agg [.int .u8, .int .u64, .int .u64, .int .u64, .int .u64, .int .i64, .int .i64, .slice], .int .i64] else bif Nat.beq i 36 then .slice else bif Nat.beq i 37 then .tup [.slice, .int .i64] else bif Nat.beq i 39 then .fn else bif Nat.beq i 40 then .fn else bif Nat.beq i 42 then .fn else bif Nat.beq i 47 then .slice else bif Nat.beq i 48 then .tup [.slice, .int .i64] else bif Nat.beq i 51 then .agg [.int .i64, .int .i64, .int .i64, .int .i64] else bif Nat.beq i 52 then .tup [.agg [.int .i64, .int .i64, .int .i64, .int .i64], .int .i64, .bool, .int .i64] else bif Nat.beq i 54 then .tup [.int .i64, .int .i64] else bif Nat.beq i 59 then .slice else bif Nat.beq i 62 then .slice else bif Nat.beq i 65 then .cells else bif Nat.beq i 66 then .slice else bif Nat.beq i 69 then .tup [.agg [.int .i64, .int .i64, .int .i64, .int .i64], .int .i64, .agg [.int .u8, .int .u64, .int .u64, .int .u64, .int .u64, .int .i64, .int .i64, .slice]] else bif Nat.beq i 72 then .fn else bif Nat.beq i 73 then .fn else bif Nat.beq i 75 then .int .u64 else bif Nat.beq i 79 then .agg [.int .i64, .int .i64] else bif Nat.beq i 80 then .slice else bif Nat.beq i 82 then .fn else bif Nat.beq i 83 then .fn else bif Nat.beq i 89 then .tup [.int .u64, .int .u64] else bif Nat.beq i 91 then .slice else bif Nat.beq i 92 then .fn else bif Nat.beq i 99 then .agg [.bool, .bool, .int .u8, .int .u64, .int .u64, .int .u64, .int .u64, .int .i64, .int .i64, .slice] else bif Nat.beq i 100 then .fn else bif Nat.beq i 105 then .int .u32 else bif Nat.beq i 106 then .tup [.int .u32, .int .u32] else bif Nat.beq i 108 then .tup [.int .u64, .int .u64] else bif Nat.beq i 114 then .slice else .any
noncomputable def EB : Env where
 P := Try.prog
 loops := fun _ => ⟨[], [], [], false⟩
 cuts := fun _ => none
 joins := fun _ => none
 dr := fun _ => []
 tt := lookT tyTab
 sh := shTab
 hint := fun _ => none
 borrow := fun _ => []
 tokOf := fun _ => 0
 frz := []
 fix := none
 yl := none
 frzNew := []
 frzAt := fun _ => []
 thaw := false
 stAt := fun _ => none
theorem EB_ok : EB.ok := lookT_ok tyTab_ok
theorem mix : Try.prog.follows .mixedOrders = true := by kernel_rfl
end Go.Proofs.Ytmggihkjgbnhbaa

