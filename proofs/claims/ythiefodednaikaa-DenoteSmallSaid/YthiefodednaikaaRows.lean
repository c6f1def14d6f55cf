/-
  NARROWER THAN 'FOR EVERY INPUT', by the rows' own cells (each row's printed sentence says how): DenoteRules: loops · DenoteTells: loops.
  DERIVED. THE GIVEN ROWS OF THIS SEAT. 8 by the template 'for every input the law returns true; each argument reads behind the call as it read before'; 0 by the template 'total and deterministic' (their statements: YthiefodednaikaaTotals.lean).
  GIVEN WITH THE SEED: the statements are not yours to turn. If you find one false, say at which input.
  Laid BY PROGRAM, IN A SANDBOX (cutbox-rows.mjs): the forced cells as the released guide's own fill.sh prints them over the translation 4c93c488b33c80e0… (all of the seat's roots in one cut). By AI agents, Wed Nov 11 2026. No macro, syntax, notation, axiom, sorry.
-/
import Derived.Test.YthiefodednaikaaChecked
import GoSem.Claim
import GoSem.ClaimJoined
import GoSem.ClaimMapViews
import Derived.JoinedTies
import Derived.KernelRfl
namespace Go.Proofs.Ythiefodednaikaa
/- THE CELL 'sum', in the pinned program and in every row, IS THE sha256 OF THE DUMP (.gsa) THAT YthiefodednaikaaProg.lean LOADS. Nothing in Lean hashes anything: it is a label: what it is worth is what the hold of that sum in a sandbox is worth. -/
noncomputable def Try.pinned : Pinned := { name := "ythiefodednaikaa", sum := "4c93c488b33c80e0829b6c326210c2e36401c2893ada92c2f3de4712f35cf62f", checked := Try.checked }
namespace Rows
def none {H : Type} : Left H := { results := [], args := [] }

/-- 'reparteelaw13.DenoteWrong': WHATEVER THE INPUT: true; the input reads as it did. -/
def denoteWrongSpec : ChangeSpec := { name := "denoteWrong", fn := fun _ => fun
  | [d1, d2, d3] => { results := [.lit (.bool true)], args := [d1, d2, d3] }
  | _ => none }
def denoteWrongRow : OpenClaim := { program := "ythiefodednaikaa", sum := "4c93c488b33c80e0829b6c326210c2e36401c2893ada92c2f3de4712f35cf62f", func := "repartee/reparteelaw13.DenoteWrong", spec := "denoteWrong", unfollowed := true, recurses := true, apart := false }
def DenoteWrongSaid : Prop := denoteWrongRow.holds Try.pinned (OpenSpec.ofChange denoteWrongSpec)

/-- ITS FALSE NEIGHBOUR: 'it returns false'. Refute it at one input. -/
def denoteWrongWrong : ChangeSpec := { name := "denoteWrong", fn := fun _ => fun
  | [d1, d2, d3] => { results := [.lit (.bool false)], args := [d1, d2, d3] }
  | _ => none }
def DenoteWrongWrongFalsely : Prop := denoteWrongRow.holds Try.pinned (OpenSpec.ofChange denoteWrongWrong)

/-- 'reparteelaw13.DenoteRules': WHATEVER THE INPUT: true; the input reads as it did. -/
def denoteRulesSpec : ChangeSpec := { name := "denoteRules", fn := fun _ => fun
  | [d1, d2, d3] => { results := [.lit (.bool true)], args := [d1, d2, d3] }
  | _ => none }
def denoteRulesRow : OpenClaim := { program := "ythiefodednaikaa", sum := "4c93c488b33c80e0829b6c326210c2e36401c2893ada92c2f3de4712f35cf62f", func := "repartee/reparteelaw13.DenoteRules", spec := "denoteRules", unfollowed := true, recurses := true, loops := true, apart := false }
def DenoteRulesSaid : Prop := denoteRulesRow.holds Try.pinned (OpenSpec.ofChange denoteRulesSpec)

/-- ITS FALSE NEIGHBOUR: 'it returns false'. Refute it at one input. -/
def denoteRulesWrong : ChangeSpec := { name := "denoteRules", fn := fun _ => fun
  | [d1, d2, d3] => { results := [.lit (.bool false)], args := [d1, d2, d3] }
  | _ => none }
def DenoteRulesWrongFalsely : Prop := denoteRulesRow.holds Try.pinned (OpenSpec.ofChange denoteRulesWrong)

/-- 'reparteelaw13.DenoteTells': WHATEVER THE INPUT: true; the input reads as it did. -/
def denoteTellsSpec : ChangeSpec := { name := "denoteTells", fn := fun _ => fun
  | [d1, d2, d3] => { results := [.lit (.bool true)], args := [d1, d2, d3] }
  | _ => none }
def denoteTellsRow : OpenClaim := { program := "ythiefodednaikaa", sum := "4c93c488b33c80e0829b6c326210c2e36401c2893ada92c2f3de4712f35cf62f", func := "repartee/reparteelaw13.DenoteTells", spec := "denoteTells", unfollowed := true, recurses := true, loops := true, apart := false }
def DenoteTellsSaid : Prop := denoteTellsRow.holds Try.pinned (OpenSpec.ofChange denoteTellsSpec)

/-- ITS FALSE NEIGHBOUR: 'it returns false'. Refute it at one input. -/
def denoteTellsWrong : ChangeSpec := { name := "denoteTells", fn := fun _ => fun
  | [d1, d2, d3] => { results := [.lit (.bool false)], args := [d1, d2, d3] }
  | _ => none }
def DenoteTellsWrongFalsely : Prop := denoteTellsRow.holds Try.pinned (OpenSpec.ofChange denoteTellsWrong)

/-- 'reparteelaw13.DenoteHolds': WHATEVER THE INPUT: true; the input reads as it did. -/
def denoteHoldsSpec : ChangeSpec := { name := "denoteHolds", fn := fun _ => fun
  | [d1, d2, d3, d4, d5, d6, d7] => { results := [.lit (.bool true)], args := [d1, d2, d3, d4, d5, d6, d7] }
  | _ => none }
def denoteHoldsRow : OpenClaim := { program := "ythiefodednaikaa", sum := "4c93c488b33c80e0829b6c326210c2e36401c2893ada92c2f3de4712f35cf62f", func := "repartee/reparteelaw13.DenoteHolds", spec := "denoteHolds", unfollowed := true, recurses := true, apart := false }
def DenoteHoldsSaid : Prop := denoteHoldsRow.holds Try.pinned (OpenSpec.ofChange denoteHoldsSpec)

/-- ITS FALSE NEIGHBOUR: 'it returns false'. Refute it at one input. -/
def denoteHoldsWrong : ChangeSpec := { name := "denoteHolds", fn := fun _ => fun
  | [d1, d2, d3, d4, d5, d6, d7] => { results := [.lit (.bool false)], args := [d1, d2, d3, d4, d5, d6, d7] }
  | _ => none }
def DenoteHoldsWrongFalsely : Prop := denoteHoldsRow.holds Try.pinned (OpenSpec.ofChange denoteHoldsWrong)

/-- 'reparteelaw13.DenoteFirst': WHATEVER THE INPUT: true; the input reads as it did. -/
def denoteFirstSpec : ChangeSpec := { name := "denoteFirst", fn := fun _ => fun
  | [d1, d2, d3, d4] => { results := [.lit (.bool true)], args := [d1, d2, d3, d4] }
  | _ => none }
def denoteFirstRow : OpenClaim := { program := "ythiefodednaikaa", sum := "4c93c488b33c80e0829b6c326210c2e36401c2893ada92c2f3de4712f35cf62f", func := "repartee/reparteelaw13.DenoteFirst", spec := "denoteFirst", unfollowed := true, recurses := true, apart := false }
def DenoteFirstSaid : Prop := denoteFirstRow.holds Try.pinned (OpenSpec.ofChange denoteFirstSpec)

/-- ITS FALSE NEIGHBOUR: 'it returns false'. Refute it at one input. -/
def denoteFirstWrong : ChangeSpec := { name := "denoteFirst", fn := fun _ => fun
  | [d1, d2, d3, d4] => { results := [.lit (.bool false)], args := [d1, d2, d3, d4] }
  | _ => none }
def DenoteFirstWrongFalsely : Prop := denoteFirstRow.holds Try.pinned (OpenSpec.ofChange denoteFirstWrong)

/-- 'reparteelaw13.DenoteEnds': WHATEVER THE INPUT: true; the input reads as it did. -/
def denoteEndsSpec : ChangeSpec := { name := "denoteEnds", fn := fun _ => fun
  | [d1, d2, d3, d4] => { results := [.lit (.bool true)], args := [d1, d2, d3, d4] }
  | _ => none }
def denoteEndsRow : OpenClaim := { program := "ythiefodednaikaa", sum := "4c93c488b33c80e0829b6c326210c2e36401c2893ada92c2f3de4712f35cf62f", func := "repartee/reparteelaw13.DenoteEnds", spec := "denoteEnds", unfollowed := true, recurses := true, apart := false }
def DenoteEndsSaid : Prop := denoteEndsRow.holds Try.pinned (OpenSpec.ofChange denoteEndsSpec)

/-- ITS FALSE NEIGHBOUR: 'it returns false'. Refute it at one input. -/
def denoteEndsWrong : ChangeSpec := { name := "denoteEnds", fn := fun _ => fun
  | [d1, d2, d3, d4] => { results := [.lit (.bool false)], args := [d1, d2, d3, d4] }
  | _ => none }
def DenoteEndsWrongFalsely : Prop := denoteEndsRow.holds Try.pinned (OpenSpec.ofChange denoteEndsWrong)

/-- 'reparteelaw13.DenoteParts': WHATEVER THE INPUT: true; the input reads as it did. -/
def denotePartsSpec : ChangeSpec := { name := "denoteParts", fn := fun _ => fun
  | [d1, d2, d3, d4, d5] => { results := [.lit (.bool true)], args := [d1, d2, d3, d4, d5] }
  | _ => none }
def denotePartsRow : OpenClaim := { program := "ythiefodednaikaa", sum := "4c93c488b33c80e0829b6c326210c2e36401c2893ada92c2f3de4712f35cf62f", func := "repartee/reparteelaw13.DenoteParts", spec := "denoteParts", unfollowed := true, recurses := true, apart := false }
def DenotePartsSaid : Prop := denotePartsRow.holds Try.pinned (OpenSpec.ofChange denotePartsSpec)

/-- ITS FALSE NEIGHBOUR: 'it returns false'. Refute it at one input. -/
def denotePartsWrong : ChangeSpec := { name := "denoteParts", fn := fun _ => fun
  | [d1, d2, d3, d4, d5] => { results := [.lit (.bool false)], args := [d1, d2, d3, d4, d5] }
  | _ => none }
def DenotePartsWrongFalsely : Prop := denotePartsRow.holds Try.pinned (OpenSpec.ofChange denotePartsWrong)

/-- 'reparteelaw13.DenoteSmall': WHATEVER THE INPUT: true; the input reads as it did. -/
def denoteSmallSpec : ChangeSpec := { name := "denoteSmall", fn := fun _ => fun
  | [] => { results := [.lit (.bool true)], args := [] }
  | _ => none }
def denoteSmallRow : OpenClaim := { program := "ythiefodednaikaa", sum := "4c93c488b33c80e0829b6c326210c2e36401c2893ada92c2f3de4712f35cf62f", func := "repartee/reparteelaw13.DenoteSmall", spec := "denoteSmall", inPlace := ["internal/bytealg.MakeNoZero"], unfollowed := true, recurses := true, apart := false }
def DenoteSmallSaid : Prop := denoteSmallRow.holds Try.pinned (OpenSpec.ofChange denoteSmallSpec)

/-- ITS FALSE NEIGHBOUR: 'it returns false'. Refute it at one input. -/
def denoteSmallWrong : ChangeSpec := { name := "denoteSmall", fn := fun _ => fun
  | [] => { results := [.lit (.bool false)], args := [] }
  | _ => none }
def DenoteSmallWrongFalsely : Prop := denoteSmallRow.holds Try.pinned (OpenSpec.ofChange denoteSmallWrong)

/- THE SECOND FORM. 'bulk': how many values and letters a reading holds, each counted each time it is reached (what is shared counts as often as it is met; a slice's spare places count too). A statement '..UptoSaid' is the law's where the arguments, and the package variables that the reading takes, are together of bulk at most 1048576: NARROWER than '..Said'. Prove '..Said' where nothing that the law and all that it calls make is longer than what came in: it says more and counts as full. Else prove '..UptoSaid'. A law counts once. -/
mutual
def uptoBulk {H : Type} : DataW H → Nat
  | .lit (.string bytes) => bytes.length + 1
  | .lit _ => 1
  | .nil => 1
  | .ptr d => uptoBulk d + 1
  | .slice elems spare => uptoBulkAll elems + uptoBulkAll spare + 1
  | .agg parts => uptoBulkAll parts + 1
  | .iface _ d => uptoBulk d + 1
  | .map entries => uptoBulkEntries entries + 1
  | .held _ => 1
def uptoBulkAll {H : Type} : List (DataW H) → Nat
  | [] => 0
  | d :: r => uptoBulk d + uptoBulkAll r
def uptoBulkEntries {H : Type} : List (Lit × DataW H) → Nat
  | [] => 0
  | x :: r => uptoBulkEntry x + uptoBulkEntries r
def uptoBulkEntry {H : Type} : Lit × DataW H → Nat
  | (.string bytes, d) => bytes.length + uptoBulk d + 1
  | (_, d) => uptoBulk d + 1
 end
def uptoSmall : (H : Type) → List (DataW H) → Bool := fun _ ds => decide (uptoBulkAll ds ≤ 1048576)
def OpenSpec.upto (s : _root_.Go.ChangeSpec) : _root_.Go.OpenSpec := { _root_.Go.OpenSpec.ofChange s with cond := some uptoSmall }

/-- 'reparteelaw13.DenoteWrong', WHERE WHAT IT READS IS OF BULK AT MOST 1048576: true; the input reads as it did. -/
def denoteWrongUptoRow : OpenClaim := { program := "ythiefodednaikaa", sum := "4c93c488b33c80e0829b6c326210c2e36401c2893ada92c2f3de4712f35cf62f", func := "repartee/reparteelaw13.DenoteWrong", spec := "denoteWrong", unfollowed := true, recurses := true, apart := false, narrowed := true }
def DenoteWrongUptoSaid : Prop := denoteWrongUptoRow.holds Try.pinned (OpenSpec.upto denoteWrongSpec)

/-- 'reparteelaw13.DenoteRules', WHERE WHAT IT READS IS OF BULK AT MOST 1048576: true; the input reads as it did. -/
def denoteRulesUptoRow : OpenClaim := { program := "ythiefodednaikaa", sum := "4c93c488b33c80e0829b6c326210c2e36401c2893ada92c2f3de4712f35cf62f", func := "repartee/reparteelaw13.DenoteRules", spec := "denoteRules", unfollowed := true, recurses := true, loops := true, apart := false, narrowed := true }
def DenoteRulesUptoSaid : Prop := denoteRulesUptoRow.holds Try.pinned (OpenSpec.upto denoteRulesSpec)

/-- 'reparteelaw13.DenoteTells', WHERE WHAT IT READS IS OF BULK AT MOST 1048576: true; the input reads as it did. -/
def denoteTellsUptoRow : OpenClaim := { program := "ythiefodednaikaa", sum := "4c93c488b33c80e0829b6c326210c2e36401c2893ada92c2f3de4712f35cf62f", func := "repartee/reparteelaw13.DenoteTells", spec := "denoteTells", unfollowed := true, recurses := true, loops := true, apart := false, narrowed := true }
def DenoteTellsUptoSaid : Prop := denoteTellsUptoRow.holds Try.pinned (OpenSpec.upto denoteTellsSpec)

/-- 'reparteelaw13.DenoteHolds', WHERE WHAT IT READS IS OF BULK AT MOST 1048576: true; the input reads as it did. -/
def denoteHoldsUptoRow : OpenClaim := { program := "ythiefodednaikaa", sum := "4c93c488b33c80e0829b6c326210c2e36401c2893ada92c2f3de4712f35cf62f", func := "repartee/reparteelaw13.DenoteHolds", spec := "denoteHolds", unfollowed := true, recurses := true, apart := false, narrowed := true }
def DenoteHoldsUptoSaid : Prop := denoteHoldsUptoRow.holds Try.pinned (OpenSpec.upto denoteHoldsSpec)

/-- 'reparteelaw13.DenoteFirst', WHERE WHAT IT READS IS OF BULK AT MOST 1048576: true; the input reads as it did. -/
def denoteFirstUptoRow : OpenClaim := { program := "ythiefodednaikaa", sum := "4c93c488b33c80e0829b6c326210c2e36401c2893ada92c2f3de4712f35cf62f", func := "repartee/reparteelaw13.DenoteFirst", spec := "denoteFirst", unfollowed := true, recurses := true, apart := false, narrowed := true }
def DenoteFirstUptoSaid : Prop := denoteFirstUptoRow.holds Try.pinned (OpenSpec.upto denoteFirstSpec)

/-- 'reparteelaw13.DenoteEnds', WHERE WHAT IT READS IS OF BULK AT MOST 1048576: true; the input reads as it did. -/
def denoteEndsUptoRow : OpenClaim := { program := "ythiefodednaikaa", sum := "4c93c488b33c80e0829b6c326210c2e36401c2893ada92c2f3de4712f35cf62f", func := "repartee/reparteelaw13.DenoteEnds", spec := "denoteEnds", unfollowed := true, recurses := true, apart := false, narrowed := true }
def DenoteEndsUptoSaid : Prop := denoteEndsUptoRow.holds Try.pinned (OpenSpec.upto denoteEndsSpec)

/-- 'reparteelaw13.DenoteParts', WHERE WHAT IT READS IS OF BULK AT MOST 1048576: true; the input reads as it did. -/
def denotePartsUptoRow : OpenClaim := { program := "ythiefodednaikaa", sum := "4c93c488b33c80e0829b6c326210c2e36401c2893ada92c2f3de4712f35cf62f", func := "repartee/reparteelaw13.DenoteParts", spec := "denoteParts", unfollowed := true, recurses := true, apart := false, narrowed := true }
def DenotePartsUptoSaid : Prop := denotePartsUptoRow.holds Try.pinned (OpenSpec.upto denotePartsSpec)

/-- 'reparteelaw13.DenoteSmall', WHERE WHAT IT READS IS OF BULK AT MOST 1048576: true; the input reads as it did. -/
def denoteSmallUptoRow : OpenClaim := { program := "ythiefodednaikaa", sum := "4c93c488b33c80e0829b6c326210c2e36401c2893ada92c2f3de4712f35cf62f", func := "repartee/reparteelaw13.DenoteSmall", spec := "denoteSmall", inPlace := ["internal/bytealg.MakeNoZero"], unfollowed := true, recurses := true, apart := false, narrowed := true }
def DenoteSmallUptoSaid : Prop := denoteSmallUptoRow.holds Try.pinned (OpenSpec.upto denoteSmallSpec)

end Rows
end Go.Proofs.Ythiefodednaikaa
