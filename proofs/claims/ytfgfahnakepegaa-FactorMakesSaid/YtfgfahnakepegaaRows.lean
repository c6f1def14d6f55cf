/-
  NARROWER THAN 'FOR EVERY INPUT', by the rows' own cells (each row's printed sentence says how): FactorMakes: loops · FactorTells: loops.
  DERIVED. THE GIVEN ROWS OF THIS SEAT. 7 by the template 'for every input the law returns true; each argument reads behind the call as it read before'; 0 by the template 'total and deterministic' (their statements: YtfgfahnakepegaaTotals.lean).
  GIVEN WITH THE SEED: the statements are not yours to turn. If you find one false, say at which input.
  Laid BY PROGRAM, IN A SANDBOX (cutbox-rows.mjs): the forced cells as the released guide's own fill.sh prints them over the translation 491c9bb97fac8213… (all of the seat's roots in one cut). By AI agents, Wed Nov 11 2026. No macro, syntax, notation, axiom, sorry.
-/
import Derived.Test.YtfgfahnakepegaaChecked
import GoSem.Claim
import GoSem.ClaimJoined
import GoSem.ClaimMapViews
import Derived.JoinedTies
import Derived.KernelRfl
namespace Go.Proofs.Ytfgfahnakepegaa
/- THE CELL 'sum', in the pinned program and in every row, IS THE sha256 OF THE DUMP (.gsa) THAT YtfgfahnakepegaaProg.lean LOADS. Nothing in Lean hashes anything: it is a label: what it is worth is what the hold of that sum in a sandbox is worth. -/
noncomputable def Try.pinned : Pinned := { name := "ytfgfahnakepegaa", sum := "491c9bb97fac82136b292c2a332e455b308c4f5247ac91a3aaf77818f345d92a", checked := Try.checked }
namespace Rows
def none {H : Type} : Left H := { results := [], args := [] }

/-- 'reparteelaw15.FactorMakes': WHATEVER THE INPUT: true; the input reads as it did. -/
def factorMakesSpec : ChangeSpec := { name := "factorMakes", fn := fun _ => fun
  | [d1, d2, d3] => { results := [.lit (.bool true)], args := [d1, d2, d3] }
  | _ => none }
def factorMakesRow : OpenClaim := { program := "ytfgfahnakepegaa", sum := "491c9bb97fac82136b292c2a332e455b308c4f5247ac91a3aaf77818f345d92a", func := "repartee/reparteelaw15.FactorMakes", spec := "factorMakes", unfollowed := true, recurses := true, loops := true, apart := false }
def FactorMakesSaid : Prop := factorMakesRow.holds Try.pinned (OpenSpec.ofChange factorMakesSpec)

/-- ITS FALSE NEIGHBOUR: 'it returns false'. Refute it at one input. -/
def factorMakesWrong : ChangeSpec := { name := "factorMakes", fn := fun _ => fun
  | [d1, d2, d3] => { results := [.lit (.bool false)], args := [d1, d2, d3] }
  | _ => none }
def FactorMakesWrongFalsely : Prop := factorMakesRow.holds Try.pinned (OpenSpec.ofChange factorMakesWrong)

/-- 'reparteelaw15.FactorFronts': WHATEVER THE INPUT: true; the input reads as it did. -/
def factorFrontsSpec : ChangeSpec := { name := "factorFronts", fn := fun _ => fun
  | [d1, d2] => { results := [.lit (.bool true)], args := [d1, d2] }
  | _ => none }
def factorFrontsRow : OpenClaim := { program := "ytfgfahnakepegaa", sum := "491c9bb97fac82136b292c2a332e455b308c4f5247ac91a3aaf77818f345d92a", func := "repartee/reparteelaw15.FactorFronts", spec := "factorFronts", unfollowed := true, recurses := true, apart := false }
def FactorFrontsSaid : Prop := factorFrontsRow.holds Try.pinned (OpenSpec.ofChange factorFrontsSpec)

/-- ITS FALSE NEIGHBOUR: 'it returns false'. Refute it at one input. -/
def factorFrontsWrong : ChangeSpec := { name := "factorFronts", fn := fun _ => fun
  | [d1, d2] => { results := [.lit (.bool false)], args := [d1, d2] }
  | _ => none }
def FactorFrontsWrongFalsely : Prop := factorFrontsRow.holds Try.pinned (OpenSpec.ofChange factorFrontsWrong)

/-- 'reparteelaw15.FactorTells': WHATEVER THE INPUT: true; the input reads as it did. -/
def factorTellsSpec : ChangeSpec := { name := "factorTells", fn := fun _ => fun
  | [d] => { results := [.lit (.bool true)], args := [d] }
  | _ => none }
def factorTellsRow : OpenClaim := { program := "ytfgfahnakepegaa", sum := "491c9bb97fac82136b292c2a332e455b308c4f5247ac91a3aaf77818f345d92a", func := "repartee/reparteelaw15.FactorTells", spec := "factorTells", unfollowed := true, recurses := true, loops := true, apart := false }
def FactorTellsSaid : Prop := factorTellsRow.holds Try.pinned (OpenSpec.ofChange factorTellsSpec)

/-- ITS FALSE NEIGHBOUR: 'it returns false'. Refute it at one input. -/
def factorTellsWrong : ChangeSpec := { name := "factorTells", fn := fun _ => fun
  | [d] => { results := [.lit (.bool false)], args := [d] }
  | _ => none }
def FactorTellsWrongFalsely : Prop := factorTellsRow.holds Try.pinned (OpenSpec.ofChange factorTellsWrong)

/-- 'reparteelaw15.FactorLess': WHATEVER THE INPUT: true; the input reads as it did. -/
def factorLessSpec : ChangeSpec := { name := "factorLess", fn := fun _ => fun
  | [d] => { results := [.lit (.bool true)], args := [d] }
  | _ => none }
def factorLessRow : OpenClaim := { program := "ytfgfahnakepegaa", sum := "491c9bb97fac82136b292c2a332e455b308c4f5247ac91a3aaf77818f345d92a", func := "repartee/reparteelaw15.FactorLess", spec := "factorLess", unfollowed := true, recurses := true, apart := false }
def FactorLessSaid : Prop := factorLessRow.holds Try.pinned (OpenSpec.ofChange factorLessSpec)

/-- ITS FALSE NEIGHBOUR: 'it returns false'. Refute it at one input. -/
def factorLessWrong : ChangeSpec := { name := "factorLess", fn := fun _ => fun
  | [d] => { results := [.lit (.bool false)], args := [d] }
  | _ => none }
def FactorLessWrongFalsely : Prop := factorLessRow.holds Try.pinned (OpenSpec.ofChange factorLessWrong)

/-- 'reparteelaw15.FactorSteps': WHATEVER THE INPUT: true; the input reads as it did. -/
def factorStepsSpec : ChangeSpec := { name := "factorSteps", fn := fun _ => fun
  | [d] => { results := [.lit (.bool true)], args := [d] }
  | _ => none }
def factorStepsRow : OpenClaim := { program := "ytfgfahnakepegaa", sum := "491c9bb97fac82136b292c2a332e455b308c4f5247ac91a3aaf77818f345d92a", func := "repartee/reparteelaw15.FactorSteps", spec := "factorSteps", unfollowed := true, recurses := true, apart := false }
def FactorStepsSaid : Prop := factorStepsRow.holds Try.pinned (OpenSpec.ofChange factorStepsSpec)

/-- ITS FALSE NEIGHBOUR: 'it returns false'. Refute it at one input. -/
def factorStepsWrong : ChangeSpec := { name := "factorSteps", fn := fun _ => fun
  | [d] => { results := [.lit (.bool false)], args := [d] }
  | _ => none }
def FactorStepsWrongFalsely : Prop := factorStepsRow.holds Try.pinned (OpenSpec.ofChange factorStepsWrong)

/-- 'reparteelaw15.FactorBest': WHATEVER THE INPUT: true; the input reads as it did. -/
def factorBestSpec : ChangeSpec := { name := "factorBest", fn := fun _ => fun
  | [d] => { results := [.lit (.bool true)], args := [d] }
  | _ => none }
def factorBestRow : OpenClaim := { program := "ytfgfahnakepegaa", sum := "491c9bb97fac82136b292c2a332e455b308c4f5247ac91a3aaf77818f345d92a", func := "repartee/reparteelaw15.FactorBest", spec := "factorBest", unfollowed := true, recurses := true, apart := false }
def FactorBestSaid : Prop := factorBestRow.holds Try.pinned (OpenSpec.ofChange factorBestSpec)

/-- ITS FALSE NEIGHBOUR: 'it returns false'. Refute it at one input. -/
def factorBestWrong : ChangeSpec := { name := "factorBest", fn := fun _ => fun
  | [d] => { results := [.lit (.bool false)], args := [d] }
  | _ => none }
def FactorBestWrongFalsely : Prop := factorBestRow.holds Try.pinned (OpenSpec.ofChange factorBestWrong)

/-- 'reparteelaw15.FactorWrong': WHATEVER THE INPUT: true; the input reads as it did. -/
def factorWrongSpec : ChangeSpec := { name := "factorWrong", fn := fun _ => fun
  | [d1, d2, d3] => { results := [.lit (.bool true)], args := [d1, d2, d3] }
  | _ => none }
def factorWrongRow : OpenClaim := { program := "ytfgfahnakepegaa", sum := "491c9bb97fac82136b292c2a332e455b308c4f5247ac91a3aaf77818f345d92a", func := "repartee/reparteelaw15.FactorWrong", spec := "factorWrong", unfollowed := true, recurses := true, apart := false }
def FactorWrongSaid : Prop := factorWrongRow.holds Try.pinned (OpenSpec.ofChange factorWrongSpec)

/-- ITS FALSE NEIGHBOUR: 'it returns false'. Refute it at one input. -/
def factorWrongWrong : ChangeSpec := { name := "factorWrong", fn := fun _ => fun
  | [d1, d2, d3] => { results := [.lit (.bool false)], args := [d1, d2, d3] }
  | _ => none }
def FactorWrongWrongFalsely : Prop := factorWrongRow.holds Try.pinned (OpenSpec.ofChange factorWrongWrong)

/- THE SECOND FORM. 'bulk': how many values and letters a reading holds, each counted each time it is reached (what is shared counts as often as it is met; a slice's spare places count too). A statement '..UptoSaid' is the law's where the arguments, and the package variables that the reading takes, are together of bulk at most 1048576: NARROWER than '..Said'. Prove '..Said' where nothing that the law and all that it calls make is longer than what came in: it says more and counts as full. Else prove '..UptoSaid'. A law counts once. -/
mutual
def uptoBulk {H : Type} : DataW H → Nat
  | .lit (.string bytes) => bytes.length + 1
  | .lit _ => 1
  | .nil => 1
  | .ptr d => uptoBulk d + 1
  | .slice elems spare => uptoBulkAll elems + uptoBulkAll spare + 1
  | .agg parts => uptoBulkAll parts + 1
  | .iface _ d => uptoBulk d + 1
  | .map entries => uptoBulkEntries entries + 1
  | .held _ => 1
def uptoBulkAll {H : Type} : List (DataW H) → Nat
  | [] => 0
  | d :: r => uptoBulk d + uptoBulkAll r
def uptoBulkEntries {H : Type} : List (Lit × DataW H) → Nat
  | [] => 0
  | x :: r => uptoBulkEntry x + uptoBulkEntries r
def uptoBulkEntry {H : Type} : Lit × DataW H → Nat
  | (.string bytes, d) => bytes.length + uptoBulk d + 1
  | (_, d) => uptoBulk d + 1
 end
def uptoSmall : (H : Type) → List (DataW H) → Bool := fun _ ds => decide (uptoBulkAll ds ≤ 1048576)
def OpenSpec.upto (s : _root_.Go.ChangeSpec) : _root_.Go.OpenSpec := { _root_.Go.OpenSpec.ofChange s with cond := some uptoSmall }

/-- 'reparteelaw15.FactorMakes', WHERE WHAT IT READS IS OF BULK AT MOST 1048576: true; the input reads as it did. -/
def factorMakesUptoRow : OpenClaim := { program := "ytfgfahnakepegaa", sum := "491c9bb97fac82136b292c2a332e455b308c4f5247ac91a3aaf77818f345d92a", func := "repartee/reparteelaw15.FactorMakes", spec := "factorMakes", unfollowed := true, recurses := true, loops := true, apart := false, narrowed := true }
def FactorMakesUptoSaid : Prop := factorMakesUptoRow.holds Try.pinned (OpenSpec.upto factorMakesSpec)

/-- 'reparteelaw15.FactorFronts', WHERE WHAT IT READS IS OF BULK AT MOST 1048576: true; the input reads as it did. -/
def factorFrontsUptoRow : OpenClaim := { program := "ytfgfahnakepegaa", sum := "491c9bb97fac82136b292c2a332e455b308c4f5247ac91a3aaf77818f345d92a", func := "repartee/reparteelaw15.FactorFronts", spec := "factorFronts", unfollowed := true, recurses := true, apart := false, narrowed := true }
def FactorFrontsUptoSaid : Prop := factorFrontsUptoRow.holds Try.pinned (OpenSpec.upto factorFrontsSpec)

/-- 'reparteelaw15.FactorTells', WHERE WHAT IT READS IS OF BULK AT MOST 1048576: true; the input reads as it did. -/
def factorTellsUptoRow : OpenClaim := { program := "ytfgfahnakepegaa", sum := "491c9bb97fac82136b292c2a332e455b308c4f5247ac91a3aaf77818f345d92a", func := "repartee/reparteelaw15.FactorTells", spec := "factorTells", unfollowed := true, recurses := true, loops := true, apart := false, narrowed := true }
def FactorTellsUptoSaid : Prop := factorTellsUptoRow.holds Try.pinned (OpenSpec.upto factorTellsSpec)

/-- 'reparteelaw15.FactorLess', WHERE WHAT IT READS IS OF BULK AT MOST 1048576: true; the input reads as it did. -/
def factorLessUptoRow : OpenClaim := { program := "ytfgfahnakepegaa", sum := "491c9bb97fac82136b292c2a332e455b308c4f5247ac91a3aaf77818f345d92a", func := "repartee/reparteelaw15.FactorLess", spec := "factorLess", unfollowed := true, recurses := true, apart := false, narrowed := true }
def FactorLessUptoSaid : Prop := factorLessUptoRow.holds Try.pinned (OpenSpec.upto factorLessSpec)

/-- 'reparteelaw15.FactorSteps', WHERE WHAT IT READS IS OF BULK AT MOST 1048576: true; the input reads as it did. -/
def factorStepsUptoRow : OpenClaim := { program := "ytfgfahnakepegaa", sum := "491c9bb97fac82136b292c2a332e455b308c4f5247ac91a3aaf77818f345d92a", func := "repartee/reparteelaw15.FactorSteps", spec := "factorSteps", unfollowed := true, recurses := true, apart := false, narrowed := true }
def FactorStepsUptoSaid : Prop := factorStepsUptoRow.holds Try.pinned (OpenSpec.upto factorStepsSpec)

/-- 'reparteelaw15.FactorBest', WHERE WHAT IT READS IS OF BULK AT MOST 1048576: true; the input reads as it did. -/
def factorBestUptoRow : OpenClaim := { program := "ytfgfahnakepegaa", sum := "491c9bb97fac82136b292c2a332e455b308c4f5247ac91a3aaf77818f345d92a", func := "repartee/reparteelaw15.FactorBest", spec := "factorBest", unfollowed := true, recurses := true, apart := false, narrowed := true }
def FactorBestUptoSaid : Prop := factorBestUptoRow.holds Try.pinned (OpenSpec.upto factorBestSpec)

/-- 'reparteelaw15.FactorWrong', WHERE WHAT IT READS IS OF BULK AT MOST 1048576: true; the input reads as it did. -/
def factorWrongUptoRow : OpenClaim := { program := "ytfgfahnakepegaa", sum := "491c9bb97fac82136b292c2a332e455b308c4f5247ac91a3aaf77818f345d92a", func := "repartee/reparteelaw15.FactorWrong", spec := "factorWrong", unfollowed := true, recurses := true, apart := false, narrowed := true }
def FactorWrongUptoSaid : Prop := factorWrongUptoRow.holds Try.pinned (OpenSpec.upto factorWrongSpec)

end Rows
end Go.Proofs.Ytfgfahnakepegaa
