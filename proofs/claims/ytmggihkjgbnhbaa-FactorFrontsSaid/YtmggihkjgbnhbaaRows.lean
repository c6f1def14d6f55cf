/-
  No cell of these rows narrows 'for every input' (looked for: loops, veiled, ifaces, maps, wideKeys, modest, calm, conditions, laid).
  DERIVED. THE GIVEN ROWS OF THIS SEAT. 5 by the template 'for every input the law returns true; each argument reads behind the call as it read before'; 0 by the template 'total and deterministic' (their statements: YtmggihkjgbnhbaaTotals.lean).
  GIVEN WITH THE SEED: the statements are not yours to turn. If you find one false, say at which input.
  Laid BY PROGRAM, IN A SANDBOX (cutbox-rows.mjs): the forced cells as the released guide's own fill.sh prints them over the translation 05bcaae2563210da… (all of the seat's roots in one cut). By AI agents, Wed Nov 11 2026. No macro, syntax, notation, axiom, sorry.
-/
import Derived.Test.YtmggihkjgbnhbaaChecked
import GoSem.Claim
import GoSem.ClaimJoined
import GoSem.ClaimMapViews
import Derived.JoinedTies
import Derived.KernelRfl
namespace Go.Proofs.Ytmggihkjgbnhbaa
/- THE CELL 'sum', in the pinned program and in every row, IS THE sha256 OF THE DUMP (.gsa) THAT YtmggihkjgbnhbaaProg.lean LOADS. Nothing in Lean hashes anything: it is a label: what it is worth is what the hold of that sum in a sandbox is worth. -/
noncomputable def Try.pinned : Pinned := { name := "ytmggihkjgbnhbaa", sum := "05bcaae2563210da18511a78096d8f1511db875a7a3caec2a65f86aacac34911", checked := Try.checked }
namespace Rows
def none {H : Type} : Left H := { results := [], args := [] }

/-- 'reparteelaw15.FactorFronts': WHATEVER THE INPUT: true; the input reads as it did. -/
def factorFrontsSpec : ChangeSpec := { name := "factorFronts", fn := fun _ => fun
  | [d1, d2] => { results := [.lit (.bool true)], args := [d1, d2] }
  | _ => none }
def factorFrontsRow : OpenClaim := { program := "ytmggihkjgbnhbaa", sum := "05bcaae2563210da18511a78096d8f1511db875a7a3caec2a65f86aacac34911", func := "repartee/reparteelaw15.FactorFronts", spec := "factorFronts", unfollowed := true, recurses := true, apart := false }
def FactorFrontsSaid : Prop := factorFrontsRow.holds Try.pinned (OpenSpec.ofChange factorFrontsSpec)

/-- ITS FALSE NEIGHBOUR: 'it returns false'. Refute it at one input. -/
def factorFrontsWrong : ChangeSpec := { name := "factorFronts", fn := fun _ => fun
  | [d1, d2] => { results := [.lit (.bool false)], args := [d1, d2] }
  | _ => none }
def FactorFrontsWrongFalsely : Prop := factorFrontsRow.holds Try.pinned (OpenSpec.ofChange factorFrontsWrong)

/-- 'reparteelaw15.FactorLess': WHATEVER THE INPUT: true; the input reads as it did. -/
def factorLessSpec : ChangeSpec := { name := "factorLess", fn := fun _ => fun
  | [d] => { results := [.lit (.bool true)], args := [d] }
  | _ => none }
def factorLessRow : OpenClaim := { program := "ytmggihkjgbnhbaa", sum := "05bcaae2563210da18511a78096d8f1511db875a7a3caec2a65f86aacac34911", func := "repartee/reparteelaw15.FactorLess", spec := "factorLess", unfollowed := true, recurses := true, apart := false }
def FactorLessSaid : Prop := factorLessRow.holds Try.pinned (OpenSpec.ofChange factorLessSpec)

/-- ITS FALSE NEIGHBOUR: 'it returns false'. Refute it at one input. -/
def factorLessWrong : ChangeSpec := { name := "factorLess", fn := fun _ => fun
  | [d] => { results := [.lit (.bool false)], args := [d] }
  | _ => none }
def FactorLessWrongFalsely : Prop := factorLessRow.holds Try.pinned (OpenSpec.ofChange factorLessWrong)

/-- 'reparteelaw15.FactorSteps': WHATEVER THE INPUT: true; the input reads as it did. -/
def factorStepsSpec : ChangeSpec := { name := "factorSteps", fn := fun _ => fun
  | [d] => { results := [.lit (.bool true)], args := [d] }
  | _ => none }
def factorStepsRow : OpenClaim := { program := "ytmggihkjgbnhbaa", sum := "05bcaae2563210da18511a78096d8f1511db875a7a3caec2a65f86aacac34911", func := "repartee/reparteelaw15.FactorSteps", spec := "factorSteps", unfollowed := true, recurses := true, apart := false }
def FactorStepsSaid : Prop := factorStepsRow.holds Try.pinned (OpenSpec.ofChange factorStepsSpec)

/-- ITS FALSE NEIGHBOUR: 'it returns false'. Refute it at one input. -/
def factorStepsWrong : ChangeSpec := { name := "factorSteps", fn := fun _ => fun
  | [d] => { results := [.lit (.bool false)], args := [d] }
  | _ => none }
def FactorStepsWrongFalsely : Prop := factorStepsRow.holds Try.pinned (OpenSpec.ofChange factorStepsWrong)

/-- 'reparteelaw15.FactorBest': WHATEVER THE INPUT: true; the input reads as it did. -/
def factorBestSpec : ChangeSpec := { name := "factorBest", fn := fun _ => fun
  | [d] => { results := [.lit (.bool true)], args := [d] }
  | _ => none }
def factorBestRow : OpenClaim := { program := "ytmggihkjgbnhbaa", sum := "05bcaae2563210da18511a78096d8f1511db875a7a3caec2a65f86aacac34911", func := "repartee/reparteelaw15.FactorBest", spec := "factorBest", unfollowed := true, recurses := true, apart := false }
def FactorBestSaid : Prop := factorBestRow.holds Try.pinned (OpenSpec.ofChange factorBestSpec)

/-- ITS FALSE NEIGHBOUR: 'it returns false'. Refute it at one input. -/
def factorBestWrong : ChangeSpec := { name := "factorBest", fn := fun _ => fun
  | [d] => { results := [.lit (.bool false)], args := [d] }
  | _ => none }
def FactorBestWrongFalsely : Prop := factorBestRow.holds Try.pinned (OpenSpec.ofChange factorBestWrong)

/-- 'reparteelaw15.FactorWrong': WHATEVER THE INPUT: true; the input reads as it did. -/
def factorWrongSpec : ChangeSpec := { name := "factorWrong", fn := fun _ => fun
  | [d1, d2, d3] => { results := [.lit (.bool true)], args := [d1, d2, d3] }
  | _ => none }
def factorWrongRow : OpenClaim := { program := "ytmggihkjgbnhbaa", sum := "05bcaae2563210da18511a78096d8f1511db875a7a3caec2a65f86aacac34911", func := "repartee/reparteelaw15.FactorWrong", spec := "factorWrong", unfollowed := true, recurses := true, apart := false }
def FactorWrongSaid : Prop := factorWrongRow.holds Try.pinned (OpenSpec.ofChange factorWrongSpec)

/-- ITS FALSE NEIGHBOUR: 'it returns false'. Refute it at one input. -/
def factorWrongWrong : ChangeSpec := { name := "factorWrong", fn := fun _ => fun
  | [d1, d2, d3] => { results := [.lit (.bool false)], args := [d1, d2, d3] }
  | _ => none }
def FactorWrongWrongFalsely : Prop := factorWrongRow.holds Try.pinned (OpenSpec.ofChange factorWrongWrong)

/- THE SECOND FORM. 'bulk': how many values and letters a reading holds, each counted each time it is reached (what is shared counts as often as it is met; a slice's spare places count too). A statement '..UptoSaid' is the law's where the arguments, and the package variables that the reading takes, are together of bulk at most 1048576: NARROWER than '..Said'. Prove '..Said' where nothing that the law and all that it calls make is longer than what came in: it says more and counts as full. Else prove '..UptoSaid'. A law counts once. -/
mutual
def uptoBulk {H : Type} : DataW H → Nat
  | .lit (.string bytes) => bytes.length + 1
  | .lit _ => 1
  | .nil => 1
  | .ptr d => uptoBulk d + 1
  | .slice elems spare => uptoBulkAll elems + uptoBulkAll spare + 1
  | .agg parts => uptoBulkAll parts + 1
  | .iface _ d => uptoBulk d + 1
  | .map entries => uptoBulkEntries entries + 1
  | .held _ => 1
def uptoBulkAll {H : Type} : List (DataW H) → Nat
  | [] => 0
  | d :: r => uptoBulk d + uptoBulkAll r
def uptoBulkEntries {H : Type} : List (Lit × DataW H) → Nat
  | [] => 0
  | x :: r => uptoBulkEntry x + uptoBulkEntries r
def uptoBulkEntry {H : Type} : Lit × DataW H → Nat
  | (.string bytes, d) => bytes.length + uptoBulk d + 1
  | (_, d) => uptoBulk d + 1
 end
def uptoSmall : (H : Type) → List (DataW H) → Bool := fun _ ds => decide (uptoBulkAll ds ≤ 1048576)
def OpenSpec.upto (s : _root_.Go.ChangeSpec) : _root_.Go.OpenSpec := { _root_.Go.OpenSpec.ofChange s with cond := some uptoSmall }

/-- 'reparteelaw15.FactorFronts', WHERE WHAT IT READS IS OF BULK AT MOST 1048576: true; the input reads as it did. -/
def factorFrontsUptoRow : OpenClaim := { program := "ytmggihkjgbnhbaa", sum := "05bcaae2563210da18511a78096d8f1511db875a7a3caec2a65f86aacac34911", func := "repartee/reparteelaw15.FactorFronts", spec := "factorFronts", unfollowed := true, recurses := true, apart := false, narrowed := true }
def FactorFrontsUptoSaid : Prop := factorFrontsUptoRow.holds Try.pinned (OpenSpec.upto factorFrontsSpec)

/-- 'reparteelaw15.FactorLess', WHERE WHAT IT READS IS OF BULK AT MOST 1048576: true; the input reads as it did. -/
def factorLessUptoRow : OpenClaim := { program := "ytmggihkjgbnhbaa", sum := "05bcaae2563210da18511a78096d8f1511db875a7a3caec2a65f86aacac34911", func := "repartee/reparteelaw15.FactorLess", spec := "factorLess", unfollowed := true, recurses := true, apart := false, narrowed := true }
def FactorLessUptoSaid : Prop := factorLessUptoRow.holds Try.pinned (OpenSpec.upto factorLessSpec)

/-- 'reparteelaw15.FactorSteps', WHERE WHAT IT READS IS OF BULK AT MOST 1048576: true; the input reads as it did. -/
def factorStepsUptoRow : OpenClaim := { program := "ytmggihkjgbnhbaa", sum := "05bcaae2563210da18511a78096d8f1511db875a7a3caec2a65f86aacac34911", func := "repartee/reparteelaw15.FactorSteps", spec := "factorSteps", unfollowed := true, recurses := true, apart := false, narrowed := true }
def FactorStepsUptoSaid : Prop := factorStepsUptoRow.holds Try.pinned (OpenSpec.upto factorStepsSpec)

/-- 'reparteelaw15.FactorBest', WHERE WHAT IT READS IS OF BULK AT MOST 1048576: true; the input reads as it did. -/
def factorBestUptoRow : OpenClaim := { program := "ytmggihkjgbnhbaa", sum := "05bcaae2563210da18511a78096d8f1511db875a7a3caec2a65f86aacac34911", func := "repartee/reparteelaw15.FactorBest", spec := "factorBest", unfollowed := true, recurses := true, apart := false, narrowed := true }
def FactorBestUptoSaid : Prop := factorBestUptoRow.holds Try.pinned (OpenSpec.upto factorBestSpec)

/-- 'reparteelaw15.FactorWrong', WHERE WHAT IT READS IS OF BULK AT MOST 1048576: true; the input reads as it did. -/
def factorWrongUptoRow : OpenClaim := { program := "ytmggihkjgbnhbaa", sum := "05bcaae2563210da18511a78096d8f1511db875a7a3caec2a65f86aacac34911", func := "repartee/reparteelaw15.FactorWrong", spec := "factorWrong", unfollowed := true, recurses := true, apart := false, narrowed := true }
def FactorWrongUptoSaid : Prop := factorWrongUptoRow.holds Try.pinned (OpenSpec.upto factorWrongSpec)

end Rows
end Go.Proofs.Ytmggihkjgbnhbaa
