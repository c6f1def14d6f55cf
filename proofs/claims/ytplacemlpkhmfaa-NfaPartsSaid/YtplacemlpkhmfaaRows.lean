/-
  No cell of these rows narrows 'for every input' (looked for: loops, veiled, ifaces, maps, wideKeys, modest, calm, conditions, laid).
  DERIVED. THE GIVEN ROWS OF THIS SEAT. 7 by the template 'for every input the law returns true; each argument reads behind the call as it read before'; 0 by the template 'total and deterministic' (their statements: YtplacemlpkhmfaaTotals.lean).
  GIVEN WITH THE SEED: the statements are not yours to turn. If you find one false, say at which input.
  Laid BY PROGRAM, IN A SANDBOX (cutbox-rows.mjs): the forced cells as the released guide's own fill.sh prints them over the translation 43371d8a4df14cd7… (all of the seat's roots in one cut). By AI agents, Wed Nov 11 2026. No macro, syntax, notation, axiom, sorry.
-/
import Derived.Test.YtplacemlpkhmfaaChecked
import GoSem.Claim
import GoSem.ClaimJoined
import GoSem.ClaimMapViews
import Derived.JoinedTies
import Derived.KernelRfl
namespace Go.Proofs.Ytplacemlpkhmfaa
/- THE CELL 'sum', in the pinned program and in every row, IS THE sha256 OF THE DUMP (.gsa) THAT YtplacemlpkhmfaaProg.lean LOADS. Nothing in Lean hashes anything: it is a label: what it is worth is what the hold of that sum in a sandbox is worth. -/
noncomputable def Try.pinned : Pinned := { name := "ytplacemlpkhmfaa", sum := "43371d8a4df14cd70065670334cce3e20f86355dafd3a1859ab05b5059cf7a60", checked := Try.checked }
namespace Rows
def none {H : Type} : Left H := { results := [], args := [] }

/-- 'reparteelaw17.NfaSteps': WHATEVER THE INPUT: true; the input reads as it did. -/
def nfaStepsSpec : ChangeSpec := { name := "nfaSteps", fn := fun _ => fun
  | [d1, d2, d3, d4] => { results := [.lit (.bool true)], args := [d1, d2, d3, d4] }
  | _ => none }
def nfaStepsRow : OpenClaim := { program := "ytplacemlpkhmfaa", sum := "43371d8a4df14cd70065670334cce3e20f86355dafd3a1859ab05b5059cf7a60", func := "repartee/reparteelaw17.NfaSteps", spec := "nfaSteps", unfollowed := true, recurses := true, apart := false }
def NfaStepsSaid : Prop := nfaStepsRow.holds Try.pinned (OpenSpec.ofChange nfaStepsSpec)

/-- ITS FALSE NEIGHBOUR: 'it returns false'. Refute it at one input. -/
def nfaStepsWrong : ChangeSpec := { name := "nfaSteps", fn := fun _ => fun
  | [d1, d2, d3, d4] => { results := [.lit (.bool false)], args := [d1, d2, d3, d4] }
  | _ => none }
def NfaStepsWrongFalsely : Prop := nfaStepsRow.holds Try.pinned (OpenSpec.ofChange nfaStepsWrong)

/-- 'reparteelaw17.NfaRuns': WHATEVER THE INPUT: true; the input reads as it did. -/
def nfaRunsSpec : ChangeSpec := { name := "nfaRuns", fn := fun _ => fun
  | [d1, d2] => { results := [.lit (.bool true)], args := [d1, d2] }
  | _ => none }
def nfaRunsRow : OpenClaim := { program := "ytplacemlpkhmfaa", sum := "43371d8a4df14cd70065670334cce3e20f86355dafd3a1859ab05b5059cf7a60", func := "repartee/reparteelaw17.NfaRuns", spec := "nfaRuns", unfollowed := true, recurses := true, apart := false }
def NfaRunsSaid : Prop := nfaRunsRow.holds Try.pinned (OpenSpec.ofChange nfaRunsSpec)

/-- ITS FALSE NEIGHBOUR: 'it returns false'. Refute it at one input. -/
def nfaRunsWrong : ChangeSpec := { name := "nfaRuns", fn := fun _ => fun
  | [d1, d2] => { results := [.lit (.bool false)], args := [d1, d2] }
  | _ => none }
def NfaRunsWrongFalsely : Prop := nfaRunsRow.holds Try.pinned (OpenSpec.ofChange nfaRunsWrong)

/-- 'reparteelaw17.NfaTurns': WHATEVER THE INPUT: true; the input reads as it did. -/
def nfaTurnsSpec : ChangeSpec := { name := "nfaTurns", fn := fun _ => fun
  | [d1, d2] => { results := [.lit (.bool true)], args := [d1, d2] }
  | _ => none }
def nfaTurnsRow : OpenClaim := { program := "ytplacemlpkhmfaa", sum := "43371d8a4df14cd70065670334cce3e20f86355dafd3a1859ab05b5059cf7a60", func := "repartee/reparteelaw17.NfaTurns", spec := "nfaTurns", unfollowed := true, recurses := true, apart := false }
def NfaTurnsSaid : Prop := nfaTurnsRow.holds Try.pinned (OpenSpec.ofChange nfaTurnsSpec)

/-- ITS FALSE NEIGHBOUR: 'it returns false'. Refute it at one input. -/
def nfaTurnsWrong : ChangeSpec := { name := "nfaTurns", fn := fun _ => fun
  | [d1, d2] => { results := [.lit (.bool false)], args := [d1, d2] }
  | _ => none }
def NfaTurnsWrongFalsely : Prop := nfaTurnsRow.holds Try.pinned (OpenSpec.ofChange nfaTurnsWrong)

/-- 'reparteelaw17.NfaWrong': WHATEVER THE INPUT: true; the input reads as it did. -/
def nfaWrongSpec : ChangeSpec := { name := "nfaWrong", fn := fun _ => fun
  | [d1, d2, d3] => { results := [.lit (.bool true)], args := [d1, d2, d3] }
  | _ => none }
def nfaWrongRow : OpenClaim := { program := "ytplacemlpkhmfaa", sum := "43371d8a4df14cd70065670334cce3e20f86355dafd3a1859ab05b5059cf7a60", func := "repartee/reparteelaw17.NfaWrong", spec := "nfaWrong", unfollowed := true, recurses := true, apart := false }
def NfaWrongSaid : Prop := nfaWrongRow.holds Try.pinned (OpenSpec.ofChange nfaWrongSpec)

/-- ITS FALSE NEIGHBOUR: 'it returns false'. Refute it at one input. -/
def nfaWrongWrong : ChangeSpec := { name := "nfaWrong", fn := fun _ => fun
  | [d1, d2, d3] => { results := [.lit (.bool false)], args := [d1, d2, d3] }
  | _ => none }
def NfaWrongWrongFalsely : Prop := nfaWrongRow.holds Try.pinned (OpenSpec.ofChange nfaWrongWrong)

/-- 'reparteelaw17.NfaTogether': WHATEVER THE INPUT: true; the input reads as it did. -/
def nfaTogetherSpec : ChangeSpec := { name := "nfaTogether", fn := fun _ => fun
  | [d1, d2, d3] => { results := [.lit (.bool true)], args := [d1, d2, d3] }
  | _ => none }
def nfaTogetherRow : OpenClaim := { program := "ytplacemlpkhmfaa", sum := "43371d8a4df14cd70065670334cce3e20f86355dafd3a1859ab05b5059cf7a60", func := "repartee/reparteelaw17.NfaTogether", spec := "nfaTogether", unfollowed := true, recurses := true, apart := false }
def NfaTogetherSaid : Prop := nfaTogetherRow.holds Try.pinned (OpenSpec.ofChange nfaTogetherSpec)

/-- ITS FALSE NEIGHBOUR: 'it returns false'. Refute it at one input. -/
def nfaTogetherWrong : ChangeSpec := { name := "nfaTogether", fn := fun _ => fun
  | [d1, d2, d3] => { results := [.lit (.bool false)], args := [d1, d2, d3] }
  | _ => none }
def NfaTogetherWrongFalsely : Prop := nfaTogetherRow.holds Try.pinned (OpenSpec.ofChange nfaTogetherWrong)

/-- 'reparteelaw17.NfaMatches': WHATEVER THE INPUT: true; the input reads as it did. -/
def nfaMatchesSpec : ChangeSpec := { name := "nfaMatches", fn := fun _ => fun
  | [d1, d2] => { results := [.lit (.bool true)], args := [d1, d2] }
  | _ => none }
def nfaMatchesRow : OpenClaim := { program := "ytplacemlpkhmfaa", sum := "43371d8a4df14cd70065670334cce3e20f86355dafd3a1859ab05b5059cf7a60", func := "repartee/reparteelaw17.NfaMatches", spec := "nfaMatches", unfollowed := true, recurses := true, apart := false }
def NfaMatchesSaid : Prop := nfaMatchesRow.holds Try.pinned (OpenSpec.ofChange nfaMatchesSpec)

/-- ITS FALSE NEIGHBOUR: 'it returns false'. Refute it at one input. -/
def nfaMatchesWrong : ChangeSpec := { name := "nfaMatches", fn := fun _ => fun
  | [d1, d2] => { results := [.lit (.bool false)], args := [d1, d2] }
  | _ => none }
def NfaMatchesWrongFalsely : Prop := nfaMatchesRow.holds Try.pinned (OpenSpec.ofChange nfaMatchesWrong)

/-- 'reparteelaw17.NfaParts': WHATEVER THE INPUT: true; the input reads as it did. -/
def nfaPartsSpec : ChangeSpec := { name := "nfaParts", fn := fun _ => fun
  | [d1, d2, d3] => { results := [.lit (.bool true)], args := [d1, d2, d3] }
  | _ => none }
def nfaPartsRow : OpenClaim := { program := "ytplacemlpkhmfaa", sum := "43371d8a4df14cd70065670334cce3e20f86355dafd3a1859ab05b5059cf7a60", func := "repartee/reparteelaw17.NfaParts", spec := "nfaParts", unfollowed := true, recurses := true, apart := false }
def NfaPartsSaid : Prop := nfaPartsRow.holds Try.pinned (OpenSpec.ofChange nfaPartsSpec)

/-- ITS FALSE NEIGHBOUR: 'it returns false'. Refute it at one input. -/
def nfaPartsWrong : ChangeSpec := { name := "nfaParts", fn := fun _ => fun
  | [d1, d2, d3] => { results := [.lit (.bool false)], args := [d1, d2, d3] }
  | _ => none }
def NfaPartsWrongFalsely : Prop := nfaPartsRow.holds Try.pinned (OpenSpec.ofChange nfaPartsWrong)

/- THE SECOND FORM. 'bulk': how many values and letters a reading holds, each counted each time it is reached (what is shared counts as often as it is met; a slice's spare places count too). A statement '..UptoSaid' is the law's where the arguments, and the package variables that the reading takes, are together of bulk at most 1048576: NARROWER than '..Said'. Prove '..Said' where nothing that the law and all that it calls make is longer than what came in: it says more and counts as full. Else prove '..UptoSaid'. A law counts once. -/
mutual
def uptoBulk {H : Type} : DataW H → Nat
  | .lit (.string bytes) => bytes.length + 1
  | .lit _ => 1
  | .nil => 1
  | .ptr d => uptoBulk d + 1
  | .slice elems spare => uptoBulkAll elems + uptoBulkAll spare + 1
  | .agg parts => uptoBulkAll parts + 1
  | .iface _ d => uptoBulk d + 1
  | .map entries => uptoBulkEntries entries + 1
  | .held _ => 1
def uptoBulkAll {H : Type} : List (DataW H) → Nat
  | [] => 0
  | d :: r => uptoBulk d + uptoBulkAll r
def uptoBulkEntries {H : Type} : List (Lit × DataW H) → Nat
  | [] => 0
  | x :: r => uptoBulkEntry x + uptoBulkEntries r
def uptoBulkEntry {H : Type} : Lit × DataW H → Nat
  | (.string bytes, d) => bytes.length + uptoBulk d + 1
  | (_, d) => uptoBulk d + 1
 end
def uptoSmall : (H : Type) → List (DataW H) → Bool := fun _ ds => decide (uptoBulkAll ds ≤ 1048576)
def OpenSpec.upto (s : _root_.Go.ChangeSpec) : _root_.Go.OpenSpec := { _root_.Go.OpenSpec.ofChange s with cond := some uptoSmall }

/-- 'reparteelaw17.NfaSteps', WHERE WHAT IT READS IS OF BULK AT MOST 1048576: true; the input reads as it did. -/
def nfaStepsUptoRow : OpenClaim := { program := "ytplacemlpkhmfaa", sum := "43371d8a4df14cd70065670334cce3e20f86355dafd3a1859ab05b5059cf7a60", func := "repartee/reparteelaw17.NfaSteps", spec := "nfaSteps", unfollowed := true, recurses := true, apart := false, narrowed := true }
def NfaStepsUptoSaid : Prop := nfaStepsUptoRow.holds Try.pinned (OpenSpec.upto nfaStepsSpec)

/-- 'reparteelaw17.NfaRuns', WHERE WHAT IT READS IS OF BULK AT MOST 1048576: true; the input reads as it did. -/
def nfaRunsUptoRow : OpenClaim := { program := "ytplacemlpkhmfaa", sum := "43371d8a4df14cd70065670334cce3e20f86355dafd3a1859ab05b5059cf7a60", func := "repartee/reparteelaw17.NfaRuns", spec := "nfaRuns", unfollowed := true, recurses := true, apart := false, narrowed := true }
def NfaRunsUptoSaid : Prop := nfaRunsUptoRow.holds Try.pinned (OpenSpec.upto nfaRunsSpec)

/-- 'reparteelaw17.NfaTurns', WHERE WHAT IT READS IS OF BULK AT MOST 1048576: true; the input reads as it did. -/
def nfaTurnsUptoRow : OpenClaim := { program := "ytplacemlpkhmfaa", sum := "43371d8a4df14cd70065670334cce3e20f86355dafd3a1859ab05b5059cf7a60", func := "repartee/reparteelaw17.NfaTurns", spec := "nfaTurns", unfollowed := true, recurses := true, apart := false, narrowed := true }
def NfaTurnsUptoSaid : Prop := nfaTurnsUptoRow.holds Try.pinned (OpenSpec.upto nfaTurnsSpec)

/-- 'reparteelaw17.NfaWrong', WHERE WHAT IT READS IS OF BULK AT MOST 1048576: true; the input reads as it did. -/
def nfaWrongUptoRow : OpenClaim := { program := "ytplacemlpkhmfaa", sum := "43371d8a4df14cd70065670334cce3e20f86355dafd3a1859ab05b5059cf7a60", func := "repartee/reparteelaw17.NfaWrong", spec := "nfaWrong", unfollowed := true, recurses := true, apart := false, narrowed := true }
def NfaWrongUptoSaid : Prop := nfaWrongUptoRow.holds Try.pinned (OpenSpec.upto nfaWrongSpec)

/-- 'reparteelaw17.NfaTogether', WHERE WHAT IT READS IS OF BULK AT MOST 1048576: true; the input reads as it did. -/
def nfaTogetherUptoRow : OpenClaim := { program := "ytplacemlpkhmfaa", sum := "43371d8a4df14cd70065670334cce3e20f86355dafd3a1859ab05b5059cf7a60", func := "repartee/reparteelaw17.NfaTogether", spec := "nfaTogether", unfollowed := true, recurses := true, apart := false, narrowed := true }
def NfaTogetherUptoSaid : Prop := nfaTogetherUptoRow.holds Try.pinned (OpenSpec.upto nfaTogetherSpec)

/-- 'reparteelaw17.NfaMatches', WHERE WHAT IT READS IS OF BULK AT MOST 1048576: true; the input reads as it did. -/
def nfaMatchesUptoRow : OpenClaim := { program := "ytplacemlpkhmfaa", sum := "43371d8a4df14cd70065670334cce3e20f86355dafd3a1859ab05b5059cf7a60", func := "repartee/reparteelaw17.NfaMatches", spec := "nfaMatches", unfollowed := true, recurses := true, apart := false, narrowed := true }
def NfaMatchesUptoSaid : Prop := nfaMatchesUptoRow.holds Try.pinned (OpenSpec.upto nfaMatchesSpec)

/-- 'reparteelaw17.NfaParts', WHERE WHAT IT READS IS OF BULK AT MOST 1048576: true; the input reads as it did. -/
def nfaPartsUptoRow : OpenClaim := { program := "ytplacemlpkhmfaa", sum := "43371d8a4df14cd70065670334cce3e20f86355dafd3a1859ab05b5059cf7a60", func := "repartee/reparteelaw17.NfaParts", spec := "nfaParts", unfollowed := true, recurses := true, apart := false, narrowed := true }
def NfaPartsUptoSaid : Prop := nfaPartsUptoRow.holds Try.pinned (OpenSpec.upto nfaPartsSpec)

end Rows
end Go.Proofs.Ytplacemlpkhmfaa
