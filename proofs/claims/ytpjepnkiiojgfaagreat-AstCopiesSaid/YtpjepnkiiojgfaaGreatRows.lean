/-
  No cell of these rows narrows 'for every input' (looked for: loops, veiled, ifaces, maps, wideKeys, modest, calm, conditions, laid).
  DERIVED. THE GIVEN ROWS OF THIS SEAT. 6 by the template 'for every input the law returns true; each argument reads behind the call as it read before'; 0 by the template 'total and deterministic' (their statements: YtpjepnkiiojgfaaGreatTotals.lean).
  GIVEN WITH THE SEED: the statements are not yours to turn. If you find one false, say at which input.
  Laid BY PROGRAM, IN A SANDBOX (cutbox-rows.mjs): the forced cells as the released guide's own fill.sh prints them over the translation 451e559b80a89272… (all of the seat's roots in one cut). By AI agents, Wed Nov 11 2026. No macro, syntax, notation, axiom, sorry.
-/
import Derived.Test.YtpjepnkiiojgfaaGreatChecked
import GoSem.Claim
import GoSem.ClaimJoined
import GoSem.ClaimMapViews
import Derived.JoinedTies
import Derived.KernelRfl
namespace Go.Proofs.YtpjepnkiiojgfaaGreat
/- THE CELL 'sum', in the pinned program and in every row, IS THE sha256 OF THE DUMP (.gsa) THAT YtpjepnkiiojgfaaGreatProg.lean LOADS. Nothing in Lean hashes anything: it is a label: what it is worth is what the hold of that sum in a sandbox is worth. -/
noncomputable def Tryz.pinned : Pinned := { name := "ytpjepnkiiojgfaagreat", sum := "451e559b80a89272f752798d7cfafebedef9dfc439115a29199f935d98c923a6", checked := Tryz.checked }
namespace Rows
def none {H : Type} : Left H := { results := [], args := [] }

/-- 'reparteelaw25.AstPlaces': WHATEVER THE INPUT: true; the input reads as it did. -/
def astPlacesSpec : ChangeSpec := { name := "astPlaces", fn := fun _ => fun
  | [d1, d2, d3] => { results := [.lit (.bool true)], args := [d1, d2, d3] }
  | _ => none }
def astPlacesRow : OpenClaim := { program := "ytpjepnkiiojgfaagreat", sum := "451e559b80a89272f752798d7cfafebedef9dfc439115a29199f935d98c923a6", func := "repartee/reparteelaw25.AstPlaces", spec := "astPlaces", inPlace := ["math.Float64frombits"], unfollowed := true, recurses := true, apart := false }
def AstPlacesSaid : Prop := astPlacesRow.holds Tryz.pinned (OpenSpec.ofChange astPlacesSpec)

/-- ITS FALSE NEIGHBOUR: 'it returns false'. Refute it at one input. -/
def astPlacesWrong : ChangeSpec := { name := "astPlaces", fn := fun _ => fun
  | [d1, d2, d3] => { results := [.lit (.bool false)], args := [d1, d2, d3] }
  | _ => none }
def AstPlacesWrongFalsely : Prop := astPlacesRow.holds Tryz.pinned (OpenSpec.ofChange astPlacesWrong)

/-- 'reparteelaw25.AstWrong': WHATEVER THE INPUT: true; the input reads as it did. -/
def astWrongSpec : ChangeSpec := { name := "astWrong", fn := fun _ => fun
  | [d1, d2] => { results := [.lit (.bool true)], args := [d1, d2] }
  | _ => none }
def astWrongRow : OpenClaim := { program := "ytpjepnkiiojgfaagreat", sum := "451e559b80a89272f752798d7cfafebedef9dfc439115a29199f935d98c923a6", func := "repartee/reparteelaw25.AstWrong", spec := "astWrong", inPlace := ["math.Float64frombits"], unfollowed := true, recurses := true, apart := false }
def AstWrongSaid : Prop := astWrongRow.holds Tryz.pinned (OpenSpec.ofChange astWrongSpec)

/-- ITS FALSE NEIGHBOUR: 'it returns false'. Refute it at one input. -/
def astWrongWrong : ChangeSpec := { name := "astWrong", fn := fun _ => fun
  | [d1, d2] => { results := [.lit (.bool false)], args := [d1, d2] }
  | _ => none }
def AstWrongWrongFalsely : Prop := astWrongRow.holds Tryz.pinned (OpenSpec.ofChange astWrongWrong)

/-- 'reparteelaw25.AstCopies': WHATEVER THE INPUT: true; the input reads as it did. -/
def astCopiesSpec : ChangeSpec := { name := "astCopies", fn := fun _ => fun
  | [d1, d2] => { results := [.lit (.bool true)], args := [d1, d2] }
  | _ => none }
def astCopiesRow : OpenClaim := { program := "ytpjepnkiiojgfaagreat", sum := "451e559b80a89272f752798d7cfafebedef9dfc439115a29199f935d98c923a6", func := "repartee/reparteelaw25.AstCopies", spec := "astCopies", inPlace := ["math.Float64frombits", "math.Float64bits"], unfollowed := true, recurses := true, apart := false }
def AstCopiesSaid : Prop := astCopiesRow.holds Tryz.pinned (OpenSpec.ofChange astCopiesSpec)

/-- ITS FALSE NEIGHBOUR: 'it returns false'. Refute it at one input. -/
def astCopiesWrong : ChangeSpec := { name := "astCopies", fn := fun _ => fun
  | [d1, d2] => { results := [.lit (.bool false)], args := [d1, d2] }
  | _ => none }
def AstCopiesWrongFalsely : Prop := astCopiesRow.holds Tryz.pinned (OpenSpec.ofChange astCopiesWrong)

/-- 'reparteelaw25.AstNames': WHATEVER THE INPUT: true; the input reads as it did. -/
def astNamesSpec : ChangeSpec := { name := "astNames", fn := fun _ => fun
  | [d1, d2, d3] => { results := [.lit (.bool true)], args := [d1, d2, d3] }
  | _ => none }
def astNamesRow : OpenClaim := { program := "ytpjepnkiiojgfaagreat", sum := "451e559b80a89272f752798d7cfafebedef9dfc439115a29199f935d98c923a6", func := "repartee/reparteelaw25.AstNames", spec := "astNames", inPlace := ["math.Float64frombits", "math.Float64bits"], unfollowed := true, recurses := true, apart := false }
def AstNamesSaid : Prop := astNamesRow.holds Tryz.pinned (OpenSpec.ofChange astNamesSpec)

/-- ITS FALSE NEIGHBOUR: 'it returns false'. Refute it at one input. -/
def astNamesWrong : ChangeSpec := { name := "astNames", fn := fun _ => fun
  | [d1, d2, d3] => { results := [.lit (.bool false)], args := [d1, d2, d3] }
  | _ => none }
def AstNamesWrongFalsely : Prop := astNamesRow.holds Tryz.pinned (OpenSpec.ofChange astNamesWrong)

/-- 'reparteelaw25.AstTargets': WHATEVER THE INPUT: true; the input reads as it did. -/
def astTargetsSpec : ChangeSpec := { name := "astTargets", fn := fun _ => fun
  | [d1, d2, d3] => { results := [.lit (.bool true)], args := [d1, d2, d3] }
  | _ => none }
def astTargetsRow : OpenClaim := { program := "ytpjepnkiiojgfaagreat", sum := "451e559b80a89272f752798d7cfafebedef9dfc439115a29199f935d98c923a6", func := "repartee/reparteelaw25.AstTargets", spec := "astTargets", inPlace := ["math.Float64frombits", "math.Float64bits"], unfollowed := true, recurses := true, apart := false }
def AstTargetsSaid : Prop := astTargetsRow.holds Tryz.pinned (OpenSpec.ofChange astTargetsSpec)

/-- ITS FALSE NEIGHBOUR: 'it returns false'. Refute it at one input. -/
def astTargetsWrong : ChangeSpec := { name := "astTargets", fn := fun _ => fun
  | [d1, d2, d3] => { results := [.lit (.bool false)], args := [d1, d2, d3] }
  | _ => none }
def AstTargetsWrongFalsely : Prop := astTargetsRow.holds Tryz.pinned (OpenSpec.ofChange astTargetsWrong)

/-- 'reparteelaw25.AstMeasures': WHATEVER THE INPUT: true; the input reads as it did. -/
def astMeasuresSpec : ChangeSpec := { name := "astMeasures", fn := fun _ => fun
  | [d1, d2, d3, d4] => { results := [.lit (.bool true)], args := [d1, d2, d3, d4] }
  | _ => none }
def astMeasuresRow : OpenClaim := { program := "ytpjepnkiiojgfaagreat", sum := "451e559b80a89272f752798d7cfafebedef9dfc439115a29199f935d98c923a6", func := "repartee/reparteelaw25.AstMeasures", spec := "astMeasures", inPlace := ["math.Float64frombits", "math.Float64bits"], unfollowed := true, recurses := true, apart := false }
def AstMeasuresSaid : Prop := astMeasuresRow.holds Tryz.pinned (OpenSpec.ofChange astMeasuresSpec)

/-- ITS FALSE NEIGHBOUR: 'it returns false'. Refute it at one input. -/
def astMeasuresWrong : ChangeSpec := { name := "astMeasures", fn := fun _ => fun
  | [d1, d2, d3, d4] => { results := [.lit (.bool false)], args := [d1, d2, d3, d4] }
  | _ => none }
def AstMeasuresWrongFalsely : Prop := astMeasuresRow.holds Tryz.pinned (OpenSpec.ofChange astMeasuresWrong)

/- THE SECOND FORM. 'bulk': how many values and letters a reading holds, each counted each time it is reached (what is shared counts as often as it is met; a slice's spare places count too). A statement '..UptoSaid' is the law's where the arguments, and the package variables that the reading takes, are together of bulk at most 1048576: NARROWER than '..Said'. Prove '..Said' where nothing that the law and all that it calls make is longer than what came in: it says more and counts as full. Else prove '..UptoSaid'. A law counts once. -/
mutual
def uptoBulk {H : Type} : DataW H → Nat
  | .lit (.string bytes) => bytes.length + 1
  | .lit _ => 1
  | .nil => 1
  | .ptr d => uptoBulk d + 1
  | .slice elems spare => uptoBulkAll elems + uptoBulkAll spare + 1
  | .agg parts => uptoBulkAll parts + 1
  | .iface _ d => uptoBulk d + 1
  | .map entries => uptoBulkEntries entries + 1
  | .held _ => 1
def uptoBulkAll {H : Type} : List (DataW H) → Nat
  | [] => 0
  | d :: r => uptoBulk d + uptoBulkAll r
def uptoBulkEntries {H : Type} : List (Lit × DataW H) → Nat
  | [] => 0
  | x :: r => uptoBulkEntry x + uptoBulkEntries r
def uptoBulkEntry {H : Type} : Lit × DataW H → Nat
  | (.string bytes, d) => bytes.length + uptoBulk d + 1
  | (_, d) => uptoBulk d + 1
 end
def uptoSmall : (H : Type) → List (DataW H) → Bool := fun _ ds => decide (uptoBulkAll ds ≤ 1048576)
def OpenSpec.upto (s : _root_.Go.ChangeSpec) : _root_.Go.OpenSpec := { _root_.Go.OpenSpec.ofChange s with cond := some uptoSmall }

/-- 'reparteelaw25.AstPlaces', WHERE WHAT IT READS IS OF BULK AT MOST 1048576: true; the input reads as it did. -/
def astPlacesUptoRow : OpenClaim := { program := "ytpjepnkiiojgfaagreat", sum := "451e559b80a89272f752798d7cfafebedef9dfc439115a29199f935d98c923a6", func := "repartee/reparteelaw25.AstPlaces", spec := "astPlaces", inPlace := ["math.Float64frombits"], unfollowed := true, recurses := true, apart := false, narrowed := true }
def AstPlacesUptoSaid : Prop := astPlacesUptoRow.holds Tryz.pinned (OpenSpec.upto astPlacesSpec)

/-- 'reparteelaw25.AstWrong', WHERE WHAT IT READS IS OF BULK AT MOST 1048576: true; the input reads as it did. -/
def astWrongUptoRow : OpenClaim := { program := "ytpjepnkiiojgfaagreat", sum := "451e559b80a89272f752798d7cfafebedef9dfc439115a29199f935d98c923a6", func := "repartee/reparteelaw25.AstWrong", spec := "astWrong", inPlace := ["math.Float64frombits"], unfollowed := true, recurses := true, apart := false, narrowed := true }
def AstWrongUptoSaid : Prop := astWrongUptoRow.holds Tryz.pinned (OpenSpec.upto astWrongSpec)

/-- 'reparteelaw25.AstCopies', WHERE WHAT IT READS IS OF BULK AT MOST 1048576: true; the input reads as it did. -/
def astCopiesUptoRow : OpenClaim := { program := "ytpjepnkiiojgfaagreat", sum := "451e559b80a89272f752798d7cfafebedef9dfc439115a29199f935d98c923a6", func := "repartee/reparteelaw25.AstCopies", spec := "astCopies", inPlace := ["math.Float64frombits", "math.Float64bits"], unfollowed := true, recurses := true, apart := false, narrowed := true }
def AstCopiesUptoSaid : Prop := astCopiesUptoRow.holds Tryz.pinned (OpenSpec.upto astCopiesSpec)

/-- 'reparteelaw25.AstNames', WHERE WHAT IT READS IS OF BULK AT MOST 1048576: true; the input reads as it did. -/
def astNamesUptoRow : OpenClaim := { program := "ytpjepnkiiojgfaagreat", sum := "451e559b80a89272f752798d7cfafebedef9dfc439115a29199f935d98c923a6", func := "repartee/reparteelaw25.AstNames", spec := "astNames", inPlace := ["math.Float64frombits", "math.Float64bits"], unfollowed := true, recurses := true, apart := false, narrowed := true }
def AstNamesUptoSaid : Prop := astNamesUptoRow.holds Tryz.pinned (OpenSpec.upto astNamesSpec)

/-- 'reparteelaw25.AstTargets', WHERE WHAT IT READS IS OF BULK AT MOST 1048576: true; the input reads as it did. -/
def astTargetsUptoRow : OpenClaim := { program := "ytpjepnkiiojgfaagreat", sum := "451e559b80a89272f752798d7cfafebedef9dfc439115a29199f935d98c923a6", func := "repartee/reparteelaw25.AstTargets", spec := "astTargets", inPlace := ["math.Float64frombits", "math.Float64bits"], unfollowed := true, recurses := true, apart := false, narrowed := true }
def AstTargetsUptoSaid : Prop := astTargetsUptoRow.holds Tryz.pinned (OpenSpec.upto astTargetsSpec)

/-- 'reparteelaw25.AstMeasures', WHERE WHAT IT READS IS OF BULK AT MOST 1048576: true; the input reads as it did. -/
def astMeasuresUptoRow : OpenClaim := { program := "ytpjepnkiiojgfaagreat", sum := "451e559b80a89272f752798d7cfafebedef9dfc439115a29199f935d98c923a6", func := "repartee/reparteelaw25.AstMeasures", spec := "astMeasures", inPlace := ["math.Float64frombits", "math.Float64bits"], unfollowed := true, recurses := true, apart := false, narrowed := true }
def AstMeasuresUptoSaid : Prop := astMeasuresUptoRow.holds Tryz.pinned (OpenSpec.upto astMeasuresSpec)

end Rows
end Go.Proofs.YtpjepnkiiojgfaaGreat
