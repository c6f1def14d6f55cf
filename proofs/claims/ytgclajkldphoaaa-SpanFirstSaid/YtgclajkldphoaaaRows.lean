/-
  No cell of these rows narrows 'for every input' (looked for: loops, veiled, ifaces, maps, wideKeys, modest, calm, conditions, laid).
  DERIVED. THE GIVEN ROWS OF THIS SEAT. 5 by the template 'for every input the law returns true; each argument reads behind the call as it read before'; 0 by the template 'total and deterministic' (their statements: YtgclajkldphoaaaTotals.lean).
  GIVEN WITH THE SEED: the statements are not yours to turn. If you find one false, say at which input.
  Laid BY PROGRAM, IN A SANDBOX (cutbox-rows.mjs): the forced cells as the released guide's own fill.sh prints them over the translation 302d6b02b4dcc8da… (all of the seat's roots in one cut). By AI agents, Wed Nov 11 2026. No macro, syntax, notation, axiom, sorry.
-/
import Derived.Test.YtgclajkldphoaaaChecked
import GoSem.Claim
import GoSem.ClaimJoined
import GoSem.ClaimMapViews
import Derived.JoinedTies
import Derived.KernelRfl
namespace Go.Proofs.Ytgclajkldphoaaa
/- THE CELL 'sum', in the pinned program and in every row, IS THE sha256 OF THE DUMP (.gsa) THAT YtgclajkldphoaaaProg.lean LOADS. Nothing in Lean hashes anything: it is a label: what it is worth is what the hold of that sum in a sandbox is worth. -/
noncomputable def Try.pinned : Pinned := { name := "ytgclajkldphoaaa", sum := "302d6b02b4dcc8da129b702bd12be783695ac88042cce020cae2648221cd8d7d", checked := Try.checked }
namespace Rows
def none {H : Type} : Left H := { results := [], args := [] }

/-- 'reparteelaw14.SpanWrong': WHATEVER THE INPUT: true; the input reads as it did. -/
def spanWrongSpec : ChangeSpec := { name := "spanWrong", fn := fun _ => fun
  | [d1, d2, d3] => { results := [.lit (.bool true)], args := [d1, d2, d3] }
  | _ => none }
def spanWrongRow : OpenClaim := { program := "ytgclajkldphoaaa", sum := "302d6b02b4dcc8da129b702bd12be783695ac88042cce020cae2648221cd8d7d", func := "repartee/reparteelaw14.SpanWrong", spec := "spanWrong", unfollowed := true, recurses := true, plainKeys := false, apart := false }
def SpanWrongSaid : Prop := spanWrongRow.holds Try.pinned (OpenSpec.ofChange spanWrongSpec)

/-- ITS FALSE NEIGHBOUR: 'it returns false'. Refute it at one input. -/
def spanWrongWrong : ChangeSpec := { name := "spanWrong", fn := fun _ => fun
  | [d1, d2, d3] => { results := [.lit (.bool false)], args := [d1, d2, d3] }
  | _ => none }
def SpanWrongWrongFalsely : Prop := spanWrongRow.holds Try.pinned (OpenSpec.ofChange spanWrongWrong)

/-- 'reparteelaw14.SpanCaptures': WHATEVER THE INPUT: true; the input reads as it did. -/
def spanCapturesSpec : ChangeSpec := { name := "spanCaptures", fn := fun _ => fun
  | [d1, d2] => { results := [.lit (.bool true)], args := [d1, d2] }
  | _ => none }
def spanCapturesRow : OpenClaim := { program := "ytgclajkldphoaaa", sum := "302d6b02b4dcc8da129b702bd12be783695ac88042cce020cae2648221cd8d7d", func := "repartee/reparteelaw14.SpanCaptures", spec := "spanCaptures", unfollowed := true, recurses := true, plainKeys := false, apart := false }
def SpanCapturesSaid : Prop := spanCapturesRow.holds Try.pinned (OpenSpec.ofChange spanCapturesSpec)

/-- ITS FALSE NEIGHBOUR: 'it returns false'. Refute it at one input. -/
def spanCapturesWrong : ChangeSpec := { name := "spanCaptures", fn := fun _ => fun
  | [d1, d2] => { results := [.lit (.bool false)], args := [d1, d2] }
  | _ => none }
def SpanCapturesWrongFalsely : Prop := spanCapturesRow.holds Try.pinned (OpenSpec.ofChange spanCapturesWrong)

/-- 'reparteelaw14.SpanSmall': WHATEVER THE INPUT: true; the input reads as it did. -/
def spanSmallSpec : ChangeSpec := { name := "spanSmall", fn := fun _ => fun
  | [] => { results := [.lit (.bool true)], args := [] }
  | _ => none }
def spanSmallRow : OpenClaim := { program := "ytgclajkldphoaaa", sum := "302d6b02b4dcc8da129b702bd12be783695ac88042cce020cae2648221cd8d7d", func := "repartee/reparteelaw14.SpanSmall", spec := "spanSmall", inPlace := ["internal/bytealg.MakeNoZero"], unfollowed := true, recurses := true, plainKeys := false, apart := false }
def SpanSmallSaid : Prop := spanSmallRow.holds Try.pinned (OpenSpec.ofChange spanSmallSpec)

/-- ITS FALSE NEIGHBOUR: 'it returns false'. Refute it at one input. -/
def spanSmallWrong : ChangeSpec := { name := "spanSmall", fn := fun _ => fun
  | [] => { results := [.lit (.bool false)], args := [] }
  | _ => none }
def SpanSmallWrongFalsely : Prop := spanSmallRow.holds Try.pinned (OpenSpec.ofChange spanSmallWrong)

/-- 'reparteelaw14.SpanRounds': WHATEVER THE INPUT: true; the input reads as it did. -/
def spanRoundsSpec : ChangeSpec := { name := "spanRounds", fn := fun _ => fun
  | [d1, d2, d3, d4] => { results := [.lit (.bool true)], args := [d1, d2, d3, d4] }
  | _ => none }
def spanRoundsRow : OpenClaim := { program := "ytgclajkldphoaaa", sum := "302d6b02b4dcc8da129b702bd12be783695ac88042cce020cae2648221cd8d7d", func := "repartee/reparteelaw14.SpanRounds", spec := "spanRounds", unfollowed := true, recurses := true, plainKeys := false, apart := false }
def SpanRoundsSaid : Prop := spanRoundsRow.holds Try.pinned (OpenSpec.ofChange spanRoundsSpec)

/-- ITS FALSE NEIGHBOUR: 'it returns false'. Refute it at one input. -/
def spanRoundsWrong : ChangeSpec := { name := "spanRounds", fn := fun _ => fun
  | [d1, d2, d3, d4] => { results := [.lit (.bool false)], args := [d1, d2, d3, d4] }
  | _ => none }
def SpanRoundsWrongFalsely : Prop := spanRoundsRow.holds Try.pinned (OpenSpec.ofChange spanRoundsWrong)

/-- 'reparteelaw14.SpanFirst': WHATEVER THE INPUT: true; the input reads as it did. -/
def spanFirstSpec : ChangeSpec := { name := "spanFirst", fn := fun _ => fun
  | [d1, d2, d3] => { results := [.lit (.bool true)], args := [d1, d2, d3] }
  | _ => none }
def spanFirstRow : OpenClaim := { program := "ytgclajkldphoaaa", sum := "302d6b02b4dcc8da129b702bd12be783695ac88042cce020cae2648221cd8d7d", func := "repartee/reparteelaw14.SpanFirst", spec := "spanFirst", unfollowed := true, recurses := true, plainKeys := false, apart := false }
def SpanFirstSaid : Prop := spanFirstRow.holds Try.pinned (OpenSpec.ofChange spanFirstSpec)

/-- ITS FALSE NEIGHBOUR: 'it returns false'. Refute it at one input. -/
def spanFirstWrong : ChangeSpec := { name := "spanFirst", fn := fun _ => fun
  | [d1, d2, d3] => { results := [.lit (.bool false)], args := [d1, d2, d3] }
  | _ => none }
def SpanFirstWrongFalsely : Prop := spanFirstRow.holds Try.pinned (OpenSpec.ofChange spanFirstWrong)

/- THE SECOND FORM. 'bulk': how many values and letters a reading holds, each counted each time it is reached (what is shared counts as often as it is met; a slice's spare places count too). A statement '..UptoSaid' is the law's where the arguments, and the package variables that the reading takes, are together of bulk at most 1048576: NARROWER than '..Said'. Prove '..Said' where nothing that the law and all that it calls make is longer than what came in: it says more and counts as full. Else prove '..UptoSaid'. A law counts once. -/
mutual
def uptoBulk {H : Type} : DataW H → Nat
  | .lit (.string bytes) => bytes.length + 1
  | .lit _ => 1
  | .nil => 1
  | .ptr d => uptoBulk d + 1
  | .slice elems spare => uptoBulkAll elems + uptoBulkAll spare + 1
  | .agg parts => uptoBulkAll parts + 1
  | .iface _ d => uptoBulk d + 1
  | .map entries => uptoBulkEntries entries + 1
  | .held _ => 1
def uptoBulkAll {H : Type} : List (DataW H) → Nat
  | [] => 0
  | d :: r => uptoBulk d + uptoBulkAll r
def uptoBulkEntries {H : Type} : List (Lit × DataW H) → Nat
  | [] => 0
  | x :: r => uptoBulkEntry x + uptoBulkEntries r
def uptoBulkEntry {H : Type} : Lit × DataW H → Nat
  | (.string bytes, d) => bytes.length + uptoBulk d + 1
  | (_, d) => uptoBulk d + 1
 end
def uptoSmall : (H : Type) → List (DataW H) → Bool := fun _ ds => decide (uptoBulkAll ds ≤ 1048576)
def OpenSpec.upto (s : _root_.Go.ChangeSpec) : _root_.Go.OpenSpec := { _root_.Go.OpenSpec.ofChange s with cond := some uptoSmall }

/-- 'reparteelaw14.SpanWrong', WHERE WHAT IT READS IS OF BULK AT MOST 1048576: true; the input reads as it did. -/
def spanWrongUptoRow : OpenClaim := { program := "ytgclajkldphoaaa", sum := "302d6b02b4dcc8da129b702bd12be783695ac88042cce020cae2648221cd8d7d", func := "repartee/reparteelaw14.SpanWrong", spec := "spanWrong", unfollowed := true, recurses := true, plainKeys := false, apart := false, narrowed := true }
def SpanWrongUptoSaid : Prop := spanWrongUptoRow.holds Try.pinned (OpenSpec.upto spanWrongSpec)

/-- 'reparteelaw14.SpanCaptures', WHERE WHAT IT READS IS OF BULK AT MOST 1048576: true; the input reads as it did. -/
def spanCapturesUptoRow : OpenClaim := { program := "ytgclajkldphoaaa", sum := "302d6b02b4dcc8da129b702bd12be783695ac88042cce020cae2648221cd8d7d", func := "repartee/reparteelaw14.SpanCaptures", spec := "spanCaptures", unfollowed := true, recurses := true, plainKeys := false, apart := false, narrowed := true }
def SpanCapturesUptoSaid : Prop := spanCapturesUptoRow.holds Try.pinned (OpenSpec.upto spanCapturesSpec)

/-- 'reparteelaw14.SpanSmall', WHERE WHAT IT READS IS OF BULK AT MOST 1048576: true; the input reads as it did. -/
def spanSmallUptoRow : OpenClaim := { program := "ytgclajkldphoaaa", sum := "302d6b02b4dcc8da129b702bd12be783695ac88042cce020cae2648221cd8d7d", func := "repartee/reparteelaw14.SpanSmall", spec := "spanSmall", inPlace := ["internal/bytealg.MakeNoZero"], unfollowed := true, recurses := true, plainKeys := false, apart := false, narrowed := true }
def SpanSmallUptoSaid : Prop := spanSmallUptoRow.holds Try.pinned (OpenSpec.upto spanSmallSpec)

/-- 'reparteelaw14.SpanRounds', WHERE WHAT IT READS IS OF BULK AT MOST 1048576: true; the input reads as it did. -/
def spanRoundsUptoRow : OpenClaim := { program := "ytgclajkldphoaaa", sum := "302d6b02b4dcc8da129b702bd12be783695ac88042cce020cae2648221cd8d7d", func := "repartee/reparteelaw14.SpanRounds", spec := "spanRounds", unfollowed := true, recurses := true, plainKeys := false, apart := false, narrowed := true }
def SpanRoundsUptoSaid : Prop := spanRoundsUptoRow.holds Try.pinned (OpenSpec.upto spanRoundsSpec)

/-- 'reparteelaw14.SpanFirst', WHERE WHAT IT READS IS OF BULK AT MOST 1048576: true; the input reads as it did. -/
def spanFirstUptoRow : OpenClaim := { program := "ytgclajkldphoaaa", sum := "302d6b02b4dcc8da129b702bd12be783695ac88042cce020cae2648221cd8d7d", func := "repartee/reparteelaw14.SpanFirst", spec := "spanFirst", unfollowed := true, recurses := true, plainKeys := false, apart := false, narrowed := true }
def SpanFirstUptoSaid : Prop := spanFirstUptoRow.holds Try.pinned (OpenSpec.upto spanFirstSpec)

end Rows
end Go.Proofs.Ytgclajkldphoaaa
