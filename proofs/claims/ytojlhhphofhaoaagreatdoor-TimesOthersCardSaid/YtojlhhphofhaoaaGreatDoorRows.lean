/-
  NARROWER THAN 'FOR EVERY INPUT', by the rows' own cells (each row's printed sentence says how): TimesChecks: laid · TimesOthers: laid · TimesFires: laid · TimesWrong: laid · TimesLess: laid.
  DERIVED. THE GIVEN ROWS OF THIS SEAT. 5 by the template 'for every input the law returns true; each argument reads behind the call as it read before'; 0 by the template 'total and deterministic' (their statements: YtojlhhphofhaoaaGreatDoorTotals.lean).
  GIVEN WITH THE SEED: the statements are not yours to turn. If you find one false, say at which input.
  Laid BY PROGRAM, IN A SANDBOX (cutbox-rows.mjs): the forced cells as the released guide's own fill.sh prints them over the translation 937a9e53e44dabaf… (all of the seat's roots in one cut). By AI agents, Wed Nov 11 2026. No macro, syntax, notation, axiom, sorry.
-/
import Derived.Test.YtojlhhphofhaoaaGreatDoorChecked
import GoSem.PinnedTables
import GoSem.Claim
import GoSem.ClaimJoined
import GoSem.ClaimMapViews
import Derived.JoinedTies
import Derived.KernelRfl
namespace Go.Proofs.YtojlhhphofhaoaaGreatDoor
/- THE CELL 'sum', in the pinned program and in every row, IS THE sha256 OF THE DUMP (.gsa) THAT YtojlhhphofhaoaaGreatDoorProg.lean LOADS. Nothing in Lean hashes anything: it is a label: what it is worth is what the hold of that sum in a sandbox is worth. -/
noncomputable def Tryz.pinned : Pinned := { name := "ytojlhhphofhaoaagreatdoor", sum := "937a9e53e44dabafb3b4bde6ac00c2a79bc918e707f432127fa1fc09424999ba", checked := Tryz.checked }
namespace Rows
def none {H : Type} : Left H := { results := [], args := [] }

/- WHAT THE LISTED PACKAGE-LEVEL VARIABLES READ AS WHEN THE CALL BEGINS. Each datum BY PROGRAM (the guide's laid-datum.mjs) off the statement by which the dump's own 'gosem.cut.vars' lays the variable. In a bare row this is a premise. The card (YtojlhhphofhaoaaGreatDoorCards.lean) ties it to the program's text. -/
def laid_unicode_utf8_acceptRanges {H : Type} : DataW H := .agg [.agg [.lit (.int .u8 128), .lit (.int .u8 191)], .agg [.lit (.int .u8 160), .lit (.int .u8 191)], .agg [.lit (.int .u8 128), .lit (.int .u8 159)], .agg [.lit (.int .u8 144), .lit (.int .u8 191)], .agg [.lit (.int .u8 128), .lit (.int .u8 143)], .agg [.lit (.int .u8 0), .lit (.int .u8 0)], .agg [.lit (.int .u8 0), .lit (.int .u8 0)], .agg [.lit (.int .u8 0), .lit (.int .u8 0)], .agg [.lit (.int .u8 0), .lit (.int .u8 0)], .agg [.lit (.int .u8 0), .lit (.int .u8 0)], .agg [.lit (.int .u8 0), .lit (.int .u8 0)], .agg [.lit (.int .u8 0), .lit (.int .u8 0)], .agg [.lit (.int .u8 0), .lit (.int .u8 0)], .agg [.lit (.int .u8 0), .lit (.int .u8 0)], .agg [.lit (.int .u8 0), .lit (.int .u8 0)], .agg [.lit (.int .u8 0), .lit (.int .u8 0)]]
/-- One of Go's own tables, pinned by name: the form's constant. -/
def laid_unicode_utf8_first : DataW Unit := Go.Pinned.utf8First

/-- 'reparteelaw40.TimesChecks': WHATEVER THE INPUT: true; the input reads as it did. -/
def timesChecksSpec : ChangeSpec := { name := "timesChecks", fn := fun _ => fun
  | [d1, d2, d3] => { results := [.lit (.bool true)], args := [d1, d2, d3] }
  | _ => none }
def timesChecksRow : OpenClaim := { program := "ytojlhhphofhaoaagreatdoor", sum := "937a9e53e44dabafb3b4bde6ac00c2a79bc918e707f432127fa1fc09424999ba", func := "repartee/reparteelaw40.TimesChecks", spec := "timesChecks", inPlace := ["internal/bytealg.IndexByteString", "internal/bytealg.IndexString", "math.Float64bits", "math.Float64frombits"], unfollowed := true, recurses := true, named := ["unicode/utf8.first", "unicode/utf8.acceptRanges", "internal/bytealg.MaxLen"], plainKeys := false, apart := false, laid := [("unicode/utf8.acceptRanges", laid_unicode_utf8_acceptRanges), ("unicode/utf8.first", laid_unicode_utf8_first)] }
def TimesChecksSaid : Prop := timesChecksRow.holds Tryz.pinned (OpenSpec.ofChange timesChecksSpec)

/-- ITS FALSE NEIGHBOUR: 'it returns false'. Refute it at one input. -/
def timesChecksWrong : ChangeSpec := { name := "timesChecks", fn := fun _ => fun
  | [d1, d2, d3] => { results := [.lit (.bool false)], args := [d1, d2, d3] }
  | _ => none }
def TimesChecksWrongFalsely : Prop := timesChecksRow.holds Tryz.pinned (OpenSpec.ofChange timesChecksWrong)

/-- 'reparteelaw40.TimesOthers': WHATEVER THE INPUT: true; the input reads as it did. -/
def timesOthersSpec : ChangeSpec := { name := "timesOthers", fn := fun _ => fun
  | [d] => { results := [.lit (.bool true)], args := [d] }
  | _ => none }
def timesOthersRow : OpenClaim := { program := "ytojlhhphofhaoaagreatdoor", sum := "937a9e53e44dabafb3b4bde6ac00c2a79bc918e707f432127fa1fc09424999ba", func := "repartee/reparteelaw40.TimesOthers", spec := "timesOthers", inPlace := ["internal/bytealg.IndexByteString", "internal/bytealg.IndexString", "math.Float64bits", "math.Float64frombits"], unfollowed := true, recurses := true, named := ["unicode/utf8.first", "unicode/utf8.acceptRanges", "internal/bytealg.MaxLen"], plainKeys := false, apart := false, laid := [("unicode/utf8.acceptRanges", laid_unicode_utf8_acceptRanges), ("unicode/utf8.first", laid_unicode_utf8_first)] }
def TimesOthersSaid : Prop := timesOthersRow.holds Tryz.pinned (OpenSpec.ofChange timesOthersSpec)

/-- ITS FALSE NEIGHBOUR: 'it returns false'. Refute it at one input. -/
def timesOthersWrong : ChangeSpec := { name := "timesOthers", fn := fun _ => fun
  | [d] => { results := [.lit (.bool false)], args := [d] }
  | _ => none }
def TimesOthersWrongFalsely : Prop := timesOthersRow.holds Tryz.pinned (OpenSpec.ofChange timesOthersWrong)

/-- 'reparteelaw40.TimesFires': WHATEVER THE INPUT: true; the input reads as it did. -/
def timesFiresSpec : ChangeSpec := { name := "timesFires", fn := fun _ => fun
  | [d1, d2] => { results := [.lit (.bool true)], args := [d1, d2] }
  | _ => none }
def timesFiresRow : OpenClaim := { program := "ytojlhhphofhaoaagreatdoor", sum := "937a9e53e44dabafb3b4bde6ac00c2a79bc918e707f432127fa1fc09424999ba", func := "repartee/reparteelaw40.TimesFires", spec := "timesFires", inPlace := ["internal/bytealg.IndexByteString", "internal/bytealg.IndexString", "math.Float64bits", "math.Float64frombits"], unfollowed := true, recurses := true, named := ["unicode/utf8.first", "unicode/utf8.acceptRanges", "internal/bytealg.MaxLen"], plainKeys := false, apart := false, laid := [("unicode/utf8.acceptRanges", laid_unicode_utf8_acceptRanges), ("unicode/utf8.first", laid_unicode_utf8_first)] }
def TimesFiresSaid : Prop := timesFiresRow.holds Tryz.pinned (OpenSpec.ofChange timesFiresSpec)

/-- ITS FALSE NEIGHBOUR: 'it returns false'. Refute it at one input. -/
def timesFiresWrong : ChangeSpec := { name := "timesFires", fn := fun _ => fun
  | [d1, d2] => { results := [.lit (.bool false)], args := [d1, d2] }
  | _ => none }
def TimesFiresWrongFalsely : Prop := timesFiresRow.holds Tryz.pinned (OpenSpec.ofChange timesFiresWrong)

/-- 'reparteelaw40.TimesWrong': WHATEVER THE INPUT: true; the input reads as it did. -/
def timesWrongSpec : ChangeSpec := { name := "timesWrong", fn := fun _ => fun
  | [d1, d2] => { results := [.lit (.bool true)], args := [d1, d2] }
  | _ => none }
def timesWrongRow : OpenClaim := { program := "ytojlhhphofhaoaagreatdoor", sum := "937a9e53e44dabafb3b4bde6ac00c2a79bc918e707f432127fa1fc09424999ba", func := "repartee/reparteelaw40.TimesWrong", spec := "timesWrong", inPlace := ["internal/bytealg.IndexByteString", "internal/bytealg.IndexString", "math.Float64bits", "math.Float64frombits"], unfollowed := true, recurses := true, named := ["unicode/utf8.first", "unicode/utf8.acceptRanges", "internal/bytealg.MaxLen"], plainKeys := false, apart := false, laid := [("unicode/utf8.acceptRanges", laid_unicode_utf8_acceptRanges), ("unicode/utf8.first", laid_unicode_utf8_first)] }
def TimesWrongSaid : Prop := timesWrongRow.holds Tryz.pinned (OpenSpec.ofChange timesWrongSpec)

/-- ITS FALSE NEIGHBOUR: 'it returns false'. Refute it at one input. -/
def timesWrongWrong : ChangeSpec := { name := "timesWrong", fn := fun _ => fun
  | [d1, d2] => { results := [.lit (.bool false)], args := [d1, d2] }
  | _ => none }
def TimesWrongWrongFalsely : Prop := timesWrongRow.holds Tryz.pinned (OpenSpec.ofChange timesWrongWrong)

/-- 'reparteelaw40.TimesLess': WHATEVER THE INPUT: true; the input reads as it did. -/
def timesLessSpec : ChangeSpec := { name := "timesLess", fn := fun _ => fun
  | [d] => { results := [.lit (.bool true)], args := [d] }
  | _ => none }
def timesLessRow : OpenClaim := { program := "ytojlhhphofhaoaagreatdoor", sum := "937a9e53e44dabafb3b4bde6ac00c2a79bc918e707f432127fa1fc09424999ba", func := "repartee/reparteelaw40.TimesLess", spec := "timesLess", inPlace := ["internal/bytealg.IndexByteString", "internal/bytealg.IndexString", "math.Float64bits", "math.Float64frombits"], unfollowed := true, recurses := true, named := ["unicode/utf8.first", "unicode/utf8.acceptRanges", "internal/bytealg.MaxLen"], plainKeys := false, apart := false, laid := [("unicode/utf8.acceptRanges", laid_unicode_utf8_acceptRanges), ("unicode/utf8.first", laid_unicode_utf8_first)] }
def TimesLessSaid : Prop := timesLessRow.holds Tryz.pinned (OpenSpec.ofChange timesLessSpec)

/-- ITS FALSE NEIGHBOUR: 'it returns false'. Refute it at one input. -/
def timesLessWrong : ChangeSpec := { name := "timesLess", fn := fun _ => fun
  | [d] => { results := [.lit (.bool false)], args := [d] }
  | _ => none }
def TimesLessWrongFalsely : Prop := timesLessRow.holds Tryz.pinned (OpenSpec.ofChange timesLessWrong)

/- THE SECOND FORM. 'bulk': how many values and letters a reading holds, each counted each time it is reached (what is shared counts as often as it is met; a slice's spare places count too). A statement '..UptoSaid' is the law's where the arguments, and the package variables that the reading takes, are together of bulk at most 1048576: NARROWER than '..Said'. Prove '..Said' where nothing that the law and all that it calls make is longer than what came in: it says more and counts as full. Else prove '..UptoSaid'. A law counts once. -/
mutual
def uptoBulk {H : Type} : DataW H → Nat
  | .lit (.string bytes) => bytes.length + 1
  | .lit _ => 1
  | .nil => 1
  | .ptr d => uptoBulk d + 1
  | .slice elems spare => uptoBulkAll elems + uptoBulkAll spare + 1
  | .agg parts => uptoBulkAll parts + 1
  | .iface _ d => uptoBulk d + 1
  | .map entries => uptoBulkEntries entries + 1
  | .held _ => 1
def uptoBulkAll {H : Type} : List (DataW H) → Nat
  | [] => 0
  | d :: r => uptoBulk d + uptoBulkAll r
def uptoBulkEntries {H : Type} : List (Lit × DataW H) → Nat
  | [] => 0
  | x :: r => uptoBulkEntry x + uptoBulkEntries r
def uptoBulkEntry {H : Type} : Lit × DataW H → Nat
  | (.string bytes, d) => bytes.length + uptoBulk d + 1
  | (_, d) => uptoBulk d + 1
 end
def uptoSmall : (H : Type) → List (DataW H) → Bool := fun _ ds => decide (uptoBulkAll ds ≤ 1048576)
def OpenSpec.upto (s : _root_.Go.ChangeSpec) : _root_.Go.OpenSpec := { _root_.Go.OpenSpec.ofChange s with cond := some uptoSmall }

/-- 'reparteelaw40.TimesChecks', WHERE WHAT IT READS IS OF BULK AT MOST 1048576: true; the input reads as it did. -/
def timesChecksUptoRow : OpenClaim := { program := "ytojlhhphofhaoaagreatdoor", sum := "937a9e53e44dabafb3b4bde6ac00c2a79bc918e707f432127fa1fc09424999ba", func := "repartee/reparteelaw40.TimesChecks", spec := "timesChecks", inPlace := ["internal/bytealg.IndexByteString", "internal/bytealg.IndexString", "math.Float64bits", "math.Float64frombits"], unfollowed := true, recurses := true, named := ["unicode/utf8.first", "unicode/utf8.acceptRanges", "internal/bytealg.MaxLen"], plainKeys := false, apart := false, laid := [("unicode/utf8.acceptRanges", laid_unicode_utf8_acceptRanges), ("unicode/utf8.first", laid_unicode_utf8_first)], narrowed := true }
def TimesChecksUptoSaid : Prop := timesChecksUptoRow.holds Tryz.pinned (OpenSpec.upto timesChecksSpec)

/-- 'reparteelaw40.TimesOthers', WHERE WHAT IT READS IS OF BULK AT MOST 1048576: true; the input reads as it did. -/
def timesOthersUptoRow : OpenClaim := { program := "ytojlhhphofhaoaagreatdoor", sum := "937a9e53e44dabafb3b4bde6ac00c2a79bc918e707f432127fa1fc09424999ba", func := "repartee/reparteelaw40.TimesOthers", spec := "timesOthers", inPlace := ["internal/bytealg.IndexByteString", "internal/bytealg.IndexString", "math.Float64bits", "math.Float64frombits"], unfollowed := true, recurses := true, named := ["unicode/utf8.first", "unicode/utf8.acceptRanges", "internal/bytealg.MaxLen"], plainKeys := false, apart := false, laid := [("unicode/utf8.acceptRanges", laid_unicode_utf8_acceptRanges), ("unicode/utf8.first", laid_unicode_utf8_first)], narrowed := true }
def TimesOthersUptoSaid : Prop := timesOthersUptoRow.holds Tryz.pinned (OpenSpec.upto timesOthersSpec)

/-- 'reparteelaw40.TimesFires', WHERE WHAT IT READS IS OF BULK AT MOST 1048576: true; the input reads as it did. -/
def timesFiresUptoRow : OpenClaim := { program := "ytojlhhphofhaoaagreatdoor", sum := "937a9e53e44dabafb3b4bde6ac00c2a79bc918e707f432127fa1fc09424999ba", func := "repartee/reparteelaw40.TimesFires", spec := "timesFires", inPlace := ["internal/bytealg.IndexByteString", "internal/bytealg.IndexString", "math.Float64bits", "math.Float64frombits"], unfollowed := true, recurses := true, named := ["unicode/utf8.first", "unicode/utf8.acceptRanges", "internal/bytealg.MaxLen"], plainKeys := false, apart := false, laid := [("unicode/utf8.acceptRanges", laid_unicode_utf8_acceptRanges), ("unicode/utf8.first", laid_unicode_utf8_first)], narrowed := true }
def TimesFiresUptoSaid : Prop := timesFiresUptoRow.holds Tryz.pinned (OpenSpec.upto timesFiresSpec)

/-- 'reparteelaw40.TimesWrong', WHERE WHAT IT READS IS OF BULK AT MOST 1048576: true; the input reads as it did. -/
def timesWrongUptoRow : OpenClaim := { program := "ytojlhhphofhaoaagreatdoor", sum := "937a9e53e44dabafb3b4bde6ac00c2a79bc918e707f432127fa1fc09424999ba", func := "repartee/reparteelaw40.TimesWrong", spec := "timesWrong", inPlace := ["internal/bytealg.IndexByteString", "internal/bytealg.IndexString", "math.Float64bits", "math.Float64frombits"], unfollowed := true, recurses := true, named := ["unicode/utf8.first", "unicode/utf8.acceptRanges", "internal/bytealg.MaxLen"], plainKeys := false, apart := false, laid := [("unicode/utf8.acceptRanges", laid_unicode_utf8_acceptRanges), ("unicode/utf8.first", laid_unicode_utf8_first)], narrowed := true }
def TimesWrongUptoSaid : Prop := timesWrongUptoRow.holds Tryz.pinned (OpenSpec.upto timesWrongSpec)

/-- 'reparteelaw40.TimesLess', WHERE WHAT IT READS IS OF BULK AT MOST 1048576: true; the input reads as it did. -/
def timesLessUptoRow : OpenClaim := { program := "ytojlhhphofhaoaagreatdoor", sum := "937a9e53e44dabafb3b4bde6ac00c2a79bc918e707f432127fa1fc09424999ba", func := "repartee/reparteelaw40.TimesLess", spec := "timesLess", inPlace := ["internal/bytealg.IndexByteString", "internal/bytealg.IndexString", "math.Float64bits", "math.Float64frombits"], unfollowed := true, recurses := true, named := ["unicode/utf8.first", "unicode/utf8.acceptRanges", "internal/bytealg.MaxLen"], plainKeys := false, apart := false, laid := [("unicode/utf8.acceptRanges", laid_unicode_utf8_acceptRanges), ("unicode/utf8.first", laid_unicode_utf8_first)], narrowed := true }
def TimesLessUptoSaid : Prop := timesLessUptoRow.holds Tryz.pinned (OpenSpec.upto timesLessSpec)

end Rows
end Go.Proofs.YtojlhhphofhaoaaGreatDoor
