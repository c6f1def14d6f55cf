/-
  DERIVED. GIVEN WITH THE SEED: THE CARDS: each row of YtojlhhphofhaoaaGreatDoorRows.lean that lists a variable, with what it lists TIED to the program's text (the seventh form; the later family's looks); each row that meets fmt, with fmt's text TOLD by the authors' own Lean function (tested against real Go, not proved from fmt's source: count such statements apart). THE CARD IS WHAT COUNTS. Prove the row's statement (the work); the ties are given (YtojlhhphofhaoaaGreatDoorTie.lean); close each card by the builder's one call (the guide's Derived/Test/ToyasCard.lean, 'card_holds'). Laid BY PROGRAM, IN A SANDBOX (cutbox-door.mjs). By AI agents, Wed Nov 11 2026. No macro, syntax, notation, axiom, sorry.
-/
import Derived.Test.YtojlhhphofhaoaaGreatDoorRows
import GoSem.ClaimSeven
namespace Go.Proofs.YtojlhhphofhaoaaGreatDoor
namespace Rows

/-- THE TIED CARD OF 'reparteelaw40.TimesChecks'. -/
def timesChecksCard : Claim7 := { stood := { row := timesChecksRow, standIns := [], harness := (true, "05205a6e7e1b52455f10cd97634c44fee2cb8ace980db511814d9064acc160a4"), looks := false }, kinds := [], alts := [], laidByText := true, laidKinds := [.data, .pinned], laidTests := true, laidLooks := .later }
def TimesChecksCardSaid : Prop := Claim7.holds Tryz.pinned (.plain (OpenSpec.ofChange timesChecksSpec)) timesChecksCard

/-- THE TIED CARD OF 'reparteelaw40.TimesOthers'. -/
def timesOthersCard : Claim7 := { stood := { row := timesOthersRow, standIns := [], harness := (true, "05205a6e7e1b52455f10cd97634c44fee2cb8ace980db511814d9064acc160a4"), looks := false }, kinds := [], alts := [], laidByText := true, laidKinds := [.data, .pinned], laidTests := true, laidLooks := .later }
def TimesOthersCardSaid : Prop := Claim7.holds Tryz.pinned (.plain (OpenSpec.ofChange timesOthersSpec)) timesOthersCard

/-- THE TIED CARD OF 'reparteelaw40.TimesFires'. -/
def timesFiresCard : Claim7 := { stood := { row := timesFiresRow, standIns := [], harness := (true, "05205a6e7e1b52455f10cd97634c44fee2cb8ace980db511814d9064acc160a4"), looks := false }, kinds := [], alts := [], laidByText := true, laidKinds := [.data, .pinned], laidTests := true, laidLooks := .later }
def TimesFiresCardSaid : Prop := Claim7.holds Tryz.pinned (.plain (OpenSpec.ofChange timesFiresSpec)) timesFiresCard

/-- THE TIED CARD OF 'reparteelaw40.TimesWrong'. -/
def timesWrongCard : Claim7 := { stood := { row := timesWrongRow, standIns := [], harness := (true, "05205a6e7e1b52455f10cd97634c44fee2cb8ace980db511814d9064acc160a4"), looks := false }, kinds := [], alts := [], laidByText := true, laidKinds := [.data, .pinned], laidTests := true, laidLooks := .later }
def TimesWrongCardSaid : Prop := Claim7.holds Tryz.pinned (.plain (OpenSpec.ofChange timesWrongSpec)) timesWrongCard

/-- THE TIED CARD OF 'reparteelaw40.TimesLess'. -/
def timesLessCard : Claim7 := { stood := { row := timesLessRow, standIns := [], harness := (true, "05205a6e7e1b52455f10cd97634c44fee2cb8ace980db511814d9064acc160a4"), looks := false }, kinds := [], alts := [], laidByText := true, laidKinds := [.data, .pinned], laidTests := true, laidLooks := .later }
def TimesLessCardSaid : Prop := Claim7.holds Tryz.pinned (.plain (OpenSpec.ofChange timesLessSpec)) timesLessCard

/-- THE SECOND FORM's CARD OF 'reparteelaw40.TimesChecks'. -/
def timesChecksUptoCard : Claim7 := { stood := { row := timesChecksUptoRow, standIns := [], harness := (true, "05205a6e7e1b52455f10cd97634c44fee2cb8ace980db511814d9064acc160a4"), looks := false }, kinds := [], alts := [], laidByText := true, laidKinds := [.data, .pinned], laidTests := true, laidLooks := .later }
def TimesChecksUptoCardSaid : Prop := Claim7.holds Tryz.pinned (.plain (OpenSpec.upto timesChecksSpec)) timesChecksUptoCard

/-- THE SECOND FORM's CARD OF 'reparteelaw40.TimesOthers'. -/
def timesOthersUptoCard : Claim7 := { stood := { row := timesOthersUptoRow, standIns := [], harness := (true, "05205a6e7e1b52455f10cd97634c44fee2cb8ace980db511814d9064acc160a4"), looks := false }, kinds := [], alts := [], laidByText := true, laidKinds := [.data, .pinned], laidTests := true, laidLooks := .later }
def TimesOthersUptoCardSaid : Prop := Claim7.holds Tryz.pinned (.plain (OpenSpec.upto timesOthersSpec)) timesOthersUptoCard

/-- THE SECOND FORM's CARD OF 'reparteelaw40.TimesFires'. -/
def timesFiresUptoCard : Claim7 := { stood := { row := timesFiresUptoRow, standIns := [], harness := (true, "05205a6e7e1b52455f10cd97634c44fee2cb8ace980db511814d9064acc160a4"), looks := false }, kinds := [], alts := [], laidByText := true, laidKinds := [.data, .pinned], laidTests := true, laidLooks := .later }
def TimesFiresUptoCardSaid : Prop := Claim7.holds Tryz.pinned (.plain (OpenSpec.upto timesFiresSpec)) timesFiresUptoCard

/-- THE SECOND FORM's CARD OF 'reparteelaw40.TimesWrong'. -/
def timesWrongUptoCard : Claim7 := { stood := { row := timesWrongUptoRow, standIns := [], harness := (true, "05205a6e7e1b52455f10cd97634c44fee2cb8ace980db511814d9064acc160a4"), looks := false }, kinds := [], alts := [], laidByText := true, laidKinds := [.data, .pinned], laidTests := true, laidLooks := .later }
def TimesWrongUptoCardSaid : Prop := Claim7.holds Tryz.pinned (.plain (OpenSpec.upto timesWrongSpec)) timesWrongUptoCard

/-- THE SECOND FORM's CARD OF 'reparteelaw40.TimesLess'. -/
def timesLessUptoCard : Claim7 := { stood := { row := timesLessUptoRow, standIns := [], harness := (true, "05205a6e7e1b52455f10cd97634c44fee2cb8ace980db511814d9064acc160a4"), looks := false }, kinds := [], alts := [], laidByText := true, laidKinds := [.data, .pinned], laidTests := true, laidLooks := .later }
def TimesLessUptoCardSaid : Prop := Claim7.holds Tryz.pinned (.plain (OpenSpec.upto timesLessSpec)) timesLessUptoCard
end Rows
end Go.Proofs.YtojlhhphofhaoaaGreatDoor
