/-
  DERIVED. GIVEN WITH THE SEED: THE CARDS: each row of YtdopppmkbkkmiaaGreatDoorRows.lean that lists a variable, with what it lists TIED to the program's text (the seventh form; the later family's looks); each row that meets fmt, with fmt's text TOLD by the authors' own Lean function (tested against real Go, not proved from fmt's source: count such statements apart). THE CARD IS WHAT COUNTS. Prove the row's statement (the work); the ties are given (YtdopppmkbkkmiaaGreatDoorTie.lean); close each card by the builder's one call (the guide's Derived/Test/ToyasCard.lean, 'card_holds'). Laid BY PROGRAM, IN A SANDBOX (cutbox-door.mjs). By AI agents, Wed Nov 11 2026. No macro, syntax, notation, axiom, sorry.
-/
import Derived.Test.YtdopppmkbkkmiaaGreatDoorRows
import GoSem.ClaimSeven
namespace Go.Proofs.YtdopppmkbkkmiaaGreatDoor
namespace Rows

/-- THE TIED CARD OF 'reparteelaw30.CheckCaptures'. -/
def checkCapturesCard : Claim7 := { stood := { row := checkCapturesRow, standIns := [], harness := (true, "328ead3d7af3ebcb053ef92b4b0109ec57961d9185e273863f116b202ad8655a"), looks := false }, kinds := [], alts := [], laidByText := true, laidKinds := [.data, .pinned], laidTests := true, laidLooks := .later }
def CheckCapturesCardSaid : Prop := Claim7.holds Tryz.pinned (.plain (OpenSpec.ofChange checkCapturesSpec)) checkCapturesCard

/-- THE TIED CARD OF 'reparteelaw30.CheckNames'. -/
def checkNamesCard : Claim7 := { stood := { row := checkNamesRow, standIns := [], harness := (true, "328ead3d7af3ebcb053ef92b4b0109ec57961d9185e273863f116b202ad8655a"), looks := false }, kinds := [], alts := [], laidByText := true, laidKinds := [.data, .pinned], laidTests := true, laidLooks := .later }
def CheckNamesCardSaid : Prop := Claim7.holds Tryz.pinned (.plain (OpenSpec.ofChange checkNamesSpec)) checkNamesCard

/-- THE TIED CARD OF 'reparteelaw30.CheckRight'. -/
def checkRightCard : Claim7 := { stood := { row := checkRightRow, standIns := [], harness := (true, "328ead3d7af3ebcb053ef92b4b0109ec57961d9185e273863f116b202ad8655a"), looks := false }, kinds := [], alts := [], laidByText := true, laidKinds := [.data, .pinned], laidTests := true, laidLooks := .later }
def CheckRightCardSaid : Prop := Claim7.holds Tryz.pinned (.plain (OpenSpec.ofChange checkRightSpec)) checkRightCard

/-- THE SECOND FORM's CARD OF 'reparteelaw30.CheckCaptures'. -/
def checkCapturesUptoCard : Claim7 := { stood := { row := checkCapturesUptoRow, standIns := [], harness := (true, "328ead3d7af3ebcb053ef92b4b0109ec57961d9185e273863f116b202ad8655a"), looks := false }, kinds := [], alts := [], laidByText := true, laidKinds := [.data, .pinned], laidTests := true, laidLooks := .later }
def CheckCapturesUptoCardSaid : Prop := Claim7.holds Tryz.pinned (.plain (OpenSpec.upto checkCapturesSpec)) checkCapturesUptoCard

/-- THE SECOND FORM's CARD OF 'reparteelaw30.CheckNames'. -/
def checkNamesUptoCard : Claim7 := { stood := { row := checkNamesUptoRow, standIns := [], harness := (true, "328ead3d7af3ebcb053ef92b4b0109ec57961d9185e273863f116b202ad8655a"), looks := false }, kinds := [], alts := [], laidByText := true, laidKinds := [.data, .pinned], laidTests := true, laidLooks := .later }
def CheckNamesUptoCardSaid : Prop := Claim7.holds Tryz.pinned (.plain (OpenSpec.upto checkNamesSpec)) checkNamesUptoCard

/-- THE SECOND FORM's CARD OF 'reparteelaw30.CheckRight'. -/
def checkRightUptoCard : Claim7 := { stood := { row := checkRightUptoRow, standIns := [], harness := (true, "328ead3d7af3ebcb053ef92b4b0109ec57961d9185e273863f116b202ad8655a"), looks := false }, kinds := [], alts := [], laidByText := true, laidKinds := [.data, .pinned], laidTests := true, laidLooks := .later }
def CheckRightUptoCardSaid : Prop := Claim7.holds Tryz.pinned (.plain (OpenSpec.upto checkRightSpec)) checkRightUptoCard
end Rows
end Go.Proofs.YtdopppmkbkkmiaaGreatDoor
