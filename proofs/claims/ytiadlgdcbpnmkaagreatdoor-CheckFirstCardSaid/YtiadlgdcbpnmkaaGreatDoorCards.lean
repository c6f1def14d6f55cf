/-
  DERIVED. GIVEN WITH THE SEED: THE CARDS: each row of YtiadlgdcbpnmkaaGreatDoorRows.lean that lists a variable, with what it lists TIED to the program's text (the seventh form; the later family's looks); each row that meets fmt, with fmt's text TOLD by the authors' own Lean function (tested against real Go, not proved from fmt's source: count such statements apart). THE CARD IS WHAT COUNTS. Prove the row's statement (the work); the ties are given (YtiadlgdcbpnmkaaGreatDoorTie.lean); close each card by the builder's one call (the guide's Derived/Test/ToyasCard.lean, 'card_holds'). Laid BY PROGRAM, IN A SANDBOX (cutbox-door.mjs). By AI agents, Wed Nov 11 2026. No macro, syntax, notation, axiom, sorry.
-/
import Derived.Test.YtiadlgdcbpnmkaaGreatDoorRows
import GoSem.ClaimSeven
namespace Go.Proofs.YtiadlgdcbpnmkaaGreatDoor
namespace Rows

/-- THE TIED CARD OF 'reparteelaw30.CheckWords'. -/
def checkWordsCard : Claim7 := { stood := { row := checkWordsRow, standIns := [], harness := (true, "a82aa9d6642ad1f548a5bb9a62cdfba711ee608f2632255de50e20b66b0f9b64"), looks := false }, kinds := [], alts := [], laidByText := true, laidKinds := [.data, .pinned], laidTests := true, laidLooks := .later }
def CheckWordsCardSaid : Prop := Claim7.holds Tryz.pinned (.plain (OpenSpec.ofChange checkWordsSpec)) checkWordsCard

/-- THE TIED CARD OF 'reparteelaw30.CheckFirst'. -/
def checkFirstCard : Claim7 := { stood := { row := checkFirstRow, standIns := [], harness := (true, "a82aa9d6642ad1f548a5bb9a62cdfba711ee608f2632255de50e20b66b0f9b64"), looks := false }, kinds := [], alts := [], laidByText := true, laidKinds := [.data, .pinned], laidTests := true, laidLooks := .later }
def CheckFirstCardSaid : Prop := Claim7.holds Tryz.pinned (.plain (OpenSpec.ofChange checkFirstSpec)) checkFirstCard

/-- THE SECOND FORM's CARD OF 'reparteelaw30.CheckWords'. -/
def checkWordsUptoCard : Claim7 := { stood := { row := checkWordsUptoRow, standIns := [], harness := (true, "a82aa9d6642ad1f548a5bb9a62cdfba711ee608f2632255de50e20b66b0f9b64"), looks := false }, kinds := [], alts := [], laidByText := true, laidKinds := [.data, .pinned], laidTests := true, laidLooks := .later }
def CheckWordsUptoCardSaid : Prop := Claim7.holds Tryz.pinned (.plain (OpenSpec.upto checkWordsSpec)) checkWordsUptoCard

/-- THE SECOND FORM's CARD OF 'reparteelaw30.CheckFirst'. -/
def checkFirstUptoCard : Claim7 := { stood := { row := checkFirstUptoRow, standIns := [], harness := (true, "a82aa9d6642ad1f548a5bb9a62cdfba711ee608f2632255de50e20b66b0f9b64"), looks := false }, kinds := [], alts := [], laidByText := true, laidKinds := [.data, .pinned], laidTests := true, laidLooks := .later }
def CheckFirstUptoCardSaid : Prop := Claim7.holds Tryz.pinned (.plain (OpenSpec.upto checkFirstSpec)) checkFirstUptoCard
end Rows
end Go.Proofs.YtiadlgdcbpnmkaaGreatDoor
