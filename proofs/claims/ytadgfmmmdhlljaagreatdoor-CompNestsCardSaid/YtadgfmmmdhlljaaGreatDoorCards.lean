/-
  DERIVED. GIVEN WITH THE SEED: THE CARDS: each row of YtadgfmmmdhlljaaGreatDoorRows.lean that lists a variable, with what it lists TIED to the program's text (the seventh form; the later family's looks); each row that meets fmt, with fmt's text TOLD by the authors' own Lean function (tested against real Go, not proved from fmt's source: count such statements apart). THE CARD IS WHAT COUNTS. Prove the row's statement (the work); the ties are given (YtadgfmmmdhlljaaGreatDoorTie.lean); close each card by the builder's one call (the guide's Derived/Test/ToyasCard.lean, 'card_holds'). Laid BY PROGRAM, IN A SANDBOX (cutbox-door.mjs). By AI agents, Wed Nov 11 2026. No macro, syntax, notation, axiom, sorry.
-/
import Derived.Test.YtadgfmmmdhlljaaGreatDoorRows
import GoSem.ClaimSeven
namespace Go.Proofs.YtadgfmmmdhlljaaGreatDoor
namespace Rows

/-- THE TIED CARD OF 'calendslaw07.CompBack'. -/
def compBackCard : Claim7 := { stood := { row := compBackRow, standIns := [], harness := (true, "da90245a76d94a5827f7feede9331e340d6a107e1920c6d2e678ed8faabfe52d"), looks := true }, kinds := [], alts := [], laidByText := true, laidKinds := [.data, .handle, .pinned], laidTests := true, laidLooks := .later }
def CompBackCardSaid : Prop := Claim7.holds Tryz.pinned (.plain (OpenSpec.ofChange compBackSpec)) compBackCard

/-- THE TIED CARD OF 'calendslaw07.CompPrints'. -/
def compPrintsCard : Claim7 := { stood := { row := compPrintsRow, standIns := [], harness := (true, "da90245a76d94a5827f7feede9331e340d6a107e1920c6d2e678ed8faabfe52d"), looks := true }, kinds := [], alts := [], laidByText := true, laidKinds := [.data, .handle, .pinned], laidTests := true, laidLooks := .later }
def CompPrintsCardSaid : Prop := Claim7.holds Tryz.pinned (.plain (OpenSpec.ofChange compPrintsSpec)) compPrintsCard

/-- THE TIED CARD OF 'calendslaw07.CompAgain'. -/
def compAgainCard : Claim7 := { stood := { row := compAgainRow, standIns := [], harness := (true, "da90245a76d94a5827f7feede9331e340d6a107e1920c6d2e678ed8faabfe52d"), looks := true }, kinds := [], alts := [], laidByText := true, laidKinds := [.data, .handle, .pinned], laidTests := true, laidLooks := .later }
def CompAgainCardSaid : Prop := Claim7.holds Tryz.pinned (.plain (OpenSpec.ofChange compAgainSpec)) compAgainCard

/-- THE TIED CARD OF 'calendslaw07.CompNests'. -/
def compNestsCard : Claim7 := { stood := { row := compNestsRow, standIns := [], harness := (true, "da90245a76d94a5827f7feede9331e340d6a107e1920c6d2e678ed8faabfe52d"), looks := true }, kinds := [], alts := [], laidByText := true, laidKinds := [.data, .handle, .pinned], laidTests := true, laidLooks := .later }
def CompNestsCardSaid : Prop := Claim7.holds Tryz.pinned (.plain (OpenSpec.ofChange compNestsSpec)) compNestsCard

/-- THE SECOND FORM's CARD OF 'calendslaw07.CompBack'. -/
def compBackUptoCard : Claim7 := { stood := { row := compBackUptoRow, standIns := [], harness := (true, "da90245a76d94a5827f7feede9331e340d6a107e1920c6d2e678ed8faabfe52d"), looks := true }, kinds := [], alts := [], laidByText := true, laidKinds := [.data, .handle, .pinned], laidTests := true, laidLooks := .later }
def CompBackUptoCardSaid : Prop := Claim7.holds Tryz.pinned (.plain (OpenSpec.upto compBackSpec)) compBackUptoCard

/-- THE SECOND FORM's CARD OF 'calendslaw07.CompPrints'. -/
def compPrintsUptoCard : Claim7 := { stood := { row := compPrintsUptoRow, standIns := [], harness := (true, "da90245a76d94a5827f7feede9331e340d6a107e1920c6d2e678ed8faabfe52d"), looks := true }, kinds := [], alts := [], laidByText := true, laidKinds := [.data, .handle, .pinned], laidTests := true, laidLooks := .later }
def CompPrintsUptoCardSaid : Prop := Claim7.holds Tryz.pinned (.plain (OpenSpec.upto compPrintsSpec)) compPrintsUptoCard

/-- THE SECOND FORM's CARD OF 'calendslaw07.CompAgain'. -/
def compAgainUptoCard : Claim7 := { stood := { row := compAgainUptoRow, standIns := [], harness := (true, "da90245a76d94a5827f7feede9331e340d6a107e1920c6d2e678ed8faabfe52d"), looks := true }, kinds := [], alts := [], laidByText := true, laidKinds := [.data, .handle, .pinned], laidTests := true, laidLooks := .later }
def CompAgainUptoCardSaid : Prop := Claim7.holds Tryz.pinned (.plain (OpenSpec.upto compAgainSpec)) compAgainUptoCard

/-- THE SECOND FORM's CARD OF 'calendslaw07.CompNests'. -/
def compNestsUptoCard : Claim7 := { stood := { row := compNestsUptoRow, standIns := [], harness := (true, "da90245a76d94a5827f7feede9331e340d6a107e1920c6d2e678ed8faabfe52d"), looks := true }, kinds := [], alts := [], laidByText := true, laidKinds := [.data, .handle, .pinned], laidTests := true, laidLooks := .later }
def CompNestsUptoCardSaid : Prop := Claim7.holds Tryz.pinned (.plain (OpenSpec.upto compNestsSpec)) compNestsUptoCard
end Rows
end Go.Proofs.YtadgfmmmdhlljaaGreatDoor
