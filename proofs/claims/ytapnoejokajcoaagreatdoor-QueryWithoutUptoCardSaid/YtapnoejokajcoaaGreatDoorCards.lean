/-
  DERIVED. GIVEN WITH THE SEED: THE CARDS: each row of YtapnoejokajcoaaGreatDoorRows.lean that lists a variable, with what it lists TIED to the program's text (the seventh form; the later family's looks); each row that meets fmt, with fmt's text TOLD by the authors' own Lean function (tested against real Go, not proved from fmt's source: count such statements apart). THE CARD IS WHAT COUNTS. Prove the row's statement (the work); the ties are given (YtapnoejokajcoaaGreatDoorTie.lean); close each card by the builder's one call (the guide's Derived/Test/ToyasCard.lean, 'card_holds'). Laid BY PROGRAM, IN A SANDBOX (cutbox-door.mjs). By AI agents, Wed Nov 11 2026. No macro, syntax, notation, axiom, sorry.
-/
import Derived.Test.YtapnoejokajcoaaGreatDoorRows
import GoSem.ClaimSeven
namespace Go.Proofs.YtapnoejokajcoaaGreatDoor
namespace Rows

/-- THE TIED CARD OF 'calendslaw14.QueryLies'. -/
def queryLiesCard : Claim7 := { stood := { row := queryLiesRow, standIns := [], harness := (true, "31739205452a11ee944036a0d9ca1fd179c662e16ae3688d572143ba66e03006"), looks := true }, kinds := [], alts := [], laidByText := true, laidKinds := [.data, .handle, .pinned], laidTests := true, laidLooks := .later }
def QueryLiesCardSaid : Prop := Claim7.holds Tryz.pinned (.plain (OpenSpec.ofChange queryLiesSpec)) queryLiesCard

/-- THE TIED CARD OF 'calendslaw14.QueryWithout'. -/
def queryWithoutCard : Claim7 := { stood := { row := queryWithoutRow, standIns := [], harness := (true, "31739205452a11ee944036a0d9ca1fd179c662e16ae3688d572143ba66e03006"), looks := true }, kinds := [], alts := [], laidByText := true, laidKinds := [.data, .handle, .pinned], laidTests := true, laidLooks := .later }
def QueryWithoutCardSaid : Prop := Claim7.holds Tryz.pinned (.plain (OpenSpec.ofChange queryWithoutSpec)) queryWithoutCard

/-- THE TIED CARD OF 'calendslaw14.QueryParts'. -/
def queryPartsCard : Claim7 := { stood := { row := queryPartsRow, standIns := [], harness := (true, "31739205452a11ee944036a0d9ca1fd179c662e16ae3688d572143ba66e03006"), looks := true }, kinds := [], alts := [], laidByText := true, laidKinds := [.data, .handle, .pinned], laidTests := true, laidLooks := .later }
def QueryPartsCardSaid : Prop := Claim7.holds Tryz.pinned (.plain (OpenSpec.ofChange queryPartsSpec)) queryPartsCard

/-- THE TIED CARD OF 'calendslaw14.QueryOnce'. -/
def queryOnceCard : Claim7 := { stood := { row := queryOnceRow, standIns := [], harness := (true, "31739205452a11ee944036a0d9ca1fd179c662e16ae3688d572143ba66e03006"), looks := true }, kinds := [], alts := [], laidByText := true, laidKinds := [.data, .handle, .pinned], laidTests := true, laidLooks := .later }
def QueryOnceCardSaid : Prop := Claim7.holds Tryz.pinned (.plain (OpenSpec.ofChange queryOnceSpec)) queryOnceCard

/-- THE SECOND FORM's CARD OF 'calendslaw14.QueryLies'. -/
def queryLiesUptoCard : Claim7 := { stood := { row := queryLiesUptoRow, standIns := [], harness := (true, "31739205452a11ee944036a0d9ca1fd179c662e16ae3688d572143ba66e03006"), looks := true }, kinds := [], alts := [], laidByText := true, laidKinds := [.data, .handle, .pinned], laidTests := true, laidLooks := .later }
def QueryLiesUptoCardSaid : Prop := Claim7.holds Tryz.pinned (.plain (OpenSpec.upto queryLiesSpec)) queryLiesUptoCard

/-- THE SECOND FORM's CARD OF 'calendslaw14.QueryWithout'. -/
def queryWithoutUptoCard : Claim7 := { stood := { row := queryWithoutUptoRow, standIns := [], harness := (true, "31739205452a11ee944036a0d9ca1fd179c662e16ae3688d572143ba66e03006"), looks := true }, kinds := [], alts := [], laidByText := true, laidKinds := [.data, .handle, .pinned], laidTests := true, laidLooks := .later }
def QueryWithoutUptoCardSaid : Prop := Claim7.holds Tryz.pinned (.plain (OpenSpec.upto queryWithoutSpec)) queryWithoutUptoCard

/-- THE SECOND FORM's CARD OF 'calendslaw14.QueryParts'. -/
def queryPartsUptoCard : Claim7 := { stood := { row := queryPartsUptoRow, standIns := [], harness := (true, "31739205452a11ee944036a0d9ca1fd179c662e16ae3688d572143ba66e03006"), looks := true }, kinds := [], alts := [], laidByText := true, laidKinds := [.data, .handle, .pinned], laidTests := true, laidLooks := .later }
def QueryPartsUptoCardSaid : Prop := Claim7.holds Tryz.pinned (.plain (OpenSpec.upto queryPartsSpec)) queryPartsUptoCard

/-- THE SECOND FORM's CARD OF 'calendslaw14.QueryOnce'. -/
def queryOnceUptoCard : Claim7 := { stood := { row := queryOnceUptoRow, standIns := [], harness := (true, "31739205452a11ee944036a0d9ca1fd179c662e16ae3688d572143ba66e03006"), looks := true }, kinds := [], alts := [], laidByText := true, laidKinds := [.data, .handle, .pinned], laidTests := true, laidLooks := .later }
def QueryOnceUptoCardSaid : Prop := Claim7.holds Tryz.pinned (.plain (OpenSpec.upto queryOnceSpec)) queryOnceUptoCard
end Rows
end Go.Proofs.YtapnoejokajcoaaGreatDoor
