/-
  DERIVED. GIVEN WITH THE SEED: THE CARDS: each row of YtadgfmmmdhlljaaDoorRows.lean that lists a variable, with what it lists TIED to the program's text (the seventh form; the later family's looks); each row that meets fmt, with fmt's text TOLD by the authors' own Lean function (tested against real Go, not proved from fmt's source: count such statements apart). THE CARD IS WHAT COUNTS. Prove the row's statement (the work); the ties are given (YtadgfmmmdhlljaaDoorTie.lean); close each card by the builder's one call (the guide's Derived/Test/ToyasCard.lean, 'card_holds'). Laid BY PROGRAM, IN A SANDBOX (cutbox-door.mjs). By AI agents, Wed Nov 11 2026. No macro, syntax, notation, axiom, sorry.
-/
import Derived.Test.YtadgfmmmdhlljaaDoorRows
import GoSem.ClaimSeven
namespace Go.Proofs.YtadgfmmmdhlljaaDoor
namespace Rows

/-- THE TIED CARD OF 'calendslaw04.FoldFolds'. -/
def foldFoldsCard : Claim7 := { stood := { row := foldFoldsRow, standIns := [], harness := (true, "799389b69fd171fe0d14a8b21f02e56a78ba728ed78de18b2ed450f5901c0715"), looks := true }, kinds := [], alts := [], laidByText := true, laidKinds := [.data, .handle, .pinned], laidTests := true, laidLooks := .later }
def FoldFoldsCardSaid : Prop := Claim7.holds Tryd.pinned (.plain (OpenSpec.ofChange foldFoldsSpec)) foldFoldsCard

/-- THE TIED CARD OF 'calendslaw04.FoldUnfolds'. -/
def foldUnfoldsCard : Claim7 := { stood := { row := foldUnfoldsRow, standIns := [], harness := (true, "799389b69fd171fe0d14a8b21f02e56a78ba728ed78de18b2ed450f5901c0715"), looks := true }, kinds := [], alts := [], laidByText := true, laidKinds := [.data, .handle, .pinned], laidTests := true, laidLooks := .later }
def FoldUnfoldsCardSaid : Prop := Claim7.holds Tryd.pinned (.plain (OpenSpec.ofChange foldUnfoldsSpec)) foldUnfoldsCard

/-- THE TIED CARD OF 'calendslaw04.FoldBack'. -/
def foldBackCard : Claim7 := { stood := { row := foldBackRow, standIns := [], harness := (true, "799389b69fd171fe0d14a8b21f02e56a78ba728ed78de18b2ed450f5901c0715"), looks := true }, kinds := [], alts := [], laidByText := true, laidKinds := [.data, .handle, .pinned], laidTests := true, laidLooks := .later }
def FoldBackCardSaid : Prop := Claim7.holds Tryd.pinned (.plain (OpenSpec.ofChange foldBackSpec)) foldBackCard

/-- THE TIED CARD OF 'calendslaw04.FoldAnywhere'. -/
def foldAnywhereCard : Claim7 := { stood := { row := foldAnywhereRow, standIns := [], harness := (true, "799389b69fd171fe0d14a8b21f02e56a78ba728ed78de18b2ed450f5901c0715"), looks := true }, kinds := [], alts := [], laidByText := true, laidKinds := [.data, .handle, .pinned], laidTests := true, laidLooks := .later }
def FoldAnywhereCardSaid : Prop := Claim7.holds Tryd.pinned (.plain (OpenSpec.ofChange foldAnywhereSpec)) foldAnywhereCard

/-- THE TIED CARD OF 'calendslaw04.FoldJoins'. -/
def foldJoinsCard : Claim7 := { stood := { row := foldJoinsRow, standIns := [], harness := (true, "799389b69fd171fe0d14a8b21f02e56a78ba728ed78de18b2ed450f5901c0715"), looks := true }, kinds := [], alts := [], laidByText := true, laidKinds := [.data, .handle, .pinned], laidTests := true, laidLooks := .later }
def FoldJoinsCardSaid : Prop := Claim7.holds Tryd.pinned (.plain (OpenSpec.ofChange foldJoinsSpec)) foldJoinsCard

/-- THE TIED CARD OF 'calendslaw04.FoldLines'. -/
def foldLinesCard : Claim7 := { stood := { row := foldLinesRow, standIns := [], harness := (true, "799389b69fd171fe0d14a8b21f02e56a78ba728ed78de18b2ed450f5901c0715"), looks := true }, kinds := [], alts := [], laidByText := true, laidKinds := [.data, .handle, .pinned], laidTests := true, laidLooks := .later }
def FoldLinesCardSaid : Prop := Claim7.holds Tryd.pinned (.plain (OpenSpec.ofChange foldLinesSpec)) foldLinesCard

/-- THE TIED CARD OF 'calendslaw05.LineParses'. -/
def lineParsesCard : Claim7 := { stood := { row := lineParsesRow, standIns := [], harness := (true, "799389b69fd171fe0d14a8b21f02e56a78ba728ed78de18b2ed450f5901c0715"), looks := true }, kinds := [], alts := [], laidByText := true, laidKinds := [.data, .pinned], laidTests := true, laidLooks := .later }
def LineParsesCardSaid : Prop := Claim7.holds Tryd.pinned (.plain (OpenSpec.ofChange lineParsesSpec)) lineParsesCard

/-- THE TIED CARD OF 'calendslaw05.LinePrints'. -/
def linePrintsCard : Claim7 := { stood := { row := linePrintsRow, standIns := [], harness := (true, "799389b69fd171fe0d14a8b21f02e56a78ba728ed78de18b2ed450f5901c0715"), looks := true }, kinds := [], alts := [], laidByText := true, laidKinds := [.data, .pinned], laidTests := true, laidLooks := .later }
def LinePrintsCardSaid : Prop := Claim7.holds Tryd.pinned (.plain (OpenSpec.ofChange linePrintsSpec)) linePrintsCard

/-- THE TIED CARD OF 'calendslaw05.LineBack'. -/
def lineBackCard : Claim7 := { stood := { row := lineBackRow, standIns := [], harness := (true, "799389b69fd171fe0d14a8b21f02e56a78ba728ed78de18b2ed450f5901c0715"), looks := true }, kinds := [], alts := [], laidByText := true, laidKinds := [.data, .pinned], laidTests := true, laidLooks := .later }
def LineBackCardSaid : Prop := Claim7.holds Tryd.pinned (.plain (OpenSpec.ofChange lineBackSpec)) lineBackCard

/-- THE TIED CARD OF 'calendslaw05.LineAgain'. -/
def lineAgainCard : Claim7 := { stood := { row := lineAgainRow, standIns := [], harness := (true, "799389b69fd171fe0d14a8b21f02e56a78ba728ed78de18b2ed450f5901c0715"), looks := true }, kinds := [], alts := [], laidByText := true, laidKinds := [.data, .pinned], laidTests := true, laidLooks := .later }
def LineAgainCardSaid : Prop := Claim7.holds Tryd.pinned (.plain (OpenSpec.ofChange lineAgainSpec)) lineAgainCard

/-- THE TIED CARD OF 'calendslaw05.LineSays'. -/
def lineSaysCard : Claim7 := { stood := { row := lineSaysRow, standIns := [], harness := (true, "799389b69fd171fe0d14a8b21f02e56a78ba728ed78de18b2ed450f5901c0715"), looks := true }, kinds := [], alts := [], laidByText := true, laidKinds := [.data, .pinned], laidTests := true, laidLooks := .later }
def LineSaysCardSaid : Prop := Claim7.holds Tryd.pinned (.plain (OpenSpec.ofChange lineSaysSpec)) lineSaysCard

/-- THE TIED CARD OF 'calendslaw07.CompParses'. -/
def compParsesCard : Claim7 := { stood := { row := compParsesRow, standIns := [], harness := (true, "799389b69fd171fe0d14a8b21f02e56a78ba728ed78de18b2ed450f5901c0715"), looks := true }, kinds := [], alts := [], laidByText := true, laidKinds := [.handle], laidTests := true, laidLooks := .later }
def CompParsesCardSaid : Prop := Claim7.holds Tryd.pinned (.plain (OpenSpec.ofChange compParsesSpec)) compParsesCard

/-- THE TIED CARD OF 'calendslaw07.CompLooks'. -/
def compLooksCard : Claim7 := { stood := { row := compLooksRow, standIns := [], harness := (true, "799389b69fd171fe0d14a8b21f02e56a78ba728ed78de18b2ed450f5901c0715"), looks := true }, kinds := [], alts := [], laidByText := true, laidKinds := [.handle], laidTests := true, laidLooks := .later }
def CompLooksCardSaid : Prop := Claim7.holds Tryd.pinned (.plain (OpenSpec.ofChange compLooksSpec)) compLooksCard

/-- THE SECOND FORM's CARD OF 'calendslaw04.FoldFolds'. -/
def foldFoldsUptoCard : Claim7 := { stood := { row := foldFoldsUptoRow, standIns := [], harness := (true, "799389b69fd171fe0d14a8b21f02e56a78ba728ed78de18b2ed450f5901c0715"), looks := true }, kinds := [], alts := [], laidByText := true, laidKinds := [.data, .handle, .pinned], laidTests := true, laidLooks := .later }
def FoldFoldsUptoCardSaid : Prop := Claim7.holds Tryd.pinned (.plain (OpenSpec.upto foldFoldsSpec)) foldFoldsUptoCard

/-- THE SECOND FORM's CARD OF 'calendslaw04.FoldUnfolds'. -/
def foldUnfoldsUptoCard : Claim7 := { stood := { row := foldUnfoldsUptoRow, standIns := [], harness := (true, "799389b69fd171fe0d14a8b21f02e56a78ba728ed78de18b2ed450f5901c0715"), looks := true }, kinds := [], alts := [], laidByText := true, laidKinds := [.data, .handle, .pinned], laidTests := true, laidLooks := .later }
def FoldUnfoldsUptoCardSaid : Prop := Claim7.holds Tryd.pinned (.plain (OpenSpec.upto foldUnfoldsSpec)) foldUnfoldsUptoCard

/-- THE SECOND FORM's CARD OF 'calendslaw04.FoldBack'. -/
def foldBackUptoCard : Claim7 := { stood := { row := foldBackUptoRow, standIns := [], harness := (true, "799389b69fd171fe0d14a8b21f02e56a78ba728ed78de18b2ed450f5901c0715"), looks := true }, kinds := [], alts := [], laidByText := true, laidKinds := [.data, .handle, .pinned], laidTests := true, laidLooks := .later }
def FoldBackUptoCardSaid : Prop := Claim7.holds Tryd.pinned (.plain (OpenSpec.upto foldBackSpec)) foldBackUptoCard

/-- THE SECOND FORM's CARD OF 'calendslaw04.FoldAnywhere'. -/
def foldAnywhereUptoCard : Claim7 := { stood := { row := foldAnywhereUptoRow, standIns := [], harness := (true, "799389b69fd171fe0d14a8b21f02e56a78ba728ed78de18b2ed450f5901c0715"), looks := true }, kinds := [], alts := [], laidByText := true, laidKinds := [.data, .handle, .pinned], laidTests := true, laidLooks := .later }
def FoldAnywhereUptoCardSaid : Prop := Claim7.holds Tryd.pinned (.plain (OpenSpec.upto foldAnywhereSpec)) foldAnywhereUptoCard

/-- THE SECOND FORM's CARD OF 'calendslaw04.FoldJoins'. -/
def foldJoinsUptoCard : Claim7 := { stood := { row := foldJoinsUptoRow, standIns := [], harness := (true, "799389b69fd171fe0d14a8b21f02e56a78ba728ed78de18b2ed450f5901c0715"), looks := true }, kinds := [], alts := [], laidByText := true, laidKinds := [.data, .handle, .pinned], laidTests := true, laidLooks := .later }
def FoldJoinsUptoCardSaid : Prop := Claim7.holds Tryd.pinned (.plain (OpenSpec.upto foldJoinsSpec)) foldJoinsUptoCard

/-- THE SECOND FORM's CARD OF 'calendslaw04.FoldLines'. -/
def foldLinesUptoCard : Claim7 := { stood := { row := foldLinesUptoRow, standIns := [], harness := (true, "799389b69fd171fe0d14a8b21f02e56a78ba728ed78de18b2ed450f5901c0715"), looks := true }, kinds := [], alts := [], laidByText := true, laidKinds := [.data, .handle, .pinned], laidTests := true, laidLooks := .later }
def FoldLinesUptoCardSaid : Prop := Claim7.holds Tryd.pinned (.plain (OpenSpec.upto foldLinesSpec)) foldLinesUptoCard

/-- THE SECOND FORM's CARD OF 'calendslaw05.LineParses'. -/
def lineParsesUptoCard : Claim7 := { stood := { row := lineParsesUptoRow, standIns := [], harness := (true, "799389b69fd171fe0d14a8b21f02e56a78ba728ed78de18b2ed450f5901c0715"), looks := true }, kinds := [], alts := [], laidByText := true, laidKinds := [.data, .pinned], laidTests := true, laidLooks := .later }
def LineParsesUptoCardSaid : Prop := Claim7.holds Tryd.pinned (.plain (OpenSpec.upto lineParsesSpec)) lineParsesUptoCard

/-- THE SECOND FORM's CARD OF 'calendslaw05.LinePrints'. -/
def linePrintsUptoCard : Claim7 := { stood := { row := linePrintsUptoRow, standIns := [], harness := (true, "799389b69fd171fe0d14a8b21f02e56a78ba728ed78de18b2ed450f5901c0715"), looks := true }, kinds := [], alts := [], laidByText := true, laidKinds := [.data, .pinned], laidTests := true, laidLooks := .later }
def LinePrintsUptoCardSaid : Prop := Claim7.holds Tryd.pinned (.plain (OpenSpec.upto linePrintsSpec)) linePrintsUptoCard

/-- THE SECOND FORM's CARD OF 'calendslaw05.LineBack'. -/
def lineBackUptoCard : Claim7 := { stood := { row := lineBackUptoRow, standIns := [], harness := (true, "799389b69fd171fe0d14a8b21f02e56a78ba728ed78de18b2ed450f5901c0715"), looks := true }, kinds := [], alts := [], laidByText := true, laidKinds := [.data, .pinned], laidTests := true, laidLooks := .later }
def LineBackUptoCardSaid : Prop := Claim7.holds Tryd.pinned (.plain (OpenSpec.upto lineBackSpec)) lineBackUptoCard

/-- THE SECOND FORM's CARD OF 'calendslaw05.LineAgain'. -/
def lineAgainUptoCard : Claim7 := { stood := { row := lineAgainUptoRow, standIns := [], harness := (true, "799389b69fd171fe0d14a8b21f02e56a78ba728ed78de18b2ed450f5901c0715"), looks := true }, kinds := [], alts := [], laidByText := true, laidKinds := [.data, .pinned], laidTests := true, laidLooks := .later }
def LineAgainUptoCardSaid : Prop := Claim7.holds Tryd.pinned (.plain (OpenSpec.upto lineAgainSpec)) lineAgainUptoCard

/-- THE SECOND FORM's CARD OF 'calendslaw05.LineSays'. -/
def lineSaysUptoCard : Claim7 := { stood := { row := lineSaysUptoRow, standIns := [], harness := (true, "799389b69fd171fe0d14a8b21f02e56a78ba728ed78de18b2ed450f5901c0715"), looks := true }, kinds := [], alts := [], laidByText := true, laidKinds := [.data, .pinned], laidTests := true, laidLooks := .later }
def LineSaysUptoCardSaid : Prop := Claim7.holds Tryd.pinned (.plain (OpenSpec.upto lineSaysSpec)) lineSaysUptoCard

/-- THE SECOND FORM's CARD OF 'calendslaw07.CompParses'. -/
def compParsesUptoCard : Claim7 := { stood := { row := compParsesUptoRow, standIns := [], harness := (true, "799389b69fd171fe0d14a8b21f02e56a78ba728ed78de18b2ed450f5901c0715"), looks := true }, kinds := [], alts := [], laidByText := true, laidKinds := [.handle], laidTests := true, laidLooks := .later }
def CompParsesUptoCardSaid : Prop := Claim7.holds Tryd.pinned (.plain (OpenSpec.upto compParsesSpec)) compParsesUptoCard

/-- THE SECOND FORM's CARD OF 'calendslaw07.CompLooks'. -/
def compLooksUptoCard : Claim7 := { stood := { row := compLooksUptoRow, standIns := [], harness := (true, "799389b69fd171fe0d14a8b21f02e56a78ba728ed78de18b2ed450f5901c0715"), looks := true }, kinds := [], alts := [], laidByText := true, laidKinds := [.handle], laidTests := true, laidLooks := .later }
def CompLooksUptoCardSaid : Prop := Claim7.holds Tryd.pinned (.plain (OpenSpec.upto compLooksSpec)) compLooksUptoCard
end Rows
end Go.Proofs.YtadgfmmmdhlljaaDoor
