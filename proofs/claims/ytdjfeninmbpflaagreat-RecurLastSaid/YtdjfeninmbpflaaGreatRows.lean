/-
  No cell of these rows narrows 'for every input' (looked for: loops, veiled, ifaces, maps, wideKeys, modest, calm, conditions, laid).
  DERIVED. THE GIVEN ROWS OF THIS SEAT. 7 by the template 'for every input the law returns true; each argument reads behind the call as it read before'; 0 by the template 'total and deterministic' (their statements: YtdjfeninmbpflaaGreatTotals.lean).
  GIVEN WITH THE SEED: the statements are not yours to turn. If you find one false, say at which input.
  Laid BY PROGRAM, IN A SANDBOX (cutbox-rows.mjs): the forced cells as the released guide's own fill.sh prints them over the translation 1203a59dd4ddb4ab… (all of the seat's roots in one cut). By AI agents, Wed Nov 11 2026. No macro, syntax, notation, axiom, sorry.
-/
import Derived.Test.YtdjfeninmbpflaaGreatChecked
import GoSem.Claim
import GoSem.ClaimJoined
import GoSem.ClaimMapViews
import Derived.JoinedTies
import Derived.KernelRfl
namespace Go.Proofs.YtdjfeninmbpflaaGreat
/- THE CELL 'sum', in the pinned program and in every row, IS THE sha256 OF THE DUMP (.gsa) THAT YtdjfeninmbpflaaGreatProg.lean LOADS. Nothing in Lean hashes anything: it is a label: what it is worth is what the hold of that sum in a sandbox is worth. -/
noncomputable def Tryz.pinned : Pinned := { name := "ytdjfeninmbpflaagreat", sum := "1203a59dd4ddb4abcb5d321984b03e4aea2de258ce6215858874399e75d78b47", checked := Tryz.checked }
namespace Rows
def none {H : Type} : Left H := { results := [], args := [] }

/-- 'calendslaw11.RecurExpands': WHATEVER THE INPUT: true; the input reads as it did. -/
def recurExpandsSpec : ChangeSpec := { name := "recurExpands", fn := fun _ => fun
  | [d1, d2, d3, d4] => { results := [.lit (.bool true)], args := [d1, d2, d3, d4] }
  | _ => none }
def recurExpandsRow : OpenClaim := { program := "ytdjfeninmbpflaagreat", sum := "1203a59dd4ddb4abcb5d321984b03e4aea2de258ce6215858874399e75d78b47", func := "calends/calendslaw11.RecurExpands", spec := "recurExpands", inPlace := ["internal/reflectlite.TypeOf"], unfollowed := true, recurses := true, apart := false }
def RecurExpandsSaid : Prop := recurExpandsRow.holds Tryz.pinned (OpenSpec.ofChange recurExpandsSpec)

/-- ITS FALSE NEIGHBOUR: 'it returns false'. Refute it at one input. -/
def recurExpandsWrong : ChangeSpec := { name := "recurExpands", fn := fun _ => fun
  | [d1, d2, d3, d4] => { results := [.lit (.bool false)], args := [d1, d2, d3, d4] }
  | _ => none }
def RecurExpandsWrongFalsely : Prop := recurExpandsRow.holds Tryz.pinned (OpenSpec.ofChange recurExpandsWrong)

/-- 'calendslaw11.RecurParts': WHATEVER THE INPUT: true; the input reads as it did. -/
def recurPartsSpec : ChangeSpec := { name := "recurParts", fn := fun _ => fun
  | [d1, d2, d3, d4, d5] => { results := [.lit (.bool true)], args := [d1, d2, d3, d4, d5] }
  | _ => none }
def recurPartsRow : OpenClaim := { program := "ytdjfeninmbpflaagreat", sum := "1203a59dd4ddb4abcb5d321984b03e4aea2de258ce6215858874399e75d78b47", func := "calends/calendslaw11.RecurParts", spec := "recurParts", inPlace := ["internal/reflectlite.TypeOf"], unfollowed := true, recurses := true, apart := false }
def RecurPartsSaid : Prop := recurPartsRow.holds Tryz.pinned (OpenSpec.ofChange recurPartsSpec)

/-- ITS FALSE NEIGHBOUR: 'it returns false'. Refute it at one input. -/
def recurPartsWrong : ChangeSpec := { name := "recurParts", fn := fun _ => fun
  | [d1, d2, d3, d4, d5] => { results := [.lit (.bool false)], args := [d1, d2, d3, d4, d5] }
  | _ => none }
def RecurPartsWrongFalsely : Prop := recurPartsRow.holds Tryz.pinned (OpenSpec.ofChange recurPartsWrong)

/-- 'calendslaw11.RecurCounts': WHATEVER THE INPUT: true; the input reads as it did. -/
def recurCountsSpec : ChangeSpec := { name := "recurCounts", fn := fun _ => fun
  | [d1, d2, d3, d4, d5] => { results := [.lit (.bool true)], args := [d1, d2, d3, d4, d5] }
  | _ => none }
def recurCountsRow : OpenClaim := { program := "ytdjfeninmbpflaagreat", sum := "1203a59dd4ddb4abcb5d321984b03e4aea2de258ce6215858874399e75d78b47", func := "calends/calendslaw11.RecurCounts", spec := "recurCounts", inPlace := ["internal/reflectlite.TypeOf"], unfollowed := true, recurses := true, apart := false }
def RecurCountsSaid : Prop := recurCountsRow.holds Tryz.pinned (OpenSpec.ofChange recurCountsSpec)

/-- ITS FALSE NEIGHBOUR: 'it returns false'. Refute it at one input. -/
def recurCountsWrong : ChangeSpec := { name := "recurCounts", fn := fun _ => fun
  | [d1, d2, d3, d4, d5] => { results := [.lit (.bool false)], args := [d1, d2, d3, d4, d5] }
  | _ => none }
def RecurCountsWrongFalsely : Prop := recurCountsRow.holds Tryz.pinned (OpenSpec.ofChange recurCountsWrong)

/-- 'calendslaw11.RecurSteps': WHATEVER THE INPUT: true; the input reads as it did. -/
def recurStepsSpec : ChangeSpec := { name := "recurSteps", fn := fun _ => fun
  | [d1, d2, d3] => { results := [.lit (.bool true)], args := [d1, d2, d3] }
  | _ => none }
def recurStepsRow : OpenClaim := { program := "ytdjfeninmbpflaagreat", sum := "1203a59dd4ddb4abcb5d321984b03e4aea2de258ce6215858874399e75d78b47", func := "calends/calendslaw11.RecurSteps", spec := "recurSteps", inPlace := ["internal/reflectlite.TypeOf"], unfollowed := true, recurses := true, apart := false }
def RecurStepsSaid : Prop := recurStepsRow.holds Tryz.pinned (OpenSpec.ofChange recurStepsSpec)

/-- ITS FALSE NEIGHBOUR: 'it returns false'. Refute it at one input. -/
def recurStepsWrong : ChangeSpec := { name := "recurSteps", fn := fun _ => fun
  | [d1, d2, d3] => { results := [.lit (.bool false)], args := [d1, d2, d3] }
  | _ => none }
def RecurStepsWrongFalsely : Prop := recurStepsRow.holds Tryz.pinned (OpenSpec.ofChange recurStepsWrong)

/-- 'calendslaw11.RecurMatches': WHATEVER THE INPUT: true; the input reads as it did. -/
def recurMatchesSpec : ChangeSpec := { name := "recurMatches", fn := fun _ => fun
  | [d1, d2, d3] => { results := [.lit (.bool true)], args := [d1, d2, d3] }
  | _ => none }
def recurMatchesRow : OpenClaim := { program := "ytdjfeninmbpflaagreat", sum := "1203a59dd4ddb4abcb5d321984b03e4aea2de258ce6215858874399e75d78b47", func := "calends/calendslaw11.RecurMatches", spec := "recurMatches", inPlace := ["internal/reflectlite.TypeOf"], unfollowed := true, recurses := true, apart := false }
def RecurMatchesSaid : Prop := recurMatchesRow.holds Tryz.pinned (OpenSpec.ofChange recurMatchesSpec)

/-- ITS FALSE NEIGHBOUR: 'it returns false'. Refute it at one input. -/
def recurMatchesWrong : ChangeSpec := { name := "recurMatches", fn := fun _ => fun
  | [d1, d2, d3] => { results := [.lit (.bool false)], args := [d1, d2, d3] }
  | _ => none }
def RecurMatchesWrongFalsely : Prop := recurMatchesRow.holds Tryz.pinned (OpenSpec.ofChange recurMatchesWrong)

/-- 'calendslaw11.RecurLast': WHATEVER THE INPUT: true; the input reads as it did. -/
def recurLastSpec : ChangeSpec := { name := "recurLast", fn := fun _ => fun
  | [d1, d2, d3] => { results := [.lit (.bool true)], args := [d1, d2, d3] }
  | _ => none }
def recurLastRow : OpenClaim := { program := "ytdjfeninmbpflaagreat", sum := "1203a59dd4ddb4abcb5d321984b03e4aea2de258ce6215858874399e75d78b47", func := "calends/calendslaw11.RecurLast", spec := "recurLast", inPlace := ["internal/reflectlite.TypeOf"], unfollowed := true, recurses := true, apart := false }
def RecurLastSaid : Prop := recurLastRow.holds Tryz.pinned (OpenSpec.ofChange recurLastSpec)

/-- ITS FALSE NEIGHBOUR: 'it returns false'. Refute it at one input. -/
def recurLastWrong : ChangeSpec := { name := "recurLast", fn := fun _ => fun
  | [d1, d2, d3] => { results := [.lit (.bool false)], args := [d1, d2, d3] }
  | _ => none }
def RecurLastWrongFalsely : Prop := recurLastRow.holds Tryz.pinned (OpenSpec.ofChange recurLastWrong)

/-- 'calendslaw11.RecurRises': WHATEVER THE INPUT: true; the input reads as it did. -/
def recurRisesSpec : ChangeSpec := { name := "recurRises", fn := fun _ => fun
  | [d1, d2, d3, d4] => { results := [.lit (.bool true)], args := [d1, d2, d3, d4] }
  | _ => none }
def recurRisesRow : OpenClaim := { program := "ytdjfeninmbpflaagreat", sum := "1203a59dd4ddb4abcb5d321984b03e4aea2de258ce6215858874399e75d78b47", func := "calends/calendslaw11.RecurRises", spec := "recurRises", inPlace := ["internal/reflectlite.TypeOf"], unfollowed := true, recurses := true, apart := false }
def RecurRisesSaid : Prop := recurRisesRow.holds Tryz.pinned (OpenSpec.ofChange recurRisesSpec)

/-- ITS FALSE NEIGHBOUR: 'it returns false'. Refute it at one input. -/
def recurRisesWrong : ChangeSpec := { name := "recurRises", fn := fun _ => fun
  | [d1, d2, d3, d4] => { results := [.lit (.bool false)], args := [d1, d2, d3, d4] }
  | _ => none }
def RecurRisesWrongFalsely : Prop := recurRisesRow.holds Tryz.pinned (OpenSpec.ofChange recurRisesWrong)

/- THE SECOND FORM. 'bulk': how many values and letters a reading holds, each counted each time it is reached (what is shared counts as often as it is met; a slice's spare places count too). A statement '..UptoSaid' is the law's where the arguments, and the package variables that the reading takes, are together of bulk at most 1048576: NARROWER than '..Said'. Prove '..Said' where nothing that the law and all that it calls make is longer than what came in: it says more and counts as full. Else prove '..UptoSaid'. A law counts once. -/
mutual
def uptoBulk {H : Type} : DataW H → Nat
  | .lit (.string bytes) => bytes.length + 1
  | .lit _ => 1
  | .nil => 1
  | .ptr d => uptoBulk d + 1
  | .slice elems spare => uptoBulkAll elems + uptoBulkAll spare + 1
  | .agg parts => uptoBulkAll parts + 1
  | .iface _ d => uptoBulk d + 1
  | .map entries => uptoBulkEntries entries + 1
  | .held _ => 1
def uptoBulkAll {H : Type} : List (DataW H) → Nat
  | [] => 0
  | d :: r => uptoBulk d + uptoBulkAll r
def uptoBulkEntries {H : Type} : List (Lit × DataW H) → Nat
  | [] => 0
  | x :: r => uptoBulkEntry x + uptoBulkEntries r
def uptoBulkEntry {H : Type} : Lit × DataW H → Nat
  | (.string bytes, d) => bytes.length + uptoBulk d + 1
  | (_, d) => uptoBulk d + 1
 end
def uptoSmall : (H : Type) → List (DataW H) → Bool := fun _ ds => decide (uptoBulkAll ds ≤ 1048576)
def OpenSpec.upto (s : _root_.Go.ChangeSpec) : _root_.Go.OpenSpec := { _root_.Go.OpenSpec.ofChange s with cond := some uptoSmall }

/-- 'calendslaw11.RecurExpands', WHERE WHAT IT READS IS OF BULK AT MOST 1048576: true; the input reads as it did. -/
def recurExpandsUptoRow : OpenClaim := { program := "ytdjfeninmbpflaagreat", sum := "1203a59dd4ddb4abcb5d321984b03e4aea2de258ce6215858874399e75d78b47", func := "calends/calendslaw11.RecurExpands", spec := "recurExpands", inPlace := ["internal/reflectlite.TypeOf"], unfollowed := true, recurses := true, apart := false, narrowed := true }
def RecurExpandsUptoSaid : Prop := recurExpandsUptoRow.holds Tryz.pinned (OpenSpec.upto recurExpandsSpec)

/-- 'calendslaw11.RecurParts', WHERE WHAT IT READS IS OF BULK AT MOST 1048576: true; the input reads as it did. -/
def recurPartsUptoRow : OpenClaim := { program := "ytdjfeninmbpflaagreat", sum := "1203a59dd4ddb4abcb5d321984b03e4aea2de258ce6215858874399e75d78b47", func := "calends/calendslaw11.RecurParts", spec := "recurParts", inPlace := ["internal/reflectlite.TypeOf"], unfollowed := true, recurses := true, apart := false, narrowed := true }
def RecurPartsUptoSaid : Prop := recurPartsUptoRow.holds Tryz.pinned (OpenSpec.upto recurPartsSpec)

/-- 'calendslaw11.RecurCounts', WHERE WHAT IT READS IS OF BULK AT MOST 1048576: true; the input reads as it did. -/
def recurCountsUptoRow : OpenClaim := { program := "ytdjfeninmbpflaagreat", sum := "1203a59dd4ddb4abcb5d321984b03e4aea2de258ce6215858874399e75d78b47", func := "calends/calendslaw11.RecurCounts", spec := "recurCounts", inPlace := ["internal/reflectlite.TypeOf"], unfollowed := true, recurses := true, apart := false, narrowed := true }
def RecurCountsUptoSaid : Prop := recurCountsUptoRow.holds Tryz.pinned (OpenSpec.upto recurCountsSpec)

/-- 'calendslaw11.RecurSteps', WHERE WHAT IT READS IS OF BULK AT MOST 1048576: true; the input reads as it did. -/
def recurStepsUptoRow : OpenClaim := { program := "ytdjfeninmbpflaagreat", sum := "1203a59dd4ddb4abcb5d321984b03e4aea2de258ce6215858874399e75d78b47", func := "calends/calendslaw11.RecurSteps", spec := "recurSteps", inPlace := ["internal/reflectlite.TypeOf"], unfollowed := true, recurses := true, apart := false, narrowed := true }
def RecurStepsUptoSaid : Prop := recurStepsUptoRow.holds Tryz.pinned (OpenSpec.upto recurStepsSpec)

/-- 'calendslaw11.RecurMatches', WHERE WHAT IT READS IS OF BULK AT MOST 1048576: true; the input reads as it did. -/
def recurMatchesUptoRow : OpenClaim := { program := "ytdjfeninmbpflaagreat", sum := "1203a59dd4ddb4abcb5d321984b03e4aea2de258ce6215858874399e75d78b47", func := "calends/calendslaw11.RecurMatches", spec := "recurMatches", inPlace := ["internal/reflectlite.TypeOf"], unfollowed := true, recurses := true, apart := false, narrowed := true }
def RecurMatchesUptoSaid : Prop := recurMatchesUptoRow.holds Tryz.pinned (OpenSpec.upto recurMatchesSpec)

/-- 'calendslaw11.RecurLast', WHERE WHAT IT READS IS OF BULK AT MOST 1048576: true; the input reads as it did. -/
def recurLastUptoRow : OpenClaim := { program := "ytdjfeninmbpflaagreat", sum := "1203a59dd4ddb4abcb5d321984b03e4aea2de258ce6215858874399e75d78b47", func := "calends/calendslaw11.RecurLast", spec := "recurLast", inPlace := ["internal/reflectlite.TypeOf"], unfollowed := true, recurses := true, apart := false, narrowed := true }
def RecurLastUptoSaid : Prop := recurLastUptoRow.holds Tryz.pinned (OpenSpec.upto recurLastSpec)

/-- 'calendslaw11.RecurRises', WHERE WHAT IT READS IS OF BULK AT MOST 1048576: true; the input reads as it did. -/
def recurRisesUptoRow : OpenClaim := { program := "ytdjfeninmbpflaagreat", sum := "1203a59dd4ddb4abcb5d321984b03e4aea2de258ce6215858874399e75d78b47", func := "calends/calendslaw11.RecurRises", spec := "recurRises", inPlace := ["internal/reflectlite.TypeOf"], unfollowed := true, recurses := true, apart := false, narrowed := true }
def RecurRisesUptoSaid : Prop := recurRisesUptoRow.holds Tryz.pinned (OpenSpec.upto recurRisesSpec)

end Rows
end Go.Proofs.YtdjfeninmbpflaaGreat
