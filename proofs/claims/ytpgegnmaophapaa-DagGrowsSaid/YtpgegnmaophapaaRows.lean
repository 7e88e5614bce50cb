/-
  No cell of these rows narrows 'for every input' (looked for: loops, veiled, ifaces, maps, wideKeys, modest, calm, conditions, laid).
  DERIVED. THE GIVEN ROWS OF THIS SEAT. 6 by the template 'for every input the law returns true; each argument reads behind the call as it read before'; 0 by the template 'total and deterministic' (their statements: YtpgegnmaophapaaTotals.lean).
  GIVEN WITH THE SEED: the statements are not yours to turn. If you find one false, say at which input.
  Laid BY PROGRAM, IN A SANDBOX (cutbox-rows.mjs): the forced cells as the released guide's own fill.sh prints them over the translation a987d54657f76452… (all of the seat's roots in one cut). By AI agents, Wed Nov 11 2026. No macro, syntax, notation, axiom, sorry.
-/
import Derived.Test.YtpgegnmaophapaaChecked
import GoSem.Claim
import GoSem.ClaimJoined
import GoSem.ClaimMapViews
import Derived.JoinedTies
import Derived.KernelRfl
namespace Go.Proofs.Ytpgegnmaophapaa
/- THE CELL 'sum', in the pinned program and in every row, IS THE sha256 OF THE DUMP (.gsa) THAT YtpgegnmaophapaaProg.lean LOADS. Nothing in Lean hashes anything: it is a label: what it is worth is what the hold of that sum in a sandbox is worth. -/
noncomputable def Try.pinned : Pinned := { name := "ytpgegnmaophapaa", sum := "a987d54657f76452825b033e68234eeefb8a4c4262f1d6b31f7b536a845d0b9d", checked := Try.checked }
namespace Rows
def none {H : Type} : Left H := { results := [], args := [] }

/-- 'calendslaw18.DagNearest': WHATEVER THE INPUT: true; the input reads as it did. -/
def dagNearestSpec : ChangeSpec := { name := "dagNearest", fn := fun _ => fun
  | [d1, d2, d3] => { results := [.lit (.bool true)], args := [d1, d2, d3] }
  | _ => none }
def dagNearestRow : OpenClaim := { program := "ytpgegnmaophapaa", sum := "a987d54657f76452825b033e68234eeefb8a4c4262f1d6b31f7b536a845d0b9d", func := "calends/calendslaw18.DagNearest", spec := "dagNearest", unfollowed := true, recurses := true, apart := false }
def DagNearestSaid : Prop := dagNearestRow.holds Try.pinned (OpenSpec.ofChange dagNearestSpec)

/-- ITS FALSE NEIGHBOUR: 'it returns false'. Refute it at one input. -/
def dagNearestWrong : ChangeSpec := { name := "dagNearest", fn := fun _ => fun
  | [d1, d2, d3] => { results := [.lit (.bool false)], args := [d1, d2, d3] }
  | _ => none }
def DagNearestWrongFalsely : Prop := dagNearestRow.holds Try.pinned (OpenSpec.ofChange dagNearestWrong)

/-- 'calendslaw18.DagOrders': WHATEVER THE INPUT: true; the input reads as it did. -/
def dagOrdersSpec : ChangeSpec := { name := "dagOrders", fn := fun _ => fun
  | [d1, d2, d3, d4] => { results := [.lit (.bool true)], args := [d1, d2, d3, d4] }
  | _ => none }
def dagOrdersRow : OpenClaim := { program := "ytpgegnmaophapaa", sum := "a987d54657f76452825b033e68234eeefb8a4c4262f1d6b31f7b536a845d0b9d", func := "calends/calendslaw18.DagOrders", spec := "dagOrders", unfollowed := true, recurses := true, apart := false }
def DagOrdersSaid : Prop := dagOrdersRow.holds Try.pinned (OpenSpec.ofChange dagOrdersSpec)

/-- ITS FALSE NEIGHBOUR: 'it returns false'. Refute it at one input. -/
def dagOrdersWrong : ChangeSpec := { name := "dagOrders", fn := fun _ => fun
  | [d1, d2, d3, d4] => { results := [.lit (.bool false)], args := [d1, d2, d3, d4] }
  | _ => none }
def DagOrdersWrongFalsely : Prop := dagOrdersRow.holds Try.pinned (OpenSpec.ofChange dagOrdersWrong)

/-- 'calendslaw18.DagReaches': WHATEVER THE INPUT: true; the input reads as it did. -/
def dagReachesSpec : ChangeSpec := { name := "dagReaches", fn := fun _ => fun
  | [d1, d2, d3, d4] => { results := [.lit (.bool true)], args := [d1, d2, d3, d4] }
  | _ => none }
def dagReachesRow : OpenClaim := { program := "ytpgegnmaophapaa", sum := "a987d54657f76452825b033e68234eeefb8a4c4262f1d6b31f7b536a845d0b9d", func := "calends/calendslaw18.DagReaches", spec := "dagReaches", unfollowed := true, recurses := true, apart := false }
def DagReachesSaid : Prop := dagReachesRow.holds Try.pinned (OpenSpec.ofChange dagReachesSpec)

/-- ITS FALSE NEIGHBOUR: 'it returns false'. Refute it at one input. -/
def dagReachesWrong : ChangeSpec := { name := "dagReaches", fn := fun _ => fun
  | [d1, d2, d3, d4] => { results := [.lit (.bool false)], args := [d1, d2, d3, d4] }
  | _ => none }
def DagReachesWrongFalsely : Prop := dagReachesRow.holds Try.pinned (OpenSpec.ofChange dagReachesWrong)

/-- 'calendslaw18.DagMade': WHATEVER THE INPUT: true; the input reads as it did. -/
def dagMadeSpec : ChangeSpec := { name := "dagMade", fn := fun _ => fun
  | [d1, d2, d3] => { results := [.lit (.bool true)], args := [d1, d2, d3] }
  | _ => none }
def dagMadeRow : OpenClaim := { program := "ytpgegnmaophapaa", sum := "a987d54657f76452825b033e68234eeefb8a4c4262f1d6b31f7b536a845d0b9d", func := "calends/calendslaw18.DagMade", spec := "dagMade", unfollowed := true, recurses := true, apart := false }
def DagMadeSaid : Prop := dagMadeRow.holds Try.pinned (OpenSpec.ofChange dagMadeSpec)

/-- ITS FALSE NEIGHBOUR: 'it returns false'. Refute it at one input. -/
def dagMadeWrong : ChangeSpec := { name := "dagMade", fn := fun _ => fun
  | [d1, d2, d3] => { results := [.lit (.bool false)], args := [d1, d2, d3] }
  | _ => none }
def DagMadeWrongFalsely : Prop := dagMadeRow.holds Try.pinned (OpenSpec.ofChange dagMadeWrong)

/-- 'calendslaw18.DagGrows': WHATEVER THE INPUT: true; the input reads as it did. -/
def dagGrowsSpec : ChangeSpec := { name := "dagGrows", fn := fun _ => fun
  | [d1, d2, d3, d4] => { results := [.lit (.bool true)], args := [d1, d2, d3, d4] }
  | _ => none }
def dagGrowsRow : OpenClaim := { program := "ytpgegnmaophapaa", sum := "a987d54657f76452825b033e68234eeefb8a4c4262f1d6b31f7b536a845d0b9d", func := "calends/calendslaw18.DagGrows", spec := "dagGrows", unfollowed := true, recurses := true, apart := false }
def DagGrowsSaid : Prop := dagGrowsRow.holds Try.pinned (OpenSpec.ofChange dagGrowsSpec)

/-- ITS FALSE NEIGHBOUR: 'it returns false'. Refute it at one input. -/
def dagGrowsWrong : ChangeSpec := { name := "dagGrows", fn := fun _ => fun
  | [d1, d2, d3, d4] => { results := [.lit (.bool false)], args := [d1, d2, d3, d4] }
  | _ => none }
def DagGrowsWrongFalsely : Prop := dagGrowsRow.holds Try.pinned (OpenSpec.ofChange dagGrowsWrong)

/-- 'calendslaw18.DagChain': WHATEVER THE INPUT: true; the input reads as it did. -/
def dagChainSpec : ChangeSpec := { name := "dagChain", fn := fun _ => fun
  | [d1, d2, d3] => { results := [.lit (.bool true)], args := [d1, d2, d3] }
  | _ => none }
def dagChainRow : OpenClaim := { program := "ytpgegnmaophapaa", sum := "a987d54657f76452825b033e68234eeefb8a4c4262f1d6b31f7b536a845d0b9d", func := "calends/calendslaw18.DagChain", spec := "dagChain", unfollowed := true, recurses := true, apart := false }
def DagChainSaid : Prop := dagChainRow.holds Try.pinned (OpenSpec.ofChange dagChainSpec)

/-- ITS FALSE NEIGHBOUR: 'it returns false'. Refute it at one input. -/
def dagChainWrong : ChangeSpec := { name := "dagChain", fn := fun _ => fun
  | [d1, d2, d3] => { results := [.lit (.bool false)], args := [d1, d2, d3] }
  | _ => none }
def DagChainWrongFalsely : Prop := dagChainRow.holds Try.pinned (OpenSpec.ofChange dagChainWrong)

/- THE SECOND FORM. 'bulk': how many values and letters a reading holds, each counted each time it is reached (what is shared counts as often as it is met; a slice's spare places count too). A statement '..UptoSaid' is the law's where the arguments, and the package variables that the reading takes, are together of bulk at most 1048576: NARROWER than '..Said'. Prove '..Said' where nothing that the law and all that it calls make is longer than what came in: it says more and counts as full. Else prove '..UptoSaid'. A law counts once. -/
mutual
def uptoBulk {H : Type} : DataW H → Nat
  | .lit (.string bytes) => bytes.length + 1
  | .lit _ => 1
  | .nil => 1
  | .ptr d => uptoBulk d + 1
  | .slice elems spare => uptoBulkAll elems + uptoBulkAll spare + 1
  | .agg parts => uptoBulkAll parts + 1
  | .iface _ d => uptoBulk d + 1
  | .map entries => uptoBulkEntries entries + 1
  | .held _ => 1
def uptoBulkAll {H : Type} : List (DataW H) → Nat
  | [] => 0
  | d :: r => uptoBulk d + uptoBulkAll r
def uptoBulkEntries {H : Type} : List (Lit × DataW H) → Nat
  | [] => 0
  | x :: r => uptoBulkEntry x + uptoBulkEntries r
def uptoBulkEntry {H : Type} : Lit × DataW H → Nat
  | (.string bytes, d) => bytes.length + uptoBulk d + 1
  | (_, d) => uptoBulk d + 1
 end
def uptoSmall : (H : Type) → List (DataW H) → Bool := fun _ ds => decide (uptoBulkAll ds ≤ 1048576)
def OpenSpec.upto (s : _root_.Go.ChangeSpec) : _root_.Go.OpenSpec := { _root_.Go.OpenSpec.ofChange s with cond := some uptoSmall }

/-- 'calendslaw18.DagNearest', WHERE WHAT IT READS IS OF BULK AT MOST 1048576: true; the input reads as it did. -/
def dagNearestUptoRow : OpenClaim := { program := "ytpgegnmaophapaa", sum := "a987d54657f76452825b033e68234eeefb8a4c4262f1d6b31f7b536a845d0b9d", func := "calends/calendslaw18.DagNearest", spec := "dagNearest", unfollowed := true, recurses := true, apart := false, narrowed := true }
def DagNearestUptoSaid : Prop := dagNearestUptoRow.holds Try.pinned (OpenSpec.upto dagNearestSpec)

/-- 'calendslaw18.DagOrders', WHERE WHAT IT READS IS OF BULK AT MOST 1048576: true; the input reads as it did. -/
def dagOrdersUptoRow : OpenClaim := { program := "ytpgegnmaophapaa", sum := "a987d54657f76452825b033e68234eeefb8a4c4262f1d6b31f7b536a845d0b9d", func := "calends/calendslaw18.DagOrders", spec := "dagOrders", unfollowed := true, recurses := true, apart := false, narrowed := true }
def DagOrdersUptoSaid : Prop := dagOrdersUptoRow.holds Try.pinned (OpenSpec.upto dagOrdersSpec)

/-- 'calendslaw18.DagReaches', WHERE WHAT IT READS IS OF BULK AT MOST 1048576: true; the input reads as it did. -/
def dagReachesUptoRow : OpenClaim := { program := "ytpgegnmaophapaa", sum := "a987d54657f76452825b033e68234eeefb8a4c4262f1d6b31f7b536a845d0b9d", func := "calends/calendslaw18.DagReaches", spec := "dagReaches", unfollowed := true, recurses := true, apart := false, narrowed := true }
def DagReachesUptoSaid : Prop := dagReachesUptoRow.holds Try.pinned (OpenSpec.upto dagReachesSpec)

/-- 'calendslaw18.DagMade', WHERE WHAT IT READS IS OF BULK AT MOST 1048576: true; the input reads as it did. -/
def dagMadeUptoRow : OpenClaim := { program := "ytpgegnmaophapaa", sum := "a987d54657f76452825b033e68234eeefb8a4c4262f1d6b31f7b536a845d0b9d", func := "calends/calendslaw18.DagMade", spec := "dagMade", unfollowed := true, recurses := true, apart := false, narrowed := true }
def DagMadeUptoSaid : Prop := dagMadeUptoRow.holds Try.pinned (OpenSpec.upto dagMadeSpec)

/-- 'calendslaw18.DagGrows', WHERE WHAT IT READS IS OF BULK AT MOST 1048576: true; the input reads as it did. -/
def dagGrowsUptoRow : OpenClaim := { program := "ytpgegnmaophapaa", sum := "a987d54657f76452825b033e68234eeefb8a4c4262f1d6b31f7b536a845d0b9d", func := "calends/calendslaw18.DagGrows", spec := "dagGrows", unfollowed := true, recurses := true, apart := false, narrowed := true }
def DagGrowsUptoSaid : Prop := dagGrowsUptoRow.holds Try.pinned (OpenSpec.upto dagGrowsSpec)

/-- 'calendslaw18.DagChain', WHERE WHAT IT READS IS OF BULK AT MOST 1048576: true; the input reads as it did. -/
def dagChainUptoRow : OpenClaim := { program := "ytpgegnmaophapaa", sum := "a987d54657f76452825b033e68234eeefb8a4c4262f1d6b31f7b536a845d0b9d", func := "calends/calendslaw18.DagChain", spec := "dagChain", unfollowed := true, recurses := true, apart := false, narrowed := true }
def DagChainUptoSaid : Prop := dagChainUptoRow.holds Try.pinned (OpenSpec.upto dagChainSpec)

end Rows
end Go.Proofs.Ytpgegnmaophapaa
