/-
  No cell of these rows narrows 'for every input' (looked for: loops, veiled, ifaces, maps, wideKeys, modest, calm, conditions, laid).
  DERIVED. THE GIVEN ROWS OF THIS SEAT. 12 by the template 'for every input the law returns true; each argument reads behind the call as it read before'; 0 by the template 'total and deterministic' (their statements: YtkpmijmlbpdknaaTotals.lean).
  GIVEN WITH THE SEED: the statements are not yours to turn. If you find one false, say at which input.
  Laid BY PROGRAM, IN A SANDBOX (cutbox-rows.mjs): the forced cells as the released guide's own fill.sh prints them over the translation 248830eb2c44c5fd… (all of the seat's roots in one cut). By AI agents, Wed Nov 11 2026. No macro, syntax, notation, axiom, sorry.
-/
import Derived.Test.YtkpmijmlbpdknaaChecked
import GoSem.Claim
import GoSem.ClaimJoined
import GoSem.ClaimMapViews
import Derived.JoinedTies
import Derived.KernelRfl
namespace Go.Proofs.Ytkpmijmlbpdknaa
/- THE CELL 'sum', in the pinned program and in every row, IS THE sha256 OF THE DUMP (.gsa) THAT YtkpmijmlbpdknaaProg.lean LOADS. Nothing in Lean hashes anything: it is a label: what it is worth is what the hold of that sum in a sandbox is worth. -/
noncomputable def Try.pinned : Pinned := { name := "ytkpmijmlbpdknaa", sum := "248830eb2c44c5fd29a6052e8017d7ef1c1575e678a12ca3da8a536b68b12448", checked := Try.checked }
namespace Rows
def none {H : Type} : Left H := { results := [], args := [] }

/-- 'laws.FnExactRepairCost': WHATEVER THE INPUT: true; the input reads as it did. -/
def fnExactRepairCostSpec : ChangeSpec := { name := "fnExactRepairCost", fn := fun _ => fun
  | [d] => { results := [.lit (.bool true)], args := [d] }
  | _ => none }
def fnExactRepairCostRow : OpenClaim := { program := "ytkpmijmlbpdknaa", sum := "248830eb2c44c5fd29a6052e8017d7ef1c1575e678a12ca3da8a536b68b12448", func := "loop.example/g02078/laws.FnExactRepairCost", spec := "fnExactRepairCost", apart := false }
def FnExactRepairCostSaid : Prop := fnExactRepairCostRow.holds Try.pinned (OpenSpec.ofChange fnExactRepairCostSpec)

/-- ITS FALSE NEIGHBOUR: 'it returns false'. Refute it at one input. -/
def fnExactRepairCostWrong : ChangeSpec := { name := "fnExactRepairCost", fn := fun _ => fun
  | [d] => { results := [.lit (.bool false)], args := [d] }
  | _ => none }
def FnExactRepairCostWrongFalsely : Prop := fnExactRepairCostRow.holds Try.pinned (OpenSpec.ofChange fnExactRepairCostWrong)

/-- 'laws.FnExactIsIsostatic': WHATEVER THE INPUT: true; the input reads as it did. -/
def fnExactIsIsostaticSpec : ChangeSpec := { name := "fnExactIsIsostatic", fn := fun _ => fun
  | [d] => { results := [.lit (.bool true)], args := [d] }
  | _ => none }
def fnExactIsIsostaticRow : OpenClaim := { program := "ytkpmijmlbpdknaa", sum := "248830eb2c44c5fd29a6052e8017d7ef1c1575e678a12ca3da8a536b68b12448", func := "loop.example/g02078/laws.FnExactIsIsostatic", spec := "fnExactIsIsostatic", apart := false }
def FnExactIsIsostaticSaid : Prop := fnExactIsIsostaticRow.holds Try.pinned (OpenSpec.ofChange fnExactIsIsostaticSpec)

/-- ITS FALSE NEIGHBOUR: 'it returns false'. Refute it at one input. -/
def fnExactIsIsostaticWrong : ChangeSpec := { name := "fnExactIsIsostatic", fn := fun _ => fun
  | [d] => { results := [.lit (.bool false)], args := [d] }
  | _ => none }
def FnExactIsIsostaticWrongFalsely : Prop := fnExactIsIsostaticRow.holds Try.pinned (OpenSpec.ofChange fnExactIsIsostaticWrong)

/-- 'laws.FnExactSafeToRemove': WHATEVER THE INPUT: true; the input reads as it did. -/
def fnExactSafeToRemoveSpec : ChangeSpec := { name := "fnExactSafeToRemove", fn := fun _ => fun
  | [d1, d2] => { results := [.lit (.bool true)], args := [d1, d2] }
  | _ => none }
def fnExactSafeToRemoveRow : OpenClaim := { program := "ytkpmijmlbpdknaa", sum := "248830eb2c44c5fd29a6052e8017d7ef1c1575e678a12ca3da8a536b68b12448", func := "loop.example/g02078/laws.FnExactSafeToRemove", spec := "fnExactSafeToRemove", apart := false }
def FnExactSafeToRemoveSaid : Prop := fnExactSafeToRemoveRow.holds Try.pinned (OpenSpec.ofChange fnExactSafeToRemoveSpec)

/-- ITS FALSE NEIGHBOUR: 'it returns false'. Refute it at one input. -/
def fnExactSafeToRemoveWrong : ChangeSpec := { name := "fnExactSafeToRemove", fn := fun _ => fun
  | [d1, d2] => { results := [.lit (.bool false)], args := [d1, d2] }
  | _ => none }
def FnExactSafeToRemoveWrongFalsely : Prop := fnExactSafeToRemoveRow.holds Try.pinned (OpenSpec.ofChange fnExactSafeToRemoveWrong)

/-- 'laws.FnExactSteadyPoints': WHATEVER THE INPUT: true; the input reads as it did. -/
def fnExactSteadyPointsSpec : ChangeSpec := { name := "fnExactSteadyPoints", fn := fun _ => fun
  | [d] => { results := [.lit (.bool true)], args := [d] }
  | _ => none }
def fnExactSteadyPointsRow : OpenClaim := { program := "ytkpmijmlbpdknaa", sum := "248830eb2c44c5fd29a6052e8017d7ef1c1575e678a12ca3da8a536b68b12448", func := "loop.example/g02078/laws.FnExactSteadyPoints", spec := "fnExactSteadyPoints", apart := false }
def FnExactSteadyPointsSaid : Prop := fnExactSteadyPointsRow.holds Try.pinned (OpenSpec.ofChange fnExactSteadyPointsSpec)

/-- ITS FALSE NEIGHBOUR: 'it returns false'. Refute it at one input. -/
def fnExactSteadyPointsWrong : ChangeSpec := { name := "fnExactSteadyPoints", fn := fun _ => fun
  | [d] => { results := [.lit (.bool false)], args := [d] }
  | _ => none }
def FnExactSteadyPointsWrongFalsely : Prop := fnExactSteadyPointsRow.holds Try.pinned (OpenSpec.ofChange fnExactSteadyPointsWrong)

/-- 'laws.FnExactSafeBars': WHATEVER THE INPUT: true; the input reads as it did. -/
def fnExactSafeBarsSpec : ChangeSpec := { name := "fnExactSafeBars", fn := fun _ => fun
  | [d] => { results := [.lit (.bool true)], args := [d] }
  | _ => none }
def fnExactSafeBarsRow : OpenClaim := { program := "ytkpmijmlbpdknaa", sum := "248830eb2c44c5fd29a6052e8017d7ef1c1575e678a12ca3da8a536b68b12448", func := "loop.example/g02078/laws.FnExactSafeBars", spec := "fnExactSafeBars", apart := false }
def FnExactSafeBarsSaid : Prop := fnExactSafeBarsRow.holds Try.pinned (OpenSpec.ofChange fnExactSafeBarsSpec)

/-- ITS FALSE NEIGHBOUR: 'it returns false'. Refute it at one input. -/
def fnExactSafeBarsWrong : ChangeSpec := { name := "fnExactSafeBars", fn := fun _ => fun
  | [d] => { results := [.lit (.bool false)], args := [d] }
  | _ => none }
def FnExactSafeBarsWrongFalsely : Prop := fnExactSafeBarsRow.holds Try.pinned (OpenSpec.ofChange fnExactSafeBarsWrong)

/-- 'laws.FnExactWorstBar': WHATEVER THE INPUT: true; the input reads as it did. -/
def fnExactWorstBarSpec : ChangeSpec := { name := "fnExactWorstBar", fn := fun _ => fun
  | [d] => { results := [.lit (.bool true)], args := [d] }
  | _ => none }
def fnExactWorstBarRow : OpenClaim := { program := "ytkpmijmlbpdknaa", sum := "248830eb2c44c5fd29a6052e8017d7ef1c1575e678a12ca3da8a536b68b12448", func := "loop.example/g02078/laws.FnExactWorstBar", spec := "fnExactWorstBar", apart := false }
def FnExactWorstBarSaid : Prop := fnExactWorstBarRow.holds Try.pinned (OpenSpec.ofChange fnExactWorstBarSpec)

/-- ITS FALSE NEIGHBOUR: 'it returns false'. Refute it at one input. -/
def fnExactWorstBarWrong : ChangeSpec := { name := "fnExactWorstBar", fn := fun _ => fun
  | [d] => { results := [.lit (.bool false)], args := [d] }
  | _ => none }
def FnExactWorstBarWrongFalsely : Prop := fnExactWorstBarRow.holds Try.pinned (OpenSpec.ofChange fnExactWorstBarWrong)

/-- 'laws.FnExactNeedsGroup': WHATEVER THE INPUT: true; the input reads as it did. -/
def fnExactNeedsGroupSpec : ChangeSpec := { name := "fnExactNeedsGroup", fn := fun _ => fun
  | [d] => { results := [.lit (.bool true)], args := [d] }
  | _ => none }
def fnExactNeedsGroupRow : OpenClaim := { program := "ytkpmijmlbpdknaa", sum := "248830eb2c44c5fd29a6052e8017d7ef1c1575e678a12ca3da8a536b68b12448", func := "loop.example/g02078/laws.FnExactNeedsGroup", spec := "fnExactNeedsGroup", apart := false }
def FnExactNeedsGroupSaid : Prop := fnExactNeedsGroupRow.holds Try.pinned (OpenSpec.ofChange fnExactNeedsGroupSpec)

/-- ITS FALSE NEIGHBOUR: 'it returns false'. Refute it at one input. -/
def fnExactNeedsGroupWrong : ChangeSpec := { name := "fnExactNeedsGroup", fn := fun _ => fun
  | [d] => { results := [.lit (.bool false)], args := [d] }
  | _ => none }
def FnExactNeedsGroupWrongFalsely : Prop := fnExactNeedsGroupRow.holds Try.pinned (OpenSpec.ofChange fnExactNeedsGroupWrong)

/-- 'laws.FnExactFallsWith': WHATEVER THE INPUT: true; the input reads as it did. -/
def fnExactFallsWithSpec : ChangeSpec := { name := "fnExactFallsWith", fn := fun _ => fun
  | [d1, d2] => { results := [.lit (.bool true)], args := [d1, d2] }
  | _ => none }
def fnExactFallsWithRow : OpenClaim := { program := "ytkpmijmlbpdknaa", sum := "248830eb2c44c5fd29a6052e8017d7ef1c1575e678a12ca3da8a536b68b12448", func := "loop.example/g02078/laws.FnExactFallsWith", spec := "fnExactFallsWith", apart := false }
def FnExactFallsWithSaid : Prop := fnExactFallsWithRow.holds Try.pinned (OpenSpec.ofChange fnExactFallsWithSpec)

/-- ITS FALSE NEIGHBOUR: 'it returns false'. Refute it at one input. -/
def fnExactFallsWithWrong : ChangeSpec := { name := "fnExactFallsWith", fn := fun _ => fun
  | [d1, d2] => { results := [.lit (.bool false)], args := [d1, d2] }
  | _ => none }
def FnExactFallsWithWrongFalsely : Prop := fnExactFallsWithRow.holds Try.pinned (OpenSpec.ofChange fnExactFallsWithWrong)

/-- 'laws.FnExactLeastKept': WHATEVER THE INPUT: true; the input reads as it did. -/
def fnExactLeastKeptSpec : ChangeSpec := { name := "fnExactLeastKept", fn := fun _ => fun
  | [d] => { results := [.lit (.bool true)], args := [d] }
  | _ => none }
def fnExactLeastKeptRow : OpenClaim := { program := "ytkpmijmlbpdknaa", sum := "248830eb2c44c5fd29a6052e8017d7ef1c1575e678a12ca3da8a536b68b12448", func := "loop.example/g02078/laws.FnExactLeastKept", spec := "fnExactLeastKept", apart := false }
def FnExactLeastKeptSaid : Prop := fnExactLeastKeptRow.holds Try.pinned (OpenSpec.ofChange fnExactLeastKeptSpec)

/-- ITS FALSE NEIGHBOUR: 'it returns false'. Refute it at one input. -/
def fnExactLeastKeptWrong : ChangeSpec := { name := "fnExactLeastKept", fn := fun _ => fun
  | [d] => { results := [.lit (.bool false)], args := [d] }
  | _ => none }
def FnExactLeastKeptWrongFalsely : Prop := fnExactLeastKeptRow.holds Try.pinned (OpenSpec.ofChange fnExactLeastKeptWrong)

/-- 'laws.FnExactRemoveAll': WHATEVER THE INPUT: true; the input reads as it did. -/
def fnExactRemoveAllSpec : ChangeSpec := { name := "fnExactRemoveAll", fn := fun _ => fun
  | [d] => { results := [.lit (.bool true)], args := [d] }
  | _ => none }
def fnExactRemoveAllRow : OpenClaim := { program := "ytkpmijmlbpdknaa", sum := "248830eb2c44c5fd29a6052e8017d7ef1c1575e678a12ca3da8a536b68b12448", func := "loop.example/g02078/laws.FnExactRemoveAll", spec := "fnExactRemoveAll", apart := false }
def FnExactRemoveAllSaid : Prop := fnExactRemoveAllRow.holds Try.pinned (OpenSpec.ofChange fnExactRemoveAllSpec)

/-- ITS FALSE NEIGHBOUR: 'it returns false'. Refute it at one input. -/
def fnExactRemoveAllWrong : ChangeSpec := { name := "fnExactRemoveAll", fn := fun _ => fun
  | [d] => { results := [.lit (.bool false)], args := [d] }
  | _ => none }
def FnExactRemoveAllWrongFalsely : Prop := fnExactRemoveAllRow.holds Try.pinned (OpenSpec.ofChange fnExactRemoveAllWrong)

/-- 'laws.FnExactOwnersOf': WHATEVER THE INPUT: true; the input reads as it did. -/
def fnExactOwnersOfSpec : ChangeSpec := { name := "fnExactOwnersOf", fn := fun _ => fun
  | [d] => { results := [.lit (.bool true)], args := [d] }
  | _ => none }
def fnExactOwnersOfRow : OpenClaim := { program := "ytkpmijmlbpdknaa", sum := "248830eb2c44c5fd29a6052e8017d7ef1c1575e678a12ca3da8a536b68b12448", func := "loop.example/g02078/laws.FnExactOwnersOf", spec := "fnExactOwnersOf", unfollowed := true, recurses := true, apart := false }
def FnExactOwnersOfSaid : Prop := fnExactOwnersOfRow.holds Try.pinned (OpenSpec.ofChange fnExactOwnersOfSpec)

/-- ITS FALSE NEIGHBOUR: 'it returns false'. Refute it at one input. -/
def fnExactOwnersOfWrong : ChangeSpec := { name := "fnExactOwnersOf", fn := fun _ => fun
  | [d] => { results := [.lit (.bool false)], args := [d] }
  | _ => none }
def FnExactOwnersOfWrongFalsely : Prop := fnExactOwnersOfRow.holds Try.pinned (OpenSpec.ofChange fnExactOwnersOfWrong)

/-- 'laws.FnExactRaisedPoints': WHATEVER THE INPUT: true; the input reads as it did. -/
def fnExactRaisedPointsSpec : ChangeSpec := { name := "fnExactRaisedPoints", fn := fun _ => fun
  | [d1, d2] => { results := [.lit (.bool true)], args := [d1, d2] }
  | _ => none }
def fnExactRaisedPointsRow : OpenClaim := { program := "ytkpmijmlbpdknaa", sum := "248830eb2c44c5fd29a6052e8017d7ef1c1575e678a12ca3da8a536b68b12448", func := "loop.example/g02078/laws.FnExactRaisedPoints", spec := "fnExactRaisedPoints", apart := false }
def FnExactRaisedPointsSaid : Prop := fnExactRaisedPointsRow.holds Try.pinned (OpenSpec.ofChange fnExactRaisedPointsSpec)

/-- ITS FALSE NEIGHBOUR: 'it returns false'. Refute it at one input. -/
def fnExactRaisedPointsWrong : ChangeSpec := { name := "fnExactRaisedPoints", fn := fun _ => fun
  | [d1, d2] => { results := [.lit (.bool false)], args := [d1, d2] }
  | _ => none }
def FnExactRaisedPointsWrongFalsely : Prop := fnExactRaisedPointsRow.holds Try.pinned (OpenSpec.ofChange fnExactRaisedPointsWrong)

/- THE SECOND FORM. 'bulk': how many values and letters a reading holds, each counted each time it is reached (what is shared counts as often as it is met; a slice's spare places count too). A statement '..UptoSaid' is the law's where the arguments, and the package variables that the reading takes, are together of bulk at most 1048576: NARROWER than '..Said'. Prove '..Said' where nothing that the law and all that it calls make is longer than what came in: it says more and counts as full. Else prove '..UptoSaid'. A law counts once. -/
mutual
def uptoBulk {H : Type} : DataW H → Nat
  | .lit (.string bytes) => bytes.length + 1
  | .lit _ => 1
  | .nil => 1
  | .ptr d => uptoBulk d + 1
  | .slice elems spare => uptoBulkAll elems + uptoBulkAll spare + 1
  | .agg parts => uptoBulkAll parts + 1
  | .iface _ d => uptoBulk d + 1
  | .map entries => uptoBulkEntries entries + 1
  | .held _ => 1
def uptoBulkAll {H : Type} : List (DataW H) → Nat
  | [] => 0
  | d :: r => uptoBulk d + uptoBulkAll r
def uptoBulkEntries {H : Type} : List (Lit × DataW H) → Nat
  | [] => 0
  | x :: r => uptoBulkEntry x + uptoBulkEntries r
def uptoBulkEntry {H : Type} : Lit × DataW H → Nat
  | (.string bytes, d) => bytes.length + uptoBulk d + 1
  | (_, d) => uptoBulk d + 1
 end
def uptoSmall : (H : Type) → List (DataW H) → Bool := fun _ ds => decide (uptoBulkAll ds ≤ 1048576)
def OpenSpec.upto (s : _root_.Go.ChangeSpec) : _root_.Go.OpenSpec := { _root_.Go.OpenSpec.ofChange s with cond := some uptoSmall }

/-- 'laws.FnExactRepairCost', WHERE WHAT IT READS IS OF BULK AT MOST 1048576: true; the input reads as it did. -/
def fnExactRepairCostUptoRow : OpenClaim := { program := "ytkpmijmlbpdknaa", sum := "248830eb2c44c5fd29a6052e8017d7ef1c1575e678a12ca3da8a536b68b12448", func := "loop.example/g02078/laws.FnExactRepairCost", spec := "fnExactRepairCost", apart := false, narrowed := true }
def FnExactRepairCostUptoSaid : Prop := fnExactRepairCostUptoRow.holds Try.pinned (OpenSpec.upto fnExactRepairCostSpec)

/-- 'laws.FnExactIsIsostatic', WHERE WHAT IT READS IS OF BULK AT MOST 1048576: true; the input reads as it did. -/
def fnExactIsIsostaticUptoRow : OpenClaim := { program := "ytkpmijmlbpdknaa", sum := "248830eb2c44c5fd29a6052e8017d7ef1c1575e678a12ca3da8a536b68b12448", func := "loop.example/g02078/laws.FnExactIsIsostatic", spec := "fnExactIsIsostatic", apart := false, narrowed := true }
def FnExactIsIsostaticUptoSaid : Prop := fnExactIsIsostaticUptoRow.holds Try.pinned (OpenSpec.upto fnExactIsIsostaticSpec)

/-- 'laws.FnExactSafeToRemove', WHERE WHAT IT READS IS OF BULK AT MOST 1048576: true; the input reads as it did. -/
def fnExactSafeToRemoveUptoRow : OpenClaim := { program := "ytkpmijmlbpdknaa", sum := "248830eb2c44c5fd29a6052e8017d7ef1c1575e678a12ca3da8a536b68b12448", func := "loop.example/g02078/laws.FnExactSafeToRemove", spec := "fnExactSafeToRemove", apart := false, narrowed := true }
def FnExactSafeToRemoveUptoSaid : Prop := fnExactSafeToRemoveUptoRow.holds Try.pinned (OpenSpec.upto fnExactSafeToRemoveSpec)

/-- 'laws.FnExactSteadyPoints', WHERE WHAT IT READS IS OF BULK AT MOST 1048576: true; the input reads as it did. -/
def fnExactSteadyPointsUptoRow : OpenClaim := { program := "ytkpmijmlbpdknaa", sum := "248830eb2c44c5fd29a6052e8017d7ef1c1575e678a12ca3da8a536b68b12448", func := "loop.example/g02078/laws.FnExactSteadyPoints", spec := "fnExactSteadyPoints", apart := false, narrowed := true }
def FnExactSteadyPointsUptoSaid : Prop := fnExactSteadyPointsUptoRow.holds Try.pinned (OpenSpec.upto fnExactSteadyPointsSpec)

/-- 'laws.FnExactSafeBars', WHERE WHAT IT READS IS OF BULK AT MOST 1048576: true; the input reads as it did. -/
def fnExactSafeBarsUptoRow : OpenClaim := { program := "ytkpmijmlbpdknaa", sum := "248830eb2c44c5fd29a6052e8017d7ef1c1575e678a12ca3da8a536b68b12448", func := "loop.example/g02078/laws.FnExactSafeBars", spec := "fnExactSafeBars", apart := false, narrowed := true }
def FnExactSafeBarsUptoSaid : Prop := fnExactSafeBarsUptoRow.holds Try.pinned (OpenSpec.upto fnExactSafeBarsSpec)

/-- 'laws.FnExactWorstBar', WHERE WHAT IT READS IS OF BULK AT MOST 1048576: true; the input reads as it did. -/
def fnExactWorstBarUptoRow : OpenClaim := { program := "ytkpmijmlbpdknaa", sum := "248830eb2c44c5fd29a6052e8017d7ef1c1575e678a12ca3da8a536b68b12448", func := "loop.example/g02078/laws.FnExactWorstBar", spec := "fnExactWorstBar", apart := false, narrowed := true }
def FnExactWorstBarUptoSaid : Prop := fnExactWorstBarUptoRow.holds Try.pinned (OpenSpec.upto fnExactWorstBarSpec)

/-- 'laws.FnExactNeedsGroup', WHERE WHAT IT READS IS OF BULK AT MOST 1048576: true; the input reads as it did. -/
def fnExactNeedsGroupUptoRow : OpenClaim := { program := "ytkpmijmlbpdknaa", sum := "248830eb2c44c5fd29a6052e8017d7ef1c1575e678a12ca3da8a536b68b12448", func := "loop.example/g02078/laws.FnExactNeedsGroup", spec := "fnExactNeedsGroup", apart := false, narrowed := true }
def FnExactNeedsGroupUptoSaid : Prop := fnExactNeedsGroupUptoRow.holds Try.pinned (OpenSpec.upto fnExactNeedsGroupSpec)

/-- 'laws.FnExactFallsWith', WHERE WHAT IT READS IS OF BULK AT MOST 1048576: true; the input reads as it did. -/
def fnExactFallsWithUptoRow : OpenClaim := { program := "ytkpmijmlbpdknaa", sum := "248830eb2c44c5fd29a6052e8017d7ef1c1575e678a12ca3da8a536b68b12448", func := "loop.example/g02078/laws.FnExactFallsWith", spec := "fnExactFallsWith", apart := false, narrowed := true }
def FnExactFallsWithUptoSaid : Prop := fnExactFallsWithUptoRow.holds Try.pinned (OpenSpec.upto fnExactFallsWithSpec)

/-- 'laws.FnExactLeastKept', WHERE WHAT IT READS IS OF BULK AT MOST 1048576: true; the input reads as it did. -/
def fnExactLeastKeptUptoRow : OpenClaim := { program := "ytkpmijmlbpdknaa", sum := "248830eb2c44c5fd29a6052e8017d7ef1c1575e678a12ca3da8a536b68b12448", func := "loop.example/g02078/laws.FnExactLeastKept", spec := "fnExactLeastKept", apart := false, narrowed := true }
def FnExactLeastKeptUptoSaid : Prop := fnExactLeastKeptUptoRow.holds Try.pinned (OpenSpec.upto fnExactLeastKeptSpec)

/-- 'laws.FnExactRemoveAll', WHERE WHAT IT READS IS OF BULK AT MOST 1048576: true; the input reads as it did. -/
def fnExactRemoveAllUptoRow : OpenClaim := { program := "ytkpmijmlbpdknaa", sum := "248830eb2c44c5fd29a6052e8017d7ef1c1575e678a12ca3da8a536b68b12448", func := "loop.example/g02078/laws.FnExactRemoveAll", spec := "fnExactRemoveAll", apart := false, narrowed := true }
def FnExactRemoveAllUptoSaid : Prop := fnExactRemoveAllUptoRow.holds Try.pinned (OpenSpec.upto fnExactRemoveAllSpec)

/-- 'laws.FnExactOwnersOf', WHERE WHAT IT READS IS OF BULK AT MOST 1048576: true; the input reads as it did. -/
def fnExactOwnersOfUptoRow : OpenClaim := { program := "ytkpmijmlbpdknaa", sum := "248830eb2c44c5fd29a6052e8017d7ef1c1575e678a12ca3da8a536b68b12448", func := "loop.example/g02078/laws.FnExactOwnersOf", spec := "fnExactOwnersOf", unfollowed := true, recurses := true, apart := false, narrowed := true }
def FnExactOwnersOfUptoSaid : Prop := fnExactOwnersOfUptoRow.holds Try.pinned (OpenSpec.upto fnExactOwnersOfSpec)

/-- 'laws.FnExactRaisedPoints', WHERE WHAT IT READS IS OF BULK AT MOST 1048576: true; the input reads as it did. -/
def fnExactRaisedPointsUptoRow : OpenClaim := { program := "ytkpmijmlbpdknaa", sum := "248830eb2c44c5fd29a6052e8017d7ef1c1575e678a12ca3da8a536b68b12448", func := "loop.example/g02078/laws.FnExactRaisedPoints", spec := "fnExactRaisedPoints", apart := false, narrowed := true }
def FnExactRaisedPointsUptoSaid : Prop := fnExactRaisedPointsUptoRow.holds Try.pinned (OpenSpec.upto fnExactRaisedPointsSpec)

end Rows
end Go.Proofs.Ytkpmijmlbpdknaa
