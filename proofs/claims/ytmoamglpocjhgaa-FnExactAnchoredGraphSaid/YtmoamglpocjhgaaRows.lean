/-
  No cell of these rows narrows 'for every input' (looked for: loops, veiled, ifaces, maps, wideKeys, modest, calm, conditions, laid).
  DERIVED. THE GIVEN ROWS OF THIS SEAT. 7 by the template 'for every input the law returns true; each argument reads behind the call as it read before'; 0 by the template 'total and deterministic' (their statements: YtmoamglpocjhgaaTotals.lean).
  GIVEN WITH THE SEED: the statements are not yours to turn. If you find one false, say at which input.
  Laid BY PROGRAM, IN A SANDBOX (cutbox-rows.mjs): the forced cells as the released guide's own fill.sh prints them over the translation 1856acc6ccadd223… (all of the seat's roots in one cut). By AI agents, Wed Nov 11 2026. No macro, syntax, notation, axiom, sorry.
-/
import Derived.Test.YtmoamglpocjhgaaChecked
import GoSem.Claim
import GoSem.ClaimJoined
import GoSem.ClaimMapViews
import Derived.JoinedTies
import Derived.KernelRfl
namespace Go.Proofs.Ytmoamglpocjhgaa
/- THE CELL 'sum', in the pinned program and in every row, IS THE sha256 OF THE DUMP (.gsa) THAT YtmoamglpocjhgaaProg.lean LOADS. Nothing in Lean hashes anything: it is a label: what it is worth is what the hold of that sum in a sandbox is worth. -/
noncomputable def Try.pinned : Pinned := { name := "ytmoamglpocjhgaa", sum := "1856acc6ccadd22318e770b636bd1e7fadfaac18be31ef2056d22cfbe4642f44", checked := Try.checked }
namespace Rows
def none {H : Type} : Left H := { results := [], args := [] }

/-- 'laws.FnExactRaisedPoints': WHATEVER THE INPUT: true; the input reads as it did. -/
def fnExactRaisedPointsSpec : ChangeSpec := { name := "fnExactRaisedPoints", fn := fun _ => fun
  | [d1, d2] => { results := [.lit (.bool true)], args := [d1, d2] }
  | _ => none }
def fnExactRaisedPointsRow : OpenClaim := { program := "ytmoamglpocjhgaa", sum := "1856acc6ccadd22318e770b636bd1e7fadfaac18be31ef2056d22cfbe4642f44", func := "loop.example/g02078/laws.FnExactRaisedPoints", spec := "fnExactRaisedPoints", apart := false }
def FnExactRaisedPointsSaid : Prop := fnExactRaisedPointsRow.holds Try.pinned (OpenSpec.ofChange fnExactRaisedPointsSpec)

/-- ITS FALSE NEIGHBOUR: 'it returns false'. Refute it at one input. -/
def fnExactRaisedPointsWrong : ChangeSpec := { name := "fnExactRaisedPoints", fn := fun _ => fun
  | [d1, d2] => { results := [.lit (.bool false)], args := [d1, d2] }
  | _ => none }
def FnExactRaisedPointsWrongFalsely : Prop := fnExactRaisedPointsRow.holds Try.pinned (OpenSpec.ofChange fnExactRaisedPointsWrong)

/-- 'laws.FnExactIsAssurGroup': WHATEVER THE INPUT: true; the input reads as it did. -/
def fnExactIsAssurGroupSpec : ChangeSpec := { name := "fnExactIsAssurGroup", fn := fun _ => fun
  | [d] => { results := [.lit (.bool true)], args := [d] }
  | _ => none }
def fnExactIsAssurGroupRow : OpenClaim := { program := "ytmoamglpocjhgaa", sum := "1856acc6ccadd22318e770b636bd1e7fadfaac18be31ef2056d22cfbe4642f44", func := "loop.example/g02078/laws.FnExactIsAssurGroup", spec := "fnExactIsAssurGroup", unfollowed := true, recurses := true, apart := false }
def FnExactIsAssurGroupSaid : Prop := fnExactIsAssurGroupRow.holds Try.pinned (OpenSpec.ofChange fnExactIsAssurGroupSpec)

/-- ITS FALSE NEIGHBOUR: 'it returns false'. Refute it at one input. -/
def fnExactIsAssurGroupWrong : ChangeSpec := { name := "fnExactIsAssurGroup", fn := fun _ => fun
  | [d] => { results := [.lit (.bool false)], args := [d] }
  | _ => none }
def FnExactIsAssurGroupWrongFalsely : Prop := fnExactIsAssurGroupRow.holds Try.pinned (OpenSpec.ofChange fnExactIsAssurGroupWrong)

/-- 'laws.FnExactDependsOn': WHATEVER THE INPUT: true; the input reads as it did. -/
def fnExactDependsOnSpec : ChangeSpec := { name := "fnExactDependsOn", fn := fun _ => fun
  | [d1, d2] => { results := [.lit (.bool true)], args := [d1, d2] }
  | _ => none }
def fnExactDependsOnRow : OpenClaim := { program := "ytmoamglpocjhgaa", sum := "1856acc6ccadd22318e770b636bd1e7fadfaac18be31ef2056d22cfbe4642f44", func := "loop.example/g02078/laws.FnExactDependsOn", spec := "fnExactDependsOn", unfollowed := true, recurses := true, apart := false }
def FnExactDependsOnSaid : Prop := fnExactDependsOnRow.holds Try.pinned (OpenSpec.ofChange fnExactDependsOnSpec)

/-- ITS FALSE NEIGHBOUR: 'it returns false'. Refute it at one input. -/
def fnExactDependsOnWrong : ChangeSpec := { name := "fnExactDependsOn", fn := fun _ => fun
  | [d1, d2] => { results := [.lit (.bool false)], args := [d1, d2] }
  | _ => none }
def FnExactDependsOnWrongFalsely : Prop := fnExactDependsOnRow.holds Try.pinned (OpenSpec.ofChange fnExactDependsOnWrong)

/-- 'laws.FnExactAssurGroups': WHATEVER THE INPUT: true; the input reads as it did. -/
def fnExactAssurGroupsSpec : ChangeSpec := { name := "fnExactAssurGroups", fn := fun _ => fun
  | [d] => { results := [.lit (.bool true)], args := [d] }
  | _ => none }
def fnExactAssurGroupsRow : OpenClaim := { program := "ytmoamglpocjhgaa", sum := "1856acc6ccadd22318e770b636bd1e7fadfaac18be31ef2056d22cfbe4642f44", func := "loop.example/g02078/laws.FnExactAssurGroups", spec := "fnExactAssurGroups", unfollowed := true, recurses := true, apart := false }
def FnExactAssurGroupsSaid : Prop := fnExactAssurGroupsRow.holds Try.pinned (OpenSpec.ofChange fnExactAssurGroupsSpec)

/-- ITS FALSE NEIGHBOUR: 'it returns false'. Refute it at one input. -/
def fnExactAssurGroupsWrong : ChangeSpec := { name := "fnExactAssurGroups", fn := fun _ => fun
  | [d] => { results := [.lit (.bool false)], args := [d] }
  | _ => none }
def FnExactAssurGroupsWrongFalsely : Prop := fnExactAssurGroupsRow.holds Try.pinned (OpenSpec.ofChange fnExactAssurGroupsWrong)

/-- 'laws.FnExactOrderOfGroups': WHATEVER THE INPUT: true; the input reads as it did. -/
def fnExactOrderOfGroupsSpec : ChangeSpec := { name := "fnExactOrderOfGroups", fn := fun _ => fun
  | [d] => { results := [.lit (.bool true)], args := [d] }
  | _ => none }
def fnExactOrderOfGroupsRow : OpenClaim := { program := "ytmoamglpocjhgaa", sum := "1856acc6ccadd22318e770b636bd1e7fadfaac18be31ef2056d22cfbe4642f44", func := "loop.example/g02078/laws.FnExactOrderOfGroups", spec := "fnExactOrderOfGroups", unfollowed := true, recurses := true, apart := false }
def FnExactOrderOfGroupsSaid : Prop := fnExactOrderOfGroupsRow.holds Try.pinned (OpenSpec.ofChange fnExactOrderOfGroupsSpec)

/-- ITS FALSE NEIGHBOUR: 'it returns false'. Refute it at one input. -/
def fnExactOrderOfGroupsWrong : ChangeSpec := { name := "fnExactOrderOfGroups", fn := fun _ => fun
  | [d] => { results := [.lit (.bool false)], args := [d] }
  | _ => none }
def FnExactOrderOfGroupsWrongFalsely : Prop := fnExactOrderOfGroupsRow.holds Try.pinned (OpenSpec.ofChange fnExactOrderOfGroupsWrong)

/-- 'laws.FnExactGlobalPieces': WHATEVER THE INPUT: true; the input reads as it did. -/
def fnExactGlobalPiecesSpec : ChangeSpec := { name := "fnExactGlobalPieces", fn := fun _ => fun
  | [d] => { results := [.lit (.bool true)], args := [d] }
  | _ => none }
def fnExactGlobalPiecesRow : OpenClaim := { program := "ytmoamglpocjhgaa", sum := "1856acc6ccadd22318e770b636bd1e7fadfaac18be31ef2056d22cfbe4642f44", func := "loop.example/g02078/laws.FnExactGlobalPieces", spec := "fnExactGlobalPieces", unfollowed := true, recurses := true, apart := false }
def FnExactGlobalPiecesSaid : Prop := fnExactGlobalPiecesRow.holds Try.pinned (OpenSpec.ofChange fnExactGlobalPiecesSpec)

/-- ITS FALSE NEIGHBOUR: 'it returns false'. Refute it at one input. -/
def fnExactGlobalPiecesWrong : ChangeSpec := { name := "fnExactGlobalPieces", fn := fun _ => fun
  | [d] => { results := [.lit (.bool false)], args := [d] }
  | _ => none }
def FnExactGlobalPiecesWrongFalsely : Prop := fnExactGlobalPiecesRow.holds Try.pinned (OpenSpec.ofChange fnExactGlobalPiecesWrong)

/-- 'laws.FnExactAnchoredGraph': WHATEVER THE INPUT: true; the input reads as it did. -/
def fnExactAnchoredGraphSpec : ChangeSpec := { name := "fnExactAnchoredGraph", fn := fun _ => fun
  | [d1, d2] => { results := [.lit (.bool true)], args := [d1, d2] }
  | _ => none }
def fnExactAnchoredGraphRow : OpenClaim := { program := "ytmoamglpocjhgaa", sum := "1856acc6ccadd22318e770b636bd1e7fadfaac18be31ef2056d22cfbe4642f44", func := "loop.example/g02078/laws.FnExactAnchoredGraph", spec := "fnExactAnchoredGraph", unfollowed := true, recurses := true, apart := false }
def FnExactAnchoredGraphSaid : Prop := fnExactAnchoredGraphRow.holds Try.pinned (OpenSpec.ofChange fnExactAnchoredGraphSpec)

/-- ITS FALSE NEIGHBOUR: 'it returns false'. Refute it at one input. -/
def fnExactAnchoredGraphWrong : ChangeSpec := { name := "fnExactAnchoredGraph", fn := fun _ => fun
  | [d1, d2] => { results := [.lit (.bool false)], args := [d1, d2] }
  | _ => none }
def FnExactAnchoredGraphWrongFalsely : Prop := fnExactAnchoredGraphRow.holds Try.pinned (OpenSpec.ofChange fnExactAnchoredGraphWrong)

/- THE SECOND FORM. 'bulk': how many values and letters a reading holds, each counted each time it is reached (what is shared counts as often as it is met; a slice's spare places count too). A statement '..UptoSaid' is the law's where the arguments, and the package variables that the reading takes, are together of bulk at most 1048576: NARROWER than '..Said'. Prove '..Said' where nothing that the law and all that it calls make is longer than what came in: it says more and counts as full. Else prove '..UptoSaid'. A law counts once. -/
mutual
def uptoBulk {H : Type} : DataW H → Nat
  | .lit (.string bytes) => bytes.length + 1
  | .lit _ => 1
  | .nil => 1
  | .ptr d => uptoBulk d + 1
  | .slice elems spare => uptoBulkAll elems + uptoBulkAll spare + 1
  | .agg parts => uptoBulkAll parts + 1
  | .iface _ d => uptoBulk d + 1
  | .map entries => uptoBulkEntries entries + 1
  | .held _ => 1
def uptoBulkAll {H : Type} : List (DataW H) → Nat
  | [] => 0
  | d :: r => uptoBulk d + uptoBulkAll r
def uptoBulkEntries {H : Type} : List (Lit × DataW H) → Nat
  | [] => 0
  | x :: r => uptoBulkEntry x + uptoBulkEntries r
def uptoBulkEntry {H : Type} : Lit × DataW H → Nat
  | (.string bytes, d) => bytes.length + uptoBulk d + 1
  | (_, d) => uptoBulk d + 1
 end
def uptoSmall : (H : Type) → List (DataW H) → Bool := fun _ ds => decide (uptoBulkAll ds ≤ 1048576)
def OpenSpec.upto (s : _root_.Go.ChangeSpec) : _root_.Go.OpenSpec := { _root_.Go.OpenSpec.ofChange s with cond := some uptoSmall }

/-- 'laws.FnExactRaisedPoints', WHERE WHAT IT READS IS OF BULK AT MOST 1048576: true; the input reads as it did. -/
def fnExactRaisedPointsUptoRow : OpenClaim := { program := "ytmoamglpocjhgaa", sum := "1856acc6ccadd22318e770b636bd1e7fadfaac18be31ef2056d22cfbe4642f44", func := "loop.example/g02078/laws.FnExactRaisedPoints", spec := "fnExactRaisedPoints", apart := false, narrowed := true }
def FnExactRaisedPointsUptoSaid : Prop := fnExactRaisedPointsUptoRow.holds Try.pinned (OpenSpec.upto fnExactRaisedPointsSpec)

/-- 'laws.FnExactIsAssurGroup', WHERE WHAT IT READS IS OF BULK AT MOST 1048576: true; the input reads as it did. -/
def fnExactIsAssurGroupUptoRow : OpenClaim := { program := "ytmoamglpocjhgaa", sum := "1856acc6ccadd22318e770b636bd1e7fadfaac18be31ef2056d22cfbe4642f44", func := "loop.example/g02078/laws.FnExactIsAssurGroup", spec := "fnExactIsAssurGroup", unfollowed := true, recurses := true, apart := false, narrowed := true }
def FnExactIsAssurGroupUptoSaid : Prop := fnExactIsAssurGroupUptoRow.holds Try.pinned (OpenSpec.upto fnExactIsAssurGroupSpec)

/-- 'laws.FnExactDependsOn', WHERE WHAT IT READS IS OF BULK AT MOST 1048576: true; the input reads as it did. -/
def fnExactDependsOnUptoRow : OpenClaim := { program := "ytmoamglpocjhgaa", sum := "1856acc6ccadd22318e770b636bd1e7fadfaac18be31ef2056d22cfbe4642f44", func := "loop.example/g02078/laws.FnExactDependsOn", spec := "fnExactDependsOn", unfollowed := true, recurses := true, apart := false, narrowed := true }
def FnExactDependsOnUptoSaid : Prop := fnExactDependsOnUptoRow.holds Try.pinned (OpenSpec.upto fnExactDependsOnSpec)

/-- 'laws.FnExactAssurGroups', WHERE WHAT IT READS IS OF BULK AT MOST 1048576: true; the input reads as it did. -/
def fnExactAssurGroupsUptoRow : OpenClaim := { program := "ytmoamglpocjhgaa", sum := "1856acc6ccadd22318e770b636bd1e7fadfaac18be31ef2056d22cfbe4642f44", func := "loop.example/g02078/laws.FnExactAssurGroups", spec := "fnExactAssurGroups", unfollowed := true, recurses := true, apart := false, narrowed := true }
def FnExactAssurGroupsUptoSaid : Prop := fnExactAssurGroupsUptoRow.holds Try.pinned (OpenSpec.upto fnExactAssurGroupsSpec)

/-- 'laws.FnExactOrderOfGroups', WHERE WHAT IT READS IS OF BULK AT MOST 1048576: true; the input reads as it did. -/
def fnExactOrderOfGroupsUptoRow : OpenClaim := { program := "ytmoamglpocjhgaa", sum := "1856acc6ccadd22318e770b636bd1e7fadfaac18be31ef2056d22cfbe4642f44", func := "loop.example/g02078/laws.FnExactOrderOfGroups", spec := "fnExactOrderOfGroups", unfollowed := true, recurses := true, apart := false, narrowed := true }
def FnExactOrderOfGroupsUptoSaid : Prop := fnExactOrderOfGroupsUptoRow.holds Try.pinned (OpenSpec.upto fnExactOrderOfGroupsSpec)

/-- 'laws.FnExactGlobalPieces', WHERE WHAT IT READS IS OF BULK AT MOST 1048576: true; the input reads as it did. -/
def fnExactGlobalPiecesUptoRow : OpenClaim := { program := "ytmoamglpocjhgaa", sum := "1856acc6ccadd22318e770b636bd1e7fadfaac18be31ef2056d22cfbe4642f44", func := "loop.example/g02078/laws.FnExactGlobalPieces", spec := "fnExactGlobalPieces", unfollowed := true, recurses := true, apart := false, narrowed := true }
def FnExactGlobalPiecesUptoSaid : Prop := fnExactGlobalPiecesUptoRow.holds Try.pinned (OpenSpec.upto fnExactGlobalPiecesSpec)

/-- 'laws.FnExactAnchoredGraph', WHERE WHAT IT READS IS OF BULK AT MOST 1048576: true; the input reads as it did. -/
def fnExactAnchoredGraphUptoRow : OpenClaim := { program := "ytmoamglpocjhgaa", sum := "1856acc6ccadd22318e770b636bd1e7fadfaac18be31ef2056d22cfbe4642f44", func := "loop.example/g02078/laws.FnExactAnchoredGraph", spec := "fnExactAnchoredGraph", unfollowed := true, recurses := true, apart := false, narrowed := true }
def FnExactAnchoredGraphUptoSaid : Prop := fnExactAnchoredGraphUptoRow.holds Try.pinned (OpenSpec.upto fnExactAnchoredGraphSpec)

end Rows
end Go.Proofs.Ytmoamglpocjhgaa
