/-
  No cell of these rows narrows 'for every input' (looked for: loops, veiled, ifaces, maps, wideKeys, modest, calm, conditions, laid).
  DERIVED. THE GIVEN ROWS OF THIS SEAT. 4 by the template 'for every input the law returns true; each argument reads behind the call as it read before'; 0 by the template 'total and deterministic' (their statements: YtkklfgcelmeccaaTotals.lean).
  GIVEN WITH THE SEED: the statements are not yours to turn. If you find one false, say at which input.
  Laid BY PROGRAM, IN A SANDBOX (cutbox-rows.mjs): the forced cells as the released guide's own fill.sh prints them over the translation d461b0f1103e5711… (all of the seat's roots in one cut). By AI agents, Wed Nov 11 2026. No macro, syntax, notation, axiom, sorry.
-/
import Derived.Test.YtkklfgcelmeccaaChecked
import GoSem.Claim
import GoSem.ClaimJoined
import GoSem.ClaimMapViews
import Derived.JoinedTies
import Derived.KernelRfl
namespace Go.Proofs.Ytkklfgcelmeccaa
/- THE CELL 'sum', in the pinned program and in every row, IS THE sha256 OF THE DUMP (.gsa) THAT YtkklfgcelmeccaaProg.lean LOADS. Nothing in Lean hashes anything: it is a label: what it is worth is what the hold of that sum in a sandbox is worth. -/
noncomputable def Try.pinned : Pinned := { name := "ytkklfgcelmeccaa", sum := "d461b0f1103e571145e0cc85691804a596985f434413abd73df42b31f57bc15a", checked := Try.checked }
namespace Rows
def none {H : Type} : Left H := { results := [], args := [] }

/-- 'laws.FnExactFormatRaising': WHATEVER THE INPUT: true; the input reads as it did. -/
def fnExactFormatRaisingSpec : ChangeSpec := { name := "fnExactFormatRaising", fn := fun _ => fun
  | [d] => { results := [.lit (.bool true)], args := [d] }
  | _ => none }
def fnExactFormatRaisingRow : OpenClaim := { program := "ytkklfgcelmeccaa", sum := "d461b0f1103e571145e0cc85691804a596985f434413abd73df42b31f57bc15a", func := "loop.example/g02078/laws.FnExactFormatRaising", spec := "fnExactFormatRaising", apart := false }
def FnExactFormatRaisingSaid : Prop := fnExactFormatRaisingRow.holds Try.pinned (OpenSpec.ofChange fnExactFormatRaisingSpec)

/-- ITS FALSE NEIGHBOUR: 'it returns false'. Refute it at one input. -/
def fnExactFormatRaisingWrong : ChangeSpec := { name := "fnExactFormatRaising", fn := fun _ => fun
  | [d] => { results := [.lit (.bool false)], args := [d] }
  | _ => none }
def FnExactFormatRaisingWrongFalsely : Prop := fnExactFormatRaisingRow.holds Try.pinned (OpenSpec.ofChange fnExactFormatRaisingWrong)

/-- 'laws.FnExactLinkageFreedom': WHATEVER THE INPUT: true; the input reads as it did. -/
def fnExactLinkageFreedomSpec : ChangeSpec := { name := "fnExactLinkageFreedom", fn := fun _ => fun
  | [d] => { results := [.lit (.bool true)], args := [d] }
  | _ => none }
def fnExactLinkageFreedomRow : OpenClaim := { program := "ytkklfgcelmeccaa", sum := "d461b0f1103e571145e0cc85691804a596985f434413abd73df42b31f57bc15a", func := "loop.example/g02078/laws.FnExactLinkageFreedom", spec := "fnExactLinkageFreedom", apart := false }
def FnExactLinkageFreedomSaid : Prop := fnExactLinkageFreedomRow.holds Try.pinned (OpenSpec.ofChange fnExactLinkageFreedomSpec)

/-- ITS FALSE NEIGHBOUR: 'it returns false'. Refute it at one input. -/
def fnExactLinkageFreedomWrong : ChangeSpec := { name := "fnExactLinkageFreedom", fn := fun _ => fun
  | [d] => { results := [.lit (.bool false)], args := [d] }
  | _ => none }
def FnExactLinkageFreedomWrongFalsely : Prop := fnExactLinkageFreedomRow.holds Try.pinned (OpenSpec.ofChange fnExactLinkageFreedomWrong)

/-- 'laws.FnExactOrderOfGroups': WHATEVER THE INPUT: true; the input reads as it did. -/
def fnExactOrderOfGroupsSpec : ChangeSpec := { name := "fnExactOrderOfGroups", fn := fun _ => fun
  | [d] => { results := [.lit (.bool true)], args := [d] }
  | _ => none }
def fnExactOrderOfGroupsRow : OpenClaim := { program := "ytkklfgcelmeccaa", sum := "d461b0f1103e571145e0cc85691804a596985f434413abd73df42b31f57bc15a", func := "loop.example/g02078/laws.FnExactOrderOfGroups", spec := "fnExactOrderOfGroups", unfollowed := true, recurses := true, apart := false }
def FnExactOrderOfGroupsSaid : Prop := fnExactOrderOfGroupsRow.holds Try.pinned (OpenSpec.ofChange fnExactOrderOfGroupsSpec)

/-- ITS FALSE NEIGHBOUR: 'it returns false'. Refute it at one input. -/
def fnExactOrderOfGroupsWrong : ChangeSpec := { name := "fnExactOrderOfGroups", fn := fun _ => fun
  | [d] => { results := [.lit (.bool false)], args := [d] }
  | _ => none }
def FnExactOrderOfGroupsWrongFalsely : Prop := fnExactOrderOfGroupsRow.holds Try.pinned (OpenSpec.ofChange fnExactOrderOfGroupsWrong)

/-- 'laws.FnExactGlobalPieces': WHATEVER THE INPUT: true; the input reads as it did. -/
def fnExactGlobalPiecesSpec : ChangeSpec := { name := "fnExactGlobalPieces", fn := fun _ => fun
  | [d] => { results := [.lit (.bool true)], args := [d] }
  | _ => none }
def fnExactGlobalPiecesRow : OpenClaim := { program := "ytkklfgcelmeccaa", sum := "d461b0f1103e571145e0cc85691804a596985f434413abd73df42b31f57bc15a", func := "loop.example/g02078/laws.FnExactGlobalPieces", spec := "fnExactGlobalPieces", unfollowed := true, recurses := true, apart := false }
def FnExactGlobalPiecesSaid : Prop := fnExactGlobalPiecesRow.holds Try.pinned (OpenSpec.ofChange fnExactGlobalPiecesSpec)

/-- ITS FALSE NEIGHBOUR: 'it returns false'. Refute it at one input. -/
def fnExactGlobalPiecesWrong : ChangeSpec := { name := "fnExactGlobalPieces", fn := fun _ => fun
  | [d] => { results := [.lit (.bool false)], args := [d] }
  | _ => none }
def FnExactGlobalPiecesWrongFalsely : Prop := fnExactGlobalPiecesRow.holds Try.pinned (OpenSpec.ofChange fnExactGlobalPiecesWrong)

/- THE SECOND FORM. 'bulk': how many values and letters a reading holds, each counted each time it is reached (what is shared counts as often as it is met; a slice's spare places count too). A statement '..UptoSaid' is the law's where the arguments, and the package variables that the reading takes, are together of bulk at most 1048576: NARROWER than '..Said'. Prove '..Said' where nothing that the law and all that it calls make is longer than what came in: it says more and counts as full. Else prove '..UptoSaid'. A law counts once. -/
mutual
def uptoBulk {H : Type} : DataW H → Nat
  | .lit (.string bytes) => bytes.length + 1
  | .lit _ => 1
  | .nil => 1
  | .ptr d => uptoBulk d + 1
  | .slice elems spare => uptoBulkAll elems + uptoBulkAll spare + 1
  | .agg parts => uptoBulkAll parts + 1
  | .iface _ d => uptoBulk d + 1
  | .map entries => uptoBulkEntries entries + 1
  | .held _ => 1
def uptoBulkAll {H : Type} : List (DataW H) → Nat
  | [] => 0
  | d :: r => uptoBulk d + uptoBulkAll r
def uptoBulkEntries {H : Type} : List (Lit × DataW H) → Nat
  | [] => 0
  | x :: r => uptoBulkEntry x + uptoBulkEntries r
def uptoBulkEntry {H : Type} : Lit × DataW H → Nat
  | (.string bytes, d) => bytes.length + uptoBulk d + 1
  | (_, d) => uptoBulk d + 1
 end
def uptoSmall : (H : Type) → List (DataW H) → Bool := fun _ ds => decide (uptoBulkAll ds ≤ 1048576)
def OpenSpec.upto (s : _root_.Go.ChangeSpec) : _root_.Go.OpenSpec := { _root_.Go.OpenSpec.ofChange s with cond := some uptoSmall }

/-- 'laws.FnExactFormatRaising', WHERE WHAT IT READS IS OF BULK AT MOST 1048576: true; the input reads as it did. -/
def fnExactFormatRaisingUptoRow : OpenClaim := { program := "ytkklfgcelmeccaa", sum := "d461b0f1103e571145e0cc85691804a596985f434413abd73df42b31f57bc15a", func := "loop.example/g02078/laws.FnExactFormatRaising", spec := "fnExactFormatRaising", apart := false, narrowed := true }
def FnExactFormatRaisingUptoSaid : Prop := fnExactFormatRaisingUptoRow.holds Try.pinned (OpenSpec.upto fnExactFormatRaisingSpec)

/-- 'laws.FnExactLinkageFreedom', WHERE WHAT IT READS IS OF BULK AT MOST 1048576: true; the input reads as it did. -/
def fnExactLinkageFreedomUptoRow : OpenClaim := { program := "ytkklfgcelmeccaa", sum := "d461b0f1103e571145e0cc85691804a596985f434413abd73df42b31f57bc15a", func := "loop.example/g02078/laws.FnExactLinkageFreedom", spec := "fnExactLinkageFreedom", apart := false, narrowed := true }
def FnExactLinkageFreedomUptoSaid : Prop := fnExactLinkageFreedomUptoRow.holds Try.pinned (OpenSpec.upto fnExactLinkageFreedomSpec)

/-- 'laws.FnExactOrderOfGroups', WHERE WHAT IT READS IS OF BULK AT MOST 1048576: true; the input reads as it did. -/
def fnExactOrderOfGroupsUptoRow : OpenClaim := { program := "ytkklfgcelmeccaa", sum := "d461b0f1103e571145e0cc85691804a596985f434413abd73df42b31f57bc15a", func := "loop.example/g02078/laws.FnExactOrderOfGroups", spec := "fnExactOrderOfGroups", unfollowed := true, recurses := true, apart := false, narrowed := true }
def FnExactOrderOfGroupsUptoSaid : Prop := fnExactOrderOfGroupsUptoRow.holds Try.pinned (OpenSpec.upto fnExactOrderOfGroupsSpec)

/-- 'laws.FnExactGlobalPieces', WHERE WHAT IT READS IS OF BULK AT MOST 1048576: true; the input reads as it did. -/
def fnExactGlobalPiecesUptoRow : OpenClaim := { program := "ytkklfgcelmeccaa", sum := "d461b0f1103e571145e0cc85691804a596985f434413abd73df42b31f57bc15a", func := "loop.example/g02078/laws.FnExactGlobalPieces", spec := "fnExactGlobalPieces", unfollowed := true, recurses := true, apart := false, narrowed := true }
def FnExactGlobalPiecesUptoSaid : Prop := fnExactGlobalPiecesUptoRow.holds Try.pinned (OpenSpec.upto fnExactGlobalPiecesSpec)

end Rows
end Go.Proofs.Ytkklfgcelmeccaa
