/-
  No cell of these rows narrows 'for every input' (looked for: loops, veiled, ifaces, maps, wideKeys, modest, calm, conditions, laid).
  DERIVED. THE GIVEN ROWS OF THIS SEAT. 12 by the template 'for every input the law returns true; each argument reads behind the call as it read before'; 0 by the template 'total and deterministic' (their statements: YtgindcgphnbnaaaTotals.lean).
  GIVEN WITH THE SEED: the statements are not yours to turn. If you find one false, say at which input.
  Laid BY PROGRAM, IN A SANDBOX (cutbox-rows.mjs): the forced cells as the released guide's own fill.sh prints them over the translation fe375cf85740703c… (all of the seat's roots in one cut). By AI agents, Wed Nov 11 2026. No macro, syntax, notation, axiom, sorry.
-/
import Derived.Test.YtgindcgphnbnaaaChecked
import GoSem.Claim
import GoSem.ClaimJoined
import GoSem.ClaimMapViews
import Derived.JoinedTies
import Derived.KernelRfl
namespace Go.Proofs.Ytgindcgphnbnaaa
/- THE CELL 'sum', in the pinned program and in every row, IS THE sha256 OF THE DUMP (.gsa) THAT YtgindcgphnbnaaaProg.lean LOADS. Nothing in Lean hashes anything: it is a label: what it is worth is what the hold of that sum in a sandbox is worth. -/
noncomputable def Try.pinned : Pinned := { name := "ytgindcgphnbnaaa", sum := "fe375cf85740703c553865244184348db05f4bc1b170822fe7e6599234caa30e", checked := Try.checked }
namespace Rows
def none {H : Type} : Left H := { results := [], args := [] }

/-- 'laws.FnExactMengerOf': WHATEVER THE INPUT: true; the input reads as it did. -/
def fnExactMengerOfSpec : ChangeSpec := { name := "fnExactMengerOf", fn := fun _ => fun
  | [d] => { results := [.lit (.bool true)], args := [d] }
  | _ => none }
def fnExactMengerOfRow : OpenClaim := { program := "ytgindcgphnbnaaa", sum := "fe375cf85740703c553865244184348db05f4bc1b170822fe7e6599234caa30e", func := "loop.example/g02078/laws.FnExactMengerOf", spec := "fnExactMengerOf", recurses := true, apart := false }
def FnExactMengerOfSaid : Prop := fnExactMengerOfRow.holds Try.pinned (OpenSpec.ofChange fnExactMengerOfSpec)

/-- ITS FALSE NEIGHBOUR: 'it returns false'. Refute it at one input. -/
def fnExactMengerOfWrong : ChangeSpec := { name := "fnExactMengerOf", fn := fun _ => fun
  | [d] => { results := [.lit (.bool false)], args := [d] }
  | _ => none }
def FnExactMengerOfWrongFalsely : Prop := fnExactMengerOfRow.holds Try.pinned (OpenSpec.ofChange fnExactMengerOfWrong)

/-- 'laws.FnExactIsPlanar': WHATEVER THE INPUT: true; the input reads as it did. -/
def fnExactIsPlanarSpec : ChangeSpec := { name := "fnExactIsPlanar", fn := fun _ => fun
  | [d] => { results := [.lit (.bool true)], args := [d] }
  | _ => none }
def fnExactIsPlanarRow : OpenClaim := { program := "ytgindcgphnbnaaa", sum := "fe375cf85740703c553865244184348db05f4bc1b170822fe7e6599234caa30e", func := "loop.example/g02078/laws.FnExactIsPlanar", spec := "fnExactIsPlanar", recurses := true, apart := false }
def FnExactIsPlanarSaid : Prop := fnExactIsPlanarRow.holds Try.pinned (OpenSpec.ofChange fnExactIsPlanarSpec)

/-- ITS FALSE NEIGHBOUR: 'it returns false'. Refute it at one input. -/
def fnExactIsPlanarWrong : ChangeSpec := { name := "fnExactIsPlanar", fn := fun _ => fun
  | [d] => { results := [.lit (.bool false)], args := [d] }
  | _ => none }
def FnExactIsPlanarWrongFalsely : Prop := fnExactIsPlanarRow.holds Try.pinned (OpenSpec.ofChange fnExactIsPlanarWrong)

/-- 'laws.FnExactLastSquares': WHATEVER THE INPUT: true; the input reads as it did. -/
def fnExactLastSquaresSpec : ChangeSpec := { name := "fnExactLastSquares", fn := fun _ => fun
  | [d] => { results := [.lit (.bool true)], args := [d] }
  | _ => none }
def fnExactLastSquaresRow : OpenClaim := { program := "ytgindcgphnbnaaa", sum := "fe375cf85740703c553865244184348db05f4bc1b170822fe7e6599234caa30e", func := "loop.example/g02078/laws.FnExactLastSquares", spec := "fnExactLastSquares", recurses := true, apart := false }
def FnExactLastSquaresSaid : Prop := fnExactLastSquaresRow.holds Try.pinned (OpenSpec.ofChange fnExactLastSquaresSpec)

/-- ITS FALSE NEIGHBOUR: 'it returns false'. Refute it at one input. -/
def fnExactLastSquaresWrong : ChangeSpec := { name := "fnExactLastSquares", fn := fun _ => fun
  | [d] => { results := [.lit (.bool false)], args := [d] }
  | _ => none }
def FnExactLastSquaresWrongFalsely : Prop := fnExactLastSquaresRow.holds Try.pinned (OpenSpec.ofChange fnExactLastSquaresWrong)

/-- 'laws.FnExactIsRaising': WHATEVER THE INPUT: true; the input reads as it did. -/
def fnExactIsRaisingSpec : ChangeSpec := { name := "fnExactIsRaising", fn := fun _ => fun
  | [d1, d2] => { results := [.lit (.bool true)], args := [d1, d2] }
  | _ => none }
def fnExactIsRaisingRow : OpenClaim := { program := "ytgindcgphnbnaaa", sum := "fe375cf85740703c553865244184348db05f4bc1b170822fe7e6599234caa30e", func := "loop.example/g02078/laws.FnExactIsRaising", spec := "fnExactIsRaising", apart := false }
def FnExactIsRaisingSaid : Prop := fnExactIsRaisingRow.holds Try.pinned (OpenSpec.ofChange fnExactIsRaisingSpec)

/-- ITS FALSE NEIGHBOUR: 'it returns false'. Refute it at one input. -/
def fnExactIsRaisingWrong : ChangeSpec := { name := "fnExactIsRaising", fn := fun _ => fun
  | [d1, d2] => { results := [.lit (.bool false)], args := [d1, d2] }
  | _ => none }
def FnExactIsRaisingWrongFalsely : Prop := fnExactIsRaisingRow.holds Try.pinned (OpenSpec.ofChange fnExactIsRaisingWrong)

/-- 'laws.FnExactFormatRaising': WHATEVER THE INPUT: true; the input reads as it did. -/
def fnExactFormatRaisingSpec : ChangeSpec := { name := "fnExactFormatRaising", fn := fun _ => fun
  | [d] => { results := [.lit (.bool true)], args := [d] }
  | _ => none }
def fnExactFormatRaisingRow : OpenClaim := { program := "ytgindcgphnbnaaa", sum := "fe375cf85740703c553865244184348db05f4bc1b170822fe7e6599234caa30e", func := "loop.example/g02078/laws.FnExactFormatRaising", spec := "fnExactFormatRaising", apart := false }
def FnExactFormatRaisingSaid : Prop := fnExactFormatRaisingRow.holds Try.pinned (OpenSpec.ofChange fnExactFormatRaisingSpec)

/-- ITS FALSE NEIGHBOUR: 'it returns false'. Refute it at one input. -/
def fnExactFormatRaisingWrong : ChangeSpec := { name := "fnExactFormatRaising", fn := fun _ => fun
  | [d] => { results := [.lit (.bool false)], args := [d] }
  | _ => none }
def FnExactFormatRaisingWrongFalsely : Prop := fnExactFormatRaisingRow.holds Try.pinned (OpenSpec.ofChange fnExactFormatRaisingWrong)

/-- 'laws.FnExactFindRaising': WHATEVER THE INPUT: true; the input reads as it did. -/
def fnExactFindRaisingSpec : ChangeSpec := { name := "fnExactFindRaising", fn := fun _ => fun
  | [d] => { results := [.lit (.bool true)], args := [d] }
  | _ => none }
def fnExactFindRaisingRow : OpenClaim := { program := "ytgindcgphnbnaaa", sum := "fe375cf85740703c553865244184348db05f4bc1b170822fe7e6599234caa30e", func := "loop.example/g02078/laws.FnExactFindRaising", spec := "fnExactFindRaising", apart := false }
def FnExactFindRaisingSaid : Prop := fnExactFindRaisingRow.holds Try.pinned (OpenSpec.ofChange fnExactFindRaisingSpec)

/-- ITS FALSE NEIGHBOUR: 'it returns false'. Refute it at one input. -/
def fnExactFindRaisingWrong : ChangeSpec := { name := "fnExactFindRaising", fn := fun _ => fun
  | [d] => { results := [.lit (.bool false)], args := [d] }
  | _ => none }
def FnExactFindRaisingWrongFalsely : Prop := fnExactFindRaisingRow.holds Try.pinned (OpenSpec.ofChange fnExactFindRaisingWrong)

/-- 'laws.FnExactLinkageFreedom': WHATEVER THE INPUT: true; the input reads as it did. -/
def fnExactLinkageFreedomSpec : ChangeSpec := { name := "fnExactLinkageFreedom", fn := fun _ => fun
  | [d] => { results := [.lit (.bool true)], args := [d] }
  | _ => none }
def fnExactLinkageFreedomRow : OpenClaim := { program := "ytgindcgphnbnaaa", sum := "fe375cf85740703c553865244184348db05f4bc1b170822fe7e6599234caa30e", func := "loop.example/g02078/laws.FnExactLinkageFreedom", spec := "fnExactLinkageFreedom", apart := false }
def FnExactLinkageFreedomSaid : Prop := fnExactLinkageFreedomRow.holds Try.pinned (OpenSpec.ofChange fnExactLinkageFreedomSpec)

/-- ITS FALSE NEIGHBOUR: 'it returns false'. Refute it at one input. -/
def fnExactLinkageFreedomWrong : ChangeSpec := { name := "fnExactLinkageFreedom", fn := fun _ => fun
  | [d] => { results := [.lit (.bool false)], args := [d] }
  | _ => none }
def FnExactLinkageFreedomWrongFalsely : Prop := fnExactLinkageFreedomRow.holds Try.pinned (OpenSpec.ofChange fnExactLinkageFreedomWrong)

/-- 'laws.FnExactPosesOf': WHATEVER THE INPUT: true; the input reads as it did. -/
def fnExactPosesOfSpec : ChangeSpec := { name := "fnExactPosesOf", fn := fun _ => fun
  | [d] => { results := [.lit (.bool true)], args := [d] }
  | _ => none }
def fnExactPosesOfRow : OpenClaim := { program := "ytgindcgphnbnaaa", sum := "fe375cf85740703c553865244184348db05f4bc1b170822fe7e6599234caa30e", func := "loop.example/g02078/laws.FnExactPosesOf", spec := "fnExactPosesOf", unfollowed := true, recurses := true, apart := false }
def FnExactPosesOfSaid : Prop := fnExactPosesOfRow.holds Try.pinned (OpenSpec.ofChange fnExactPosesOfSpec)

/-- ITS FALSE NEIGHBOUR: 'it returns false'. Refute it at one input. -/
def fnExactPosesOfWrong : ChangeSpec := { name := "fnExactPosesOf", fn := fun _ => fun
  | [d] => { results := [.lit (.bool false)], args := [d] }
  | _ => none }
def FnExactPosesOfWrongFalsely : Prop := fnExactPosesOfRow.holds Try.pinned (OpenSpec.ofChange fnExactPosesOfWrong)

/-- 'laws.FnExactPathBetween': WHATEVER THE INPUT: true; the input reads as it did. -/
def fnExactPathBetweenSpec : ChangeSpec := { name := "fnExactPathBetween", fn := fun _ => fun
  | [d1, d2, d3] => { results := [.lit (.bool true)], args := [d1, d2, d3] }
  | _ => none }
def fnExactPathBetweenRow : OpenClaim := { program := "ytgindcgphnbnaaa", sum := "fe375cf85740703c553865244184348db05f4bc1b170822fe7e6599234caa30e", func := "loop.example/g02078/laws.FnExactPathBetween", spec := "fnExactPathBetween", unfollowed := true, recurses := true, apart := false }
def FnExactPathBetweenSaid : Prop := fnExactPathBetweenRow.holds Try.pinned (OpenSpec.ofChange fnExactPathBetweenSpec)

/-- ITS FALSE NEIGHBOUR: 'it returns false'. Refute it at one input. -/
def fnExactPathBetweenWrong : ChangeSpec := { name := "fnExactPathBetween", fn := fun _ => fun
  | [d1, d2, d3] => { results := [.lit (.bool false)], args := [d1, d2, d3] }
  | _ => none }
def FnExactPathBetweenWrongFalsely : Prop := fnExactPathBetweenRow.holds Try.pinned (OpenSpec.ofChange fnExactPathBetweenWrong)

/-- 'laws.FnExactRoomsOf': WHATEVER THE INPUT: true; the input reads as it did. -/
def fnExactRoomsOfSpec : ChangeSpec := { name := "fnExactRoomsOf", fn := fun _ => fun
  | [d] => { results := [.lit (.bool true)], args := [d] }
  | _ => none }
def fnExactRoomsOfRow : OpenClaim := { program := "ytgindcgphnbnaaa", sum := "fe375cf85740703c553865244184348db05f4bc1b170822fe7e6599234caa30e", func := "loop.example/g02078/laws.FnExactRoomsOf", spec := "fnExactRoomsOf", unfollowed := true, recurses := true, apart := false }
def FnExactRoomsOfSaid : Prop := fnExactRoomsOfRow.holds Try.pinned (OpenSpec.ofChange fnExactRoomsOfSpec)

/-- ITS FALSE NEIGHBOUR: 'it returns false'. Refute it at one input. -/
def fnExactRoomsOfWrong : ChangeSpec := { name := "fnExactRoomsOf", fn := fun _ => fun
  | [d] => { results := [.lit (.bool false)], args := [d] }
  | _ => none }
def FnExactRoomsOfWrongFalsely : Prop := fnExactRoomsOfRow.holds Try.pinned (OpenSpec.ofChange fnExactRoomsOfWrong)

/-- 'laws.FnExactRoomOf': WHATEVER THE INPUT: true; the input reads as it did. -/
def fnExactRoomOfSpec : ChangeSpec := { name := "fnExactRoomOf", fn := fun _ => fun
  | [d] => { results := [.lit (.bool true)], args := [d] }
  | _ => none }
def fnExactRoomOfRow : OpenClaim := { program := "ytgindcgphnbnaaa", sum := "fe375cf85740703c553865244184348db05f4bc1b170822fe7e6599234caa30e", func := "loop.example/g02078/laws.FnExactRoomOf", spec := "fnExactRoomOf", unfollowed := true, recurses := true, apart := false }
def FnExactRoomOfSaid : Prop := fnExactRoomOfRow.holds Try.pinned (OpenSpec.ofChange fnExactRoomOfSpec)

/-- ITS FALSE NEIGHBOUR: 'it returns false'. Refute it at one input. -/
def fnExactRoomOfWrong : ChangeSpec := { name := "fnExactRoomOf", fn := fun _ => fun
  | [d] => { results := [.lit (.bool false)], args := [d] }
  | _ => none }
def FnExactRoomOfWrongFalsely : Prop := fnExactRoomOfRow.holds Try.pinned (OpenSpec.ofChange fnExactRoomOfWrong)

/-- 'laws.FnExactIsStuck': WHATEVER THE INPUT: true; the input reads as it did. -/
def fnExactIsStuckSpec : ChangeSpec := { name := "fnExactIsStuck", fn := fun _ => fun
  | [d] => { results := [.lit (.bool true)], args := [d] }
  | _ => none }
def fnExactIsStuckRow : OpenClaim := { program := "ytgindcgphnbnaaa", sum := "fe375cf85740703c553865244184348db05f4bc1b170822fe7e6599234caa30e", func := "loop.example/g02078/laws.FnExactIsStuck", spec := "fnExactIsStuck", unfollowed := true, recurses := true, apart := false }
def FnExactIsStuckSaid : Prop := fnExactIsStuckRow.holds Try.pinned (OpenSpec.ofChange fnExactIsStuckSpec)

/-- ITS FALSE NEIGHBOUR: 'it returns false'. Refute it at one input. -/
def fnExactIsStuckWrong : ChangeSpec := { name := "fnExactIsStuck", fn := fun _ => fun
  | [d] => { results := [.lit (.bool false)], args := [d] }
  | _ => none }
def FnExactIsStuckWrongFalsely : Prop := fnExactIsStuckRow.holds Try.pinned (OpenSpec.ofChange fnExactIsStuckWrong)

/- THE SECOND FORM. 'bulk': how many values and letters a reading holds, each counted each time it is reached (what is shared counts as often as it is met; a slice's spare places count too). A statement '..UptoSaid' is the law's where the arguments, and the package variables that the reading takes, are together of bulk at most 1048576: NARROWER than '..Said'. Prove '..Said' where nothing that the law and all that it calls make is longer than what came in: it says more and counts as full. Else prove '..UptoSaid'. A law counts once. -/
mutual
def uptoBulk {H : Type} : DataW H → Nat
  | .lit (.string bytes) => bytes.length + 1
  | .lit _ => 1
  | .nil => 1
  | .ptr d => uptoBulk d + 1
  | .slice elems spare => uptoBulkAll elems + uptoBulkAll spare + 1
  | .agg parts => uptoBulkAll parts + 1
  | .iface _ d => uptoBulk d + 1
  | .map entries => uptoBulkEntries entries + 1
  | .held _ => 1
def uptoBulkAll {H : Type} : List (DataW H) → Nat
  | [] => 0
  | d :: r => uptoBulk d + uptoBulkAll r
def uptoBulkEntries {H : Type} : List (Lit × DataW H) → Nat
  | [] => 0
  | x :: r => uptoBulkEntry x + uptoBulkEntries r
def uptoBulkEntry {H : Type} : Lit × DataW H → Nat
  | (.string bytes, d) => bytes.length + uptoBulk d + 1
  | (_, d) => uptoBulk d + 1
 end
def uptoSmall : (H : Type) → List (DataW H) → Bool := fun _ ds => decide (uptoBulkAll ds ≤ 1048576)
def OpenSpec.upto (s : _root_.Go.ChangeSpec) : _root_.Go.OpenSpec := { _root_.Go.OpenSpec.ofChange s with cond := some uptoSmall }

/-- 'laws.FnExactMengerOf', WHERE WHAT IT READS IS OF BULK AT MOST 1048576: true; the input reads as it did. -/
def fnExactMengerOfUptoRow : OpenClaim := { program := "ytgindcgphnbnaaa", sum := "fe375cf85740703c553865244184348db05f4bc1b170822fe7e6599234caa30e", func := "loop.example/g02078/laws.FnExactMengerOf", spec := "fnExactMengerOf", recurses := true, apart := false, narrowed := true }
def FnExactMengerOfUptoSaid : Prop := fnExactMengerOfUptoRow.holds Try.pinned (OpenSpec.upto fnExactMengerOfSpec)

/-- 'laws.FnExactIsPlanar', WHERE WHAT IT READS IS OF BULK AT MOST 1048576: true; the input reads as it did. -/
def fnExactIsPlanarUptoRow : OpenClaim := { program := "ytgindcgphnbnaaa", sum := "fe375cf85740703c553865244184348db05f4bc1b170822fe7e6599234caa30e", func := "loop.example/g02078/laws.FnExactIsPlanar", spec := "fnExactIsPlanar", recurses := true, apart := false, narrowed := true }
def FnExactIsPlanarUptoSaid : Prop := fnExactIsPlanarUptoRow.holds Try.pinned (OpenSpec.upto fnExactIsPlanarSpec)

/-- 'laws.FnExactLastSquares', WHERE WHAT IT READS IS OF BULK AT MOST 1048576: true; the input reads as it did. -/
def fnExactLastSquaresUptoRow : OpenClaim := { program := "ytgindcgphnbnaaa", sum := "fe375cf85740703c553865244184348db05f4bc1b170822fe7e6599234caa30e", func := "loop.example/g02078/laws.FnExactLastSquares", spec := "fnExactLastSquares", recurses := true, apart := false, narrowed := true }
def FnExactLastSquaresUptoSaid : Prop := fnExactLastSquaresUptoRow.holds Try.pinned (OpenSpec.upto fnExactLastSquaresSpec)

/-- 'laws.FnExactIsRaising', WHERE WHAT IT READS IS OF BULK AT MOST 1048576: true; the input reads as it did. -/
def fnExactIsRaisingUptoRow : OpenClaim := { program := "ytgindcgphnbnaaa", sum := "fe375cf85740703c553865244184348db05f4bc1b170822fe7e6599234caa30e", func := "loop.example/g02078/laws.FnExactIsRaising", spec := "fnExactIsRaising", apart := false, narrowed := true }
def FnExactIsRaisingUptoSaid : Prop := fnExactIsRaisingUptoRow.holds Try.pinned (OpenSpec.upto fnExactIsRaisingSpec)

/-- 'laws.FnExactFormatRaising', WHERE WHAT IT READS IS OF BULK AT MOST 1048576: true; the input reads as it did. -/
def fnExactFormatRaisingUptoRow : OpenClaim := { program := "ytgindcgphnbnaaa", sum := "fe375cf85740703c553865244184348db05f4bc1b170822fe7e6599234caa30e", func := "loop.example/g02078/laws.FnExactFormatRaising", spec := "fnExactFormatRaising", apart := false, narrowed := true }
def FnExactFormatRaisingUptoSaid : Prop := fnExactFormatRaisingUptoRow.holds Try.pinned (OpenSpec.upto fnExactFormatRaisingSpec)

/-- 'laws.FnExactFindRaising', WHERE WHAT IT READS IS OF BULK AT MOST 1048576: true; the input reads as it did. -/
def fnExactFindRaisingUptoRow : OpenClaim := { program := "ytgindcgphnbnaaa", sum := "fe375cf85740703c553865244184348db05f4bc1b170822fe7e6599234caa30e", func := "loop.example/g02078/laws.FnExactFindRaising", spec := "fnExactFindRaising", apart := false, narrowed := true }
def FnExactFindRaisingUptoSaid : Prop := fnExactFindRaisingUptoRow.holds Try.pinned (OpenSpec.upto fnExactFindRaisingSpec)

/-- 'laws.FnExactLinkageFreedom', WHERE WHAT IT READS IS OF BULK AT MOST 1048576: true; the input reads as it did. -/
def fnExactLinkageFreedomUptoRow : OpenClaim := { program := "ytgindcgphnbnaaa", sum := "fe375cf85740703c553865244184348db05f4bc1b170822fe7e6599234caa30e", func := "loop.example/g02078/laws.FnExactLinkageFreedom", spec := "fnExactLinkageFreedom", apart := false, narrowed := true }
def FnExactLinkageFreedomUptoSaid : Prop := fnExactLinkageFreedomUptoRow.holds Try.pinned (OpenSpec.upto fnExactLinkageFreedomSpec)

/-- 'laws.FnExactPosesOf', WHERE WHAT IT READS IS OF BULK AT MOST 1048576: true; the input reads as it did. -/
def fnExactPosesOfUptoRow : OpenClaim := { program := "ytgindcgphnbnaaa", sum := "fe375cf85740703c553865244184348db05f4bc1b170822fe7e6599234caa30e", func := "loop.example/g02078/laws.FnExactPosesOf", spec := "fnExactPosesOf", unfollowed := true, recurses := true, apart := false, narrowed := true }
def FnExactPosesOfUptoSaid : Prop := fnExactPosesOfUptoRow.holds Try.pinned (OpenSpec.upto fnExactPosesOfSpec)

/-- 'laws.FnExactPathBetween', WHERE WHAT IT READS IS OF BULK AT MOST 1048576: true; the input reads as it did. -/
def fnExactPathBetweenUptoRow : OpenClaim := { program := "ytgindcgphnbnaaa", sum := "fe375cf85740703c553865244184348db05f4bc1b170822fe7e6599234caa30e", func := "loop.example/g02078/laws.FnExactPathBetween", spec := "fnExactPathBetween", unfollowed := true, recurses := true, apart := false, narrowed := true }
def FnExactPathBetweenUptoSaid : Prop := fnExactPathBetweenUptoRow.holds Try.pinned (OpenSpec.upto fnExactPathBetweenSpec)

/-- 'laws.FnExactRoomsOf', WHERE WHAT IT READS IS OF BULK AT MOST 1048576: true; the input reads as it did. -/
def fnExactRoomsOfUptoRow : OpenClaim := { program := "ytgindcgphnbnaaa", sum := "fe375cf85740703c553865244184348db05f4bc1b170822fe7e6599234caa30e", func := "loop.example/g02078/laws.FnExactRoomsOf", spec := "fnExactRoomsOf", unfollowed := true, recurses := true, apart := false, narrowed := true }
def FnExactRoomsOfUptoSaid : Prop := fnExactRoomsOfUptoRow.holds Try.pinned (OpenSpec.upto fnExactRoomsOfSpec)

/-- 'laws.FnExactRoomOf', WHERE WHAT IT READS IS OF BULK AT MOST 1048576: true; the input reads as it did. -/
def fnExactRoomOfUptoRow : OpenClaim := { program := "ytgindcgphnbnaaa", sum := "fe375cf85740703c553865244184348db05f4bc1b170822fe7e6599234caa30e", func := "loop.example/g02078/laws.FnExactRoomOf", spec := "fnExactRoomOf", unfollowed := true, recurses := true, apart := false, narrowed := true }
def FnExactRoomOfUptoSaid : Prop := fnExactRoomOfUptoRow.holds Try.pinned (OpenSpec.upto fnExactRoomOfSpec)

/-- 'laws.FnExactIsStuck', WHERE WHAT IT READS IS OF BULK AT MOST 1048576: true; the input reads as it did. -/
def fnExactIsStuckUptoRow : OpenClaim := { program := "ytgindcgphnbnaaa", sum := "fe375cf85740703c553865244184348db05f4bc1b170822fe7e6599234caa30e", func := "loop.example/g02078/laws.FnExactIsStuck", spec := "fnExactIsStuck", unfollowed := true, recurses := true, apart := false, narrowed := true }
def FnExactIsStuckUptoSaid : Prop := fnExactIsStuckUptoRow.holds Try.pinned (OpenSpec.upto fnExactIsStuckSpec)

end Rows
end Go.Proofs.Ytgindcgphnbnaaa
