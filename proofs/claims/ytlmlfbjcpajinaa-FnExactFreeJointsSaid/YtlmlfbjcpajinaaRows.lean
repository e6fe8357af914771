/-
  No cell of these rows narrows 'for every input' (looked for: loops, veiled, ifaces, maps, wideKeys, modest, calm, conditions, laid).
  DERIVED. THE GIVEN ROWS OF THIS SEAT. 12 by the template 'for every input the law returns true; each argument reads behind the call as it read before'; 0 by the template 'total and deterministic' (their statements: YtlmlfbjcpajinaaTotals.lean).
  GIVEN WITH THE SEED: the statements are not yours to turn. If you find one false, say at which input.
  Laid BY PROGRAM, IN A SANDBOX (cutbox-rows.mjs): the forced cells as the released guide's own fill.sh prints them over the translation d806bcf04551ab8f… (all of the seat's roots in one cut). By AI agents, Wed Nov 11 2026. No macro, syntax, notation, axiom, sorry.
-/
import Derived.Test.YtlmlfbjcpajinaaChecked
import GoSem.Claim
import GoSem.ClaimJoined
import GoSem.ClaimMapViews
import Derived.JoinedTies
import Derived.KernelRfl
namespace Go.Proofs.Ytlmlfbjcpajinaa
/- THE CELL 'sum', in the pinned program and in every row, IS THE sha256 OF THE DUMP (.gsa) THAT YtlmlfbjcpajinaaProg.lean LOADS. Nothing in Lean hashes anything: it is a label: what it is worth is what the hold of that sum in a sandbox is worth. -/
noncomputable def Try.pinned : Pinned := { name := "ytlmlfbjcpajinaa", sum := "d806bcf04551ab8f105a3ea6ef16dd7e1567459039552b12b436854d6fb0631e", checked := Try.checked }
namespace Rows
def none {H : Type} : Left H := { results := [], args := [] }

/-- 'laws.FnExactIsPlanar': WHATEVER THE INPUT: true; the input reads as it did. -/
def fnExactIsPlanarSpec : ChangeSpec := { name := "fnExactIsPlanar", fn := fun _ => fun
  | [d] => { results := [.lit (.bool true)], args := [d] }
  | _ => none }
def fnExactIsPlanarRow : OpenClaim := { program := "ytlmlfbjcpajinaa", sum := "d806bcf04551ab8f105a3ea6ef16dd7e1567459039552b12b436854d6fb0631e", func := "loop.example/g02078/laws.FnExactIsPlanar", spec := "fnExactIsPlanar", recurses := true, apart := false }
def FnExactIsPlanarSaid : Prop := fnExactIsPlanarRow.holds Try.pinned (OpenSpec.ofChange fnExactIsPlanarSpec)

/-- ITS FALSE NEIGHBOUR: 'it returns false'. Refute it at one input. -/
def fnExactIsPlanarWrong : ChangeSpec := { name := "fnExactIsPlanar", fn := fun _ => fun
  | [d] => { results := [.lit (.bool false)], args := [d] }
  | _ => none }
def FnExactIsPlanarWrongFalsely : Prop := fnExactIsPlanarRow.holds Try.pinned (OpenSpec.ofChange fnExactIsPlanarWrong)

/-- 'laws.FnExactFormatRaising': WHATEVER THE INPUT: true; the input reads as it did. -/
def fnExactFormatRaisingSpec : ChangeSpec := { name := "fnExactFormatRaising", fn := fun _ => fun
  | [d] => { results := [.lit (.bool true)], args := [d] }
  | _ => none }
def fnExactFormatRaisingRow : OpenClaim := { program := "ytlmlfbjcpajinaa", sum := "d806bcf04551ab8f105a3ea6ef16dd7e1567459039552b12b436854d6fb0631e", func := "loop.example/g02078/laws.FnExactFormatRaising", spec := "fnExactFormatRaising", apart := false }
def FnExactFormatRaisingSaid : Prop := fnExactFormatRaisingRow.holds Try.pinned (OpenSpec.ofChange fnExactFormatRaisingSpec)

/-- ITS FALSE NEIGHBOUR: 'it returns false'. Refute it at one input. -/
def fnExactFormatRaisingWrong : ChangeSpec := { name := "fnExactFormatRaising", fn := fun _ => fun
  | [d] => { results := [.lit (.bool false)], args := [d] }
  | _ => none }
def FnExactFormatRaisingWrongFalsely : Prop := fnExactFormatRaisingRow.holds Try.pinned (OpenSpec.ofChange fnExactFormatRaisingWrong)

/-- 'laws.FnExactLastSquares': WHATEVER THE INPUT: true; the input reads as it did. -/
def fnExactLastSquaresSpec : ChangeSpec := { name := "fnExactLastSquares", fn := fun _ => fun
  | [d] => { results := [.lit (.bool true)], args := [d] }
  | _ => none }
def fnExactLastSquaresRow : OpenClaim := { program := "ytlmlfbjcpajinaa", sum := "d806bcf04551ab8f105a3ea6ef16dd7e1567459039552b12b436854d6fb0631e", func := "loop.example/g02078/laws.FnExactLastSquares", spec := "fnExactLastSquares", recurses := true, apart := false }
def FnExactLastSquaresSaid : Prop := fnExactLastSquaresRow.holds Try.pinned (OpenSpec.ofChange fnExactLastSquaresSpec)

/-- ITS FALSE NEIGHBOUR: 'it returns false'. Refute it at one input. -/
def fnExactLastSquaresWrong : ChangeSpec := { name := "fnExactLastSquares", fn := fun _ => fun
  | [d] => { results := [.lit (.bool false)], args := [d] }
  | _ => none }
def FnExactLastSquaresWrongFalsely : Prop := fnExactLastSquaresRow.holds Try.pinned (OpenSpec.ofChange fnExactLastSquaresWrong)

/-- 'laws.FnExactIsTrilateration': WHATEVER THE INPUT: true; the input reads as it did. -/
def fnExactIsTrilaterationSpec : ChangeSpec := { name := "fnExactIsTrilateration", fn := fun _ => fun
  | [d1, d2] => { results := [.lit (.bool true)], args := [d1, d2] }
  | _ => none }
def fnExactIsTrilaterationRow : OpenClaim := { program := "ytlmlfbjcpajinaa", sum := "d806bcf04551ab8f105a3ea6ef16dd7e1567459039552b12b436854d6fb0631e", func := "loop.example/g02078/laws.FnExactIsTrilateration", spec := "fnExactIsTrilateration", apart := false }
def FnExactIsTrilaterationSaid : Prop := fnExactIsTrilaterationRow.holds Try.pinned (OpenSpec.ofChange fnExactIsTrilaterationSpec)

/-- ITS FALSE NEIGHBOUR: 'it returns false'. Refute it at one input. -/
def fnExactIsTrilaterationWrong : ChangeSpec := { name := "fnExactIsTrilateration", fn := fun _ => fun
  | [d1, d2] => { results := [.lit (.bool false)], args := [d1, d2] }
  | _ => none }
def FnExactIsTrilaterationWrongFalsely : Prop := fnExactIsTrilaterationRow.holds Try.pinned (OpenSpec.ofChange fnExactIsTrilaterationWrong)

/-- 'laws.FnExactTrilaterationOrder': WHATEVER THE INPUT: true; the input reads as it did. -/
def fnExactTrilaterationOrderSpec : ChangeSpec := { name := "fnExactTrilaterationOrder", fn := fun _ => fun
  | [d1, d2] => { results := [.lit (.bool true)], args := [d1, d2] }
  | _ => none }
def fnExactTrilaterationOrderRow : OpenClaim := { program := "ytlmlfbjcpajinaa", sum := "d806bcf04551ab8f105a3ea6ef16dd7e1567459039552b12b436854d6fb0631e", func := "loop.example/g02078/laws.FnExactTrilaterationOrder", spec := "fnExactTrilaterationOrder", apart := false }
def FnExactTrilaterationOrderSaid : Prop := fnExactTrilaterationOrderRow.holds Try.pinned (OpenSpec.ofChange fnExactTrilaterationOrderSpec)

/-- ITS FALSE NEIGHBOUR: 'it returns false'. Refute it at one input. -/
def fnExactTrilaterationOrderWrong : ChangeSpec := { name := "fnExactTrilaterationOrder", fn := fun _ => fun
  | [d1, d2] => { results := [.lit (.bool false)], args := [d1, d2] }
  | _ => none }
def FnExactTrilaterationOrderWrongFalsely : Prop := fnExactTrilaterationOrderRow.holds Try.pinned (OpenSpec.ofChange fnExactTrilaterationOrderWrong)

/-- 'laws.FnExactIsLinkage': WHATEVER THE INPUT: true; the input reads as it did. -/
def fnExactIsLinkageSpec : ChangeSpec := { name := "fnExactIsLinkage", fn := fun _ => fun
  | [d] => { results := [.lit (.bool true)], args := [d] }
  | _ => none }
def fnExactIsLinkageRow : OpenClaim := { program := "ytlmlfbjcpajinaa", sum := "d806bcf04551ab8f105a3ea6ef16dd7e1567459039552b12b436854d6fb0631e", func := "loop.example/g02078/laws.FnExactIsLinkage", spec := "fnExactIsLinkage", apart := false }
def FnExactIsLinkageSaid : Prop := fnExactIsLinkageRow.holds Try.pinned (OpenSpec.ofChange fnExactIsLinkageSpec)

/-- ITS FALSE NEIGHBOUR: 'it returns false'. Refute it at one input. -/
def fnExactIsLinkageWrong : ChangeSpec := { name := "fnExactIsLinkage", fn := fun _ => fun
  | [d] => { results := [.lit (.bool false)], args := [d] }
  | _ => none }
def FnExactIsLinkageWrongFalsely : Prop := fnExactIsLinkageRow.holds Try.pinned (OpenSpec.ofChange fnExactIsLinkageWrong)

/-- 'laws.FnExactAreOwners': WHATEVER THE INPUT: true; the input reads as it did. -/
def fnExactAreOwnersSpec : ChangeSpec := { name := "fnExactAreOwners", fn := fun _ => fun
  | [d1, d2] => { results := [.lit (.bool true)], args := [d1, d2] }
  | _ => none }
def fnExactAreOwnersRow : OpenClaim := { program := "ytlmlfbjcpajinaa", sum := "d806bcf04551ab8f105a3ea6ef16dd7e1567459039552b12b436854d6fb0631e", func := "loop.example/g02078/laws.FnExactAreOwners", spec := "fnExactAreOwners", apart := false }
def FnExactAreOwnersSaid : Prop := fnExactAreOwnersRow.holds Try.pinned (OpenSpec.ofChange fnExactAreOwnersSpec)

/-- ITS FALSE NEIGHBOUR: 'it returns false'. Refute it at one input. -/
def fnExactAreOwnersWrong : ChangeSpec := { name := "fnExactAreOwners", fn := fun _ => fun
  | [d1, d2] => { results := [.lit (.bool false)], args := [d1, d2] }
  | _ => none }
def FnExactAreOwnersWrongFalsely : Prop := fnExactAreOwnersRow.holds Try.pinned (OpenSpec.ofChange fnExactAreOwnersWrong)

/-- 'laws.FnExactIsRaise': WHATEVER THE INPUT: true; the input reads as it did. -/
def fnExactIsRaiseSpec : ChangeSpec := { name := "fnExactIsRaise", fn := fun _ => fun
  | [d1, d2, d3] => { results := [.lit (.bool true)], args := [d1, d2, d3] }
  | _ => none }
def fnExactIsRaiseRow : OpenClaim := { program := "ytlmlfbjcpajinaa", sum := "d806bcf04551ab8f105a3ea6ef16dd7e1567459039552b12b436854d6fb0631e", func := "loop.example/g02078/laws.FnExactIsRaise", spec := "fnExactIsRaise", apart := false }
def FnExactIsRaiseSaid : Prop := fnExactIsRaiseRow.holds Try.pinned (OpenSpec.ofChange fnExactIsRaiseSpec)

/-- ITS FALSE NEIGHBOUR: 'it returns false'. Refute it at one input. -/
def fnExactIsRaiseWrong : ChangeSpec := { name := "fnExactIsRaise", fn := fun _ => fun
  | [d1, d2, d3] => { results := [.lit (.bool false)], args := [d1, d2, d3] }
  | _ => none }
def FnExactIsRaiseWrongFalsely : Prop := fnExactIsRaiseRow.holds Try.pinned (OpenSpec.ofChange fnExactIsRaiseWrong)

/-- 'laws.FnExactDamaged': WHATEVER THE INPUT: true; the input reads as it did. -/
def fnExactDamagedSpec : ChangeSpec := { name := "fnExactDamaged", fn := fun _ => fun
  | [d1, d2] => { results := [.lit (.bool true)], args := [d1, d2] }
  | _ => none }
def fnExactDamagedRow : OpenClaim := { program := "ytlmlfbjcpajinaa", sum := "d806bcf04551ab8f105a3ea6ef16dd7e1567459039552b12b436854d6fb0631e", func := "loop.example/g02078/laws.FnExactDamaged", spec := "fnExactDamaged", apart := false }
def FnExactDamagedSaid : Prop := fnExactDamagedRow.holds Try.pinned (OpenSpec.ofChange fnExactDamagedSpec)

/-- ITS FALSE NEIGHBOUR: 'it returns false'. Refute it at one input. -/
def fnExactDamagedWrong : ChangeSpec := { name := "fnExactDamaged", fn := fun _ => fun
  | [d1, d2] => { results := [.lit (.bool false)], args := [d1, d2] }
  | _ => none }
def FnExactDamagedWrongFalsely : Prop := fnExactDamagedRow.holds Try.pinned (OpenSpec.ofChange fnExactDamagedWrong)

/-- 'laws.FnExactIsPose': WHATEVER THE INPUT: true; the input reads as it did. -/
def fnExactIsPoseSpec : ChangeSpec := { name := "fnExactIsPose", fn := fun _ => fun
  | [d1, d2] => { results := [.lit (.bool true)], args := [d1, d2] }
  | _ => none }
def fnExactIsPoseRow : OpenClaim := { program := "ytlmlfbjcpajinaa", sum := "d806bcf04551ab8f105a3ea6ef16dd7e1567459039552b12b436854d6fb0631e", func := "loop.example/g02078/laws.FnExactIsPose", spec := "fnExactIsPose", apart := false }
def FnExactIsPoseSaid : Prop := fnExactIsPoseRow.holds Try.pinned (OpenSpec.ofChange fnExactIsPoseSpec)

/-- ITS FALSE NEIGHBOUR: 'it returns false'. Refute it at one input. -/
def fnExactIsPoseWrong : ChangeSpec := { name := "fnExactIsPose", fn := fun _ => fun
  | [d1, d2] => { results := [.lit (.bool false)], args := [d1, d2] }
  | _ => none }
def FnExactIsPoseWrongFalsely : Prop := fnExactIsPoseRow.holds Try.pinned (OpenSpec.ofChange fnExactIsPoseWrong)

/-- 'laws.FnExactFreeJoints': WHATEVER THE INPUT: true; the input reads as it did. -/
def fnExactFreeJointsSpec : ChangeSpec := { name := "fnExactFreeJoints", fn := fun _ => fun
  | [d] => { results := [.lit (.bool true)], args := [d] }
  | _ => none }
def fnExactFreeJointsRow : OpenClaim := { program := "ytlmlfbjcpajinaa", sum := "d806bcf04551ab8f105a3ea6ef16dd7e1567459039552b12b436854d6fb0631e", func := "loop.example/g02078/laws.FnExactFreeJoints", spec := "fnExactFreeJoints", apart := false }
def FnExactFreeJointsSaid : Prop := fnExactFreeJointsRow.holds Try.pinned (OpenSpec.ofChange fnExactFreeJointsSpec)

/-- ITS FALSE NEIGHBOUR: 'it returns false'. Refute it at one input. -/
def fnExactFreeJointsWrong : ChangeSpec := { name := "fnExactFreeJoints", fn := fun _ => fun
  | [d] => { results := [.lit (.bool false)], args := [d] }
  | _ => none }
def FnExactFreeJointsWrongFalsely : Prop := fnExactFreeJointsRow.holds Try.pinned (OpenSpec.ofChange fnExactFreeJointsWrong)

/-- 'laws.FnExactIsRaising': WHATEVER THE INPUT: true; the input reads as it did. -/
def fnExactIsRaisingSpec : ChangeSpec := { name := "fnExactIsRaising", fn := fun _ => fun
  | [d1, d2] => { results := [.lit (.bool true)], args := [d1, d2] }
  | _ => none }
def fnExactIsRaisingRow : OpenClaim := { program := "ytlmlfbjcpajinaa", sum := "d806bcf04551ab8f105a3ea6ef16dd7e1567459039552b12b436854d6fb0631e", func := "loop.example/g02078/laws.FnExactIsRaising", spec := "fnExactIsRaising", apart := false }
def FnExactIsRaisingSaid : Prop := fnExactIsRaisingRow.holds Try.pinned (OpenSpec.ofChange fnExactIsRaisingSpec)

/-- ITS FALSE NEIGHBOUR: 'it returns false'. Refute it at one input. -/
def fnExactIsRaisingWrong : ChangeSpec := { name := "fnExactIsRaising", fn := fun _ => fun
  | [d1, d2] => { results := [.lit (.bool false)], args := [d1, d2] }
  | _ => none }
def FnExactIsRaisingWrongFalsely : Prop := fnExactIsRaisingRow.holds Try.pinned (OpenSpec.ofChange fnExactIsRaisingWrong)

/- THE SECOND FORM. 'bulk': how many values and letters a reading holds, each counted each time it is reached (what is shared counts as often as it is met; a slice's spare places count too). A statement '..UptoSaid' is the law's where the arguments, and the package variables that the reading takes, are together of bulk at most 1048576: NARROWER than '..Said'. Prove '..Said' where nothing that the law and all that it calls make is longer than what came in: it says more and counts as full. Else prove '..UptoSaid'. A law counts once. -/
mutual
def uptoBulk {H : Type} : DataW H → Nat
  | .lit (.string bytes) => bytes.length + 1
  | .lit _ => 1
  | .nil => 1
  | .ptr d => uptoBulk d + 1
  | .slice elems spare => uptoBulkAll elems + uptoBulkAll spare + 1
  | .agg parts => uptoBulkAll parts + 1
  | .iface _ d => uptoBulk d + 1
  | .map entries => uptoBulkEntries entries + 1
  | .held _ => 1
def uptoBulkAll {H : Type} : List (DataW H) → Nat
  | [] => 0
  | d :: r => uptoBulk d + uptoBulkAll r
def uptoBulkEntries {H : Type} : List (Lit × DataW H) → Nat
  | [] => 0
  | x :: r => uptoBulkEntry x + uptoBulkEntries r
def uptoBulkEntry {H : Type} : Lit × DataW H → Nat
  | (.string bytes, d) => bytes.length + uptoBulk d + 1
  | (_, d) => uptoBulk d + 1
 end
def uptoSmall : (H : Type) → List (DataW H) → Bool := fun _ ds => decide (uptoBulkAll ds ≤ 1048576)
def OpenSpec.upto (s : _root_.Go.ChangeSpec) : _root_.Go.OpenSpec := { _root_.Go.OpenSpec.ofChange s with cond := some uptoSmall }

/-- 'laws.FnExactIsPlanar', WHERE WHAT IT READS IS OF BULK AT MOST 1048576: true; the input reads as it did. -/
def fnExactIsPlanarUptoRow : OpenClaim := { program := "ytlmlfbjcpajinaa", sum := "d806bcf04551ab8f105a3ea6ef16dd7e1567459039552b12b436854d6fb0631e", func := "loop.example/g02078/laws.FnExactIsPlanar", spec := "fnExactIsPlanar", recurses := true, apart := false, narrowed := true }
def FnExactIsPlanarUptoSaid : Prop := fnExactIsPlanarUptoRow.holds Try.pinned (OpenSpec.upto fnExactIsPlanarSpec)

/-- 'laws.FnExactFormatRaising', WHERE WHAT IT READS IS OF BULK AT MOST 1048576: true; the input reads as it did. -/
def fnExactFormatRaisingUptoRow : OpenClaim := { program := "ytlmlfbjcpajinaa", sum := "d806bcf04551ab8f105a3ea6ef16dd7e1567459039552b12b436854d6fb0631e", func := "loop.example/g02078/laws.FnExactFormatRaising", spec := "fnExactFormatRaising", apart := false, narrowed := true }
def FnExactFormatRaisingUptoSaid : Prop := fnExactFormatRaisingUptoRow.holds Try.pinned (OpenSpec.upto fnExactFormatRaisingSpec)

/-- 'laws.FnExactLastSquares', WHERE WHAT IT READS IS OF BULK AT MOST 1048576: true; the input reads as it did. -/
def fnExactLastSquaresUptoRow : OpenClaim := { program := "ytlmlfbjcpajinaa", sum := "d806bcf04551ab8f105a3ea6ef16dd7e1567459039552b12b436854d6fb0631e", func := "loop.example/g02078/laws.FnExactLastSquares", spec := "fnExactLastSquares", recurses := true, apart := false, narrowed := true }
def FnExactLastSquaresUptoSaid : Prop := fnExactLastSquaresUptoRow.holds Try.pinned (OpenSpec.upto fnExactLastSquaresSpec)

/-- 'laws.FnExactIsTrilateration', WHERE WHAT IT READS IS OF BULK AT MOST 1048576: true; the input reads as it did. -/
def fnExactIsTrilaterationUptoRow : OpenClaim := { program := "ytlmlfbjcpajinaa", sum := "d806bcf04551ab8f105a3ea6ef16dd7e1567459039552b12b436854d6fb0631e", func := "loop.example/g02078/laws.FnExactIsTrilateration", spec := "fnExactIsTrilateration", apart := false, narrowed := true }
def FnExactIsTrilaterationUptoSaid : Prop := fnExactIsTrilaterationUptoRow.holds Try.pinned (OpenSpec.upto fnExactIsTrilaterationSpec)

/-- 'laws.FnExactTrilaterationOrder', WHERE WHAT IT READS IS OF BULK AT MOST 1048576: true; the input reads as it did. -/
def fnExactTrilaterationOrderUptoRow : OpenClaim := { program := "ytlmlfbjcpajinaa", sum := "d806bcf04551ab8f105a3ea6ef16dd7e1567459039552b12b436854d6fb0631e", func := "loop.example/g02078/laws.FnExactTrilaterationOrder", spec := "fnExactTrilaterationOrder", apart := false, narrowed := true }
def FnExactTrilaterationOrderUptoSaid : Prop := fnExactTrilaterationOrderUptoRow.holds Try.pinned (OpenSpec.upto fnExactTrilaterationOrderSpec)

/-- 'laws.FnExactIsLinkage', WHERE WHAT IT READS IS OF BULK AT MOST 1048576: true; the input reads as it did. -/
def fnExactIsLinkageUptoRow : OpenClaim := { program := "ytlmlfbjcpajinaa", sum := "d806bcf04551ab8f105a3ea6ef16dd7e1567459039552b12b436854d6fb0631e", func := "loop.example/g02078/laws.FnExactIsLinkage", spec := "fnExactIsLinkage", apart := false, narrowed := true }
def FnExactIsLinkageUptoSaid : Prop := fnExactIsLinkageUptoRow.holds Try.pinned (OpenSpec.upto fnExactIsLinkageSpec)

/-- 'laws.FnExactAreOwners', WHERE WHAT IT READS IS OF BULK AT MOST 1048576: true; the input reads as it did. -/
def fnExactAreOwnersUptoRow : OpenClaim := { program := "ytlmlfbjcpajinaa", sum := "d806bcf04551ab8f105a3ea6ef16dd7e1567459039552b12b436854d6fb0631e", func := "loop.example/g02078/laws.FnExactAreOwners", spec := "fnExactAreOwners", apart := false, narrowed := true }
def FnExactAreOwnersUptoSaid : Prop := fnExactAreOwnersUptoRow.holds Try.pinned (OpenSpec.upto fnExactAreOwnersSpec)

/-- 'laws.FnExactIsRaise', WHERE WHAT IT READS IS OF BULK AT MOST 1048576: true; the input reads as it did. -/
def fnExactIsRaiseUptoRow : OpenClaim := { program := "ytlmlfbjcpajinaa", sum := "d806bcf04551ab8f105a3ea6ef16dd7e1567459039552b12b436854d6fb0631e", func := "loop.example/g02078/laws.FnExactIsRaise", spec := "fnExactIsRaise", apart := false, narrowed := true }
def FnExactIsRaiseUptoSaid : Prop := fnExactIsRaiseUptoRow.holds Try.pinned (OpenSpec.upto fnExactIsRaiseSpec)

/-- 'laws.FnExactDamaged', WHERE WHAT IT READS IS OF BULK AT MOST 1048576: true; the input reads as it did. -/
def fnExactDamagedUptoRow : OpenClaim := { program := "ytlmlfbjcpajinaa", sum := "d806bcf04551ab8f105a3ea6ef16dd7e1567459039552b12b436854d6fb0631e", func := "loop.example/g02078/laws.FnExactDamaged", spec := "fnExactDamaged", apart := false, narrowed := true }
def FnExactDamagedUptoSaid : Prop := fnExactDamagedUptoRow.holds Try.pinned (OpenSpec.upto fnExactDamagedSpec)

/-- 'laws.FnExactIsPose', WHERE WHAT IT READS IS OF BULK AT MOST 1048576: true; the input reads as it did. -/
def fnExactIsPoseUptoRow : OpenClaim := { program := "ytlmlfbjcpajinaa", sum := "d806bcf04551ab8f105a3ea6ef16dd7e1567459039552b12b436854d6fb0631e", func := "loop.example/g02078/laws.FnExactIsPose", spec := "fnExactIsPose", apart := false, narrowed := true }
def FnExactIsPoseUptoSaid : Prop := fnExactIsPoseUptoRow.holds Try.pinned (OpenSpec.upto fnExactIsPoseSpec)

/-- 'laws.FnExactFreeJoints', WHERE WHAT IT READS IS OF BULK AT MOST 1048576: true; the input reads as it did. -/
def fnExactFreeJointsUptoRow : OpenClaim := { program := "ytlmlfbjcpajinaa", sum := "d806bcf04551ab8f105a3ea6ef16dd7e1567459039552b12b436854d6fb0631e", func := "loop.example/g02078/laws.FnExactFreeJoints", spec := "fnExactFreeJoints", apart := false, narrowed := true }
def FnExactFreeJointsUptoSaid : Prop := fnExactFreeJointsUptoRow.holds Try.pinned (OpenSpec.upto fnExactFreeJointsSpec)

/-- 'laws.FnExactIsRaising', WHERE WHAT IT READS IS OF BULK AT MOST 1048576: true; the input reads as it did. -/
def fnExactIsRaisingUptoRow : OpenClaim := { program := "ytlmlfbjcpajinaa", sum := "d806bcf04551ab8f105a3ea6ef16dd7e1567459039552b12b436854d6fb0631e", func := "loop.example/g02078/laws.FnExactIsRaising", spec := "fnExactIsRaising", apart := false, narrowed := true }
def FnExactIsRaisingUptoSaid : Prop := fnExactIsRaisingUptoRow.holds Try.pinned (OpenSpec.upto fnExactIsRaisingSpec)

end Rows
end Go.Proofs.Ytlmlfbjcpajinaa
