/-
  No cell of these rows narrows 'for every input' (looked for: loops, veiled, ifaces, maps, wideKeys, modest, calm, conditions, laid).
  DERIVED. THE GIVEN ROWS OF THIS SEAT. 6 by the template 'for every input the law returns true; each argument reads behind the call as it read before'; 0 by the template 'total and deterministic' (their statements: YtafblagnkjkdcaaTotals.lean).
  GIVEN WITH THE SEED: the statements are not yours to turn. If you find one false, say at which input.
  Laid BY PROGRAM, IN A SANDBOX (cutbox-rows.mjs): the forced cells as the released guide's own fill.sh prints them over the translation 06529289bca5137c… (all of the seat's roots in one cut). By AI agents, Wed Nov 11 2026. No macro, syntax, notation, axiom, sorry.
-/
import Derived.Test.YtafblagnkjkdcaaChecked
import GoSem.Claim
import GoSem.ClaimJoined
import GoSem.ClaimMapViews
import Derived.JoinedTies
import Derived.KernelRfl
namespace Go.Proofs.Ytafblagnkjkdcaa
/- THE CELL 'sum', in the pinned program and in every row, IS THE sha256 OF THE DUMP (.gsa) THAT YtafblagnkjkdcaaProg.lean LOADS. Nothing in Lean hashes anything: it is a label: what it is worth is what the hold of that sum in a sandbox is worth. -/
noncomputable def Try.pinned : Pinned := { name := "ytafblagnkjkdcaa", sum := "06529289bca5137c4318d95b841039cfed034773d7a1bec0daadb4cb7c8e38d7", checked := Try.checked }
namespace Rows
def none {H : Type} : Left H := { results := [], args := [] }

/-- 'laws.FnExactHeronOf': WHATEVER THE INPUT: true; the input reads as it did. -/
def fnExactHeronOfSpec : ChangeSpec := { name := "fnExactHeronOf", fn := fun _ => fun
  | [d1, d2, d3] => { results := [.lit (.bool true)], args := [d1, d2, d3] }
  | _ => none }
def fnExactHeronOfRow : OpenClaim := { program := "ytafblagnkjkdcaa", sum := "06529289bca5137c4318d95b841039cfed034773d7a1bec0daadb4cb7c8e38d7", func := "loop.example/g02078/laws.FnExactHeronOf", spec := "fnExactHeronOf", apart := false }
def FnExactHeronOfSaid : Prop := fnExactHeronOfRow.holds Try.pinned (OpenSpec.ofChange fnExactHeronOfSpec)

/-- ITS FALSE NEIGHBOUR: 'it returns false'. Refute it at one input. -/
def fnExactHeronOfWrong : ChangeSpec := { name := "fnExactHeronOf", fn := fun _ => fun
  | [d1, d2, d3] => { results := [.lit (.bool false)], args := [d1, d2, d3] }
  | _ => none }
def FnExactHeronOfWrongFalsely : Prop := fnExactHeronOfRow.holds Try.pinned (OpenSpec.ofChange fnExactHeronOfWrong)

/-- 'laws.FnExactIsTriangle': WHATEVER THE INPUT: true; the input reads as it did. -/
def fnExactIsTriangleSpec : ChangeSpec := { name := "fnExactIsTriangle", fn := fun _ => fun
  | [d1, d2, d3] => { results := [.lit (.bool true)], args := [d1, d2, d3] }
  | _ => none }
def fnExactIsTriangleRow : OpenClaim := { program := "ytafblagnkjkdcaa", sum := "06529289bca5137c4318d95b841039cfed034773d7a1bec0daadb4cb7c8e38d7", func := "loop.example/g02078/laws.FnExactIsTriangle", spec := "fnExactIsTriangle", apart := false }
def FnExactIsTriangleSaid : Prop := fnExactIsTriangleRow.holds Try.pinned (OpenSpec.ofChange fnExactIsTriangleSpec)

/-- ITS FALSE NEIGHBOUR: 'it returns false'. Refute it at one input. -/
def fnExactIsTriangleWrong : ChangeSpec := { name := "fnExactIsTriangle", fn := fun _ => fun
  | [d1, d2, d3] => { results := [.lit (.bool false)], args := [d1, d2, d3] }
  | _ => none }
def FnExactIsTriangleWrongFalsely : Prop := fnExactIsTriangleRow.holds Try.pinned (OpenSpec.ofChange fnExactIsTriangleWrong)

/-- 'laws.FnExactAreNear': WHATEVER THE INPUT: true; the input reads as it did. -/
def fnExactAreNearSpec : ChangeSpec := { name := "fnExactAreNear", fn := fun _ => fun
  | [d1, d2] => { results := [.lit (.bool true)], args := [d1, d2] }
  | _ => none }
def fnExactAreNearRow : OpenClaim := { program := "ytafblagnkjkdcaa", sum := "06529289bca5137c4318d95b841039cfed034773d7a1bec0daadb4cb7c8e38d7", func := "loop.example/g02078/laws.FnExactAreNear", spec := "fnExactAreNear", apart := false }
def FnExactAreNearSaid : Prop := fnExactAreNearRow.holds Try.pinned (OpenSpec.ofChange fnExactAreNearSpec)

/-- ITS FALSE NEIGHBOUR: 'it returns false'. Refute it at one input. -/
def fnExactAreNearWrong : ChangeSpec := { name := "fnExactAreNear", fn := fun _ => fun
  | [d1, d2] => { results := [.lit (.bool false)], args := [d1, d2] }
  | _ => none }
def FnExactAreNearWrongFalsely : Prop := fnExactAreNearRow.holds Try.pinned (OpenSpec.ofChange fnExactAreNearWrong)

/-- 'laws.FnExactIndexOfPose': WHATEVER THE INPUT: true; the input reads as it did. -/
def fnExactIndexOfPoseSpec : ChangeSpec := { name := "fnExactIndexOfPose", fn := fun _ => fun
  | [d1, d2] => { results := [.lit (.bool true)], args := [d1, d2] }
  | _ => none }
def fnExactIndexOfPoseRow : OpenClaim := { program := "ytafblagnkjkdcaa", sum := "06529289bca5137c4318d95b841039cfed034773d7a1bec0daadb4cb7c8e38d7", func := "loop.example/g02078/laws.FnExactIndexOfPose", spec := "fnExactIndexOfPose", apart := false }
def FnExactIndexOfPoseSaid : Prop := fnExactIndexOfPoseRow.holds Try.pinned (OpenSpec.ofChange fnExactIndexOfPoseSpec)

/-- ITS FALSE NEIGHBOUR: 'it returns false'. Refute it at one input. -/
def fnExactIndexOfPoseWrong : ChangeSpec := { name := "fnExactIndexOfPose", fn := fun _ => fun
  | [d1, d2] => { results := [.lit (.bool false)], args := [d1, d2] }
  | _ => none }
def FnExactIndexOfPoseWrongFalsely : Prop := fnExactIndexOfPoseRow.holds Try.pinned (OpenSpec.ofChange fnExactIndexOfPoseWrong)

/-- 'laws.FnExactMengerOf': WHATEVER THE INPUT: true; the input reads as it did. -/
def fnExactMengerOfSpec : ChangeSpec := { name := "fnExactMengerOf", fn := fun _ => fun
  | [d] => { results := [.lit (.bool true)], args := [d] }
  | _ => none }
def fnExactMengerOfRow : OpenClaim := { program := "ytafblagnkjkdcaa", sum := "06529289bca5137c4318d95b841039cfed034773d7a1bec0daadb4cb7c8e38d7", func := "loop.example/g02078/laws.FnExactMengerOf", spec := "fnExactMengerOf", recurses := true, apart := false }
def FnExactMengerOfSaid : Prop := fnExactMengerOfRow.holds Try.pinned (OpenSpec.ofChange fnExactMengerOfSpec)

/-- ITS FALSE NEIGHBOUR: 'it returns false'. Refute it at one input. -/
def fnExactMengerOfWrong : ChangeSpec := { name := "fnExactMengerOf", fn := fun _ => fun
  | [d] => { results := [.lit (.bool false)], args := [d] }
  | _ => none }
def FnExactMengerOfWrongFalsely : Prop := fnExactMengerOfRow.holds Try.pinned (OpenSpec.ofChange fnExactMengerOfWrong)

/-- 'laws.FnExactSquaresOf': WHATEVER THE INPUT: true; the input reads as it did. -/
def fnExactSquaresOfSpec : ChangeSpec := { name := "fnExactSquaresOf", fn := fun _ => fun
  | [d] => { results := [.lit (.bool true)], args := [d] }
  | _ => none }
def fnExactSquaresOfRow : OpenClaim := { program := "ytafblagnkjkdcaa", sum := "06529289bca5137c4318d95b841039cfed034773d7a1bec0daadb4cb7c8e38d7", func := "loop.example/g02078/laws.FnExactSquaresOf", spec := "fnExactSquaresOf", apart := false }
def FnExactSquaresOfSaid : Prop := fnExactSquaresOfRow.holds Try.pinned (OpenSpec.ofChange fnExactSquaresOfSpec)

/-- ITS FALSE NEIGHBOUR: 'it returns false'. Refute it at one input. -/
def fnExactSquaresOfWrong : ChangeSpec := { name := "fnExactSquaresOf", fn := fun _ => fun
  | [d] => { results := [.lit (.bool false)], args := [d] }
  | _ => none }
def FnExactSquaresOfWrongFalsely : Prop := fnExactSquaresOfRow.holds Try.pinned (OpenSpec.ofChange fnExactSquaresOfWrong)

/- THE SECOND FORM. 'bulk': how many values and letters a reading holds, each counted each time it is reached (what is shared counts as often as it is met; a slice's spare places count too). A statement '..UptoSaid' is the law's where the arguments, and the package variables that the reading takes, are together of bulk at most 1048576: NARROWER than '..Said'. Prove '..Said' where nothing that the law and all that it calls make is longer than what came in: it says more and counts as full. Else prove '..UptoSaid'. A law counts once. -/
mutual
def uptoBulk {H : Type} : DataW H → Nat
  | .lit (.string bytes) => bytes.length + 1
  | .lit _ => 1
  | .nil => 1
  | .ptr d => uptoBulk d + 1
  | .slice elems spare => uptoBulkAll elems + uptoBulkAll spare + 1
  | .agg parts => uptoBulkAll parts + 1
  | .iface _ d => uptoBulk d + 1
  | .map entries => uptoBulkEntries entries + 1
  | .held _ => 1
def uptoBulkAll {H : Type} : List (DataW H) → Nat
  | [] => 0
  | d :: r => uptoBulk d + uptoBulkAll r
def uptoBulkEntries {H : Type} : List (Lit × DataW H) → Nat
  | [] => 0
  | x :: r => uptoBulkEntry x + uptoBulkEntries r
def uptoBulkEntry {H : Type} : Lit × DataW H → Nat
  | (.string bytes, d) => bytes.length + uptoBulk d + 1
  | (_, d) => uptoBulk d + 1
 end
def uptoSmall : (H : Type) → List (DataW H) → Bool := fun _ ds => decide (uptoBulkAll ds ≤ 1048576)
def OpenSpec.upto (s : _root_.Go.ChangeSpec) : _root_.Go.OpenSpec := { _root_.Go.OpenSpec.ofChange s with cond := some uptoSmall }

/-- 'laws.FnExactHeronOf', WHERE WHAT IT READS IS OF BULK AT MOST 1048576: true; the input reads as it did. -/
def fnExactHeronOfUptoRow : OpenClaim := { program := "ytafblagnkjkdcaa", sum := "06529289bca5137c4318d95b841039cfed034773d7a1bec0daadb4cb7c8e38d7", func := "loop.example/g02078/laws.FnExactHeronOf", spec := "fnExactHeronOf", apart := false, narrowed := true }
def FnExactHeronOfUptoSaid : Prop := fnExactHeronOfUptoRow.holds Try.pinned (OpenSpec.upto fnExactHeronOfSpec)

/-- 'laws.FnExactIsTriangle', WHERE WHAT IT READS IS OF BULK AT MOST 1048576: true; the input reads as it did. -/
def fnExactIsTriangleUptoRow : OpenClaim := { program := "ytafblagnkjkdcaa", sum := "06529289bca5137c4318d95b841039cfed034773d7a1bec0daadb4cb7c8e38d7", func := "loop.example/g02078/laws.FnExactIsTriangle", spec := "fnExactIsTriangle", apart := false, narrowed := true }
def FnExactIsTriangleUptoSaid : Prop := fnExactIsTriangleUptoRow.holds Try.pinned (OpenSpec.upto fnExactIsTriangleSpec)

/-- 'laws.FnExactAreNear', WHERE WHAT IT READS IS OF BULK AT MOST 1048576: true; the input reads as it did. -/
def fnExactAreNearUptoRow : OpenClaim := { program := "ytafblagnkjkdcaa", sum := "06529289bca5137c4318d95b841039cfed034773d7a1bec0daadb4cb7c8e38d7", func := "loop.example/g02078/laws.FnExactAreNear", spec := "fnExactAreNear", apart := false, narrowed := true }
def FnExactAreNearUptoSaid : Prop := fnExactAreNearUptoRow.holds Try.pinned (OpenSpec.upto fnExactAreNearSpec)

/-- 'laws.FnExactIndexOfPose', WHERE WHAT IT READS IS OF BULK AT MOST 1048576: true; the input reads as it did. -/
def fnExactIndexOfPoseUptoRow : OpenClaim := { program := "ytafblagnkjkdcaa", sum := "06529289bca5137c4318d95b841039cfed034773d7a1bec0daadb4cb7c8e38d7", func := "loop.example/g02078/laws.FnExactIndexOfPose", spec := "fnExactIndexOfPose", apart := false, narrowed := true }
def FnExactIndexOfPoseUptoSaid : Prop := fnExactIndexOfPoseUptoRow.holds Try.pinned (OpenSpec.upto fnExactIndexOfPoseSpec)

/-- 'laws.FnExactMengerOf', WHERE WHAT IT READS IS OF BULK AT MOST 1048576: true; the input reads as it did. -/
def fnExactMengerOfUptoRow : OpenClaim := { program := "ytafblagnkjkdcaa", sum := "06529289bca5137c4318d95b841039cfed034773d7a1bec0daadb4cb7c8e38d7", func := "loop.example/g02078/laws.FnExactMengerOf", spec := "fnExactMengerOf", recurses := true, apart := false, narrowed := true }
def FnExactMengerOfUptoSaid : Prop := fnExactMengerOfUptoRow.holds Try.pinned (OpenSpec.upto fnExactMengerOfSpec)

/-- 'laws.FnExactSquaresOf', WHERE WHAT IT READS IS OF BULK AT MOST 1048576: true; the input reads as it did. -/
def fnExactSquaresOfUptoRow : OpenClaim := { program := "ytafblagnkjkdcaa", sum := "06529289bca5137c4318d95b841039cfed034773d7a1bec0daadb4cb7c8e38d7", func := "loop.example/g02078/laws.FnExactSquaresOf", spec := "fnExactSquaresOf", apart := false, narrowed := true }
def FnExactSquaresOfUptoSaid : Prop := fnExactSquaresOfUptoRow.holds Try.pinned (OpenSpec.upto fnExactSquaresOfSpec)

end Rows
end Go.Proofs.Ytafblagnkjkdcaa
