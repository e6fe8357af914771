/-
  No cell of these rows narrows 'for every input' (looked for: loops, veiled, ifaces, maps, wideKeys, modest, calm, conditions, laid).
  DERIVED. THE GIVEN ROWS OF THIS SEAT. 6 by the template 'for every input the law returns true; each argument reads behind the call as it read before'; 0 by the template 'total and deterministic' (their statements: YtcljhpldfanhkaaTotals.lean).
  GIVEN WITH THE SEED: the statements are not yours to turn. If you find one false, say at which input.
  Laid BY PROGRAM, IN A SANDBOX (cutbox-rows.mjs): the forced cells as the released guide's own fill.sh prints them over the translation b3587297629fb272… (all of the seat's roots in one cut). By AI agents, Wed Nov 11 2026. No macro, syntax, notation, axiom, sorry.
-/
import Derived.Test.YtcljhpldfanhkaaChecked
import GoSem.Claim
import GoSem.ClaimJoined
import GoSem.ClaimMapViews
import Derived.JoinedTies
import Derived.KernelRfl
namespace Go.Proofs.Ytcljhpldfanhkaa
/- THE CELL 'sum', in the pinned program and in every row, IS THE sha256 OF THE DUMP (.gsa) THAT YtcljhpldfanhkaaProg.lean LOADS. Nothing in Lean hashes anything: it is a label: what it is worth is what the hold of that sum in a sandbox is worth. -/
noncomputable def Try.pinned : Pinned := { name := "ytcljhpldfanhkaa", sum := "b3587297629fb272f095df882820aa67c5a5ff7c325841ae11fcd6f6155bb42c", checked := Try.checked }
namespace Rows
def none {H : Type} : Left H := { results := [], args := [] }

/-- 'laws.FnRaising': WHATEVER THE INPUT: true; the input reads as it did. -/
def fnRaisingSpec : ChangeSpec := { name := "fnRaising", fn := fun _ => fun
  | [d] => { results := [.lit (.bool true)], args := [d] }
  | _ => none }
def fnRaisingRow : OpenClaim := { program := "ytcljhpldfanhkaa", sum := "b3587297629fb272f095df882820aa67c5a5ff7c325841ae11fcd6f6155bb42c", func := "loop.example/g02078/laws.FnRaising", spec := "fnRaising", apart := false }
def FnRaisingSaid : Prop := fnRaisingRow.holds Try.pinned (OpenSpec.ofChange fnRaisingSpec)

/-- ITS FALSE NEIGHBOUR: 'it returns false'. Refute it at one input. -/
def fnRaisingWrong : ChangeSpec := { name := "fnRaising", fn := fun _ => fun
  | [d] => { results := [.lit (.bool false)], args := [d] }
  | _ => none }
def FnRaisingWrongFalsely : Prop := fnRaisingRow.holds Try.pinned (OpenSpec.ofChange fnRaisingWrong)

/-- 'laws.FnAssur': WHATEVER THE INPUT: true; the input reads as it did. -/
def fnAssurSpec : ChangeSpec := { name := "fnAssur", fn := fun _ => fun
  | [d] => { results := [.lit (.bool true)], args := [d] }
  | _ => none }
def fnAssurRow : OpenClaim := { program := "ytcljhpldfanhkaa", sum := "b3587297629fb272f095df882820aa67c5a5ff7c325841ae11fcd6f6155bb42c", func := "loop.example/g02078/laws.FnAssur", spec := "fnAssur", unfollowed := true, recurses := true, apart := false }
def FnAssurSaid : Prop := fnAssurRow.holds Try.pinned (OpenSpec.ofChange fnAssurSpec)

/-- ITS FALSE NEIGHBOUR: 'it returns false'. Refute it at one input. -/
def fnAssurWrong : ChangeSpec := { name := "fnAssur", fn := fun _ => fun
  | [d] => { results := [.lit (.bool false)], args := [d] }
  | _ => none }
def FnAssurWrongFalsely : Prop := fnAssurRow.holds Try.pinned (OpenSpec.ofChange fnAssurWrong)

/-- 'laws.FnLengths': WHATEVER THE INPUT: true; the input reads as it did. -/
def fnLengthsSpec : ChangeSpec := { name := "fnLengths", fn := fun _ => fun
  | [d] => { results := [.lit (.bool true)], args := [d] }
  | _ => none }
def fnLengthsRow : OpenClaim := { program := "ytcljhpldfanhkaa", sum := "b3587297629fb272f095df882820aa67c5a5ff7c325841ae11fcd6f6155bb42c", func := "loop.example/g02078/laws.FnLengths", spec := "fnLengths", recurses := true, apart := false }
def FnLengthsSaid : Prop := fnLengthsRow.holds Try.pinned (OpenSpec.ofChange fnLengthsSpec)

/-- ITS FALSE NEIGHBOUR: 'it returns false'. Refute it at one input. -/
def fnLengthsWrong : ChangeSpec := { name := "fnLengths", fn := fun _ => fun
  | [d] => { results := [.lit (.bool false)], args := [d] }
  | _ => none }
def FnLengthsWrongFalsely : Prop := fnLengthsRow.holds Try.pinned (OpenSpec.ofChange fnLengthsWrong)

/-- 'laws.FnPinned': WHATEVER THE INPUT: true; the input reads as it did. -/
def fnPinnedSpec : ChangeSpec := { name := "fnPinned", fn := fun _ => fun
  | [d] => { results := [.lit (.bool true)], args := [d] }
  | _ => none }
def fnPinnedRow : OpenClaim := { program := "ytcljhpldfanhkaa", sum := "b3587297629fb272f095df882820aa67c5a5ff7c325841ae11fcd6f6155bb42c", func := "loop.example/g02078/laws.FnPinned", spec := "fnPinned", apart := false }
def FnPinnedSaid : Prop := fnPinnedRow.holds Try.pinned (OpenSpec.ofChange fnPinnedSpec)

/-- ITS FALSE NEIGHBOUR: 'it returns false'. Refute it at one input. -/
def fnPinnedWrong : ChangeSpec := { name := "fnPinned", fn := fun _ => fun
  | [d] => { results := [.lit (.bool false)], args := [d] }
  | _ => none }
def FnPinnedWrongFalsely : Prop := fnPinnedRow.holds Try.pinned (OpenSpec.ofChange fnPinnedWrong)

/-- 'laws.FnLinkages': WHATEVER THE INPUT: true; the input reads as it did. -/
def fnLinkagesSpec : ChangeSpec := { name := "fnLinkages", fn := fun _ => fun
  | [d] => { results := [.lit (.bool true)], args := [d] }
  | _ => none }
def fnLinkagesRow : OpenClaim := { program := "ytcljhpldfanhkaa", sum := "b3587297629fb272f095df882820aa67c5a5ff7c325841ae11fcd6f6155bb42c", func := "loop.example/g02078/laws.FnLinkages", spec := "fnLinkages", unfollowed := true, recurses := true, apart := false }
def FnLinkagesSaid : Prop := fnLinkagesRow.holds Try.pinned (OpenSpec.ofChange fnLinkagesSpec)

/-- ITS FALSE NEIGHBOUR: 'it returns false'. Refute it at one input. -/
def fnLinkagesWrong : ChangeSpec := { name := "fnLinkages", fn := fun _ => fun
  | [d] => { results := [.lit (.bool false)], args := [d] }
  | _ => none }
def FnLinkagesWrongFalsely : Prop := fnLinkagesRow.holds Try.pinned (OpenSpec.ofChange fnLinkagesWrong)

/-- 'laws.FnRemoving': WHATEVER THE INPUT: true; the input reads as it did. -/
def fnRemovingSpec : ChangeSpec := { name := "fnRemoving", fn := fun _ => fun
  | [d] => { results := [.lit (.bool true)], args := [d] }
  | _ => none }
def fnRemovingRow : OpenClaim := { program := "ytcljhpldfanhkaa", sum := "b3587297629fb272f095df882820aa67c5a5ff7c325841ae11fcd6f6155bb42c", func := "loop.example/g02078/laws.FnRemoving", spec := "fnRemoving", apart := false }
def FnRemovingSaid : Prop := fnRemovingRow.holds Try.pinned (OpenSpec.ofChange fnRemovingSpec)

/-- ITS FALSE NEIGHBOUR: 'it returns false'. Refute it at one input. -/
def fnRemovingWrong : ChangeSpec := { name := "fnRemoving", fn := fun _ => fun
  | [d] => { results := [.lit (.bool false)], args := [d] }
  | _ => none }
def FnRemovingWrongFalsely : Prop := fnRemovingRow.holds Try.pinned (OpenSpec.ofChange fnRemovingWrong)

/- THE SECOND FORM. 'bulk': how many values and letters a reading holds, each counted each time it is reached (what is shared counts as often as it is met; a slice's spare places count too). A statement '..UptoSaid' is the law's where the arguments, and the package variables that the reading takes, are together of bulk at most 1048576: NARROWER than '..Said'. Prove '..Said' where nothing that the law and all that it calls make is longer than what came in: it says more and counts as full. Else prove '..UptoSaid'. A law counts once. -/
mutual
def uptoBulk {H : Type} : DataW H → Nat
  | .lit (.string bytes) => bytes.length + 1
  | .lit _ => 1
  | .nil => 1
  | .ptr d => uptoBulk d + 1
  | .slice elems spare => uptoBulkAll elems + uptoBulkAll spare + 1
  | .agg parts => uptoBulkAll parts + 1
  | .iface _ d => uptoBulk d + 1
  | .map entries => uptoBulkEntries entries + 1
  | .held _ => 1
def uptoBulkAll {H : Type} : List (DataW H) → Nat
  | [] => 0
  | d :: r => uptoBulk d + uptoBulkAll r
def uptoBulkEntries {H : Type} : List (Lit × DataW H) → Nat
  | [] => 0
  | x :: r => uptoBulkEntry x + uptoBulkEntries r
def uptoBulkEntry {H : Type} : Lit × DataW H → Nat
  | (.string bytes, d) => bytes.length + uptoBulk d + 1
  | (_, d) => uptoBulk d + 1
 end
def uptoSmall : (H : Type) → List (DataW H) → Bool := fun _ ds => decide (uptoBulkAll ds ≤ 1048576)
def OpenSpec.upto (s : _root_.Go.ChangeSpec) : _root_.Go.OpenSpec := { _root_.Go.OpenSpec.ofChange s with cond := some uptoSmall }

/-- 'laws.FnRaising', WHERE WHAT IT READS IS OF BULK AT MOST 1048576: true; the input reads as it did. -/
def fnRaisingUptoRow : OpenClaim := { program := "ytcljhpldfanhkaa", sum := "b3587297629fb272f095df882820aa67c5a5ff7c325841ae11fcd6f6155bb42c", func := "loop.example/g02078/laws.FnRaising", spec := "fnRaising", apart := false, narrowed := true }
def FnRaisingUptoSaid : Prop := fnRaisingUptoRow.holds Try.pinned (OpenSpec.upto fnRaisingSpec)

/-- 'laws.FnAssur', WHERE WHAT IT READS IS OF BULK AT MOST 1048576: true; the input reads as it did. -/
def fnAssurUptoRow : OpenClaim := { program := "ytcljhpldfanhkaa", sum := "b3587297629fb272f095df882820aa67c5a5ff7c325841ae11fcd6f6155bb42c", func := "loop.example/g02078/laws.FnAssur", spec := "fnAssur", unfollowed := true, recurses := true, apart := false, narrowed := true }
def FnAssurUptoSaid : Prop := fnAssurUptoRow.holds Try.pinned (OpenSpec.upto fnAssurSpec)

/-- 'laws.FnLengths', WHERE WHAT IT READS IS OF BULK AT MOST 1048576: true; the input reads as it did. -/
def fnLengthsUptoRow : OpenClaim := { program := "ytcljhpldfanhkaa", sum := "b3587297629fb272f095df882820aa67c5a5ff7c325841ae11fcd6f6155bb42c", func := "loop.example/g02078/laws.FnLengths", spec := "fnLengths", recurses := true, apart := false, narrowed := true }
def FnLengthsUptoSaid : Prop := fnLengthsUptoRow.holds Try.pinned (OpenSpec.upto fnLengthsSpec)

/-- 'laws.FnPinned', WHERE WHAT IT READS IS OF BULK AT MOST 1048576: true; the input reads as it did. -/
def fnPinnedUptoRow : OpenClaim := { program := "ytcljhpldfanhkaa", sum := "b3587297629fb272f095df882820aa67c5a5ff7c325841ae11fcd6f6155bb42c", func := "loop.example/g02078/laws.FnPinned", spec := "fnPinned", apart := false, narrowed := true }
def FnPinnedUptoSaid : Prop := fnPinnedUptoRow.holds Try.pinned (OpenSpec.upto fnPinnedSpec)

/-- 'laws.FnLinkages', WHERE WHAT IT READS IS OF BULK AT MOST 1048576: true; the input reads as it did. -/
def fnLinkagesUptoRow : OpenClaim := { program := "ytcljhpldfanhkaa", sum := "b3587297629fb272f095df882820aa67c5a5ff7c325841ae11fcd6f6155bb42c", func := "loop.example/g02078/laws.FnLinkages", spec := "fnLinkages", unfollowed := true, recurses := true, apart := false, narrowed := true }
def FnLinkagesUptoSaid : Prop := fnLinkagesUptoRow.holds Try.pinned (OpenSpec.upto fnLinkagesSpec)

/-- 'laws.FnRemoving', WHERE WHAT IT READS IS OF BULK AT MOST 1048576: true; the input reads as it did. -/
def fnRemovingUptoRow : OpenClaim := { program := "ytcljhpldfanhkaa", sum := "b3587297629fb272f095df882820aa67c5a5ff7c325841ae11fcd6f6155bb42c", func := "loop.example/g02078/laws.FnRemoving", spec := "fnRemoving", apart := false, narrowed := true }
def FnRemovingUptoSaid : Prop := fnRemovingUptoRow.holds Try.pinned (OpenSpec.upto fnRemovingSpec)

end Rows
end Go.Proofs.Ytcljhpldfanhkaa
