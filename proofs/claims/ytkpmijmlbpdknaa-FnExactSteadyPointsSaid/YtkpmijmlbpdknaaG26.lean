/- Plain texts of functions, and that the program computes them (printed by gen.py). -/
import Derived.Test.YtkpmijmlbpdknaaShb
import Derived.Test.YtkpmijmlbpdknaaG24
namespace Go.Proofs.Ytkpmijmlbpdknaa
open Go.RowKit
set_option linter.unusedVariables false
set_option linter.unusedSimpArgs false
def L_markPinned (N : Nat) (a_0 : Pin) (k_1 : Int) : Option (Int × (List (Int × Int)) × (List Int)) :=
  (L_markGraph N (⟨a_0.g.n, a_0.g.bars⟩ : Grf) k_1).bind fun v1 =>
  (L_markIntS N a_0.ground v1.1).bind fun v2 =>
  some (v2.1, v1.2, v2.2)
set_option maxRecDepth 20000 in
set_option maxHeartbeats 1600000 in
theorem L_markPinned_w (N : Nat) (a_0 : Pin) (k_1 : Int) (r : Int × (List (Int × Int)) × (List Int)) (h : L_markPinned N a_0 k_1 = some r) : MCall Try.prog 27 [.agg [.int a_0.g.n, .row 1000001 0 a_0.g.bars.length, .row 1000002 0 a_0.ground.length], .int k_1] [1000001, 1000002] [] [(71, .pairs a_0.g.bars), (3, .ints a_0.ground)] [(71, .pairs r.2.1), (3, .ints r.2.2)] [] [] (.int r.1) := by
  unfold L_markPinned at h
  refine mcall_intro (TT := TT) tt Try.func27 rfl rfl Try.ntmps27 (congrArg Array.toList Try.results27) rfl rfl rfl rfl rfl fun w0 O0 => ?_
  refine vSeq ?_
  refine vRegion ?_
  refine oBox rfl rfl rfl rfl rfl rfl rfl rfl rfl ?_
  refine oVal tt rfl rfl rfl rfl rfl trivial ?_
  refine vNil ?_
  change VC _ _ _ _
  refine vSeq ?_
  refine vRegion ?_
  iterate 3 refine oVal tt rfl rfl rfl rfl rfl trivial ?_
  obtain ⟨v1, hc1, h⟩ := bind_inv h
  refine oMCall (L_markGraph_w N (⟨a_0.g.n, a_0.g.bars⟩ : Grf) k_1 v1 hc1) [1000001] [] [1000001] rfl rfl rfl rfl rfl rfl ⟨rfl, trivial⟩ trivial ⟨⟨⟨rfl, rfl⟩, ⟨rfl, rfl⟩, trivial⟩, ⟨rfl, rfl⟩, trivial⟩ ?_
  refine oVal tt rfl rfl rfl rfl rfl trivial ?_
  refine vNil ?_
  change VC _ _ _ _
  refine vSeq ?_
  refine vRegion ?_
  iterate 3 refine oVal tt rfl rfl rfl rfl rfl trivial ?_
  obtain ⟨v2, hc2, h⟩ := bind_inv h
  refine oMCall (L_markIntS_w N a_0.ground v1.1 v2 hc2) [1000002] [] [1000002] rfl rfl rfl rfl rfl rfl ⟨rfl, trivial⟩ trivial ⟨⟨rfl, rfl⟩, ⟨rfl, rfl⟩, trivial⟩ ?_
  refine oVal tt rfl rfl rfl rfl rfl trivial ?_
  refine vNil ?_
  change VC _ _ _ _
  refine vSeq ?_
  refine vRegion ?_
  iterate 2 refine oVal tt rfl rfl rfl rfl rfl trivial ?_
  refine vNil ?_
  change VC _ _ _ _
  refine vRet ?_
  change ∃ _, _
  cases h
  exact ⟨[1000001, 1000002], rfl, ⟨rfl, rfl, trivial⟩, trivial, rfl⟩
end Go.Proofs.Ytkpmijmlbpdknaa
