/- The walk of FnExactIndexOfPose. -/
import Derived.Test.YtafblagnkjkdcaaPoses
import Derived.Test.YtafblagnkjkdcaaOpen
namespace Go.Proofs.Ytafblagnkjkdcaa
open Go.RowKit
set_option linter.unusedSimpArgs false
set_option linter.unusedVariables false

set_option maxHeartbeats 1600000 in
theorem fnExactIndexOfPose_w (w0 : World) (v0 : Value) (l0 : List (List (Int × Int))) (h0 : PairssAt w0 v0 l0) (r0 : True) (v1 : Value) (l1 : List (Int × Int)) (h1 : PairsAt w0 v1 l1) (r1 : ∀ x ∈ l1, R64 x.1 ∧ R64 x.2) :
    Calls Try.prog 6 #[v0, v1] w0 fun e w' => e = .returned (.bool true) ∧ Below w0.heap.size w0 w' := by
  go_enter Try.func6, Try.ntmps6
  go_wp2_with fail
  refine (szPlaceSS_c _ _ _ _ h0 (by omega) (by omega)).mono ?_
  rintro e w' ⟨rfl, rfl⟩
  by_cases hn1 : (1048576 : Int) < ((l0.length : Int) + totLen l0)
  · rw [if_pos (by omega)]; go_wp2; go_ret; exact ⟨rfl, Below.refl _ _⟩
  rw [if_neg (by omega)]
  go_wp2_with fail
  refine (szPlaceS_c _ _ _ _ h1 (by omega) (by omega)).mono ?_
  rintro e w' ⟨rfl, rfl⟩
  by_cases hn2 : (1048576 : Int) - ((l0.length : Int) + totLen l0) < (l1.length : Int)
  · rw [if_pos (by omega)]; go_wp2; go_ret; exact ⟨rfl, Below.refl _ _⟩
  rw [if_neg (by omega)]
  go_wp2_with fail
  refine (toPlaceSS_c _ _ _ h0 (by omega) (by omega)).mono ?_
  rintro e w1 ⟨v_1, rfl, hb1, p1⟩
  replace h0 := h0.below hb1
  replace h1 := h1.below hb1
  go_wp2_with fail
  refine (toPlaceS_c _ _ _ h1 (by omega)).mono ?_
  rintro e w2 ⟨g_2, c_2, rfl, hb2, o_2⟩
  replace h0 := h0.below hb2
  replace h1 := h1.below hb2
  replace p1 := p1.below hb2
  have p2 := PairsAt_own o_2 (by unfold maxLen; omega)
  go_wp2_with fail
  refine (indexOfPoseS_c _ _ _ _ _ p1 p2).mono ?_
  rintro e w3 ⟨rfl, hb3⟩
  replace h0 := h0.below hb3
  replace h1 := h1.below hb3
  replace p1 := p1.below hb3
  replace p2 := p2.below hb3
  go_wp2_with fail
  refine (toPlaceSS_c _ _ _ h0 (by omega) (by omega)).mono ?_
  rintro e w4 ⟨v_4, rfl, hb4, p4⟩
  replace h0 := h0.below hb4
  replace h1 := h1.below hb4
  replace p1 := p1.below hb4
  replace p2 := p2.below hb4
  go_wp2_with fail
  refine (toPlaceS_c _ _ _ h1 (by omega)).mono ?_
  rintro e w5 ⟨g_5, c_5, rfl, hb5, o_5⟩
  replace h0 := h0.below hb5
  replace h1 := h1.below hb5
  replace p1 := p1.below hb5
  replace p2 := p2.below hb5
  replace p4 := p4.below hb5
  have p5 := PairsAt_own o_5 (by unfold maxLen; omega)
  go_wp2_with fail
  refine (indexOfPoseI_c _ _ _ _ _ p4 p5).mono ?_
  rintro e w6 ⟨rfl, hb6⟩
  replace h0 := h0.below hb6
  replace h1 := h1.below hb6
  replace p1 := p1.below hb6
  replace p2 := p2.below hb6
  replace p4 := p4.below hb6
  replace p5 := p5.below hb6
  go_wp2_with fail
  refine (toPlaceSS_c _ _ _ h0 (by omega) (by omega)).mono ?_
  rintro e w7 ⟨v_7, rfl, hb7, p7⟩
  replace h0 := h0.below hb7
  replace h1 := h1.below hb7
  replace p1 := p1.below hb7
  replace p2 := p2.below hb7
  replace p4 := p4.below hb7
  replace p5 := p5.below hb7
  go_wp2_with fail
  refine (eqPlaceSS_c _ _ _ _ p4 p7).mono ?_
  rintro e w8 ⟨rfl, hb8⟩
  replace h0 := h0.below hb8
  replace h1 := h1.below hb8
  replace p1 := p1.below hb8
  replace p2 := p2.below hb8
  replace p4 := p4.below hb8
  replace p5 := p5.below hb8
  replace p7 := p7.below hb8
  go_wp2_with fail
  refine (toPlaceS_c _ _ _ h1 (by omega)).mono ?_
  rintro e w9 ⟨g_8, c_8, rfl, hb9, o_8⟩
  replace h0 := h0.below hb9
  replace h1 := h1.below hb9
  replace p1 := p1.below hb9
  replace p2 := p2.below hb9
  replace p4 := p4.below hb9
  replace p5 := p5.below hb9
  have p8 := PairsAt_own o_8 (by unfold maxLen; omega)
  go_wp2_with fail
  refine (eqPlaceS_c _ _ _ _ _ p5 p8).mono ?_
  rintro e w10 ⟨rfl, hb10⟩
  replace h0 := h0.below hb10
  replace h1 := h1.below hb10
  replace p1 := p1.below hb10
  replace p2 := p2.below hb10
  replace p4 := p4.below hb10
  replace p5 := p5.below hb10
  replace p8 := p8.below hb10
  rw [beq_self_eq_true]
  go_wp2
  go_ret
  exact ⟨rfl, (bt (bt (bt (bt (bt (bt (bt (bt (bt hb1 hb2) hb3) hb4) hb5) hb6) hb7) hb8) hb9) hb10)⟩
end Go.Proofs.Ytafblagnkjkdcaa
