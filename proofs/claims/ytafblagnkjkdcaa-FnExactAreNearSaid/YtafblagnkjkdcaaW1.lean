/- The walks of the laws on places. -/
import Derived.Test.YtafblagnkjkdcaaPlaceS
import Derived.Test.YtafblagnkjkdcaaOpen
namespace Go.Proofs.Ytafblagnkjkdcaa
open Go.RowKit
set_option linter.unusedSimpArgs false
set_option linter.unusedVariables false

theorem PairsAt_own {w : World} {B : Nat} {e : TypeId} {v : Value} {l : List (Int × Int)} (h : w.ownsRow B e 2 v l.length (pcells l)) (hn : l.length ≤ maxLen) : PairsAt w v l := by
  rcases h.2 with ⟨rfl, h0⟩ | ⟨g, cap, cur, rfl, hbg, hg, hrest⟩
  · exact ⟨hn, none, 0, by rw [h0], fun h => by omega⟩
  · have hgs := (Array.getElem?_eq_some_iff.1 hg).1
    exact ⟨hn, _, cap, rfl, fun _ => ⟨g, 0, rfl, hgs, fun i hi => ⟨by
      rw [Nat.zero_add, h.cellAt (i * 2) (by omega), pcells_get1 l i hi], by
      rw [Nat.zero_add, h.cellAt (i * 2 + 1) (by omega), pcells_get2 l i hi]⟩⟩⟩

set_option maxHeartbeats 400000 in
theorem fnExactAreNear_w (w : World) (v0 : Value) (l0 : List (Int × Int)) (h0 : PairsAt w v0 l0) (r0 : ∀ x ∈ l0, R64 x.1 ∧ R64 x.2) (v1 : Value) (l1 : List (Int × Int)) (h1 : PairsAt w v1 l1) (r1 : ∀ x ∈ l1, R64 x.1 ∧ R64 x.2) :
    Calls Try.prog 5 #[v0, v1] w fun e w' => e = .returned (.bool true) ∧ Below w.heap.size w w' := by
  go_enter Try.func5, Try.ntmps5
  go_wp2_with fail
  refine (szPlaceS_c _ _ _ _ h0 (by omega) (by omega)).mono ?_
  rintro e w' ⟨rfl, rfl⟩
  by_cases hn0 : (1048576 : Int) < l0.length
  · rw [if_pos hn0]
    go_wp2
    go_ret
    exact ⟨rfl, Below.refl _ _⟩
  rw [if_neg hn0]
  go_wp2_with fail
  refine (szPlaceS_c _ _ _ _ h1 (by omega) (by omega)).mono ?_
  rintro e w' ⟨rfl, rfl⟩
  by_cases hn1 : (1048576 : Int) - l0.length < l1.length
  · rw [if_pos hn1]
    go_wp2
    go_ret
    exact ⟨rfl, Below.refl _ _⟩
  rw [if_neg hn1]
  have hm : (1048576 : Nat) ≤ maxLen := by unfold maxLen; omega
  go_wp2_with fail
  refine (toPlaceS_c _ _ _ h0 (by omega)).mono ?_
  rintro e w1 ⟨u0, rfl, hb1, o1⟩
  have p1 := PairsAt_own o1 (by omega)
  replace h0 := h0.below hb1; replace h1 := h1.below hb1
  go_wp2_with fail
  refine (toPlaceS_c _ _ _ h1 (by omega)).mono ?_
  rintro e w2 ⟨u1, rfl, hb2, o2⟩
  have p2 := PairsAt_own o2 (by omega)
  replace h0 := h0.below hb2; replace h1 := h1.below hb2; replace p1 := p1.below hb2
  go_wp2_with fail
  refine (areNearS_c _ _ _ _ _ p1 p2).mono ?_
  rintro e w3 ⟨rfl, hb3⟩
  replace h0 := h0.below hb3; replace h1 := h1.below hb3
  clear p1 p2 o1 o2
  go_wp2_with fail
  refine (toPlaceS_c _ _ _ h0 (by omega)).mono ?_
  rintro e w4 ⟨x0, rfl, hb4, o1⟩
  have p1 := PairsAt_own o1 (by omega)
  replace h0 := h0.below hb4; replace h1 := h1.below hb4
  go_wp2_with fail
  refine (toPlaceS_c _ _ _ h1 (by omega)).mono ?_
  rintro e w5 ⟨x1, rfl, hb5, o2⟩
  have p2 := PairsAt_own o2 (by omega)
  replace h0 := h0.below hb5; replace h1 := h1.below hb5; replace p1 := p1.below hb5
  go_wp2_with fail
  refine (areNearI_c _ _ _ _ _ p1 p2).mono ?_
  rintro e w6 ⟨rfl, hb6⟩
  replace h0 := h0.below hb6; replace h1 := h1.below hb6; replace p1 := p1.below hb6; replace p2 := p2.below hb6
  have hne : (areNearB l0 l1 != areNearB l0 l1) = false := by simp
  go_wp2_with fail
  refine (toPlaceS_c _ _ _ h0 (by omega)).mono ?_
  rintro e w7 ⟨y0, rfl, hb7, o3⟩
  have p3 := PairsAt_own o3 (by omega)
  replace h0 := h0.below hb7; replace h1 := h1.below hb7; replace p1 := p1.below hb7; replace p2 := p2.below hb7
  go_wp2_with fail
  refine (eqPlaceS_c _ _ _ _ _ p1 p3).mono ?_
  rintro e w8 ⟨rfl, hb8⟩
  replace h0 := h0.below hb8; replace h1 := h1.below hb8; replace p1 := p1.below hb8; replace p2 := p2.below hb8
  rw [beq_self_eq_true]
  go_wp2_with fail
  refine (toPlaceS_c _ _ _ h1 (by omega)).mono ?_
  rintro e w9 ⟨y1, rfl, hb9, o4⟩
  have p4 := PairsAt_own o4 (by omega)
  replace h0 := h0.below hb9; replace h1 := h1.below hb9; replace p1 := p1.below hb9; replace p2 := p2.below hb9
  go_wp2_with fail
  refine (eqPlaceS_c _ _ _ _ _ p2 p4).mono ?_
  rintro e w10 ⟨rfl, hb10⟩
  rw [beq_self_eq_true]
  go_wp2
  go_ret
  exact ⟨rfl, (bt (bt (bt (bt (bt (bt (bt (bt (bt hb1 hb2) hb3) hb4) hb5) hb6) hb7) hb8) hb9) hb10)⟩
end Go.Proofs.Ytafblagnkjkdcaa
