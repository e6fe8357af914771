/- The walk of FnExactSquaresOf. -/
import Derived.Test.YtafblagnkjkdcaaSquares
import Derived.Test.YtafblagnkjkdcaaOpen
import Derived.Test.YtafblagnkjkdcaaHeap
namespace Go.Proofs.Ytafblagnkjkdcaa
open Go.RowKit
set_option linter.unusedSimpArgs false
set_option linter.unusedVariables false

set_option maxRecDepth 100000 in
set_option maxHeartbeats 3200000 in
theorem fnExactSquaresOf_w (w0 : World) (v0 : Value) (l0 : List (Int × Int)) (h0 : PairsAt w0 v0 l0) (r0 : ∀ x ∈ l0, R64 x.1 ∧ R64 x.2) :
    Calls Try.prog 8 #[v0] w0 fun e w' => e = .returned (.bool true) ∧ Below w0.heap.size w0 w' := by
  have hsq := squaresL_len l0
  have B0 : Below w0.heap.size w0 w0 := Below.refl _ _
  go_enter Try.func8, Try.ntmps8
  go_wp2_with fail
  refine (szPlaceS_c _ _ _ _ h0 (by omega) (by omega)).mono ?_
  rintro e w' ⟨rfl, rfl⟩
  by_cases hn1 : (1048576 : Int) < (l0.length : Int)
  · rw [if_pos (by omega)]; go_wp2; go_ret; exact ⟨rfl, B0⟩
  rw [if_neg (by omega)]
  go_wp2_with fail
  have H_t1 := (h0.below B0)
  refine (toPlaceS_c _ _ _ H_t1 (by omega)).mono ?_
  rintro e w1 ⟨g_t1, c_t1, rfl, hb1, o_t1⟩
  have c_t1 := B0.size
  have B1 := bt B0 hb1
  go_wp2_with fail
  refine (squaresOfS_c _ _ _ (PairsAt_own o_t1 (by first | omega | (unfold maxLen; omega))) (by omega)).mono ?_
  rintro e w2 ⟨v_r2, rfl, hb2, o_r2⟩
  have s_t1_r2 := own_sep o_t1 o_r2 (Nat.le_refl _)
  have c_r2 := B1.size
  replace o_t1 := own_below o_t1 hb2
  have B2 := bt B1 hb2
  go_wp2_with fail
  have H_t3 := (h0.below B2)
  refine (toPlaceS_c _ _ _ H_t3 (by omega)).mono ?_
  rintro e w3 ⟨g_t3, c_t3, rfl, hb3, o_t3⟩
  have s_t1_t3 := own_sep o_t1 o_t3 (Nat.le_refl _)
  have s_r2_t3 := own_sep o_r2 o_t3 (Nat.le_refl _)
  have c_t3 := B2.size
  replace o_t1 := own_below o_t1 hb3
  replace o_r2 := own_below o_r2 hb3
  have B3 := bt B2 hb3
  go_wp2_with fail
  refine (squaresOfI_c _ _ _ (PairsAt_own o_t3 (by first | omega | (unfold maxLen; omega)))).mono ?_
  rintro e w4 ⟨v_r4, rfl, hb4, o_r4⟩
  have s_t1_r4 := own_sep o_t1 o_r4 (Nat.le_refl _)
  have s_r2_r4 := own_sep o_r2 o_r4 (Nat.le_refl _)
  have s_t3_r4 := own_sep o_t3 o_r4 (Nat.le_refl _)
  have c_r4 := B3.size
  replace o_t1 := own_below o_t1 hb4
  replace o_r2 := own_below o_r2 hb4
  replace o_t3 := own_below o_t3 hb4
  have B4 := bt B3 hb4
  go_wp2_with fail
  refine (eqIntS_c _ _ _ _ _ (IntsAt_own o_r4 (by first | omega | (unfold maxLen; omega))) (IntsAt_own o_r2 (by first | omega | (unfold maxLen; omega)))).mono ?_
  rintro e w5 ⟨rfl, hb5⟩
  replace o_t1 := own_below o_t1 hb5
  replace o_r2 := own_below o_r2 hb5
  replace o_t3 := own_below o_t3 hb5
  replace o_r4 := own_below o_r4 hb5
  have B5 := bt B4 hb5
  rw [beq_self_eq_true]
  go_wp2_with fail
  have H_t5 := (h0.below B5)
  refine (toPlaceS_c _ _ _ H_t5 (by omega)).mono ?_
  rintro e w6 ⟨g_t5, c_t5, rfl, hb6, o_t5⟩
  have s_t1_t5 := own_sep o_t1 o_t5 (Nat.le_refl _)
  have s_r2_t5 := own_sep o_r2 o_t5 (Nat.le_refl _)
  have s_t3_t5 := own_sep o_t3 o_t5 (Nat.le_refl _)
  have s_r4_t5 := own_sep o_r4 o_t5 (Nat.le_refl _)
  have c_t5 := B5.size
  replace o_t1 := own_below o_t1 hb6
  replace o_r2 := own_below o_r2 hb6
  replace o_t3 := own_below o_t3 hb6
  replace o_r4 := own_below o_r4 hb6
  have B6 := bt B5 hb6
  go_wp2_with fail
  refine (eqPlaceS_c _ _ _ _ _ (PairsAt_own o_t3 (by first | omega | (unfold maxLen; omega))) (PairsAt_own o_t5 (by first | omega | (unfold maxLen; omega)))).mono ?_
  rintro e w7 ⟨rfl, hb7⟩
  replace o_t1 := own_below o_t1 hb7
  replace o_r2 := own_below o_r2 hb7
  replace o_t3 := own_below o_t3 hb7
  replace o_r4 := own_below o_r4 hb7
  replace o_t5 := own_below o_t5 hb7
  have B7 := bt B6 hb7
  rw [beq_self_eq_true]
  go_wp2_with fail
  refine (markPlaceS_c _ _ l0 1 _ o_t3 (by first | omega | (have := c_t3; omega)) (by omega) (by omega)).mono ?_
  rintro e w8 ⟨rfl, n_t3, hg8⟩
  have B8 := below_row B7 o_t3 c_t3 hg8
  replace o_t1 := o_t1.kept hg8 s_t1_t3
  replace o_r2 := o_r2.kept hg8 s_r2_t3
  replace o_r4 := o_r4.kept hg8 (sep_symm s_t3_r4)
  replace o_t3 := n_t3
  clear n_t3
  replace o_t3 := (by rw [pairsFrom_length]; exact o_t3 : w8.ownsRow _ _ _ _ (pairsFrom 1 l0.length).length _)
  go_wp2_with fail
  refine (eqIntS_c _ _ _ _ _ (IntsAt_own o_r4 (by first | omega | (unfold maxLen; omega))) (IntsAt_own o_r2 (by first | omega | (unfold maxLen; omega)))).mono ?_
  rintro e w9 ⟨rfl, hb9⟩
  replace o_t1 := own_below o_t1 hb9
  replace o_r2 := own_below o_r2 hb9
  replace o_r4 := own_below o_r4 hb9
  have B9 := bt B8 hb9
  rw [beq_self_eq_true]
  go_wp2_with fail
  refine (markIntS_c _ _ (squaresL l0) 1 _ o_r4 (by first | omega | (have := c_r4; omega)) (by omega) (by omega)).mono ?_
  rintro e w10 ⟨rfl, n_r4, hg10⟩
  have B10 := below_row B9 o_r4 c_r4 hg10
  replace o_t1 := o_t1.kept hg10 s_t1_r4
  replace o_r2 := o_r2.kept hg10 s_r2_r4
  replace o_r4 := n_r4
  clear n_r4
  replace o_r4 := (by rw [numsFrom_length]; exact o_r4 : w10.ownsRow _ _ _ _ (numsFrom 1 (squaresL l0).length).length _)
  go_wp2_with fail
  refine (heldIntS_c _ (squaresL l0).length 1 _ (IntsAt_own o_r4 (by rw [numsFrom_length]; unfold maxLen; omega)) (by omega) (by omega) (by omega)).mono ?_
  rintro e w' ⟨rfl, rfl⟩
  go_wp2_with fail
  have H_t6 := (h0.below B10)
  refine (toPlaceS_c _ _ _ H_t6 (by omega)).mono ?_
  rintro e w11 ⟨g_t6, c_t6, rfl, hb11, o_t6⟩
  have s_t1_t6 := own_sep o_t1 o_t6 (Nat.le_refl _)
  have s_r2_t6 := own_sep o_r2 o_t6 (Nat.le_refl _)
  have s_r4_t6 := own_sep o_r4 o_t6 (Nat.le_refl _)
  have c_t6 := B10.size
  replace o_t1 := own_below o_t1 hb11
  replace o_r2 := own_below o_r2 hb11
  replace o_r4 := own_below o_r4 hb11
  have B11 := bt B10 hb11
  go_wp2_with fail
  refine (squaresOfI_c _ _ _ (PairsAt_own o_t6 (by first | omega | (unfold maxLen; omega)))).mono ?_
  rintro e w12 ⟨v_r7, rfl, hb12, o_r7⟩
  have s_t1_r7 := own_sep o_t1 o_r7 (Nat.le_refl _)
  have s_r2_r7 := own_sep o_r2 o_r7 (Nat.le_refl _)
  have s_r4_r7 := own_sep o_r4 o_r7 (Nat.le_refl _)
  have s_t6_r7 := own_sep o_t6 o_r7 (Nat.le_refl _)
  have c_r7 := B11.size
  replace o_t1 := own_below o_t1 hb12
  replace o_r2 := own_below o_r2 hb12
  replace o_r4 := own_below o_r4 hb12
  replace o_t6 := own_below o_t6 hb12
  have B12 := bt B11 hb12
  go_wp2_with fail
  refine (eqIntS_c _ _ _ _ _ (IntsAt_own o_r7 (by first | omega | (unfold maxLen; omega))) (IntsAt_own o_r2 (by first | omega | (unfold maxLen; omega)))).mono ?_
  rintro e w13 ⟨rfl, hb13⟩
  replace o_t1 := own_below o_t1 hb13
  replace o_r2 := own_below o_r2 hb13
  replace o_r4 := own_below o_r4 hb13
  replace o_t6 := own_below o_t6 hb13
  replace o_r7 := own_below o_r7 hb13
  have B13 := bt B12 hb13
  rw [beq_self_eq_true]
  go_wp2_with fail
  refine (heldIntS_c _ (squaresL l0).length 1 _ (IntsAt_own o_r4 (by rw [numsFrom_length]; unfold maxLen; omega)) (by omega) (by omega) (by omega)).mono ?_
  rintro e w' ⟨rfl, rfl⟩
  go_wp2
  go_ret
  exact ⟨rfl, B13⟩
end Go.Proofs.Ytafblagnkjkdcaa
