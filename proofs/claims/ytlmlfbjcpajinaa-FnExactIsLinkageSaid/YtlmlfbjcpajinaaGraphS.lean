/- The spec's IsGraph. -/
import Derived.Test.YtlmlfbjcpajinaaGraph
namespace Go.Proofs.Ytlmlfbjcpajinaa
open Go.RowKit
set_option linter.unusedSimpArgs false
set_option linter.unusedVariables false

set_option maxHeartbeats 1600000 in
theorem isGraphS_c (v : Value) (g : Grf) (w : World) (h : GraphAt w v g) :
    Calls Try.prog 123 #[v] w fun e w' => e = .returned (.bool (isGraph g)) ∧ Below w.heap.size w w' := by
  obtain ⟨u, rfl, h⟩ := h
  obtain ⟨n, l⟩ := g
  simp only at h ⊢
  obtain ⟨hm_l, ao_l, cap_l, rfl, hc_l⟩ := h; unfold maxLen at hm_l
  have hcase : inB n 1 8 = false ∨ (inB n 1 8 = true ∧ 24 < l.length) ∨ (inB n 1 8 = true ∧ l.length ≤ 24) := by
    cases inB n 1 8 <;> simp; omega
  rcases hcase with hn | ⟨hn, hl⟩ | ⟨hn, hl⟩
  · go_enter Try.func123, Try.ntmps123
    go_wp2_with (go_at_call 89; refine (l1In_c _ _ _ _).mono ?_; rintro e w3 ⟨rfl, rfl⟩)
    go_ret
    exact ⟨ret_bool (isGraph_size hn).symm, (by repeat (first | exact Below.refl _ _ | assumption | refine Below.alloc ?_ (by first | omega | (simp; done) | (simp; omega)) _ | refine Below.setCell ?_ (by first | omega | (simp; done) | (simp; omega)) _ | refine Below.drew ?_ | refine below_dN ?_ _ | refine Below.trans ?_ (Below.mono (by with_reducible assumption) (by first | omega | (simp; done) | (simp; omega)))))⟩
  · go_enter Try.func123, Try.ntmps123
    go_wp2_with (go_at_call 89; refine (l1In_c _ _ _ _).mono ?_; rintro e w3 ⟨rfl, rfl⟩)
    go_ret
    exact ⟨ret_bool (isGraph_long hl).symm, (by repeat (first | exact Below.refl _ _ | assumption | refine Below.alloc ?_ (by first | omega | (simp; done) | (simp; omega)) _ | refine Below.setCell ?_ (by first | omega | (simp; done) | (simp; omega)) _ | refine Below.drew ?_ | refine below_dN ?_ _ | refine Below.trans ?_ (Below.mono (by with_reducible assumption) (by first | omega | (simp; done) | (simp; omega)))))⟩
  · obtain ⟨n1, n2⟩ := inB_true.1 hn
    go_enter Try.func123, Try.ntmps123
    go_wp2_with (go_at_call 89; refine (l1In_c _ _ _ _).mono ?_; rintro e w3 ⟨rfl, rfl⟩)
    go_loopw [3] (fun i wr => ∃ k : Nat, k ≤ l.length ∧ i = .int .i64 k ∧ Below (w.heap.size + 1) (w.alloc (.cells #[.int .i64 n, .slice ao_l l.length cap_l] 41)) wr ∧ Hid (∀ i, i < k → barAt n l i = true)) (fun i _ => l.length - (intOf i).toNat)
    case atStart => exact ⟨0, Nat.zero_le _, rfl, box_refl _ _, Lib.hid (by omega)⟩
    case round =>
      obtain ⟨k, hk, rfl, hbox, Hs⟩ := hrel
      have hbel := box_below hbox
      by_cases hlt : k < l.length
      · have hc0 := box_cell hbox 0
        have hc1 := box_cell hbox 1
        simp at hc0 hc1
        have hbz := box_lt hbox
        obtain ⟨blk, off, rfl, hblk, hcs⟩ := hc_l (by omega)
        obtain ⟨x1, x2⟩ := hcs k hlt
        replace x1 := keepw hbel x1
        replace x2 := keepw hbel x2
        have hbs := hbel.size
        have hj : (k : Int) < (l.length : Int) := by omega
        by_cases hk0 : k = 0
        · subst hk0
          clear hc_l hcs
          simp only [Nat.zero_mul, Nat.add_zero] at x1 x2
          replace hblk : blk < wr.heap.size := by omega
          have hat : barAt n l 0 = barOkB n l[0] := by simp [barAt, hlt]
          have Hat := Lib.hid hat
          clear hat
          have hcase : decide (l[0].1 < 0) = true ∨ (decide (l[0].1 < 0) = false ∧ decide (l[0].2 ≤ l[0].1) = true) ∨ (decide (l[0].1 < 0) = false ∧ decide (l[0].2 ≤ l[0].1) = false ∧ decide (n ≤ l[0].2) = true) ∨ (decide (l[0].1 < 0) = false ∧ decide (l[0].2 ≤ l[0].1) = false ∧ decide (n ≤ l[0].2) = false) := by
            simp only [decide_eq_true_eq, decide_eq_false_iff_not]; omega
          rcases hcase with q1 | ⟨q1, q2⟩ | ⟨q1, q2, q3⟩ | ⟨q1, q2, q3⟩
          all_goals
            go_wp2_with fail
            refine wp_region_seq (S := fun w' => (∀ (zb zo : Nat), zb < (wr.alloc (.cells #[.int .i64 l[0].1, .int .i64 l[0].2] 105)).heap.size → w'.cell? ⟨zb, zo, none⟩ = (wr.alloc (.cells #[.int .i64 l[0].1, .int .i64 l[0].2] 105)).cell? ⟨zb, zo, none⟩) ∧ Below (wr.alloc (.cells #[.int .i64 l[0].1, .int .i64 l[0].2] 105)).heap.size (wr.alloc (.cells #[.int .i64 l[0].1, .int .i64 l[0].2] 105)) w') (by kernel_rfl) (by kernel_rfl) (by kernel_rfl) (grow_drew _) ?_
            repeat (first | (refine wpSeq_skip (by rfl) ?_; simp only [Act.put, List.setIfInBounds_toArray, List.set_cons_zero, List.set_cons_succ]) | (refine wpSeq_val (v := ?_) (by rfl) (fun w hSw => ?_) ?_; rotate_left; (focus ((try dsimp only at hSw); go_simp; (try first | with_reducible rfl | (constructor <;> with_reducible rfl)))); simp only [Act.put, List.setIfInBounds_toArray, List.set_cons_zero, List.set_cons_succ]) | (refine wpSeq_call (v := ?_) (f := ?_) (args := ?_) (by rfl) (fun w hSw => ?_) (fun w hSw => ?_) ?_; rotate_left; rotate_left; rotate_left; (focus ((try dsimp only at hSw); go_simp; (try first | with_reducible rfl | (constructor <;> with_reducible rfl)))); (focus (fail)); simp only [Act.put, List.setIfInBounds_toArray, List.set_cons_zero, List.set_cons_succ]))
            refine wpSeq_nil (fun w2 hSw => ?_)
            obtain ⟨hSc, hSb⟩ := hSw
            have hb2 : Below wr.heap.size wr w2 := (by repeat (first | exact Below.refl _ _ | assumption | refine Below.alloc ?_ (by first | omega | (simp; done) | (simp; omega)) _ | refine Below.setCell ?_ (by first | omega | (simp; done) | (simp; omega)) _ | refine Below.drew ?_ | refine below_dN ?_ _ | refine Below.trans ?_ (Below.mono (by with_reducible assumption) (by first | omega | (simp; done) | (simp; omega)))))
            have hb3 := bt hbel hb2
            go_wp2_with fail
          · go_ret
            exact ⟨ret_bool (isGraph_bad 0 hlt (by rw [Hat.out]; simp [barOkB] at q1 ⊢; omega)).symm, hb3⟩
          · go_ret
            exact ⟨ret_bool (isGraph_bad 0 hlt (by rw [Hat.out]; simp [barOkB] at q1 q2 ⊢; omega)).symm, hb3⟩
          · go_ret
            exact ⟨ret_bool (isGraph_bad 0 hlt (by rw [Hat.out]; simp [barOkB] at q1 q2 q3 ⊢; omega)).symm, hb3⟩
          · refine ⟨⟨1, by omega, rfl, box_trans hbox hb2, Lib.hid ?_⟩, by simp [intOf]; omega⟩
            intro i hi
            have : i = 0 := by omega
            subst this
            rw [Hat.out]; simp [barOkB] at q1 q2 q3 ⊢; omega
        · obtain ⟨j, hj0⟩ : ∃ j, j = k - 1 := ⟨_, rfl⟩
          have hkp : j < l.length := by omega
          have hj1 : (j : Int) < (l.length : Int) := by omega
          have hkk : ((k : Int) - 1) = (j : Int) := by omega
          have hkw : IntKind.i64.wrap (j : Int) = (j : Int) := IntWalk.i64_in _ (by omega)
          obtain ⟨y1, y2⟩ := hcs j hkp
          replace y1 := keepw hbel y1
          replace y2 := keepw hbel y2
          clear hc_l hcs
          replace hblk : blk < wr.heap.size := by omega
          have hat : barAt n l k = (barOkB n l[k] && barLeB l[j] l[k]) := by subst hj0; simp [barAt, hlt, hkp, hk0]
          have Hat := Lib.hid hat
          clear hat
          clear hj0
          have hcase : decide (l[k].1 < 0) = true ∨ (decide (l[k].1 < 0) = false ∧ decide (l[k].2 ≤ l[k].1) = true) ∨ (decide (l[k].1 < 0) = false ∧ decide (l[k].2 ≤ l[k].1) = false ∧ decide (n ≤ l[k].2) = true) ∨ (decide (l[k].1 < 0) = false ∧ decide (l[k].2 ≤ l[k].1) = false ∧ decide (n ≤ l[k].2) = false ∧ barLeB l[j] l[k] = false) ∨ (decide (l[k].1 < 0) = false ∧ decide (l[k].2 ≤ l[k].1) = false ∧ decide (n ≤ l[k].2) = false ∧ barLeB l[j] l[k] = true) := by
            cases barLeB l[j] l[k] <;> simp only [decide_eq_true_eq, decide_eq_false_iff_not, and_true, and_false, or_false, reduceCtorEq] <;> omega
          have hk0' : decide (0 < k) = true := by simp; omega
          rcases hcase with q1 | ⟨q1, q2⟩ | ⟨q1, q2, q3⟩ | ⟨q1, q2, q3, q4⟩ | ⟨q1, q2, q3, q4⟩
          all_goals
            go_wp2_with fail
            refine wp_region_seq (S := fun w' => (∀ (zb zo : Nat), zb < (wr.alloc (.cells #[.int .i64 l[k].1, .int .i64 l[k].2] 105)).heap.size → w'.cell? ⟨zb, zo, none⟩ = (wr.alloc (.cells #[.int .i64 l[k].1, .int .i64 l[k].2] 105)).cell? ⟨zb, zo, none⟩) ∧ Below (wr.alloc (.cells #[.int .i64 l[k].1, .int .i64 l[k].2] 105)).heap.size (wr.alloc (.cells #[.int .i64 l[k].1, .int .i64 l[k].2] 105)) w') (by kernel_rfl) (by kernel_rfl) (by kernel_rfl) (grow_drew _) ?_
            repeat (first | (refine wpSeq_skip (by rfl) ?_; simp only [Act.put, List.setIfInBounds_toArray, List.set_cons_zero, List.set_cons_succ]) | (refine wpSeq_val (v := ?_) (by rfl) (fun w hSw => ?_) ?_; rotate_left; (focus ((try dsimp only at hSw); go_simp; (try first | with_reducible rfl | (constructor <;> with_reducible rfl)))); simp only [Act.put, List.setIfInBounds_toArray, List.set_cons_zero, List.set_cons_succ]) | (refine wpSeq_call (v := ?_) (f := ?_) (args := ?_) (by rfl) (fun w hSw => ?_) (fun w hSw => ?_) ?_; rotate_left; rotate_left; rotate_left; (focus ((try dsimp only at hSw); go_simp; (try first | with_reducible rfl | (constructor <;> with_reducible rfl)))); (focus (refine (l2After_c _ _ _).mono ?_; rintro e w' ⟨he, hb⟩; refine ⟨?_, grow_trans hSw hb⟩; subst he; with_reducible rfl)); simp only [Act.put, List.setIfInBounds_toArray, List.set_cons_zero, List.set_cons_succ]))
            refine wpSeq_nil (fun w2 hSw => ?_)
            obtain ⟨hSc, hSb⟩ := hSw
            have hb2 : Below wr.heap.size wr w2 := (by repeat (first | exact Below.refl _ _ | assumption | refine Below.alloc ?_ (by first | omega | (simp; done) | (simp; omega)) _ | refine Below.setCell ?_ (by first | omega | (simp; done) | (simp; omega)) _ | refine Below.drew ?_ | refine below_dN ?_ _ | refine Below.trans ?_ (Below.mono (by with_reducible assumption) (by first | omega | (simp; done) | (simp; omega)))))
            have hb3 := bt hbel hb2
            go_wp2_with fail
          · go_ret
            exact ⟨ret_bool (isGraph_bad k hlt (by rw [Hat.out]; simp [barOkB] at q1 ⊢; omega)).symm, hb3⟩
          · go_ret
            exact ⟨ret_bool (isGraph_bad k hlt (by rw [Hat.out]; simp [barOkB] at q1 q2 ⊢; omega)).symm, hb3⟩
          · go_ret
            exact ⟨ret_bool (isGraph_bad k hlt (by rw [Hat.out]; simp [barOkB] at q1 q2 q3 ⊢; omega)).symm, hb3⟩
          · go_ret
            exact ⟨ret_bool (isGraph_bad k hlt (by rw [Hat.out, q4]; simp)).symm, hb3⟩
          · refine ⟨⟨k + 1, by omega, rfl, box_trans hbox hb2, Lib.hid ?_⟩, by simp [intOf]; omega⟩
            intro i hi
            by_cases hik : i = k
            · subst hik
              rw [Hat.out, q4]; simp [barOkB] at q1 q2 q3 ⊢; omega
            · exact Hs.out i (by omega)
      · have hkl : k = l.length := by omega
        subst hkl
        have hbz := box_lt hbox
        have hc1 := box_cell hbox 1
        simp at hc1
        clear hc_l
        go_wp2_with fail
        go_ret
        exact ⟨ret_bool (isGraph_true hn hl Hs.out).symm, hbel⟩
end Go.Proofs.Ytlmlfbjcpajinaa
