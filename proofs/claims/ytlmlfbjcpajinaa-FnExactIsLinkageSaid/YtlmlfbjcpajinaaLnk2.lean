/- spec.IsLinkage. -/
import Derived.Test.YtlmlfbjcpajinaaFrm2
import Derived.Test.YtlmlfbjcpajinaaLnkP
namespace Go.Proofs.Ytlmlfbjcpajinaa
open Go.RowKit
set_option linter.unusedSimpArgs false
set_option linter.unusedVariables false

set_option maxRecDepth 100000 in
set_option maxHeartbeats 3200000 in
theorem isLinkS_c (v : Value) (p : Lnk) (w : World) (h : LinkageAt w v p) :
    Calls Try.prog 37 #[v] w fun e w' => e = .returned (.bool (isLink p)) ∧ Below w.heap.size w w' := by
  obtain ⟨u1, u2, u3, rfl, h, hp, hg⟩ := h
  obtain ⟨⟨⟨n, l⟩, pl⟩, gr⟩ := p
  simp only at h hp hg ⊢
  have HG : FrameAt w (.agg #[.int .i64 n, u1, u2]) ⟨⟨n, l⟩, pl⟩ := ⟨_, _, rfl, h, hp⟩
  replace HG := Lib.hid HG
  clear h
  obtain ⟨hm_pl, ao_pl, cap_pl, rfl, hc_pl⟩ := hp; unfold maxLen at hm_pl
  obtain ⟨hm_gr, ao_gr, cap_gr, rfl, hc_gr⟩ := hg; unfold maxLen at hm_gr
  clear hc_pl
  have kw : IntKind.i64.wrap ((pl.length : Int) - (gr.length : Int)) = (pl.length : Int) - (gr.length : Int) := IntWalk.i64_in _ (by omega)
  go_enter Try.func37, Try.ntmps37
  go_wp2_with fail
  go_loopw [4] (fun i wr => ∃ k : Nat, k ≤ gr.length ∧ i = .int .i64 k ∧ Below (w.heap.size + 1) (w.alloc (.cells #[.int .i64 n, u1, .slice ao_pl pl.length cap_pl, .slice ao_gr gr.length cap_gr] 58)) wr ∧ Hid (∀ i, i < k → ascAt pl.length gr i = true)) (fun i _ => gr.length - (intOf i).toNat)
  case atStart => exact ⟨0, Nat.zero_le _, rfl, box_refl _ _, Lib.hid (by omega)⟩
  case round =>
    obtain ⟨k, hk, rfl, hbox, Hs⟩ := hrel
    have hB := box_below hbox
    have z1 := box_lt hbox
    have c0 := box_cell hbox 0
    have c1 := box_cell hbox 1
    have c2 := box_cell hbox 2
    have c3 := box_cell hbox 3
    simp at c0 c1 c2 c3
    by_cases hlt : k < gr.length
    · obtain ⟨blk, off, rfl, hblk, hcs⟩ := hc_gr (by omega)
      have x1 := keepw hB (hcs k hlt)
      have hj : (k : Int) < (gr.length : Int) := by omega
      have hbb : blk < wr.heap.size := by have := hB.size; omega
      by_cases hk0 : k = 0
      · subst hk0
        simp only [Nat.add_zero] at x1
        have hat : ascAt pl.length gr 0 = inB gr[0] 0 ((pl.length : Int) - 1) := by simp [ascAt, hlt]
        have Hat := Lib.hid hat
        clear hat hcs hc_gr
        have hcase : decide (gr[0] < 0) = true ∨ (decide (gr[0] < 0) = false ∧ decide ((pl.length : Int) ≤ gr[0]) = true) ∨ (decide (gr[0] < 0) = false ∧ decide ((pl.length : Int) ≤ gr[0]) = false) := by
          cases decide (gr[0] < 0) <;> cases decide ((pl.length : Int) ≤ gr[0]) <;> simp
        rcases hcase with q1 | ⟨q1, q2⟩ | ⟨q1, q2⟩
        all_goals
          go_wp2_with fail
          refine wp_region_seq (S := fun w' => (∀ (zb zo : Nat), zb < (wr).heap.size → w'.cell? ⟨zb, zo, none⟩ = (wr).cell? ⟨zb, zo, none⟩) ∧ Below (wr).heap.size (wr) w') (by kernel_rfl) (by kernel_rfl) (by kernel_rfl) (grow_drew _) ?_
          repeat (first | (refine wpSeq_skip (by rfl) ?_; simp only [Act.put, List.setIfInBounds_toArray, List.set_cons_zero, List.set_cons_succ]) | (refine wpSeq_val (v := ?_) (by rfl) (fun w hSw => ?_) ?_; rotate_left; (focus ((try dsimp only at hSw); go_simp; (try first | with_reducible rfl | (constructor <;> with_reducible rfl)))); simp only [Act.put, List.setIfInBounds_toArray, List.set_cons_zero, List.set_cons_succ]) | (refine wpSeq_call (v := ?_) (f := ?_) (args := ?_) (by rfl) (fun w hSw => ?_) (fun w hSw => ?_) ?_; rotate_left; rotate_left; rotate_left; (focus ((try dsimp only at hSw); go_simp; (try first | with_reducible rfl | (constructor <;> with_reducible rfl)))); (focus (fail)); simp only [Act.put, List.setIfInBounds_toArray, List.set_cons_zero, List.set_cons_succ]))
          refine wpSeq_nil (fun w2 hSw => ?_)
          obtain ⟨hSc, hSb⟩ := hSw
          have hb3 := bt hB hSb
          go_wp2_with fail
        · go_ret
          exact ⟨ret_bool (by rw [← isLinkS_eq]; simp [isLinkS, asc_bad 0 hlt (by rw [Hat.out]; simp [inB] at q1 ⊢; omega)]), hb3⟩
        · go_ret
          exact ⟨ret_bool (by rw [← isLinkS_eq]; simp [isLinkS, asc_bad 0 hlt (by rw [Hat.out]; simp [inB] at q1 q2 ⊢; omega)]), hb3⟩
        · go_roundw
          case rel =>
            refine ⟨1, by omega, by go_num, box_trans hbox hSb, Lib.hid (fun i hi => ?_)⟩
            have : i = 0 := by omega
            subst this
            rw [Hat.out]; simp [inB] at q1 q2 ⊢; omega
          case measure => simp [intOf]; omega
      · obtain ⟨j, hj0⟩ : ∃ j, j = k - 1 := ⟨_, rfl⟩
        have hkp : j < gr.length := by omega
        have hj1 : (j : Int) < (gr.length : Int) := by omega
        have hkk : ((k : Int) - 1) = (j : Int) := by omega
        have hkw : IntKind.i64.wrap (j : Int) = (j : Int) := IntWalk.i64_in _ (by omega)
        have hk0' : decide (0 < k) = true := by simp; omega
        have y1 := keepw hB (hcs j hkp)
        have hat : ascAt pl.length gr k = (inB gr[k] 0 ((pl.length : Int) - 1) && decide (gr[j] < gr[k])) := by subst hj0; simp [ascAt, hlt, hkp, hk0]
        have Hat := Lib.hid hat
        clear hat hj0 hcs hc_gr
        have hcase : decide (gr[k] < 0) = true ∨ (decide (gr[k] < 0) = false ∧ decide ((pl.length : Int) ≤ gr[k]) = true) ∨ (decide (gr[k] < 0) = false ∧ decide ((pl.length : Int) ≤ gr[k]) = false ∧ decide (gr[k] ≤ gr[j]) = true) ∨ (decide (gr[k] < 0) = false ∧ decide ((pl.length : Int) ≤ gr[k]) = false ∧ decide (gr[k] ≤ gr[j]) = false) := by
          cases decide (gr[k] < 0) <;> cases decide ((pl.length : Int) ≤ gr[k]) <;> cases decide (gr[k] ≤ gr[j]) <;> simp
        rcases hcase with q1 | ⟨q1, q2⟩ | ⟨q1, q2, q3⟩ | ⟨q1, q2, q3⟩
        all_goals
          go_wp2_with fail
          refine wp_region_seq (S := fun w' => (∀ (zb zo : Nat), zb < (wr).heap.size → w'.cell? ⟨zb, zo, none⟩ = (wr).cell? ⟨zb, zo, none⟩) ∧ Below (wr).heap.size (wr) w') (by kernel_rfl) (by kernel_rfl) (by kernel_rfl) (grow_drew _) ?_
          repeat (first | (refine wpSeq_skip (by rfl) ?_; simp only [Act.put, List.setIfInBounds_toArray, List.set_cons_zero, List.set_cons_succ]) | (refine wpSeq_val (v := ?_) (by rfl) (fun w hSw => ?_) ?_; rotate_left; (focus ((try dsimp only at hSw); go_simp; (try first | with_reducible rfl | (constructor <;> with_reducible rfl)))); simp only [Act.put, List.setIfInBounds_toArray, List.set_cons_zero, List.set_cons_succ]) | (refine wpSeq_call (v := ?_) (f := ?_) (args := ?_) (by rfl) (fun w hSw => ?_) (fun w hSw => ?_) ?_; rotate_left; rotate_left; rotate_left; (focus ((try dsimp only at hSw); go_simp; (try first | with_reducible rfl | (constructor <;> with_reducible rfl)))); (focus (fail)); simp only [Act.put, List.setIfInBounds_toArray, List.set_cons_zero, List.set_cons_succ]))
          refine wpSeq_nil (fun w2 hSw => ?_)
          obtain ⟨hSc, hSb⟩ := hSw
          have hb3 := bt hB hSb
          go_wp2_with fail
        · go_ret
          exact ⟨ret_bool (by rw [← isLinkS_eq]; simp [isLinkS, asc_bad k hlt (by rw [Hat.out]; simp [inB] at q1 ⊢; omega)]), hb3⟩
        · go_ret
          exact ⟨ret_bool (by rw [← isLinkS_eq]; simp [isLinkS, asc_bad k hlt (by rw [Hat.out]; simp [inB] at q1 q2 ⊢; omega)]), hb3⟩
        · go_ret
          exact ⟨ret_bool (by rw [← isLinkS_eq]; simp [isLinkS, asc_bad k hlt (by rw [Hat.out]; simp [inB] at q1 q2 q3 ⊢; omega)]), hb3⟩
        · go_roundw
          case rel =>
            refine ⟨k + 1, by omega, by go_num, box_trans hbox hSb, Lib.hid (fun i hi => ?_)⟩
            by_cases hik : i = k
            · subst hik
              rw [Hat.out]; simp [inB] at q1 q2 q3 ⊢; omega
            · exact Hs.out i (by omega)
          case measure => simp [intOf]; omega
    · have hkl : k = gr.length := by omega
      subst hkl
      have HA : Hid (asc pl.length gr = true) := Lib.hid (asc_true Hs.out)
      have HG2 := Lib.hid (HG.out.below hB)
      clear Hs hlt hk hc_gr
      have hcase : isFrame ⟨⟨n, l⟩, pl⟩ = false ∨ (isFrame ⟨⟨n, l⟩, pl⟩ = true ∧ inB ((pl.length : Int) - (gr.length : Int)) 0 2 = false) ∨
          (isFrame ⟨⟨n, l⟩, pl⟩ = true ∧ inB ((pl.length : Int) - (gr.length : Int)) 0 2 = true) := by
        cases isFrame ⟨⟨n, l⟩, pl⟩ <;> cases inB ((pl.length : Int) - (gr.length : Int)) 0 2 <;> simp
      rcases hcase with q1 | ⟨q1, q2⟩ | ⟨q1, q2⟩
      all_goals
        have Q1 := Lib.hid q1
        clear q1
        go_wp2_with fail
        refine (isFrameS_c _ _ _ HG2.out).mono ?_
        rintro e w4 ⟨he, hb4⟩
        rw [Q1.out] at he
        subst he
        replace c0 := keepw hb4 c0; replace c1 := keepw hb4 c1; replace c2 := keepw hb4 c2; replace c3 := keepw hb4 c3
        have hb5 := bt hB hb4
        have z4 : w.heap.size < w4.heap.size := by have := hb4.size; omega
        go_wp2_with (go_at_call 89; refine (l1In_c _ _ _ _).mono ?_; rintro e w5 ⟨rfl, rfl⟩)
        go_ret
        refine ⟨ret_bool ?_, hb5⟩
        rw [← isLinkS_eq]
      · simp [isLinkS, Q1.out]
      · simp [isLinkS, q2]
      · simp only [isLinkS, HA.out, Q1.out, q2]
        simp
end Go.Proofs.Ytlmlfbjcpajinaa
