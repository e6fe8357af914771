/- impl.IsLinkage. -/
import Derived.Test.YtlmlfbjcpajinaaFrm1
import Derived.Test.YtlmlfbjcpajinaaLnkP
namespace Go.Proofs.Ytlmlfbjcpajinaa
open Go.RowKit
set_option linter.unusedSimpArgs false
set_option linter.unusedVariables false

set_option maxRecDepth 100000 in
set_option maxHeartbeats 3200000 in
theorem isLinkI_c (v : Value) (p : Lnk) (w : World) (h : LinkageAt w v p) :
    Calls Try.prog 39 #[v] w fun e w' => e = .returned (.bool (isLink p)) ∧ Below w.heap.size w w' := by
  obtain ⟨u1, u2, u3, rfl, h, hp, hg⟩ := h
  obtain ⟨⟨⟨n, l⟩, pl⟩, gr⟩ := p
  simp only at h hp hg ⊢
  have HG : FrameAt w (.agg #[.int .i64 n, u1, u2]) ⟨⟨n, l⟩, pl⟩ := ⟨_, _, rfl, h, hp⟩
  replace HG := Lib.hid HG
  clear h hp
  obtain ⟨hm_gr, ao_gr, cap_gr, rfl, hc_gr⟩ := hg; unfold maxLen at hm_gr
  have hfl : isFrame ⟨⟨n, l⟩, pl⟩ = true → 1 ≤ n ∧ n ≤ 6 := fun q => (isFrame_len q).2
  have hcase : isFrame ⟨⟨n, l⟩, pl⟩ = false ∨ (isFrame ⟨⟨n, l⟩, pl⟩ = true ∧ ((gr.length : Int) == 0) = true) ∨ (isFrame ⟨⟨n, l⟩, pl⟩ = true ∧ ((gr.length : Int) == 0) = false ∧ decide (2 < n - (gr.length : Int)) = true) ∨
      (isFrame ⟨⟨n, l⟩, pl⟩ = true ∧ ((gr.length : Int) == 0) = false ∧ decide (2 < n - (gr.length : Int)) = false) := by
    cases isFrame ⟨⟨n, l⟩, pl⟩ <;> cases ((gr.length : Int) == 0) <;> cases decide (2 < n - (gr.length : Int)) <;> simp
  rcases hcase with q1 | ⟨q1, q2⟩ | ⟨q1, q2, q3⟩ | ⟨q1, q2, q3⟩
  all_goals
    (try have hn1 := (hfl q1).1)
    (try have hn6 := (hfl q1).2)
    (try have kw : IntKind.i64.wrap (n - (gr.length : Int)) = n - (gr.length : Int) := IntWalk.i64_in _ (by omega))
    clear hfl
    have Q1 := Lib.hid q1
    clear q1
    go_enter Try.func39, Try.ntmps39
    go_wp2_with fail
    refine (isFrameI_c _ _ _ (HG.out.below (by repeat (first | exact Below.refl _ _ | assumption | refine Below.alloc ?_ (by first | omega | (simp; done) | (simp; omega)) _ | refine Below.setCell ?_ (by first | omega | (simp; done) | (simp; omega)) _ | refine Below.drew ?_ | refine below_dN ?_ _ | refine Below.trans ?_ (Below.mono (by with_reducible assumption) (by first | omega | (simp; done) | (simp; omega))))))).mono ?_
    rintro e w2 ⟨he, hb1⟩
    rw [Q1.out] at he
    subst he
    obtain ⟨hb1c, hb1f⟩ := bcell hb1; have hb1z0 : w.heap.size < w2.heap.size := (by have := hb1.size; (try simp at this); omega)
    have c0 : w2.cell? ⟨w.heap.size, 0, none⟩ = some (.int .i64 n) := keepw hb1 (by go_simp)
    have c1 : w2.cell? ⟨w.heap.size, 1, none⟩ = some u1 := keepw hb1 (by go_simp)
    have c3 : w2.cell? ⟨w.heap.size, 3, none⟩ = some (.slice ao_gr gr.length cap_gr) := keepw hb1 (by go_simp)
    have B2 : Below w.heap.size w w2 := (by repeat (first | exact Below.refl _ _ | assumption | refine Below.alloc ?_ (by first | omega | (simp; done) | (simp; omega)) _ | refine Below.setCell ?_ (by first | omega | (simp; done) | (simp; omega)) _ | refine Below.drew ?_ | refine below_dN ?_ _ | refine Below.trans ?_ (Below.mono (by with_reducible assumption) (by first | omega | (simp; done) | (simp; omega)))))
    have z2 : w.heap.size < w2.heap.size := by omega
    clear hb1c hb1f
    clear hb1
    go_wp2_with fail
  · go_ret
    exact ⟨ret_bool (by simp [isLink, Q1.out]), B2⟩
  · go_ret
    exact ⟨ret_bool (by have : ¬ 0 < gr.length := (by simp at q2; simp [q2])
                        simp [isLink, this]), B2⟩
  · go_ret
    exact ⟨ret_bool (by have : ¬ n - (gr.length : Int) ≤ 2 := (by simp at q3; omega)
                        simp [isLink, this]), B2⟩
  · have HF : Hid (asc n gr = true → isLink ⟨⟨⟨n, l⟩, pl⟩, gr⟩ = true) := Lib.hid (fun a => by
      have e3 : 0 < gr.length := (by have := List.length_pos_iff (l := gr); simp at q2; exact this.2 q2)
      have e4 : n - (gr.length : Int) ≤ 2 := (by simp at q3; omega)
      simp only [isLink, Q1.out, e3, e4, a]; simp)
    clear q2 q3 kw
    go_loopw [29] (fun i wr => ∃ k : Nat, k ≤ gr.length ∧ i = .int .i64 k ∧ Below w2.heap.size w2 wr ∧ Hid (∀ i, i < k → ascAt n gr i = true)) (fun i _ => gr.length - (intOf i).toNat)
    case atStart => exact ⟨0, Nat.zero_le _, rfl, Below.refl _ _, Lib.hid (by omega)⟩
    case round =>
      obtain ⟨k, hk, rfl, hbel, Hs⟩ := hrel
      have hbs := hbel.size
      have hB := bt B2 hbel
      replace c0 := keepw hbel c0; replace c1 := keepw hbel c1; replace c3 := keepw hbel c3
      replace z2 : w.heap.size < wr.heap.size := by omega
      by_cases hlt : k < gr.length
      · obtain ⟨blk, off, rfl, hblk, hcs⟩ := hc_gr (by omega)
        have x1 := keepw hB (hcs k hlt)
        have hj : (k : Int) < (gr.length : Int) := by omega
        by_cases hk0 : k = 0
        · subst hk0
          simp only [Nat.add_zero] at x1
          have hbb : blk < wr.heap.size := by have := hB.size; omega
          have hat : ascAt n gr 0 = inB gr[0] 0 (n - 1) := by simp [ascAt, hlt]
          have Hat := Lib.hid hat
          clear hat hcs hc_gr
          cases q : inB gr[0] 0 (n - 1)
          all_goals
            go_wp2_with (go_at_call 92; refine (graphHas_c _ _ _ _ (by omega) (by omega)).mono ?_; rintro e w4 ⟨rfl, hb4⟩)
          · go_ret
            exact ⟨ret_bool (by simp [isLink, asc_bad 0 hlt (by rw [Hat.out, q])]), bt hB hb4⟩
          · go_roundw
            case rel =>
              refine ⟨1, by omega, by go_num, bt hbel hb4, Lib.hid (fun i hi => ?_)⟩
              have : i = 0 := by omega
              subst this
              rw [Hat.out, q]
            case measure => simp [intOf]; omega
        · obtain ⟨j, hj0⟩ : ∃ j, j = k - 1 := ⟨_, rfl⟩
          have hkp : j < gr.length := by omega
          have hj1 : (j : Int) < (gr.length : Int) := by omega
          have hkk : ((k : Int) - 1) = (j : Int) := by omega
          have hkw : IntKind.i64.wrap (j : Int) = (j : Int) := IntWalk.i64_in _ (by omega)
          have hk0' : decide (0 < k) = true := by simp; omega
          have y1 := keepw hB (hcs j hkp)
          have hbb : blk < wr.heap.size := by have := hB.size; omega
          have hat : ascAt n gr k = (inB gr[k] 0 (n - 1) && decide (gr[j] < gr[k])) := by subst hj0; simp [ascAt, hlt, hkp, hk0]
          have Hat := Lib.hid hat
          clear hat hj0 hcs hc_gr
          have hcase : inB gr[k] 0 (n - 1) = false ∨ (inB gr[k] 0 (n - 1) = true ∧ decide (gr[k] ≤ gr[j]) = true) ∨ (inB gr[k] 0 (n - 1) = true ∧ decide (gr[k] ≤ gr[j]) = false) := by
            cases inB gr[k] 0 (n - 1) <;> cases decide (gr[k] ≤ gr[j]) <;> simp
          rcases hcase with q | ⟨q, q2⟩ | ⟨q, q2⟩
          all_goals
            go_wp2_with (go_at_call 92; refine (graphHas_c _ _ _ _ (by omega) (by omega)).mono ?_; rintro e w4 ⟨rfl, hb4⟩; have x1' := keepw hb4 x1; have y1' := keepw hb4 y1; have c3' := keepw hb4 c3; have hbs4 := hb4.size)
          · go_ret
            exact ⟨ret_bool (by simp [isLink, asc_bad k hlt (by rw [Hat.out, q]; rfl)]), bt hB hb4⟩
          · go_ret
            exact ⟨ret_bool (by simp [isLink, asc_bad k hlt (by rw [Hat.out]; simp at q2 ⊢; omega)]), bt hB hb4⟩
          · go_roundw
            case rel =>
              refine ⟨k + 1, by omega, by go_num, bt hbel hb4, Lib.hid (fun i hi => ?_)⟩
              by_cases hik : i = k
              · subst hik
                rw [Hat.out, q]; simp at q2 ⊢; omega
              · exact Hs.out i (by omega)
            case measure => simp [intOf]; omega
      · have hkl : k = gr.length := by omega
        subst hkl
        go_wp2_with fail
        go_ret
        exact ⟨ret_bool (HF.out (asc_true Hs.out)).symm, hB⟩
end Go.Proofs.Ytlmlfbjcpajinaa
