/- Bars that lie twice. -/
import Derived.Test.YtlmlfbjcpajinaaGraphS
import Derived.Test.YtlmlfbjcpajinaaConv
namespace Go.Proofs.Ytlmlfbjcpajinaa
open Go.RowKit
set_option linter.unusedSimpArgs false
set_option linter.unusedVariables false

theorem peqB_beq (p q : Int × Int) : peqB p.1 p.2 q.1 q.2 = (p == q) := by
  cases p; cases q; rfl
set_option maxHeartbeats 800000 in
theorem hasDoubles_c (v : Value) (g : Grf) (w : World) (h : GraphAt w v g) :
    Calls Try.prog 120 #[v] w fun e w' => e = .returned (.bool (hasDbl g.bars)) ∧ Below w.heap.size w w' := by
  obtain ⟨u, rfl, h⟩ := h
  obtain ⟨n, l⟩ := g
  simp only at h ⊢
  obtain ⟨hm_l, ao_l, cap_l, rfl, hc_l⟩ := h; unfold maxLen at hm_l
  go_enter Try.func120, Try.ntmps120
  go_wp2
  go_loopw [3] (fun i wr => ∃ k : Nat, (k ≤ l.length ∨ k = 1) ∧ 1 ≤ k ∧ i = .int .i64 k ∧ Below (w.heap.size + 1) (w.alloc (.cells #[.int .i64 n, .slice ao_l l.length cap_l] 41)) wr ∧ Hid (∀ i, i < k → doubleAt l i = false)) (fun i _ => l.length - (intOf i).toNat)
  case atStart => exact ⟨1, .inr rfl, Nat.le_refl _, rfl, box_refl _ _, Lib.hid (fun i hi => (show i = 0 by omega) ▸ rfl)⟩
  case round =>
    obtain ⟨k, hk, hk1, rfl, hbox, Hs⟩ := hrel
    have hbel := box_below hbox
    have hbz := box_lt hbox
    have hc1 := box_cell hbox 1
    simp at hc1
    by_cases hlt : k < l.length
    · obtain ⟨blk, off, rfl, hblk, hcs⟩ := hc_l (by omega)
      obtain ⟨x1, x2⟩ := hcs k hlt
      replace x1 := keepw hbel x1
      replace x2 := keepw hbel x2
      have hbs := hbel.size
      have hj : (k : Int) < (l.length : Int) := by omega
      obtain ⟨j, hj0⟩ : ∃ j, j = k - 1 := ⟨_, rfl⟩
      have hkp : j < l.length := by omega
      have hj1 : (j : Int) < (l.length : Int) := by omega
      have hkk : ((k : Int) - 1) = (j : Int) := by omega
      have hkw : IntKind.i64.wrap (j : Int) = (j : Int) := IntWalk.i64_in _ (by omega)
      obtain ⟨y1, y2⟩ := hcs j hkp
      replace y1 := keepw hbel y1
      replace y2 := keepw hbel y2
      clear hc_l hcs
      replace hblk : blk < wr.heap.size := by omega
      have hat : doubleAt l k = (l[j] == l[k]) := by subst hj0; simp [doubleAt, hlt, hkp]; omega
      have Hat := Lib.hid hat
      clear hat
      clear hj0
      have heq := run_eqlBar l[j].1 l[j].2 l[k].1 l[k].2
      cases hq : peqB l[j].1 l[j].2 l[k].1 l[k].2
      all_goals
        go_wp2_with fail
        go_region_held3 (fun w' => (∀ b o, b < wr.heap.size → w'.cell? ⟨b, o, none⟩ = wr.cell? ⟨b, o, none⟩) ∧ Below wr.heap.size wr w') (first | exact grow_drew _ | exact grow_trans (by with_reducible assumption) hb1) (fail)
        go_wp2
      · go_roundw
        case rel =>
          refine ⟨k + 1, .inl (by omega), by omega, by go_num, box_trans hbox (Below.refl _ _).drew, Lib.hid (fun i hi => ?_)⟩
          by_cases hik : i = k
          · subst hik; rw [Hat.out, ← peqB_beq]; exact hq
          · exact Hs.out i (by omega)
        case measure => simp [intOf]; omega
      · go_ret
        exact ⟨ret_bool (hasDbl_true k hlt (by rw [Hat.out, ← peqB_beq]; exact hq)).symm, hbel.drew⟩
    · have hnl : decide ((k : Int) < (l.length : Int)) = false := by simp; omega
      clear hc_l
      go_wp2
      go_ret
      exact ⟨ret_bool (hasDbl_false (fun i hi => Hs.out i (by omega))).symm, hbel⟩
set_option maxHeartbeats 800000 in
theorem l17Simple_c (v : Value) (g : Grf) (w : World) (h : GraphAt w v g) :
    Calls Try.prog 117 #[v] w fun e w' => e = .returned (.bool (isSimple g)) ∧ Below w.heap.size w w' := by
  obtain ⟨u, rfl, h⟩ := h
  obtain ⟨n, l⟩ := g
  simp only at h ⊢
  have Hh := h
  obtain ⟨hm_l, ao_l, cap_l, rfl, hc_l⟩ := h; unfold maxLen at hm_l
  replace Hh := Lib.hid Hh
  go_enter Try.func117, Try.ntmps117
  go_wp2
  go_loopw [3] (fun i wr => ∃ k : Nat, (k ≤ l.length ∨ k = 1) ∧ 1 ≤ k ∧ i = .int .i64 k ∧ Below (w.heap.size + 1) (w.alloc (.cells #[.int .i64 n, .slice ao_l l.length cap_l] 41)) wr ∧ Hid (∀ i, i < k → doubleAt l i = false)) (fun i _ => l.length - (intOf i).toNat)
  case atStart => exact ⟨1, .inr rfl, Nat.le_refl _, rfl, box_refl _ _, Lib.hid (fun i hi => (show i = 0 by omega) ▸ rfl)⟩
  case round =>
    obtain ⟨k, hk, hk1, rfl, hbox, Hs⟩ := hrel
    have hbel := box_below hbox
    have hbz := box_lt hbox
    have hc1 := box_cell hbox 1
    simp at hc1
    by_cases hlt : k < l.length
    · obtain ⟨blk, off, rfl, hblk, hcs⟩ := hc_l (by omega)
      obtain ⟨x1, x2⟩ := hcs k hlt
      replace x1 := keepw hbel x1
      replace x2 := keepw hbel x2
      have hbs := hbel.size
      have hj : (k : Int) < (l.length : Int) := by omega
      obtain ⟨j, hj0⟩ : ∃ j, j = k - 1 := ⟨_, rfl⟩
      have hkp : j < l.length := by omega
      have hj1 : (j : Int) < (l.length : Int) := by omega
      have hkk : ((k : Int) - 1) = (j : Int) := by omega
      have hkw : IntKind.i64.wrap (j : Int) = (j : Int) := IntWalk.i64_in _ (by omega)
      obtain ⟨y1, y2⟩ := hcs j hkp
      replace y1 := keepw hbel y1
      replace y2 := keepw hbel y2
      clear hc_l hcs
      replace hblk : blk < wr.heap.size := by omega
      have hat : doubleAt l k = (l[j] == l[k]) := by subst hj0; simp [doubleAt, hlt, hkp]; omega
      have Hat := Lib.hid hat
      clear hat
      clear hj0
      have heq := run_eqlBar l[j].1 l[j].2 l[k].1 l[k].2
      cases hq : peqB l[j].1 l[j].2 l[k].1 l[k].2
      all_goals
        go_wp2_with fail
        go_region_held3 (fun w' => (∀ b o, b < wr.heap.size → w'.cell? ⟨b, o, none⟩ = wr.cell? ⟨b, o, none⟩) ∧ Below wr.heap.size wr w') (first | exact grow_drew _ | exact grow_trans (by with_reducible assumption) hb1) (fail)
        go_wp2
      · go_roundw
        case rel =>
          refine ⟨k + 1, .inl (by omega), by omega, by go_num, box_trans hbox (Below.refl _ _).drew, Lib.hid (fun i hi => ?_)⟩
          by_cases hik : i = k
          · subst hik; rw [Hat.out, ← peqB_beq]; exact hq
          · exact Hs.out i (by omega)
        case measure => simp [intOf]; omega
      · go_ret
        exact ⟨ret_bool (by simp only [isSimple, hasDbl_true k hlt (show doubleAt l k = true by rw [Hat.out, ← peqB_beq]; exact hq)]; simp), hbel.drew⟩
    · have hnl : decide ((k : Int) < (l.length : Int)) = false := by simp; omega
      have hc0 := box_cell hbox 0
      simp at hc0
      have hd := hasDbl_false (fun i hi => Hs.out i (show i < k by omega))
      have hg : GraphAt wr (.agg #[.int .i64 n, .slice ao_l l.length cap_l]) ⟨n, l⟩ := GraphAt.below ⟨_, rfl, Hh.out⟩ hbel
      have Hg := Lib.hid hg
      have Hd := Lib.hid hd
      clear hd hg hc_l
      go_wp2_with fail
      refine (isGraphS_c _ _ _ Hg.out).mono ?_
      rintro e w3 ⟨rfl, hb3⟩
      go_wp2
      go_ret
      exact ⟨ret_bool (by simp only [isSimple, Hd.out]; simp), bt hbel hb3⟩
end Go.Proofs.Ytlmlfbjcpajinaa
