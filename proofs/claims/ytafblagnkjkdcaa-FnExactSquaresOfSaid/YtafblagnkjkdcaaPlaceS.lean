/- Contracts of the functions on slices of places. -/
import Derived.Test.YtafblagnkjkdcaaPlace
import Derived.Deep.RegionHeld3
namespace Go.Proofs.Ytafblagnkjkdcaa
open Go.RowKit
set_option linter.unusedSimpArgs false
set_option linter.unusedVariables false

def nearAt (l1 l2 : List (Int × Int)) (i : Nat) : Bool := nearB (l1.getD i (0, 0)).1 (l1.getD i (0, 0)).2 (l2.getD i (0, 0)).1 (l2.getD i (0, 0)).2
def areNearB (l1 l2 : List (Int × Int)) : Bool := decide (l1.length = l2.length) && (List.range l1.length).all (nearAt l1 l2)
theorem areNearB_true {l1 l2 : List (Int × Int)} (h1 : l1.length = l2.length) (h : ∀ i, i < l1.length → nearAt l1 l2 i = true) : areNearB l1 l2 = true := by
  simp [areNearB, h1]; intro i hi; exact h i (by omega)
theorem areNearB_false {l1 l2 : List (Int × Int)} (i : Nat) (h1 : i < l1.length) (h : nearAt l1 l2 i = false) : areNearB l1 l2 = false := by
  simp only [areNearB, Bool.and_eq_false_iff, List.all_eq_false]; exact .inr ⟨i, by simpa using h1, by simp [h]⟩
theorem areNearB_len {l1 l2 : List (Int × Int)} (h : l1.length ≠ l2.length) : areNearB l1 l2 = false := by simp [areNearB, h]

set_option maxHeartbeats 400000 in
theorem areNearS_c (v1 v2 : Value) (l1 l2 : List (Int × Int)) (w : World) (h1 : PairsAt w v1 l1) (h2 : PairsAt w v2 l2) :
    Calls Try.prog 14 #[v1, v2] w fun e w' => e = .returned (.bool (areNearB l1 l2)) ∧ Below w.heap.size w w' := by
  obtain ⟨hm1, ao1, cap1, rfl, hc1⟩ := h1
  obtain ⟨hm2, ao2, cap2, rfl, hc2⟩ := h2
  unfold maxLen at hm1 hm2
  go_enter Try.func14, Try.ntmps14
  go_wp2
  go_loopw [5] (fun i wr => ∃ k : Nat, k ≤ l1.length ∧ k ≤ l2.length ∧ i = .int .i64 k ∧ Below w.heap.size w wr ∧ Hid (∀ i, i < k → nearAt l1 l2 i = true)) (fun i _ => l1.length - (intOf i).toNat)
  case atStart => exact ⟨0, Nat.zero_le _, Nat.zero_le _, rfl, Below.refl _ _, Lib.hid (by omega)⟩
  case round =>
    obtain ⟨k, hk, hk2, rfl, hbel, Hs⟩ := hrel
    by_cases hlt : k < l1.length ∧ k < l2.length
    · obtain ⟨hlt, hlt2⟩ := hlt
      obtain ⟨b, off, rfl, hb, hcs⟩ := hc1 (by omega)
      obtain ⟨hx1, hx2⟩ := hcs k hlt
      obtain ⟨b', off', rfl, hb', hcs'⟩ := hc2 (by omega)
      obtain ⟨hy1, hy2⟩ := hcs' k hlt2
      clear hc1 hcs hc2 hcs'
      replace hx1 := keepw hbel hx1
      replace hx2 := keepw hbel hx2
      replace hy1 := keepw hbel hy1
      replace hy2 := keepw hbel hy2
      have hbs := hbel.size
      replace hb : b < wr.heap.size := by omega
      replace hb' : b' < wr.heap.size := by omega
      have j1 : (k : Int) < (l1.length : Int) := by omega
      have j2 : (k : Int) < (l2.length : Int) := by omega
      cases hq : nearB l1[k].1 l1[k].2 l2[k].1 l2[k].2
      all_goals
        have Hn : Hid (nearAt l1 l2 k = nearB l1[k].1 l1[k].2 l2[k].1 l2[k].2) := Lib.hid (by simp [nearAt, hlt, hlt2])
        go_wp2_with fail
        go_region_held3 (fun w' => (∀ b o, b < wr.heap.size → w'.cell? ⟨b, o, none⟩ = wr.cell? ⟨b, o, none⟩) ∧ Below wr.heap.size wr w') (first | exact grow_drew _ | exact grow_trans (by assumption) hb1) (first | (go_at_call 34; refine (l25Step_c _ _ _ _ _).mono ?_; rintro e w' ⟨rfl, hb1⟩))
        go_wp2
      · go_ret
        exact ⟨ret_bool (areNearB_false k hlt (by rw [Hn.out, hq])).symm, hbel.drew.trans (hb1.mono hbs)⟩
      · go_roundw
        case rel =>
          refine ⟨k + 1, by omega, by omega, by go_num, hbel.drew.trans (hb1.mono hbs), Lib.hid fun i hi => ?_⟩
          rcases Nat.lt_succ_iff_lt_or_eq.1 hi with h | rfl
          · exact Hs.out i h
          · rw [Hn.out, hq]
        case measure => simp [intOf]; omega
    · by_cases h1 : k < l1.length
      · have h2 : ¬ k < l2.length := by omega
        go_wp2
        go_ret
        exact ⟨ret_bool (by rw [areNearB_len (by omega)]; simp; omega), hbel⟩
      · go_wp2
        go_ret
        refine ⟨ret_bool ?_, hbel⟩
        by_cases he : l1.length = l2.length
        · rw [areNearB_true he (fun i hi => Hs.out i (by omega))]; simp; omega
        · rw [areNearB_len he]; simp; omega

set_option maxHeartbeats 400000 in
theorem areNearI_c (v1 v2 : Value) (l1 l2 : List (Int × Int)) (w : World) (h1 : PairsAt w v1 l1) (h2 : PairsAt w v2 l2) :
    Calls Try.prog 16 #[v1, v2] w fun e w' => e = .returned (.bool (areNearB l1 l2)) ∧ Below w.heap.size w w' := by
  obtain ⟨hm1, ao1, cap1, rfl, hc1⟩ := h1
  obtain ⟨hm2, ao2, cap2, rfl, hc2⟩ := h2
  unfold maxLen at hm1 hm2
  by_cases hlen : l1.length = l2.length
  · have hle1 : l1.length ≤ l2.length := by omega
    have hle2 : l2.length ≤ l1.length := by omega
    have hne : ((l1.length : Int) != (l2.length : Int)) = false := by simp; omega
    have Hlen := Lib.hid hlen
    clear hlen
    go_enter Try.func16, Try.ntmps16
    go_wp2
    go_loopw [15] (fun i wr => ∃ k : Nat, k ≤ l1.length ∧ i = .int .i64 k ∧ Below w.heap.size w wr ∧ Hid (∀ i, i < k → nearAt l1 l2 i = true)) (fun i _ => l1.length - (intOf i).toNat)
    case atStart => exact ⟨0, Nat.zero_le _, rfl, Below.refl _ _, Lib.hid (by omega)⟩
    case round =>
      obtain ⟨k, hk, rfl, hbel, Hs⟩ := hrel
      by_cases hlt : k < l1.length
      · have hlt2 : k < l2.length := by omega
        obtain ⟨b, off, rfl, hb, hcs⟩ := hc1 (by omega)
        obtain ⟨hx1, hx2⟩ := hcs k hlt
        obtain ⟨b', off', rfl, hb', hcs'⟩ := hc2 (by omega)
        obtain ⟨hy1, hy2⟩ := hcs' k hlt2
        clear hc1 hcs hc2 hcs'
        replace hx1 := keepw hbel hx1
        replace hx2 := keepw hbel hx2
        replace hy1 := keepw hbel hy1
        replace hy2 := keepw hbel hy2
        have hbs := hbel.size
        replace hb : b < wr.heap.size := by omega
        replace hb' : b' < wr.heap.size := by omega
        have Hn : Hid (nearAt l1 l2 k = nearB l1[k].1 l1[k].2 l2[k].1 l2[k].2) := Lib.hid (by simp [nearAt, hlt, hlt2])
        obtain ⟨x, hx⟩ : ∃ x, x = l1[k].1 := ⟨_, rfl⟩
        obtain ⟨y, hy⟩ : ∃ x, x = l1[k].2 := ⟨_, rfl⟩
        obtain ⟨u, hu⟩ : ∃ x, x = l2[k].1 := ⟨_, rfl⟩
        obtain ⟨v, hv⟩ : ∃ x, x = l2[k].2 := ⟨_, rfl⟩
        rw [← hx] at hx1 Hn
        rw [← hy] at hx2 Hn
        rw [← hu] at hy1 Hn
        rw [← hv] at hy2 Hn
        clear hx hy hu hv
        have hcase : onB x y = false ∨ (onB x y = true ∧ onB u v = false) ∨ (onB x y = true ∧ onB u v = true ∧ inB (x - u) (-1) 1 = false) ∨ (onB x y = true ∧ onB u v = true ∧ inB (x - u) (-1) 1 = true ∧ inB (y - v) (-1) 1 = false) ∨ (onB x y = true ∧ onB u v = true ∧ inB (x - u) (-1) 1 = true ∧ inB (y - v) (-1) 1 = true) := by
          cases onB x y <;> cases onB u v <;> cases inB (x - u) (-1) 1 <;> cases inB (y - v) (-1) 1 <;> simp
        have hbd : (onB x y = true → 0 ≤ x ∧ x ≤ 4 ∧ 0 ≤ y ∧ y ≤ 4) ∧ (onB u v = true → 0 ≤ u ∧ u ≤ 4 ∧ 0 ≤ v ∧ v ≤ 4) := ⟨onB_bd, onB_bd⟩
        rcases hcase with h1 | ⟨h1, h2⟩ | ⟨h1, h2, h3⟩ | ⟨h1, h2, h3, h4⟩ | ⟨h1, h2, h3, h4⟩
        all_goals
          simp only [*, Bool.false_eq_true, false_implies, true_implies, forall_const] at hbd
          go_wp2_with (first | (go_at_call 36; refine (isPlace_c _ _ _).mono ?_; rintro e w1 ⟨rfl, hb1⟩; obtain ⟨hb1c, hb1f⟩ := bcell hb1; have hb1z0 : wr.heap.size < w1.heap.size := (by have := hb1.size; (try simp at this); omega); have hb1z1 : wr.heap.size + 1 < w1.heap.size := (by have := hb1.size; (try simp at this); omega)) | (go_at_call 37; refine (within_c _ _ _ _).mono ?_; rintro e w3 ⟨rfl, rfl⟩))
          first
            | (go_ret
               exact ⟨ret_bool (areNearB_false k hlt (by rw [Hn.out]; simp [nearB, *])).symm, (by repeat (first | exact Below.refl _ _ | assumption | refine Below.alloc ?_ (by first | omega | (simp; done) | (simp; omega)) _ | refine Below.setCell ?_ (by first | omega | (simp; done) | (simp; omega)) _ | refine Below.drew ?_ | refine below_dN ?_ _ | refine Below.trans ?_ (Below.mono (by assumption) (by first | omega | (simp; done) | (simp; omega)))))⟩)
            | (go_roundw
               case rel =>
                 refine ⟨k + 1, by omega, by go_num, (by repeat (first | exact Below.refl _ _ | assumption | refine Below.alloc ?_ (by first | omega | (simp; done) | (simp; omega)) _ | refine Below.setCell ?_ (by first | omega | (simp; done) | (simp; omega)) _ | refine Below.drew ?_ | refine below_dN ?_ _ | refine Below.trans ?_ (Below.mono (by assumption) (by first | omega | (simp; done) | (simp; omega))))), Lib.hid fun i hi => ?_⟩
                 rcases Nat.lt_succ_iff_lt_or_eq.1 hi with h | rfl
                 · exact Hs.out i h
                 · rw [Hn.out]; simp [nearB, *]
               case measure => simp [intOf]; omega)
      · go_wp2
        go_ret
        exact ⟨ret_bool (areNearB_true Hlen.out (fun i hi => Hs.out i (by omega))).symm, hbel⟩
  · have hne : ((l1.length : Int) != (l2.length : Int)) = true := by simp; omega
    go_enter Try.func16, Try.ntmps16
    go_wp2
    go_ret
    exact ⟨ret_bool (areNearB_len hlen).symm, Below.refl _ _⟩

end Go.Proofs.Ytafblagnkjkdcaa
