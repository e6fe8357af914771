/- Contracts on slices of slices of places. -/
import Derived.Test.YtafblagnkjkdcaaPlaceS
namespace Go.Proofs.Ytafblagnkjkdcaa
open Go.RowKit
set_option linter.unusedSimpArgs false
set_option linter.unusedVariables false

def idxOf (l : List (List (Int × Int))) (p : List (Int × Int)) : Int := match l.findIdx? (fun x => x == p) with | some i => i | none => -1
theorem idxOf_found {l : List (List (Int × Int))} {p : List (Int × Int)} (k : Nat) (hk : k < l.length) (h : l[k] = p) (hn : ∀ i (hi : i < k), l[i] ≠ p) : idxOf l p = k := by
  unfold idxOf
  have : l.findIdx? (fun x => x == p) = some k := by
    rw [List.findIdx?_eq_some_iff_getElem]
    exact ⟨hk, by simp [h], fun j hj => by simpa using hn j hj⟩
  rw [this]
theorem idxOf_none {l : List (List (Int × Int))} {p : List (Int × Int)} (hn : ∀ i (hi : i < l.length), l[i] ≠ p) : idxOf l p = -1 := by
  unfold idxOf
  have : l.findIdx? (fun x => x == p) = none := by
    rw [List.findIdx?_eq_none_iff]
    intro x hx
    obtain ⟨i, hi, rfl⟩ := List.getElem_of_mem hx
    simpa using hn i hi
  rw [this]

set_option maxHeartbeats 400000 in
theorem indexOfPoseI_c (v1 v2 : Value) (l : List (List (Int × Int))) (p : List (Int × Int)) (w : World) (h1 : PairssAt w v1 l) (h2 : PairsAt w v2 p) :
    Calls Try.prog 21 #[v1, v2] w fun e w' => e = .returned (.int .i64 (idxOf l p)) ∧ Below w.heap.size w w' := by
  obtain ⟨hm_l, ao_l, cap_l, rfl, hc_l⟩ := h1; unfold maxLen at hm_l
  have H2 := Lib.hid h2
  clear h2
  go_enter Try.func21, Try.ntmps21
  go_wp2
  go_loopw [9] (fun i wr => ∃ k : Nat, k ≤ l.length ∧ i = .int .i64 k ∧ Below w.heap.size w wr ∧ Hid (∀ i (hi : i < k) (h : i < l.length), l[i] ≠ p)) (fun i _ => l.length - (intOf i).toNat)
  case atStart => exact ⟨0, Nat.zero_le _, rfl, Below.refl _ _, Lib.hid (by omega)⟩
  case round =>
    obtain ⟨k, hk, rfl, hbel, Hs⟩ := hrel
    by_cases hlt : k < l.length
    · obtain ⟨b, off, rfl, hb, hcs⟩ := hc_l (by omega)
      obtain ⟨u, hu, hR⟩ := hcs k hlt
      clear hc_l hcs
      replace hu := keepw hbel hu
      have hbs := hbel.size
      replace hb : b < wr.heap.size := by omega
      have HR := Lib.hid (hR.below hbel)
      have H2' := Lib.hid (H2.out.below hbel)
      clear hR
      cases hq : (l[k] == p)
      all_goals
        go_wp2_with (go_at_call 39; refine (slicesEqualPlace_c _ _ _ _ _ HR.out H2'.out).mono ?_; rintro e w1 ⟨rfl, hb1⟩)
      · go_roundw
        case rel =>
          refine ⟨k + 1, by omega, by go_num, bt hbel hb1, Lib.hid fun i hi h => ?_⟩
          rcases Nat.lt_succ_iff_lt_or_eq.1 hi with h' | rfl
          · exact Hs.out i h' h
          · simpa using hq
        case measure => simp [intOf]; omega
      · go_ret
        exact ⟨ret_int (idxOf_found k hlt (by simpa using hq) (fun i hi => Hs.out i hi (by omega))).symm, bt hbel hb1⟩
    · go_wp2
      go_ret
      exact ⟨ret_int (idxOf_none (fun i hi => Hs.out i (by omega) hi)).symm, hbel⟩
set_option maxHeartbeats 800000 in
theorem indexOfPoseS_c (v1 v2 : Value) (l : List (List (Int × Int))) (p : List (Int × Int)) (w : World) (h1 : PairssAt w v1 l) (h2 : PairsAt w v2 p) :
    Calls Try.prog 19 #[v1, v2] w fun e w' => e = .returned (.int .i64 (idxOf l p)) ∧ Below w.heap.size w w' := by
  obtain ⟨hm_l, ao_l, cap_l, rfl, hc_l⟩ := h1; unfold maxLen at hm_l
  obtain ⟨hm_p, ao_p, cap_p, rfl, hc_p⟩ := h2; unfold maxLen at hm_p
  go_enter Try.func19, Try.ntmps19
  go_wp2
  go_loopw [5] (fun i wr => ∃ k : Nat, k ≤ l.length ∧ i = .int .i64 k ∧ Below w.heap.size w wr ∧ Hid (∀ i (hi : i < k) (h : i < l.length), l[i] ≠ p)) (fun i _ => l.length - (intOf i).toNat)
  case atStart => exact ⟨0, Nat.zero_le _, rfl, Below.refl _ _, Lib.hid (by omega)⟩
  case round =>
    obtain ⟨k, hk, rfl, hbel, Hs⟩ := hrel
    by_cases hlt : k < l.length
    · obtain ⟨b, off, rfl, hb, hcs⟩ := hc_l (by omega)
      obtain ⟨u, hu, hR⟩ := hcs k hlt
      clear hc_l hcs
      replace hu := keepw hbel hu
      have hbs := hbel.size
      replace hb : b < wr.heap.size := by omega
      obtain ⟨q, hq⟩ : ∃ q, q = l[k] := ⟨_, rfl⟩
      rw [← hq] at hR
      have Hq := Lib.hid hq
      clear hq
      obtain ⟨hm_q, ao_q, cap_q, rfl, hc_q⟩ := hR; unfold maxLen at hm_q
      have hj : (k : Int) < (l.length : Int) := by omega
      by_cases hlen : q.length = p.length
      · have Hlen := Lib.hid hlen
        have hle1 : q.length ≤ p.length := by omega
        have hle2 : p.length ≤ q.length := by omega
        have hne : ((q.length : Int) == (p.length : Int)) = true := by simp; omega
        clear hlen
        go_wp2
        obtain ⟨wo, rfl⟩ : ∃ wo : World, wo = wr := ⟨_, rfl⟩
        go_loopw [6, 7] (fun s i wr => ∃ (m : Nat) (bb : Bool), m ≤ p.length ∧ i = .int .i64 m ∧ s = .bool bb ∧ Below wo.heap.size wo wr ∧ Hid (if bb then q.take m = p.take m else q ≠ p)) (fun _ i _ => p.length - (intOf i).toNat)
        case atStart => exact ⟨0, true, Nat.zero_le _, rfl, rfl, Below.refl _ _, Lib.hid (by simp)⟩
        case round =>
          obtain ⟨m, bb, hm, rfl, rfl, hbel2, Ht⟩ := hrel
          have hbel3 := bt hbel hbel2
          cases bb
          · have hr : Hid (∀ i (hi : i < k + 1) (h : i < l.length), l[i] ≠ p) := Lib.hid fun i hi h => by
              rcases Nat.lt_succ_iff_lt_or_eq.1 hi with h' | rfl
              · exact Hs.out i h' h
              · rw [← Hq.out]; simpa using Ht.out
            by_cases hmp : m < p.length
            all_goals
              go_wp2
              go_roundw
              case rel => exact ⟨k + 1, by omega, by go_num, hbel3, hr⟩
              case measure => simp [intOf]; omega
          · have ht : q.take m = p.take m := by simpa using Ht.out
            have HT := Lib.hid ht
            clear ht
            by_cases hmp : m < p.length
            · have hmq : m < q.length := by omega
              have hbs2 := hbel2.size
              replace hu := keepw hbel2 hu
              replace hb : b < wr.heap.size := by omega
              obtain ⟨b_q, off_q, rfl, hb_q, hcs_q⟩ := hc_q (by omega); obtain ⟨hx_q, hy_q⟩ := hcs_q m hmq; clear hc_q hcs_q; replace hx_q := keepw hbel3 hx_q; replace hy_q := keepw hbel3 hy_q; have hbs_q := (hbel3).size; replace hb_q : b_q < wr.heap.size := (by omega); have hj_q : (m : Int) < (q.length : Int) := (by omega)
              obtain ⟨b_p, off_p, rfl, hb_p, hcs_p⟩ := hc_p (by omega); obtain ⟨hx_p, hy_p⟩ := hcs_p m hmp; clear hc_p hcs_p; replace hx_p := keepw hbel3 hx_p; replace hy_p := keepw hbel3 hy_p; have hbs_p := (hbel3).size; replace hb_p : b_p < wr.heap.size := (by omega); have hj_p : (m : Int) < (p.length : Int) := (by omega)
              have heq := run_eqlPlace q[m].1 q[m].2 p[m].1 p[m].2
              cases hpe : peqB q[m].1 q[m].2 p[m].1 p[m].2
              all_goals
                go_wp2_with fail
                go_region_held3 (fun w' => (∀ b o, b < wr.heap.size → w'.cell? ⟨b, o, none⟩ = wr.cell? ⟨b, o, none⟩) ∧ Below wr.heap.size wr w') (first | exact grow_drew _ | exact grow_trans (by assumption) hb1) (fail)
                go_wp2
                go_roundw
              case rel => exact ⟨m + 1, false, by omega, by go_num, rfl, hbel2.drew, Lib.hid (by simp; intro h; subst h; exact peqB_false hpe rfl)⟩
              case measure => simp [intOf]; omega
              case rel => exact ⟨m + 1, true, by omega, by go_num, rfl, hbel2.drew, Lib.hid (by simp; rw [List.take_succ_eq_append_getElem hmq, List.take_succ_eq_append_getElem hmp, HT.out, show q[m] = p[m] from peqB_true hpe])⟩
              case measure => simp [intOf]; omega
            · go_wp2
              go_ret
              have hmm : m = p.length := by omega
              have hqp : q = p := by
                have h3 := HT.out
                rw [hmm, List.take_length, ← Hlen.out, List.take_length] at h3
                exact h3
              exact ⟨ret_int (idxOf_found k hlt (by rw [← Hq.out, hqp]) (fun i hi => Hs.out i hi (by omega))).symm, hbel3⟩
      · have hne : ((q.length : Int) == (p.length : Int)) = false := by simp; omega
        have hr : Hid (∀ i (hi : i < k + 1) (h : i < l.length), l[i] ≠ p) := Lib.hid fun i hi h => by
          rcases Nat.lt_succ_iff_lt_or_eq.1 hi with h' | rfl
          · exact Hs.out i h' h
          · rw [← Hq.out]; intro h2; exact hlen (by rw [h2])
        go_wp2
        refine wp_loop_rounds 1 ?_
        rw [rounds_succ]
        by_cases hmp : 0 < p.length
        all_goals
          go_wp2
          go_roundw
          case rel => exact ⟨k + 1, by omega, by go_num, hbel, hr⟩
          case measure => simp [intOf]; omega
    · go_wp2
      go_ret
      exact ⟨ret_int (idxOf_none (fun i hi => Hs.out i (by omega) hi)).symm, hbel⟩

def totLen (l : List (List (Int × Int))) : Nat := (l.map List.length).sum
theorem totLen_take_succ (l : List (List (Int × Int))) (k : Nat) (h : k < l.length) : totLen (l.take (k + 1)) = totLen (l.take k) + l[k].length := by
  unfold totLen; rw [List.take_succ_eq_append_getElem h, List.map_append, List.sum_append]; rfl
theorem totLen_take_le (l : List (List (Int × Int))) (k : Nat) : totLen (l.take k) ≤ totLen l := by
  have := List.take_append_drop k l
  have h2 : totLen (l.take k ++ l.drop k) = totLen (l.take k) + totLen (l.drop k) := by unfold totLen; rw [List.map_append, List.sum_append]
  rw [this] at h2; omega
theorem totLen_get (l : List (List (Int × Int))) (k : Nat) (h : k < l.length) : l[k].length ≤ totLen l := by
  have := totLen_take_le l (k + 1); rw [totLen_take_succ l k h] at this; omega
set_option maxHeartbeats 400000 in
theorem szPlaceSS_c (v : Value) (l : List (List (Int × Int))) (left : Int) (w : World) (h : PairssAt w v l) (h0 : 0 ≤ left) (h1 : left ≤ 1048576) :
    Calls Try.prog 18 #[v, .int .i64 left] w fun e w' => e = .returned (.int .i64 (if left < l.length + totLen l then -1 else left - (l.length + totLen l))) ∧ w = w' := by
  obtain ⟨hm_l, ao_l, cap_l, rfl, hc_l⟩ := h; unfold maxLen at hm_l
  by_cases hlt0 : left < l.length
  · have hr : (if left < (l.length : Int) + (totLen l : Int) then (-1 : Int) else left - ((l.length : Int) + totLen l)) = -1 := by rw [if_pos (by omega)]
    have Hr := Lib.hid hr
    clear hr
    go_enter Try.func18, Try.ntmps18
    go_wp2
    go_ret
    first | exact ⟨ret_int Hr.out.symm, rfl⟩ | exact ⟨rfl, rfl⟩
  · go_enter Try.func18, Try.ntmps18
    go_wp2
    go_loop [1, 5] (fun a i => ∃ k : Nat, k ≤ l.length ∧ i = .int .i64 k ∧ a = .int .i64 (left - (l.length + totLen (l.take k))) ∧ (l.length : Int) + totLen (l.take k) ≤ left) (fun _ i => l.length - (intOf i).toNat)
    case atStart => exact ⟨0, Nat.zero_le _, rfl, by simp [totLen], by simp [totLen]; omega⟩
    case round =>
      obtain ⟨k, hk, rfl, rfl, hle⟩ := hrel
      by_cases hlt : k < l.length
      · obtain ⟨b, off, rfl, hb, hcs⟩ := hc_l (by omega)
        obtain ⟨u, hu, hR⟩ := hcs k hlt
        clear hc_l hcs
        have HR := Lib.hid hR
        clear hR
        have htk := totLen_take_succ l k hlt
        have HT := Lib.hid htk
        have hle2 := totLen_take_le l (k + 1)
        have hle3 : totLen (l.take (k + 1)) = totLen (l.take k) + l[k].length := htk
        rw [hle3] at hle2
        clear hle3 htk
        by_cases hs : left - ((l.length : Int) + (totLen (l.take k) : Int)) < (l[k].length : Int)
        · have hr : (if left < (l.length : Int) + (totLen l : Int) then (-1 : Int) else left - ((l.length : Int) + totLen l)) = -1 := by rw [if_pos (by omega)]
          have Hr := Lib.hid hr
          clear hr
          go_wp2_with fail
          refine (szPlaceS_c _ _ _ _ HR.out (by omega) (by omega)).mono ?_
          rintro e w1 ⟨rfl, rfl⟩
          rw [if_pos (by omega)]
          go_wp2
          go_ret
          first | exact ⟨ret_int Hr.out.symm, rfl⟩ | exact ⟨rfl, rfl⟩
        · go_wp2_with fail
          refine (szPlaceS_c _ _ _ _ HR.out (by omega) (by omega)).mono ?_
          rintro e w1 ⟨rfl, rfl⟩
          rw [if_neg (by omega)]
          go_wp2
          go_round
          case rel => exact ⟨k + 1, by omega, by go_num, by rw [HT.out]; congr 1; omega, by rw [HT.out]; omega⟩
          case measure => simp [intOf]; omega
      · have hkl : k = l.length := by omega
        subst hkl
        rw [List.take_length] at hle ⊢
        have hr : (if left < (l.length : Int) + (totLen l : Int) then (-1 : Int) else left - ((l.length : Int) + totLen l)) = left - ((l.length : Int) + totLen l) := by rw [if_neg (by omega)]
        have Hr := Lib.hid hr
        clear hr
        go_wp2
        go_ret
        first | exact ⟨ret_int Hr.out.symm, rfl⟩ | exact ⟨rfl, rfl⟩
theorem infoPlaceS : (Try.prog.info? 27).map (fun i => (i.zero, i.size, i.bytes)) = some (some (.slice none 0 0), 1, 24) := by kernel_rfl
theorem set_append_replicate {α : Type} (us : List α) (z u : α) (m : Nat) (h : 0 < m) : (us ++ List.replicate m z).set us.length u = (us ++ [u]) ++ List.replicate (m - 1) z := by
  obtain ⟨m, rfl⟩ : ∃ m', m = m' + 1 := ⟨m - 1, by omega⟩
  rw [List.set_append_right _ _ (Nat.le_refl _), Nat.sub_self, List.replicate_succ, List.set_cons_zero, List.append_assoc]; rfl
set_option maxHeartbeats 400000 in
theorem toPlaceSS_c (v : Value) (l : List (List (Int × Int))) (w : World) (hl : PairssAt w v l) (hn : l.length ≤ 1048576) (hn2 : totLen l ≤ 1048576) :
    Calls Try.prog 20 #[v] w fun e w' => ∃ v', e = .returned v' ∧ Below w.heap.size w w' ∧ PairssAt w' v' l := by
  obtain ⟨hm, ao_l, cap_l, rfl, hc_l⟩ := hl
  clear hm
  obtain ⟨i0, hi, hz0, hz1, hz2⟩ := info_parts infoPlaceS
  go_enter Try.func20, Try.ntmps20
  go_wp2_with (at_make; refine wpList_make_full _ rfl _ _ _ rfl w.heap.size _ i0 _ 1 Try.underlying33 hi hz0 hz1 .i64 .i64 _ _ l.length rfl rfl rfl rfl ?b2 ?b3 ?b4 ?_)
  case b2 => rw [hz2]; omega
  case b3 => unfold maxLen; omega
  case b4 => exact Nat.le_refl _
  intro w1 hown hg
  go_wp2
  have hbel1 : Below w.heap.size w w1 := (Below.refl _ _).grown hg (Nat.le_refl _) (by intro k hk; cases hk)
  go_loopw [4] (fun i wr => ∃ us : List Value, us.length ≤ l.length ∧ i = .int .i64 us.length ∧ Below w.heap.size w wr ∧
    wr.ownsRow w.heap.size 27 1 (.slice (some ⟨w.heap.size, 0, none⟩) l.length l.length) l.length (us ++ List.replicate (l.length - us.length) (.slice none 0 0)) ∧ Hid (∀ i (h : i < us.length) (h2 : i < l.length), wr.ownsRow (w.heap.size + 1) 49 2 us[i] l[i].length (pcells l[i]))) (fun i _ => l.length - (intOf i).toNat)
  case atStart =>
    refine ⟨[], Nat.zero_le _, rfl, hbel1, ?_, Lib.hid (fun i h => absurd h (by simp))⟩
    have := toList_madeCells_one (.slice none 0 0) (l.length * 1)
    rw [Nat.mul_one] at this
    simp only [List.nil_append, List.length_nil, Nat.sub_zero]
    rw [← this]; simpa using hown
  case round =>
    clear hown hg hbel1
    obtain ⟨us, hk, rfl, hbel, hown, Hin⟩ := hrel
    have hz : w.heap.size < wr.heap.size := (hown.lt w.heap.size rfl).2
    by_cases hlt : us.length < l.length
    · obtain ⟨b, off, rfl, hb, hcs⟩ := hc_l (by omega)
      obtain ⟨u, hu, hR⟩ := hcs us.length hlt
      clear hc_l hcs
      replace hu := keepw hbel hu
      have HR := Lib.hid (hR.below hbel)
      clear hR
      have hbs := hbel.size
      replace hb : b < wr.heap.size := by omega
      have hj : (us.length : Int) < (l.length : Int) := by omega
      have hof := hown.frozenAt
      have hs1 := hown.cellAt us.length (by omega)
      rw [List.getElem?_append_right (Nat.le_refl _), Nat.sub_self, List.getElem?_replicate, if_pos (by omega)] at hs1
      have hlk := totLen_get l us.length hlt
      go_wp2_with fail
      refine (toPlaceS_c _ _ _ HR.out (by omega)).mono ?_
      rintro e w2 ⟨g2, c2, rfl, hb2, o2⟩
      obtain ⟨hbc2, hbf2⟩ := bcell hb2
      go_wp2
      go_roundw
      case rel =>
        have hst := (own_below hown hb2).stored us.length (.slice (some ⟨g2, 0, none⟩) l[us.length].length c2)
        rw [set_append_replicate us _ _ _ (by omega)] at hst
        refine ⟨us ++ [.slice (some ⟨g2, 0, none⟩) l[us.length].length c2], by simp; omega, by simp, (hbel.trans (hb2.mono hbs)).setCell (by simp) _, ?_, Lib.hid fun i h h2 => ?_⟩
        · have h5 := hst.1
          simp only [List.length_append, List.length_cons, List.length_nil]
          rw [show l.length - (us.length + (0 + 1)) = l.length - us.length - 1 from by omega]
          exact h5
        · by_cases hi : i < us.length
          · rw [List.getElem_append_left hi]
            exact own_setLow (own_below (Hin.out i hi h2) hb2) (by simp) _
          · have hi2 : i = us.length := by simp at h; omega
            subst hi2
            rw [List.getElem_append_right (Nat.le_refl _)]
            simp only [Nat.sub_self, List.getElem_cons_zero]
            exact own_setLow (own_mono o2 (by omega)) (by simp) _
      case measure => simp [intOf]; omega
    · have hlen : us.length = l.length := by omega
      go_wp2
      go_ret
      refine ⟨_, rfl, hbel, ?_, _, _, rfl, fun h0 => ⟨_, _, rfl, hz, fun i hi => ?_⟩⟩
      · unfold maxLen; omega
      · refine ⟨us[i], ?_, PairsAt_own (Hin.out i (by omega) hi) (by have := totLen_get l i hi; unfold maxLen; omega)⟩
        have := hown.cellAt i (by omega)
        rw [Nat.zero_add, this, List.getElem?_append_left (by omega)]
        simp [show i < us.length from by omega]
set_option maxHeartbeats 400000 in
theorem eqPlaceSS_c (v1 v2 : Value) (l : List (List (Int × Int))) (w : World) (h1 : PairssAt w v1 l) (h2 : PairssAt w v2 l) :
    Calls Try.prog 22 #[v1, v2] w fun e w' => e = .returned (.bool true) ∧ Below w.heap.size w w' := by
  obtain ⟨hm, ao1, cap1, rfl, hc1⟩ := h1
  obtain ⟨hm', ao2, cap2, rfl, hc2⟩ := h2
  unfold maxLen at hm
  clear hm'
  have hne := len_ne_false (rfl : l.length = l.length)
  go_enter Try.func22, Try.ntmps22
  go_wp2
  go_loopw [5] (fun i wr => ∃ k : Nat, k ≤ l.length ∧ i = .int .i64 k ∧ Below w.heap.size w wr) (fun i _ => l.length - (intOf i).toNat)
  case atStart => exact ⟨0, Nat.zero_le _, rfl, Below.refl _ _⟩
  case round =>
    obtain ⟨k, hk, rfl, hbel⟩ := hrel
    by_cases hlt : k < l.length
    · obtain ⟨b, off, rfl, hb, hcs⟩ := hc1 (by omega)
      obtain ⟨u1, hu1, hR1⟩ := hcs k hlt
      obtain ⟨b', off', rfl, hb', hcs'⟩ := hc2 (by omega)
      obtain ⟨u2, hu2, hR2⟩ := hcs' k hlt
      clear hc1 hcs hc2 hcs'
      replace hu1 := keepw hbel hu1
      replace hu2 := keepw hbel hu2
      have HR1 := Lib.hid (hR1.below hbel)
      have HR2 := Lib.hid (hR2.below hbel)
      clear hR1 hR2
      have hbs := hbel.size
      replace hb : b < wr.heap.size := by omega
      replace hb' : b' < wr.heap.size := by omega
      have hj : (k : Int) < (l.length : Int) := by omega
      have hbq : (l[k] == l[k]) = true := by simp
      go_wp2_with fail
      go_region_held3 (fun w' => (∀ b o, b < wr.heap.size → w'.cell? ⟨b, o, none⟩ = wr.cell? ⟨b, o, none⟩) ∧ Below wr.heap.size wr w') (first | exact grow_drew _ | exact grow_trans (by assumption) hb1) (first | (go_at_call 17; refine (eqPlaceS_c _ _ l[k] l[k] _ ?_ ?_).mono ?_; (exact HR1.out); (exact HR2.out); rintro e w' ⟨rfl, hb1⟩))
      go_wp2
      go_roundw
      case rel => exact ⟨k + 1, by omega, by go_num, hbel.drew.trans (hb1.mono hbs)⟩
      case measure => simp [intOf]; omega
    · go_wp2
      go_ret
      exact ⟨rfl, hbel⟩
end Go.Proofs.Ytafblagnkjkdcaa
