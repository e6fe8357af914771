/- Contracts of the laws' helpers on slices of ints and of pairs of ints. -/
import Derived.Test.YtlmlfbjcpajinaaNum
import Derived.Deep.RegionHeld3
namespace Go.Proofs.Ytlmlfbjcpajinaa
open Go.RowKit
set_option linter.unusedSimpArgs false
set_option linter.unusedVariables false
theorem infoInt : (Try.prog.info? 3).map (fun i => (i.zero, i.size, i.bytes)) = some (some (.int .i64 0), 1, 8) := by kernel_rfl

set_option maxHeartbeats 400000 in
theorem toIntS_c (v : Value) (l : List Int) (w : World) (hl : IntsAt w v l) (hn : l.length ≤ 1048576) :
    Calls Try.prog 16 #[v] w fun e w' => ∃ g c, e = .returned (.slice (some ⟨g, 0, none⟩) l.length c) ∧ Below w.heap.size w w' ∧ w'.ownsRow w.heap.size 3 1 (.slice (some ⟨g, 0, none⟩) l.length c) l.length (l.map (Value.int .i64)) := by
  obtain ⟨hm, ao_l, cap_l, rfl, hc_l⟩ := hl
  clear hm
  obtain ⟨i0, hi, hz0, hz1, hz2⟩ := info_parts infoInt
  go_enter Try.func16, Try.ntmps16
  go_wp2_with (at_make; refine wpList_make_full _ rfl _ _ _ rfl w.heap.size _ i0 _ 1 Try.underlying22 hi hz0 hz1 .i64 .i64 _ _ l.length rfl rfl rfl rfl ?b2 ?b3 ?b4 ?_)
  case b2 => rw [hz2]; omega
  case b3 => unfold maxLen; omega
  case b4 => exact Nat.le_refl _
  intro w1 hown hg
  go_wp2
  have hbel1 : Below w.heap.size w w1 := (Below.refl _ _).grown hg (Nat.le_refl _) (by intro k hk; cases hk)
  go_loopw [4] (fun i wr => ∃ k : Nat, k ≤ l.length ∧ i = .int .i64 k ∧ Below w.heap.size w wr ∧
    wr.ownsRow w.heap.size 3 1 (.slice (some ⟨w.heap.size, 0, none⟩) l.length l.length) l.length ((fillTo l 0 k).map (Value.int .i64))) (fun i _ => l.length - (intOf i).toNat)
  case atStart =>
    refine ⟨0, Nat.zero_le _, rfl, hbel1, ?_⟩
    rw [fillTo_zero, List.map_replicate]
    have := toList_madeCells_one (.int .i64 0) (l.length * 1)
    rw [Nat.mul_one] at this
    rw [← this]; simpa using hown
  case round =>
    clear hown hg hbel1
    obtain ⟨k, hk, rfl, hbel, hown⟩ := hrel
    have hz : w.heap.size < wr.heap.size := (hown.lt w.heap.size rfl).2
    by_cases hlt : k < l.length
    · obtain ⟨b_l, off_l, rfl, hb_l, hcs_l⟩ := hc_l (by omega); have hx_l := hcs_l k hlt; clear hc_l hcs_l; replace hx_l := keepw hbel hx_l; have hbs_l := (hbel).size; replace hb_l : b_l < wr.heap.size := (by omega); have hj_l : (k : Int) < (l.length : Int) := (by omega)
      have hof := hown.frozenAt
      have hs1 := hown.cellAt k (by omega)
      rw [icells_get _ _ (by rw [fillTo_length _ _ _ hk]; exact hlt)] at hs1
      go_wp2
      go_roundw
      case rel =>
        refine ⟨k + 1, by omega, by go_num, hbel.setCell (by simp) _, ?_⟩
        have h3 := (hown.stored k (.int .i64 l[k])).1
        rw [← List.map_set, fillTo_set _ _ _ hlt] at h3
        exact h3
      case measure => simp [intOf]; omega
    · have : k = l.length := by omega
      subst this
      rw [fillTo_full] at hown
      go_wp2
      go_ret
      exact ⟨_, _, rfl, hbel, hown⟩
set_option maxHeartbeats 400000 in
theorem markIntS_c (B : Nat) (v : Value) (l : List Int) (k : Int) (w : World) (h : w.ownsRow B 3 1 v l.length (l.map (Value.int .i64))) (hn : l.length ≤ 4294967296) (h0 : 0 ≤ k) (h1 : k ≤ 1099511627776) :
    Calls Try.prog 26 #[v, .int .i64 k] w fun e w' => e = .returned (.int .i64 (k + l.length)) ∧ w'.ownsRow B 3 1 v l.length ((numsFrom k l.length).map (Value.int .i64)) ∧ w.grownBy w' v.ownBlock := by
  rcases own_form h with ⟨rfl, hl0⟩ | ⟨g, cap, rfl, hg, hgs⟩
  · have hl1 : l = [] := List.eq_nil_of_length_eq_zero hl0
    subst hl1
    go_enter Try.func26, Try.ntmps26
    go_wp2
    refine wp_loop_rounds 1 ?_
    rw [rounds_succ]
    go_wp2
    go_ret
    exact ⟨ret_int (by simp), h, grownBy_refl _ _⟩
  · go_enter Try.func26, Try.ntmps26
    go_wp2
    go_loopw [1, 5] (fun a i wr => ∃ j : Nat, j ≤ l.length ∧ i = .int .i64 j ∧ a = .int .i64 (k + j) ∧ w.grownBy wr (some g) ∧
      wr.ownsRow B 3 1 (.slice (some ⟨g, 0, none⟩) l.length cap) l.length ((markTo (numsFrom k) l j).map (Value.int .i64))) (fun _ i _ => l.length - (intOf i).toNat)
    case atStart => exact ⟨0, Nat.zero_le _, rfl, by simp, grownBy_refl _ _, by simpa [markTo, numsFrom] using h⟩
    case round =>
      obtain ⟨j, hj, rfl, rfl, hgr, hown⟩ := hrel
      clear h
      by_cases hlt : j < l.length
      · have hof := hown.frozenAt
        have hs1 := hown.cellAt j (by omega)
        rw [icells_get _ _ (by rw [markTo_length _ (numsFrom_length k) _ _ hj]; exact hlt)] at hs1
        go_wp2
        go_roundw
        case rel =>
          have h3 := hown.stored j (.int .i64 (k + j))
          refine ⟨j + 1, by omega, by go_num, by go_num, grownBy_trans hgr h3.2, ?_⟩
          have h4 := h3.1
          rw [← List.map_set, markTo_set _ (numsFrom_length k) _ _ _ (numsFrom_succ k j) hlt] at h4
          exact h4
        case measure => simp [intOf]; omega
      · have : j = l.length := by omega
        subst this
        go_wp2
        go_ret
        exact ⟨rfl, by simpa [markTo] using hown, hgr⟩
set_option maxHeartbeats 400000 in
theorem heldIntS_c (v : Value) (n : Nat) (k : Int) (w : World) (h : IntsAt w v (numsFrom k n)) (hn : n ≤ 4294967296) (h0 : 0 ≤ k) (h1 : k ≤ 1099511627776) :
    Calls Try.prog 27 #[v, .int .i64 k] w fun e w' => e = .returned (.int .i64 (k + n)) ∧ w = w' := by
  obtain ⟨hm, ao, cap, rfl, hc⟩ := h
  have hlen := numsFrom_length k n
  rw [hlen]
  replace hc : 0 < n → ∃ b off, ao = some ⟨b, off, none⟩ ∧ b < w.heap.size ∧ ∀ i, i < n → w.cell? ⟨b, off + i, none⟩ = some (.int .i64 (k + i)) := fun h0 => by
    obtain ⟨b, off, h1, h2, h3⟩ := hc (by omega)
    exact ⟨b, off, h1, h2, fun i hi => by have := h3 i (by omega); rwa [numsFrom_get] at this⟩
  clear hm hlen
  go_enter Try.func27, Try.ntmps27
  go_wp2
  go_loop [1, 5] (fun a i => ∃ j : Nat, j ≤ n ∧ i = .int .i64 j ∧ a = .int .i64 (k + j)) (fun _ i => n - (intOf i).toNat)
  case atStart => exact ⟨0, Nat.zero_le _, rfl, by simp⟩
  case round =>
    obtain ⟨j, hj, rfl, rfl⟩ := hrel
    by_cases hlt : j < n
    · obtain ⟨b, off, rfl, hb, hcs⟩ := hc (by omega)
      have hx := hcs j (by omega)
      clear hc hcs
      have hne : (k + (j : Int) != k + j) = false := by simp
      go_wp2
      go_round
      case rel => exact ⟨j + 1, by omega, by go_num, by go_num⟩
      case measure => simp [intOf]; omega
    · go_wp2
      go_ret
      exact ⟨ret_int (by omega), rfl⟩

theorem szIntS_c (v : Value) (l : List Int) (left : Int) (w : World) (h : IntsAt w v l) (h0 : 0 ≤ left) (h1 : left ≤ 1048576) :
    Calls Try.prog 87 #[v, .int .i64 left] w fun e w' => e = .returned (.int .i64 (if left < l.length then -1 else left - l.length)) ∧ w = w' := by
  obtain ⟨hm_l, ao_l, cap_l, rfl, hc_l⟩ := h; unfold maxLen at hm_l
  by_cases hlt : left < l.length
  all_goals
    go_enter Try.func87, Try.ntmps87
    go_wp2
    go_ret
    exact ⟨ret_int (by simp [hlt]), rfl⟩

set_option maxHeartbeats 400000 in
theorem eqIntS_c (v1 v2 : Value) (l1 l2 : List Int) (w : World) (h1 : IntsAt w v1 l1) (h2 : IntsAt w v2 l2) :
    Calls Try.prog 18 #[v1, v2] w fun e w' => e = .returned (.bool (l1 == l2)) ∧ Below w.heap.size w w' := by
  obtain ⟨hm_l1, ao_l1, cap_l1, rfl, hc_l1⟩ := h1; unfold maxLen at hm_l1
  obtain ⟨hm_l2, ao_l2, cap_l2, rfl, hc_l2⟩ := h2; unfold maxLen at hm_l2
  by_cases hlen : l1.length = l2.length
  · have Hlen := Lib.hid hlen
    have hle1 : l1.length ≤ l2.length := by omega
    have hle2 : l2.length ≤ l1.length := by omega
    have hne := len_ne_false hlen
    clear hlen
    go_enter Try.func18, Try.ntmps18
    go_wp2
    go_loopw [5] (fun i wr => ∃ k : Nat, k ≤ l1.length ∧ i = .int .i64 k ∧ Below w.heap.size w wr ∧ Hid (l1.take k = l2.take k)) (fun i _ => l1.length - (intOf i).toNat)
    case atStart => exact ⟨0, Nat.zero_le _, rfl, Below.refl _ _, Lib.hid rfl⟩
    case round =>
      obtain ⟨k, hk, rfl, hbel, Hs⟩ := hrel
      by_cases hlt : k < l1.length
      · have hlt2 : k < l2.length := by omega
        obtain ⟨b_l1, off_l1, rfl, hb_l1, hcs_l1⟩ := hc_l1 (by omega); have hx_l1 := hcs_l1 k hlt; clear hc_l1 hcs_l1; replace hx_l1 := keepw hbel hx_l1; have hbs_l1 := (hbel).size; replace hb_l1 : b_l1 < wr.heap.size := (by omega); have hj_l1 : (k : Int) < (l1.length : Int) := (by omega)
        obtain ⟨b_l2, off_l2, rfl, hb_l2, hcs_l2⟩ := hc_l2 (by omega); have hx_l2 := hcs_l2 k hlt2; clear hc_l2 hcs_l2; replace hx_l2 := keepw hbel hx_l2; have hbs_l2 := (hbel).size; replace hb_l2 : b_l2 < wr.heap.size := (by omega); have hj_l2 : (k : Int) < (l2.length : Int) := (by omega)
        cases hq : (l1[k] != l2[k])
        all_goals
          go_wp2_with fail
          go_region_held3 (fun w' => (∀ b o, b < wr.heap.size → w'.cell? ⟨b, o, none⟩ = wr.cell? ⟨b, o, none⟩) ∧ Below wr.heap.size wr w') (first | exact grow_drew _ | exact grow_trans (by with_reducible assumption) hb1) (fail)
          go_wp2
        rotate_left
        · go_ret
          exact ⟨ret_bool (beq_false_of (ne_of_get hlt hlt2 (by simpa using hq))).symm, hbel.drew⟩
        · go_roundw
          case rel => exact ⟨k + 1, by omega, by go_num, hbel.drew, Lib.hid (take_eq_succ hlt hlt2 Hs.out (by simpa using hq))⟩
          case measure => simp [intOf]; omega
      · go_wp2
        go_ret
        have h := eq_of_take (by omega) Hlen.out Hs.out
        exact ⟨ret_bool (by rw [h, beq_self_eq_true]), hbel⟩
  · have hne := len_ne_true hlen
    go_enter Try.func18, Try.ntmps18
    go_wp2
    go_ret
    exact ⟨ret_bool (beq_false_of (fun h => hlen (by rw [h]))).symm, Below.refl _ _⟩


/-! ### Place -/
theorem infoPlace : (Try.prog.info? 118).map (fun i => (i.zero, i.size, i.bytes)) = some (some (.agg #[.int .i64 0, .int .i64 0]), 2, 16) := by kernel_rfl
theorem run_eqlPlace (x y u v : Int) (w : World) : (binOp .eql 118 (.agg #[.int .i64 x, .int .i64 y]) (.agg #[.int .i64 u, .int .i64 v])).run Try.prog w = .ok (.bool (peqB x y u v)) w := by
  cases hx : x == u
  all_goals
    cases hy : y == v
    all_goals
      have h : peqB x y u v = ((x == u) && (y == v)) := rfl
      rw [h, hx, hy]
      simp [go_sem, hx, hy]
theorem run_neqPlace (x y u v : Int) (w : World) : (binOp .neq 118 (.agg #[.int .i64 x, .int .i64 y]) (.agg #[.int .i64 u, .int .i64 v])).run Try.prog w = .ok (.bool (!peqB x y u v)) w := by
  cases hx : x == u
  all_goals
    cases hy : y == v
    all_goals
      have h : peqB x y u v = ((x == u) && (y == v)) := rfl
      rw [h, hx, hy]
      simp [go_sem, hx, hy]
theorem toPlace_c (a b : Int) (w : World) :
    Calls Try.prog 106 #[.agg #[.int .i64 a, .int .i64 b]] w fun e w' => e = .returned (.agg #[.int .i64 a, .int .i64 b]) ∧ Below w.heap.size w w' := by
  go_enter Try.func106, Try.ntmps106
  go_wp2
  exact bodyPost_ret (v := .agg #[.int .i64 a, .int .i64 b]) (by simp [results, Try.results106, go_sem]) rfl ⟨rfl, (by repeat (first | exact Below.refl _ _ | assumption | refine Below.alloc ?_ (by first | omega | (simp; done) | (simp; omega)) _ | refine Below.setCell ?_ (by first | omega | (simp; done) | (simp; omega)) _ | refine Below.drew ?_ | refine below_dN ?_ _ | refine Below.trans ?_ (Below.mono (by with_reducible assumption) (by first | omega | (simp; done) | (simp; omega)))))⟩
set_option maxHeartbeats 400000 in
theorem toPlaceS_c (v : Value) (l : List (Int × Int)) (w : World) (hl : PairsAt w v l) (hn : l.length ≤ 1048576) :
    Calls Try.prog 57 #[v] w fun e w' => ∃ g c, e = .returned (.slice (some ⟨g, 0, none⟩) l.length c) ∧ Below w.heap.size w w' ∧ w'.ownsRow w.heap.size 118 2 (.slice (some ⟨g, 0, none⟩) l.length c) l.length (pcells l) := by
  obtain ⟨hm, ao_l, cap_l, rfl, hc_l⟩ := hl
  clear hm
  obtain ⟨i0, hi, hz0, hz1, hz2⟩ := info_parts infoPlace
  go_enter Try.func57, Try.ntmps57
  go_wp2_with (at_make; refine wpList_make_full _ rfl _ _ _ rfl w.heap.size _ i0 _ 2 Try.underlying54 hi hz0 hz1 .i64 .i64 _ _ l.length rfl rfl rfl rfl ?b2 ?b3 ?b4 ?_)
  case b2 => rw [hz2]; omega
  case b3 => unfold maxLen; omega
  case b4 => exact Nat.le_refl _
  intro w1 hown hg
  go_wp2
  have hbel1 : Below w.heap.size w w1 := (Below.refl _ _).grown hg (Nat.le_refl _) (by intro k hk; cases hk)
  go_loopw [4] (fun i wr => ∃ k : Nat, k ≤ l.length ∧ i = .int .i64 k ∧ Below w.heap.size w wr ∧
    wr.ownsRow w.heap.size 118 2 (.slice (some ⟨w.heap.size, 0, none⟩) l.length l.length) l.length (pcells (fillTo l (0, 0) k))) (fun i _ => l.length - (intOf i).toNat)
  case atStart =>
    refine ⟨0, Nat.zero_le _, rfl, hbel1, ?_⟩
    rw [fillTo_zero, pcells_replicate]
    have : (madeCells #[Value.int IntKind.i64 0, Value.int IntKind.i64 0] (l.length * 2)).toList = List.replicate (l.length * 2) (.int .i64 0) := toList_madeCells_two _ _
    rw [← this]; exact hown
  case round =>
    clear hown hg hbel1
    obtain ⟨k, hk, rfl, hbel, hown⟩ := hrel
    have hz : w.heap.size < wr.heap.size := (hown.lt w.heap.size rfl).2
    by_cases hlt : k < l.length
    · obtain ⟨b_l, off_l, rfl, hb_l, hcs_l⟩ := hc_l (by omega); obtain ⟨hx_l, hy_l⟩ := hcs_l k hlt; clear hc_l hcs_l; replace hx_l := keepw hbel hx_l; replace hy_l := keepw hbel hy_l; have hbs_l := (hbel).size; replace hb_l : b_l < wr.heap.size := (by omega); have hj_l : (k : Int) < (l.length : Int) := (by omega)
      have hof := hown.frozenAt
      have hs1 := hown.cellAt (k * 2) (by omega)
      have hs2 := hown.cellAt (k * 2 + 1) (by omega)
      rw [pcells_get1 _ _ (by rw [fillTo_length _ _ _ hk]; exact hlt)] at hs1
      rw [pcells_get2 _ _ (by rw [fillTo_length _ _ _ hk]; exact hlt)] at hs2
      go_wp2_with (go_at_call 106; refine (toPlace_c _ _ _).mono ?_; rintro e w' ⟨rfl, hb2⟩; obtain ⟨hbc2, hbf2⟩ := bcell hb2)
      go_roundw
      case rel =>
        refine ⟨k + 1, by omega, by go_num, ?_, ?_⟩
        · exact ((hbel.trans (hb2.mono hbel.size)).setCell (by simp) _).setCell (by simp) _
        · have h3 := (((own_below hown hb2).stored (k * 2) (.int .i64 l[k].1)).1.stored (k * 2 + 1) (.int .i64 l[k].2)).1
          rw [← pcells_set _ _ l[k], fillTo_set _ _ _ hlt] at h3
          exact h3
      case measure => simp [intOf]; omega
    · have : k = l.length := by omega
      subst this
      rw [fillTo_full] at hown
      go_wp2
      go_ret
      exact ⟨_, _, rfl, hbel, hown⟩
theorem eqPlace_c (x y u v : Int) (w : World) :
    Calls Try.prog 109 #[.agg #[.int .i64 x, .int .i64 y], .agg #[.int .i64 u, .int .i64 v]] w fun e w' => e = .returned (.bool (peqB x y u v)) ∧ Below w.heap.size w w' := by
  go_enter Try.func109, Try.ntmps109
  go_wp2
  all_goals
    go_ret
    exact ⟨ret_bool (by simp_all [peqB]), (by repeat (first | exact Below.refl _ _ | assumption | refine Below.alloc ?_ (by first | omega | (simp; done) | (simp; omega)) _ | refine Below.setCell ?_ (by first | omega | (simp; done) | (simp; omega)) _ | refine Below.drew ?_ | refine below_dN ?_ _ | refine Below.trans ?_ (Below.mono (by with_reducible assumption) (by first | omega | (simp; done) | (simp; omega)))))⟩
set_option maxHeartbeats 400000 in
theorem markPlaceS_c (B : Nat) (v : Value) (l : List (Int × Int)) (k : Int) (w : World) (h : w.ownsRow B 118 2 v l.length (pcells l)) (hn : l.length ≤ 4294967296) (h0 : 0 ≤ k) (h1 : k ≤ 1099511627776) :
    Calls Try.prog 130 #[v, .int .i64 k] w fun e w' => e = .returned (.int .i64 (k + 2 * l.length)) ∧ w'.ownsRow B 118 2 v l.length (pcells (pairsFrom k l.length)) ∧ w.grownBy w' v.ownBlock := by
  rcases own_form h with ⟨rfl, hl0⟩ | ⟨g, cap, rfl, hg, hgs⟩
  · have hl1 : l = [] := List.eq_nil_of_length_eq_zero hl0
    subst hl1
    go_enter Try.func130, Try.ntmps130
    go_wp2
    refine wp_loop_rounds 1 ?_
    rw [rounds_succ]
    go_wp2
    go_ret
    exact ⟨ret_int (by simp), h, grownBy_refl _ _⟩
  · go_enter Try.func130, Try.ntmps130
    go_wp2
    go_loopw [1, 5] (fun a i wr => ∃ j : Nat, j ≤ l.length ∧ i = .int .i64 j ∧ a = .int .i64 (k + 2 * j) ∧ w.grownBy wr (some g) ∧
      wr.ownsRow B 118 2 (.slice (some ⟨g, 0, none⟩) l.length cap) l.length (pcells (markTo (pairsFrom k) l j))) (fun _ i _ => l.length - (intOf i).toNat)
    case atStart => exact ⟨0, Nat.zero_le _, rfl, by simp, grownBy_refl _ _, by simpa [markTo, pairsFrom] using h⟩
    case round =>
      obtain ⟨j, hj, rfl, rfl, hgr, hown⟩ := hrel
      clear h
      by_cases hlt : j < l.length
      · have hof := hown.frozenAt
        have hs1 := hown.cellAt (j * 2) (by omega)
        have hs2 := hown.cellAt (j * 2 + 1) (by omega)
        rw [pcells_get1 _ _ (by rw [markTo_length _ (pairsFrom_length k) _ _ hj]; exact hlt)] at hs1
        rw [pcells_get2 _ _ (by rw [markTo_length _ (pairsFrom_length k) _ _ hj]; exact hlt)] at hs2
        go_wp2
        go_roundw
        case rel =>
          have h3 := hown.stored (j * 2) (.int .i64 (k + 2 * j))
          have h3b := h3.1.stored (j * 2 + 1) (.int .i64 (k + 2 * j + 1))
          refine ⟨j + 1, by omega, by go_num, by go_num, grownBy_trans (grownBy_trans hgr h3.2) h3b.2, ?_⟩
          have h4 := h3b.1
          rw [← pcells_set _ _ (k + 2 * (j : Int), k + 2 * (j : Int) + 1), markTo_set _ (pairsFrom_length k) _ _ _ (pairsFrom_succ k j) hlt] at h4
          exact h4
        case measure => simp [intOf]; omega
      · have : j = l.length := by omega
        subst this
        go_wp2
        go_ret
        exact ⟨rfl, by simpa [markTo] using hown, hgr⟩

theorem szPlaceS_c (v : Value) (l : List (Int × Int)) (left : Int) (w : World) (h : PairsAt w v l) (h0 : 0 ≤ left) (h1 : left ≤ 1048576) :
    Calls Try.prog 55 #[v, .int .i64 left] w fun e w' => e = .returned (.int .i64 (if left < l.length then -1 else left - l.length)) ∧ w = w' := by
  obtain ⟨hm_l, ao_l, cap_l, rfl, hc_l⟩ := h; unfold maxLen at hm_l
  by_cases hlt : left < l.length
  all_goals
    go_enter Try.func55, Try.ntmps55
    go_wp2
    go_ret
    exact ⟨ret_int (by simp [hlt]), rfl⟩

set_option maxHeartbeats 400000 in
theorem eqPlaceS_c (v1 v2 : Value) (l1 l2 : List (Int × Int)) (w : World) (h1 : PairsAt w v1 l1) (h2 : PairsAt w v2 l2) :
    Calls Try.prog 59 #[v1, v2] w fun e w' => e = .returned (.bool (l1 == l2)) ∧ Below w.heap.size w w' := by
  obtain ⟨hm_l1, ao_l1, cap_l1, rfl, hc_l1⟩ := h1; unfold maxLen at hm_l1
  obtain ⟨hm_l2, ao_l2, cap_l2, rfl, hc_l2⟩ := h2; unfold maxLen at hm_l2
  by_cases hlen : l1.length = l2.length
  · have Hlen := Lib.hid hlen
    have hle1 : l1.length ≤ l2.length := by omega
    have hle2 : l2.length ≤ l1.length := by omega
    have hne := len_ne_false hlen
    clear hlen
    go_enter Try.func59, Try.ntmps59
    go_wp2
    go_loopw [5] (fun i wr => ∃ k : Nat, k ≤ l1.length ∧ i = .int .i64 k ∧ Below w.heap.size w wr ∧ Hid (l1.take k = l2.take k)) (fun i _ => l1.length - (intOf i).toNat)
    case atStart => exact ⟨0, Nat.zero_le _, rfl, Below.refl _ _, Lib.hid rfl⟩
    case round =>
      obtain ⟨k, hk, rfl, hbel, Hs⟩ := hrel
      by_cases hlt : k < l1.length
      · have hlt2 : k < l2.length := by omega
        obtain ⟨b_l1, off_l1, rfl, hb_l1, hcs_l1⟩ := hc_l1 (by omega); obtain ⟨hx_l1, hy_l1⟩ := hcs_l1 k hlt; clear hc_l1 hcs_l1; replace hx_l1 := keepw hbel hx_l1; replace hy_l1 := keepw hbel hy_l1; have hbs_l1 := (hbel).size; replace hb_l1 : b_l1 < wr.heap.size := (by omega); have hj_l1 : (k : Int) < (l1.length : Int) := (by omega)
        obtain ⟨b_l2, off_l2, rfl, hb_l2, hcs_l2⟩ := hc_l2 (by omega); obtain ⟨hx_l2, hy_l2⟩ := hcs_l2 k hlt2; clear hc_l2 hcs_l2; replace hx_l2 := keepw hbel hx_l2; replace hy_l2 := keepw hbel hy_l2; have hbs_l2 := (hbel).size; replace hb_l2 : b_l2 < wr.heap.size := (by omega); have hj_l2 : (k : Int) < (l2.length : Int) := (by omega)
        cases hq : peqB l1[k].1 l1[k].2 l2[k].1 l2[k].2
        all_goals
          go_wp2_with fail
          go_region_held3 (fun w' => (∀ b o, b < wr.heap.size → w'.cell? ⟨b, o, none⟩ = wr.cell? ⟨b, o, none⟩) ∧ Below wr.heap.size wr w') (first | exact grow_drew _ | exact grow_trans (by with_reducible assumption) hb1) (first | (go_at_call 109; refine (eqPlace_c _ _ _ _ _).mono ?_; rintro e w' ⟨rfl, hb1⟩))
          go_wp2
        · go_ret
          exact ⟨ret_bool (beq_false_of (ne_of_get hlt hlt2 (peqB_false hq))).symm, hbel.drew.trans (hb1.mono hbel.size)⟩
        · go_roundw
          case rel => exact ⟨k + 1, by omega, by go_num, hbel.drew.trans (hb1.mono hbel.size), Lib.hid (take_eq_succ hlt hlt2 Hs.out (peqB_true hq))⟩
          case measure => simp [intOf]; omega
      · go_wp2
        go_ret
        have h := eq_of_take (by omega) Hlen.out Hs.out
        exact ⟨ret_bool (by rw [h, beq_self_eq_true]), hbel⟩
  · have hne := len_ne_true hlen
    go_enter Try.func59, Try.ntmps59
    go_wp2
    go_ret
    exact ⟨ret_bool (beq_false_of (fun h => hlen (by rw [h]))).symm, Below.refl _ _⟩


/-! ### Bar -/
theorem infoBar : (Try.prog.info? 105).map (fun i => (i.zero, i.size, i.bytes)) = some (some (.agg #[.int .i64 0, .int .i64 0]), 2, 16) := by kernel_rfl
theorem run_eqlBar (x y u v : Int) (w : World) : (binOp .eql 105 (.agg #[.int .i64 x, .int .i64 y]) (.agg #[.int .i64 u, .int .i64 v])).run Try.prog w = .ok (.bool (peqB x y u v)) w := by
  cases hx : x == u
  all_goals
    cases hy : y == v
    all_goals
      have h : peqB x y u v = ((x == u) && (y == v)) := rfl
      rw [h, hx, hy]
      simp [go_sem, hx, hy]
theorem run_neqBar (x y u v : Int) (w : World) : (binOp .neq 105 (.agg #[.int .i64 x, .int .i64 y]) (.agg #[.int .i64 u, .int .i64 v])).run Try.prog w = .ok (.bool (!peqB x y u v)) w := by
  cases hx : x == u
  all_goals
    cases hy : y == v
    all_goals
      have h : peqB x y u v = ((x == u) && (y == v)) := rfl
      rw [h, hx, hy]
      simp [go_sem, hx, hy]
theorem toBar_c (a b : Int) (w : World) :
    Calls Try.prog 118 #[.agg #[.int .i64 a, .int .i64 b]] w fun e w' => e = .returned (.agg #[.int .i64 a, .int .i64 b]) ∧ Below w.heap.size w w' := by
  go_enter Try.func118, Try.ntmps118
  go_wp2
  exact bodyPost_ret (v := .agg #[.int .i64 a, .int .i64 b]) (by simp [results, Try.results118, go_sem]) rfl ⟨rfl, (by repeat (first | exact Below.refl _ _ | assumption | refine Below.alloc ?_ (by first | omega | (simp; done) | (simp; omega)) _ | refine Below.setCell ?_ (by first | omega | (simp; done) | (simp; omega)) _ | refine Below.drew ?_ | refine below_dN ?_ _ | refine Below.trans ?_ (Below.mono (by with_reducible assumption) (by first | omega | (simp; done) | (simp; omega)))))⟩
set_option maxHeartbeats 400000 in
theorem toBarS_c (v : Value) (l : List (Int × Int)) (w : World) (hl : PairsAt w v l) (hn : l.length ≤ 1048576) :
    Calls Try.prog 78 #[v] w fun e w' => ∃ g c, e = .returned (.slice (some ⟨g, 0, none⟩) l.length c) ∧ Below w.heap.size w w' ∧ w'.ownsRow w.heap.size 105 2 (.slice (some ⟨g, 0, none⟩) l.length c) l.length (pcells l) := by
  obtain ⟨hm, ao_l, cap_l, rfl, hc_l⟩ := hl
  clear hm
  obtain ⟨i0, hi, hz0, hz1, hz2⟩ := info_parts infoBar
  go_enter Try.func78, Try.ntmps78
  go_wp2_with (at_make; refine wpList_make_full _ rfl _ _ _ rfl w.heap.size _ i0 _ 2 Try.underlying39 hi hz0 hz1 .i64 .i64 _ _ l.length rfl rfl rfl rfl ?b2 ?b3 ?b4 ?_)
  case b2 => rw [hz2]; omega
  case b3 => unfold maxLen; omega
  case b4 => exact Nat.le_refl _
  intro w1 hown hg
  go_wp2
  have hbel1 : Below w.heap.size w w1 := (Below.refl _ _).grown hg (Nat.le_refl _) (by intro k hk; cases hk)
  go_loopw [4] (fun i wr => ∃ k : Nat, k ≤ l.length ∧ i = .int .i64 k ∧ Below w.heap.size w wr ∧
    wr.ownsRow w.heap.size 105 2 (.slice (some ⟨w.heap.size, 0, none⟩) l.length l.length) l.length (pcells (fillTo l (0, 0) k))) (fun i _ => l.length - (intOf i).toNat)
  case atStart =>
    refine ⟨0, Nat.zero_le _, rfl, hbel1, ?_⟩
    rw [fillTo_zero, pcells_replicate]
    have : (madeCells #[Value.int IntKind.i64 0, Value.int IntKind.i64 0] (l.length * 2)).toList = List.replicate (l.length * 2) (.int .i64 0) := toList_madeCells_two _ _
    rw [← this]; exact hown
  case round =>
    clear hown hg hbel1
    obtain ⟨k, hk, rfl, hbel, hown⟩ := hrel
    have hz : w.heap.size < wr.heap.size := (hown.lt w.heap.size rfl).2
    by_cases hlt : k < l.length
    · obtain ⟨b_l, off_l, rfl, hb_l, hcs_l⟩ := hc_l (by omega); obtain ⟨hx_l, hy_l⟩ := hcs_l k hlt; clear hc_l hcs_l; replace hx_l := keepw hbel hx_l; replace hy_l := keepw hbel hy_l; have hbs_l := (hbel).size; replace hb_l : b_l < wr.heap.size := (by omega); have hj_l : (k : Int) < (l.length : Int) := (by omega)
      have hof := hown.frozenAt
      have hs1 := hown.cellAt (k * 2) (by omega)
      have hs2 := hown.cellAt (k * 2 + 1) (by omega)
      rw [pcells_get1 _ _ (by rw [fillTo_length _ _ _ hk]; exact hlt)] at hs1
      rw [pcells_get2 _ _ (by rw [fillTo_length _ _ _ hk]; exact hlt)] at hs2
      go_wp2_with (go_at_call 118; refine (toBar_c _ _ _).mono ?_; rintro e w' ⟨rfl, hb2⟩; obtain ⟨hbc2, hbf2⟩ := bcell hb2)
      go_roundw
      case rel =>
        refine ⟨k + 1, by omega, by go_num, ?_, ?_⟩
        · exact ((hbel.trans (hb2.mono hbel.size)).setCell (by simp) _).setCell (by simp) _
        · have h3 := (((own_below hown hb2).stored (k * 2) (.int .i64 l[k].1)).1.stored (k * 2 + 1) (.int .i64 l[k].2)).1
          rw [← pcells_set _ _ l[k], fillTo_set _ _ _ hlt] at h3
          exact h3
      case measure => simp [intOf]; omega
    · have : k = l.length := by omega
      subst this
      rw [fillTo_full] at hown
      go_wp2
      go_ret
      exact ⟨_, _, rfl, hbel, hown⟩
theorem eqBar_c (x y u v : Int) (w : World) :
    Calls Try.prog 121 #[.agg #[.int .i64 x, .int .i64 y], .agg #[.int .i64 u, .int .i64 v]] w fun e w' => e = .returned (.bool (peqB x y u v)) ∧ Below w.heap.size w w' := by
  go_enter Try.func121, Try.ntmps121
  go_wp2
  all_goals
    go_ret
    exact ⟨ret_bool (by simp_all [peqB]), (by repeat (first | exact Below.refl _ _ | assumption | refine Below.alloc ?_ (by first | omega | (simp; done) | (simp; omega)) _ | refine Below.setCell ?_ (by first | omega | (simp; done) | (simp; omega)) _ | refine Below.drew ?_ | refine below_dN ?_ _ | refine Below.trans ?_ (Below.mono (by with_reducible assumption) (by first | omega | (simp; done) | (simp; omega)))))⟩
set_option maxHeartbeats 400000 in
theorem markBarS_c (B : Nat) (v : Value) (l : List (Int × Int)) (k : Int) (w : World) (h : w.ownsRow B 105 2 v l.length (pcells l)) (hn : l.length ≤ 4294967296) (h0 : 0 ≤ k) (h1 : k ≤ 1099511627776) :
    Calls Try.prog 85 #[v, .int .i64 k] w fun e w' => e = .returned (.int .i64 (k + 2 * l.length)) ∧ w'.ownsRow B 105 2 v l.length (pcells (pairsFrom k l.length)) ∧ w.grownBy w' v.ownBlock := by
  rcases own_form h with ⟨rfl, hl0⟩ | ⟨g, cap, rfl, hg, hgs⟩
  · have hl1 : l = [] := List.eq_nil_of_length_eq_zero hl0
    subst hl1
    go_enter Try.func85, Try.ntmps85
    go_wp2
    refine wp_loop_rounds 1 ?_
    rw [rounds_succ]
    go_wp2
    go_ret
    exact ⟨ret_int (by simp), h, grownBy_refl _ _⟩
  · go_enter Try.func85, Try.ntmps85
    go_wp2
    go_loopw [1, 5] (fun a i wr => ∃ j : Nat, j ≤ l.length ∧ i = .int .i64 j ∧ a = .int .i64 (k + 2 * j) ∧ w.grownBy wr (some g) ∧
      wr.ownsRow B 105 2 (.slice (some ⟨g, 0, none⟩) l.length cap) l.length (pcells (markTo (pairsFrom k) l j))) (fun _ i _ => l.length - (intOf i).toNat)
    case atStart => exact ⟨0, Nat.zero_le _, rfl, by simp, grownBy_refl _ _, by simpa [markTo, pairsFrom] using h⟩
    case round =>
      obtain ⟨j, hj, rfl, rfl, hgr, hown⟩ := hrel
      clear h
      by_cases hlt : j < l.length
      · have hof := hown.frozenAt
        have hs1 := hown.cellAt (j * 2) (by omega)
        have hs2 := hown.cellAt (j * 2 + 1) (by omega)
        rw [pcells_get1 _ _ (by rw [markTo_length _ (pairsFrom_length k) _ _ hj]; exact hlt)] at hs1
        rw [pcells_get2 _ _ (by rw [markTo_length _ (pairsFrom_length k) _ _ hj]; exact hlt)] at hs2
        go_wp2
        go_roundw
        case rel =>
          have h3 := hown.stored (j * 2) (.int .i64 (k + 2 * j))
          have h3b := h3.1.stored (j * 2 + 1) (.int .i64 (k + 2 * j + 1))
          refine ⟨j + 1, by omega, by go_num, by go_num, grownBy_trans (grownBy_trans hgr h3.2) h3b.2, ?_⟩
          have h4 := h3b.1
          rw [← pcells_set _ _ (k + 2 * (j : Int), k + 2 * (j : Int) + 1), markTo_set _ (pairsFrom_length k) _ _ _ (pairsFrom_succ k j) hlt] at h4
          exact h4
        case measure => simp [intOf]; omega
      · have : j = l.length := by omega
        subst this
        go_wp2
        go_ret
        exact ⟨rfl, by simpa [markTo] using hown, hgr⟩
set_option maxHeartbeats 400000 in
theorem heldBarS_c (v : Value) (n : Nat) (k : Int) (w : World) (h : PairsAt w v (pairsFrom k n)) (hn : n ≤ 4294967296) (h0 : 0 ≤ k) (h1 : k ≤ 1099511627776) :
    Calls Try.prog 126 #[v, .int .i64 k] w fun e w' => e = .returned (.int .i64 (k + 2 * n)) ∧ w = w' := by
  obtain ⟨hm, ao, cap, rfl, hc⟩ := h
  have hlen := pairsFrom_length k n
  rw [hlen]
  replace hc : 0 < n → ∃ b off, ao = some ⟨b, off, none⟩ ∧ b < w.heap.size ∧ ∀ i, i < n → w.cell? ⟨b, off + i * 2, none⟩ = some (.int .i64 (k + 2 * i)) ∧ w.cell? ⟨b, off + i * 2 + 1, none⟩ = some (.int .i64 (k + 2 * i + 1)) := fun h0 => by
    obtain ⟨b, off, h1, h2, h3⟩ := hc (by omega)
    exact ⟨b, off, h1, h2, fun i hi => by have := h3 i (by omega); rwa [pairsFrom_get] at this⟩
  clear hm hlen
  go_enter Try.func126, Try.ntmps126
  go_wp2
  go_loop [1, 5] (fun a i => ∃ j : Nat, j ≤ n ∧ i = .int .i64 j ∧ a = .int .i64 (k + 2 * j)) (fun _ i => n - (intOf i).toNat)
  case atStart => exact ⟨0, Nat.zero_le _, rfl, by simp⟩
  case round =>
    obtain ⟨j, hj, rfl, rfl⟩ := hrel
    by_cases hlt : j < n
    · obtain ⟨b, off, rfl, hb, hcs⟩ := hc (by omega)
      obtain ⟨hx, hy⟩ := hcs j (by omega)
      clear hc hcs
      have hne : (k + 2 * (j : Int) != k + 2 * j) = false := by simp
      have hne2 : (k + 2 * (j : Int) + 1 != k + 2 * j + 1) = false := by simp
      go_wp2
      go_round
      case rel => exact ⟨j + 1, by omega, by go_num, by go_num⟩
      case measure => simp [intOf]; omega
    · go_wp2
      go_ret
      exact ⟨ret_int (by omega), rfl⟩

theorem szBarS_c (v : Value) (l : List (Int × Int)) (left : Int) (w : World) (h : PairsAt w v l) (h0 : 0 ≤ left) (h1 : left ≤ 1048576) :
    Calls Try.prog 76 #[v, .int .i64 left] w fun e w' => e = .returned (.int .i64 (if left < l.length then -1 else left - l.length)) ∧ w = w' := by
  obtain ⟨hm_l, ao_l, cap_l, rfl, hc_l⟩ := h; unfold maxLen at hm_l
  by_cases hlt : left < l.length
  all_goals
    go_enter Try.func76, Try.ntmps76
    go_wp2
    go_ret
    exact ⟨ret_int (by simp [hlt]), rfl⟩

set_option maxHeartbeats 400000 in
theorem eqBarS_c (v1 v2 : Value) (l1 l2 : List (Int × Int)) (w : World) (h1 : PairsAt w v1 l1) (h2 : PairsAt w v2 l2) :
    Calls Try.prog 80 #[v1, v2] w fun e w' => e = .returned (.bool (l1 == l2)) ∧ Below w.heap.size w w' := by
  obtain ⟨hm_l1, ao_l1, cap_l1, rfl, hc_l1⟩ := h1; unfold maxLen at hm_l1
  obtain ⟨hm_l2, ao_l2, cap_l2, rfl, hc_l2⟩ := h2; unfold maxLen at hm_l2
  by_cases hlen : l1.length = l2.length
  · have Hlen := Lib.hid hlen
    have hle1 : l1.length ≤ l2.length := by omega
    have hle2 : l2.length ≤ l1.length := by omega
    have hne := len_ne_false hlen
    clear hlen
    go_enter Try.func80, Try.ntmps80
    go_wp2
    go_loopw [5] (fun i wr => ∃ k : Nat, k ≤ l1.length ∧ i = .int .i64 k ∧ Below w.heap.size w wr ∧ Hid (l1.take k = l2.take k)) (fun i _ => l1.length - (intOf i).toNat)
    case atStart => exact ⟨0, Nat.zero_le _, rfl, Below.refl _ _, Lib.hid rfl⟩
    case round =>
      obtain ⟨k, hk, rfl, hbel, Hs⟩ := hrel
      by_cases hlt : k < l1.length
      · have hlt2 : k < l2.length := by omega
        obtain ⟨b_l1, off_l1, rfl, hb_l1, hcs_l1⟩ := hc_l1 (by omega); obtain ⟨hx_l1, hy_l1⟩ := hcs_l1 k hlt; clear hc_l1 hcs_l1; replace hx_l1 := keepw hbel hx_l1; replace hy_l1 := keepw hbel hy_l1; have hbs_l1 := (hbel).size; replace hb_l1 : b_l1 < wr.heap.size := (by omega); have hj_l1 : (k : Int) < (l1.length : Int) := (by omega)
        obtain ⟨b_l2, off_l2, rfl, hb_l2, hcs_l2⟩ := hc_l2 (by omega); obtain ⟨hx_l2, hy_l2⟩ := hcs_l2 k hlt2; clear hc_l2 hcs_l2; replace hx_l2 := keepw hbel hx_l2; replace hy_l2 := keepw hbel hy_l2; have hbs_l2 := (hbel).size; replace hb_l2 : b_l2 < wr.heap.size := (by omega); have hj_l2 : (k : Int) < (l2.length : Int) := (by omega)
        cases hq : peqB l1[k].1 l1[k].2 l2[k].1 l2[k].2
        all_goals
          go_wp2_with fail
          go_region_held3 (fun w' => (∀ b o, b < wr.heap.size → w'.cell? ⟨b, o, none⟩ = wr.cell? ⟨b, o, none⟩) ∧ Below wr.heap.size wr w') (first | exact grow_drew _ | exact grow_trans (by with_reducible assumption) hb1) (first | (go_at_call 121; refine (eqBar_c _ _ _ _ _).mono ?_; rintro e w' ⟨rfl, hb1⟩))
          go_wp2
        · go_ret
          exact ⟨ret_bool (beq_false_of (ne_of_get hlt hlt2 (peqB_false hq))).symm, hbel.drew.trans (hb1.mono hbel.size)⟩
        · go_roundw
          case rel => exact ⟨k + 1, by omega, by go_num, hbel.drew.trans (hb1.mono hbel.size), Lib.hid (take_eq_succ hlt hlt2 Hs.out (peqB_true hq))⟩
          case measure => simp [intOf]; omega
      · go_wp2
        go_ret
        have h := eq_of_take (by omega) Hlen.out Hs.out
        exact ⟨ret_bool (by rw [h, beq_self_eq_true]), hbel⟩
  · have hne := len_ne_true hlen
    go_enter Try.func80, Try.ntmps80
    go_wp2
    go_ret
    exact ⟨ret_bool (beq_false_of (fun h => hlen (by rw [h]))).symm, Below.refl _ _⟩


end Go.Proofs.Ytlmlfbjcpajinaa
