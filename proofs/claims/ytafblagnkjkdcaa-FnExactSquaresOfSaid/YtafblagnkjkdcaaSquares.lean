/- Contracts of the squares of distances. -/
import Derived.Test.YtafblagnkjkdcaaPlaceS
import Derived.Test.YtafblagnkjkdcaaApp
import Derived.StillTailTactics
namespace Go.Proofs.Ytafblagnkjkdcaa
open Go.RowKit
set_option linter.unusedSimpArgs false
set_option linter.unusedVariables false

def sqd (p q : Int × Int) : Int := (p.1 - q.1) * (p.1 - q.1) + (p.2 - q.2) * (p.2 - q.2)
theorem sq_bd (x : Int) (m : Int) (h0 : -m ≤ x) (h1 : x ≤ m) : 0 ≤ x * x ∧ x * x ≤ m * m := by
  rcases Int.le_total 0 x with h | h
  · exact ⟨Int.mul_nonneg h h, Int.mul_le_mul h1 h1 h (by omega)⟩
  · have e : x * x = (-x) * (-x) := by rw [Int.neg_mul_neg]
    rw [e]
    exact ⟨Int.mul_nonneg (by omega) (by omega), Int.mul_le_mul (by omega) (by omega) (by omega) (by omega)⟩
theorem onB_of {p : Int × Int} (h : onB p.1 p.2 = true) : 0 ≤ p.1 ∧ p.1 ≤ 4 ∧ 0 ≤ p.2 ∧ p.2 ≤ 4 := onB_bd h

set_option maxHeartbeats 800000 in
theorem square_c (n : Int) (ub up : Value) (l : List (Int × Int)) (a b : Nat) (w : World) (h : PairsAt w up l) (ha : a < l.length) (hb : b < l.length) (hon : ∀ p ∈ l, onB p.1 p.2 = true) :
    Calls Try.prog 43 #[.agg #[.int .i64 n, ub, up], .int .i64 a, .int .i64 b] w fun e w' => e = .returned (.int .i64 (sqd l[a] l[b])) ∧ Below w.heap.size w w' := by
  obtain ⟨hm_l, ao_l, cap_l, rfl, hc_l⟩ := h; unfold maxLen at hm_l
  obtain ⟨blk, off, rfl, hbl, hcs⟩ := hc_l (by omega)
  obtain ⟨x1, x2⟩ := hcs a ha
  obtain ⟨y1, y2⟩ := hcs b hb
  obtain ⟨p1, p2, p3, p4⟩ := onB_of (hon _ (List.getElem_mem ha))
  obtain ⟨q1, q2, q3, q4⟩ := onB_of (hon _ (List.getElem_mem hb))
  have e1 : sqd l[a] l[b] = (l[a].1 - l[b].1) * (l[a].1 - l[b].1) + (l[a].2 - l[b].2) * (l[a].2 - l[b].2) := rfl
  have E1 := Lib.hid e1
  clear hc_l hcs hon e1
  have j1 : (a : Int) < (l.length : Int) := by omega
  have j2 : (b : Int) < (l.length : Int) := by omega
  obtain ⟨s1, s2⟩ := sq_bd (l[a].1 - l[b].1) 4 (by omega) (by omega)
  obtain ⟨s3, s4⟩ := sq_bd (l[a].2 - l[b].2) 4 (by omega) (by omega)
  go_enter Try.func43, Try.ntmps43
  go_wp2_with fail
  go_quiet (fail)
  go_wp2
  go_ret
  exact ⟨ret_int E1.out.symm, (by repeat (first | exact Below.refl _ _ | assumption | refine Below.alloc ?_ (by first | omega | (simp; done) | (simp; omega)) _ | refine Below.setCell ?_ (by first | omega | (simp; done) | (simp; omega)) _ | refine Below.drew ?_ | refine below_dN ?_ _ | refine Below.trans ?_ (Below.mono (by assumption) (by first | omega | (simp; done) | (simp; omega)))))⟩

/-- the squares of point a with the points behind it, up to b -/
def sqRow (l : List (Int × Int)) (a b : Nat) : List Int := (List.range' (a + 1) (b - (a + 1))).map fun j => sqd (l.getD a (0, 0)) (l.getD j (0, 0))
def sqTo (l : List (Int × Int)) (a : Nat) : List Int := (List.range a).flatMap fun i => sqRow l i l.length
def allOn (l : List (Int × Int)) : Bool := l.all fun p => onB p.1 p.2
def squaresL (l : List (Int × Int)) : List Int := if decide (l.length ≤ 6) && allOn l then sqTo l l.length else []
theorem sqRow_start (l : List (Int × Int)) (a : Nat) : sqRow l a (a + 1) = [] := by simp [sqRow]
theorem sqRow_succ (l : List (Int × Int)) (a b : Nat) (h : a + 1 ≤ b) (ha : a < l.length) (hb : b < l.length) : sqRow l a (b + 1) = sqRow l a b ++ [sqd l[a] l[b]] := by
  unfold sqRow
  rw [show b + 1 - (a + 1) = (b - (a + 1)) + 1 from by omega, List.range'_concat, List.map_append]
  simp [show a + 1 + (b - (a + 1)) = b from by omega, ha, hb]
theorem sqTo_succ (l : List (Int × Int)) (a : Nat) : sqTo l (a + 1) = sqTo l a ++ sqRow l a l.length := by
  simp [sqTo, List.range_succ]
theorem sqRow_len (l : List (Int × Int)) (a b : Nat) : (sqRow l a b).length = b - (a + 1) := by simp [sqRow]
theorem sqTo_len (l : List (Int × Int)) (a : Nat) : (sqTo l a).length ≤ a * l.length := by
  induction a with
  | zero => simp [sqTo]
  | succ a ih => rw [sqTo_succ, List.length_append, sqRow_len, Nat.add_mul]; omega
theorem squaresL_ok {l : List (Int × Int)} (h : l.length ≤ 6) (h2 : ∀ p ∈ l, onB p.1 p.2 = true) : squaresL l = sqTo l l.length := by
  unfold squaresL allOn; rw [if_pos]; simp only [Bool.and_eq_true, decide_eq_true_eq, List.all_eq_true]; exact ⟨h, h2⟩
theorem squaresL_long {l : List (Int × Int)} (h : 6 < l.length) : squaresL l = [] := by
  unfold squaresL; rw [if_neg]; simp; omega
theorem squaresL_off {l : List (Int × Int)} (k : Nat) (hk : k < l.length) (h : onB l[k].1 l[k].2 = false) : squaresL l = [] := by
  unfold squaresL allOn; rw [if_neg]; simp only [Bool.and_eq_true, decide_eq_true_eq, List.all_eq_true]
  intro h2; rw [h2.2 _ (List.getElem_mem hk)] at h; cases h
theorem squaresL_small {l : List (Int × Int)} (h : l.length < 2) : squaresL l = [] := by
  unfold squaresL; split
  · have : l.length = 0 ∨ l.length = 1 := by omega
    rcases this with h | h <;> simp [h, sqTo, sqRow]
  · rfl

theorem squaresL_len (l : List (Int × Int)) : (squaresL l).length ≤ 36 := by
  unfold squaresL; split
  · rename_i h; simp only [Bool.and_eq_true, decide_eq_true_eq] at h
    exact Nat.le_trans (sqTo_len _ _) (Nat.mul_le_mul h.1 h.1)
  · simp
set_option maxHeartbeats 1600000 in
theorem squaresOfI_c (v : Value) (l : List (Int × Int)) (w : World) (h : PairsAt w v l) :
    Calls Try.prog 28 #[v] w fun e w' => ∃ v', e = .returned v' ∧ Below w.heap.size w w' ∧ w'.ownsRow w.heap.size 3 1 v' (squaresL l).length ((squaresL l).map (Value.int .i64)) := by
  have h0 := h
  have H0 := Lib.hid h0
  clear h0
  obtain ⟨hm_l, ao_l, cap_l, rfl, hc_l⟩ := h; unfold maxLen at hm_l
  obtain ⟨i0, hi, hz0, hz1, hz2⟩ := info_parts infoInt
  by_cases hlong : 6 < l.length
  · go_enter Try.func28, Try.ntmps28
    go_wp2
    go_ret
    refine ⟨_, rfl, (by repeat (first | exact Below.refl _ _ | assumption | refine Below.alloc ?_ (by first | omega | (simp; done) | (simp; omega)) _ | refine Below.setCell ?_ (by first | omega | (simp; done) | (simp; omega)) _ | refine Below.drew ?_ | refine below_dN ?_ _ | refine Below.trans ?_ (Below.mono (by assumption) (by first | omega | (simp; done) | (simp; omega))))), ?_⟩
    rw [squaresL_long hlong]
    exact World.ownsRow_lit w #[] 0 (Nat.le_refl _) (Nat.zero_le _) rfl
  · go_enter Try.func28, Try.ntmps28
    go_wp2
    go_loopw [16] (fun i wr => ∃ k : Nat, k ≤ l.length ∧ i = .int .i64 k ∧ Below (w.heap.size + 1) (w.alloc (.cells #[] 3)) wr ∧ Hid (∀ i (h : i < l.length), i < k → onB l[i].1 l[i].2 = true)) (fun i _ => l.length - (intOf i).toNat)
    case atStart => exact ⟨0, Nat.zero_le _, rfl, Below.refl _ _, Lib.hid (by omega)⟩
    case round =>
      obtain ⟨k, hk, rfl, hbel, Hs⟩ := hrel
      have hbelw : Below w.heap.size w wr := ((Below.refl _ _).alloc (Nat.le_refl _) _).trans (hbel.mono (by omega))
      have hown : wr.ownsRow w.heap.size 3 1 (.slice (some ⟨w.heap.size, 0, none⟩) 0 0) 0 [] := own_below (World.ownsRow_lit w #[] 0 (Nat.le_refl _) (Nat.zero_le _) rfl) (by simpa using hbel)
      by_cases hlt : k < l.length
      · have hlen2 := hbelw.size
        obtain ⟨b_l, off_l, rfl, hb_l, hcs_l⟩ := hc_l (by omega); obtain ⟨hx_l, hy_l⟩ := hcs_l k hlt; clear hc_l hcs_l; replace hx_l := keepw hbelw hx_l; replace hy_l := keepw hbelw hy_l; have hbs_l := (hbelw).size; replace hb_l : b_l < wr.heap.size := (by omega); have hj_l : (k : Int) < (l.length : Int) := (by omega)
        cases hq : onB l[k].1 l[k].2
        all_goals
          go_wp2_with (go_at_call 36; refine (isPlace_c _ _ _).mono ?_; rintro e w1 ⟨rfl, hb1⟩)
        · go_ret
          refine ⟨_, rfl, ?_, ?_⟩
          · exact (hbelw.alloc hlen2 _).trans (hb1.mono (by simp; omega))
          · rw [squaresL_off k hlt hq]
            exact own_below (hown.alloc _) hb1
        · go_roundw
          case rel =>
            refine ⟨k + 1, by omega, by go_num, ?_, Lib.hid fun i h hi => ?_⟩
            · have := hbel.size
              simp at this
              exact (hbel.alloc this _).trans (hb1.mono (by simp; omega))
            · rcases Nat.lt_succ_iff_lt_or_eq.1 hi with h' | rfl
              · exact Hs.out i h h'
              · exact hq
          case measure => simp [intOf]; omega
      · have hon : ∀ p ∈ l, onB p.1 p.2 = true := by
          intro p hp
          obtain ⟨i, hi, rfl⟩ := List.getElem_of_mem hp
          exact Hs.out i hi (by omega)
        have Hon := Lib.hid hon
        clear hon Hs hc_l
        go_wp2
        have hsz := hbelw.size
        have hB : (wr.alloc (.cells #[.int .i64 0, .slice none 0 0, .slice ao_l l.length cap_l] 59)).heap[wr.heap.size]? = some (.cells #[.int .i64 0, .slice none 0 0, .slice ao_l l.length cap_l] 59 (0, 0)) := blk_new _ _
        obtain ⟨bx, hbx⟩ : ∃ bx, bx = wr.heap.size := ⟨_, rfl⟩
        have hown1 := hown.alloc (.cells #[.int .i64 0, .slice none 0 0, .slice ao_l l.length cap_l] 59)
        have hbel1 := hbelw.alloc hsz (.cells #[.int .i64 0, .slice none 0 0, .slice ao_l l.length cap_l] 59)
        rw [← hbx] at hB
        have Hbx := Lib.hid hbx
        clear hbel hown
        generalize hwo : wr.alloc (.cells #[.int .i64 0, .slice none 0 0, .slice ao_l l.length cap_l] 59) = wo at *
        clear hwo
        rw [← hbx]
        clear hbx
        go_loopw [3, 29] (fun v i wr => ∃ a : Nat, a ≤ l.length ∧ i = .int .i64 a ∧ Below w.heap.size w wr ∧ wr.heap[bx]? = some (.cells #[.int .i64 0, .slice none 0 0, .slice ao_l l.length cap_l] 59 (0, 0)) ∧ wr.ownsRow w.heap.size 3 1 v (sqTo l a).length ((sqTo l a).map (Value.int .i64))) (fun _ i _ => l.length - (intOf i).toNat)
        case atStart => exact ⟨0, Nat.zero_le _, rfl, hbel1, hB, hown1⟩
        case round =>
          obtain ⟨a, ha, rfl, hbel2, hB2, hown2⟩ := hrel
          clear hown1 hB hbel1 hbelw hsz
          by_cases hla : a < l.length
          · go_wp2
            obtain ⟨wo2, rfl⟩ : ∃ x : World, x = wr := ⟨_, rfl⟩
            go_loopw [3, 8] (fun v i wr => ∃ b : Nat, a + 1 ≤ b ∧ b ≤ l.length ∧ i = .int .i64 b ∧ Below w.heap.size w wr ∧ wr.heap[bx]? = some (.cells #[.int .i64 0, .slice none 0 0, .slice ao_l l.length cap_l] 59 (0, 0)) ∧ wr.ownsRow w.heap.size 3 1 v (sqTo l a ++ sqRow l a b).length ((sqTo l a ++ sqRow l a b).map (Value.int .i64))) (fun _ i _ => l.length - (intOf i).toNat)
            case atStart => exact ⟨a + 1, Nat.le_refl _, hla, by go_num, hbel2, hB2, by rw [sqRow_start, List.append_nil]; exact hown2⟩
            case round =>
              clear hB2 hown2 hbel2
              obtain ⟨b, hab, hb, rfl, hbel2, hB2, hown2⟩ := hrel
              by_cases hlb : b < l.length
              · have c0 := blk_cell hB2 0
                have c1 := blk_cell hB2 1
                have c2 := blk_cell hB2 2
                simp at c0 c1 c2
                have HP := Lib.hid (H0.out.below hbel2)
                go_wp2_with fail
                refine (square_c 0 _ _ l a b _ HP.out hla hlb Hon.out).mono ?_
                rintro e w1 ⟨rfl, hb1⟩
                have hlen1 := sqTo_len l a
                have hlen2 := sqRow_len l a b
                have hown3 := own_below hown2 hb1
                have hmul : a * l.length ≤ 6 * 6 := Nat.mul_le_mul (by omega) (by omega)
                have hbel3 := bt hbel2 hb1
                have hsz3 := hbel3.size
                have hlz : (sqTo l a ++ sqRow l a b).length ≤ 8589934592 := by rw [List.length_append, hlen2]; omega
                go_wp2_with (at_builtin; refine wpList_appI _ _ _ rfl _ _ 37 rfl w.heap.size 3 i0 Try.underlying37 hi hz0 hz1 hz2 _ _ rfl hown3 rfl hlz hsz3 ?_; intro v' w2 hown4 hgr)
                go_roundw
                case rel =>
                  refine ⟨b + 1, by omega, by omega, by go_num, below_grown hbel3 hown3 (Nat.le_refl _) hgr, blk_grown (blk_below hB2 hb1) hgr (own_ne hown3 (blk_below hB2 hb1) (by decide)), ?_⟩
                  rw [sqRow_succ l a b hab hla hlb, ← List.append_assoc]
                  exact hown4
                case measure => simp [intOf]; omega
              · have hbl : b = l.length := by omega
                subst hbl
                go_wp2
                go_roundw
                case rel => exact ⟨a + 1, by omega, by go_num, hbel2, hB2, by rw [sqTo_succ]; exact hown2⟩
                case measure => simp [intOf]; omega
          · have hal : a = l.length := by omega
            subst hal
            go_wp2
            go_ret
            exact ⟨_, rfl, hbel2, by rw [squaresL_ok (by omega) Hon.out]; exact hown2⟩

set_option maxRecDepth 100000 in
set_option maxHeartbeats 1600000 in
theorem squaresOfS_c (v : Value) (l : List (Int × Int)) (w : World) (h : PairsAt w v l) (hn : l.length ≤ 1048576) :
    Calls Try.prog 27 #[v] w fun e w' => ∃ v', e = .returned v' ∧ Below w.heap.size w w' ∧ w'.ownsRow w.heap.size 3 1 v' (squaresL l).length ((squaresL l).map (Value.int .i64)) := by
  obtain ⟨hm_l, ao_l, cap_l, rfl, hc_l⟩ := h; unfold maxLen at hm_l
  obtain ⟨i0, hi, hz0, hz1, hz2⟩ := info_parts infoInt
  go_enter Try.func27, Try.ntmps27
  go_wp2
  go_loopw [3, 4] (fun v i wr => ∃ a : Nat, a ≤ l.length ∧ i = .int .i64 a ∧ Below w.heap.size w wr ∧ wr.ownsRow w.heap.size 3 1 v (sqTo l a).length ((sqTo l a).map (Value.int .i64)) ∧ Hid (∀ i j (hi : i < j) (hj : j < l.length), i < a → (onB l[i].1 l[i].2 = true ∧ onB l[j].1 l[j].2 = true ∧ l.length ≤ 6))) (fun _ i _ => l.length - (intOf i).toNat)
  case atStart => exact ⟨0, Nat.zero_le _, rfl, (Below.refl _ _).alloc (Nat.le_refl _) _, World.ownsRow_lit w #[] 0 (Nat.le_refl _) (Nat.zero_le _) rfl, Lib.hid (by omega)⟩
  case round =>
    obtain ⟨a, ha, rfl, hbel, hown, Hs⟩ := hrel
    by_cases hla : a < l.length
    · go_wp2
      obtain ⟨wo, rfl⟩ : ∃ x : World, x = wr := ⟨_, rfl⟩
      go_loopw [3, 5] (fun v i wr => ∃ b : Nat, a + 1 ≤ b ∧ b ≤ l.length ∧ i = .int .i64 b ∧ Below w.heap.size w wr ∧ wr.ownsRow w.heap.size 3 1 v (sqTo l a ++ sqRow l a b).length ((sqTo l a ++ sqRow l a b).map (Value.int .i64)) ∧ Hid (∀ j (hj : j < l.length), a < j → j < b → (onB l[a].1 l[a].2 = true ∧ onB l[j].1 l[j].2 = true ∧ l.length ≤ 6))) (fun _ i _ => l.length - (intOf i).toNat)
      case atStart => exact ⟨a + 1, Nat.le_refl _, hla, by go_num, hbel, by rw [sqRow_start, List.append_nil]; exact hown, Lib.hid (by omega)⟩
      case round =>
        clear hown hbel
        obtain ⟨b, hab, hb, rfl, hbel, hown, Ht⟩ := hrel
        by_cases hlb : b < l.length
        · obtain ⟨blk, off, rfl, hblk, hcs⟩ := hc_l (by omega)
          obtain ⟨x1, x2⟩ := hcs a hla
          obtain ⟨y1, y2⟩ := hcs b hlb
          clear hc_l hcs
          replace x1 := keepw hbel x1
          replace x2 := keepw hbel x2
          replace y1 := keepw hbel y1
          replace y2 := keepw hbel y2
          have hbs := hbel.size
          have hblk0 := hblk
          replace hblk : blk < wr.heap.size := by omega
          have hcase : onB l[a].1 l[a].2 = false ∨ (onB l[a].1 l[a].2 = true ∧ onB l[b].1 l[b].2 = false) ∨ (onB l[a].1 l[a].2 = true ∧ onB l[b].1 l[b].2 = true ∧ 6 < l.length) ∨ (onB l[a].1 l[a].2 = true ∧ onB l[b].1 l[b].2 = true ∧ l.length ≤ 6) := by
            cases onB l[a].1 l[a].2 <;> cases onB l[b].1 l[b].2 <;> simp <;> omega
          rcases hcase with q1 | ⟨q1, q2⟩ | ⟨q1, q2, q3⟩ | ⟨q1, q2, q3⟩
          · go_wp2_with (go_at_call 42; refine (l10On_c _ _ _).mono ?_; rintro e w1 ⟨rfl, hb1⟩)
            go_ret
            have hb2 := bt hbel hb1
            refine ⟨_, rfl, hb2.alloc hb2.size _, ?_⟩
            rw [squaresL_off a hla q1]
            exact World.ownsRow_lit w1 #[] 0 hb2.size (Nat.zero_le _) rfl
          · go_wp2_with (go_at_call 42; refine (l10On_c _ _ _).mono ?_; rintro e w1 ⟨rfl, hb1⟩; obtain ⟨hb1c, hb1f⟩ := bcell hb1; have hbz : blk < w1.heap.size := (by have := hb1.size; omega); have hsz1 := hb1.size)
            go_ret
            have hb2 : Below w.heap.size w w1 := (by repeat (first | exact Below.refl _ _ | assumption | refine Below.alloc ?_ (by first | omega | (simp; done) | (simp; omega)) _ | refine Below.setCell ?_ (by first | omega | (simp; done) | (simp; omega)) _ | refine Below.drew ?_ | refine below_dN ?_ _ | refine Below.trans ?_ (Below.mono (by assumption) (by first | omega | (simp; done) | (simp; omega)))))
            refine ⟨_, rfl, hb2.alloc hb2.size _, ?_⟩
            rw [squaresL_off b hlb q2]
            exact World.ownsRow_lit w1 #[] 0 hb2.size (Nat.zero_le _) rfl
          · go_wp2_with (go_at_call 42; refine (l10On_c _ _ _).mono ?_; rintro e w1 ⟨rfl, hb1⟩; obtain ⟨hb1c, hb1f⟩ := bcell hb1; have hbz : blk < w1.heap.size := (by have := hb1.size; omega); have hsz1 := hb1.size)
            go_ret
            have hb2 : Below w.heap.size w w1 := (by repeat (first | exact Below.refl _ _ | assumption | refine Below.alloc ?_ (by first | omega | (simp; done) | (simp; omega)) _ | refine Below.setCell ?_ (by first | omega | (simp; done) | (simp; omega)) _ | refine Below.drew ?_ | refine below_dN ?_ _ | refine Below.trans ?_ (Below.mono (by assumption) (by first | omega | (simp; done) | (simp; omega)))))
            refine ⟨_, rfl, hb2.alloc hb2.size _, ?_⟩
            rw [squaresL_long q3]
            exact World.ownsRow_lit w1 #[] 0 hb2.size (Nat.zero_le _) rfl
          · obtain ⟨p1, p2, p3, p4⟩ := onB_of q1
            obtain ⟨r1, r2, r3, r4⟩ := onB_of q2
            have e1 : sqd l[a] l[b] = (l[a].1 - l[b].1) * (l[a].1 - l[b].1) + (l[a].2 - l[b].2) * (l[a].2 - l[b].2) := rfl
            have E1 := Lib.hid e1
            clear e1
            have j1 : (a : Int) < (l.length : Int) := by omega
            have j2 : (b : Int) < (l.length : Int) := by omega
            obtain ⟨s1, s2⟩ := sq_bd (l[a].1 - l[b].1) 4 (by omega) (by omega)
            obtain ⟨s3, s4⟩ := sq_bd (l[a].2 - l[b].2) 4 (by omega) (by omega)
            go_wp2_with (go_at_call 42; refine (l10On_c _ _ _).mono ?_; rintro e w1 ⟨rfl, hb1⟩; obtain ⟨hb1c, hb1f⟩ := bcell hb1; have hbz : blk < w1.heap.size := (by have := hb1.size; omega); have hsz1 := hb1.size)
            have hb3 : Below wr.heap.size wr w1 := (by repeat (first | exact Below.refl _ _ | assumption | refine Below.alloc ?_ (by first | omega | (simp; done) | (simp; omega)) _ | refine Below.setCell ?_ (by first | omega | (simp; done) | (simp; omega)) _ | refine Below.drew ?_ | refine below_dN ?_ _ | refine Below.trans ?_ (Below.mono (by assumption) (by first | omega | (simp; done) | (simp; omega)))))
            have hb2 : Below w.heap.size w w1 := bt hbel hb3
            replace x1 := keepw hb3 x1
            replace x2 := keepw hb3 x2
            replace y1 := keepw hb3 y1
            replace y2 := keepw hb3 y2
            have hown3 := own_below hown hb3
            clear hb3
            have hlen1 := sqTo_len l a
            have hlen2 := sqRow_len l a b
            have hmul : a * l.length ≤ 6 * 6 := Nat.mul_le_mul (by omega) (by omega)
            have hlz : (sqTo l a ++ sqRow l a b).length ≤ 8589934592 := by rw [List.length_append, hlen2]; omega
            clear hlen1 hlen2 hmul
            have hzz := hb2.size
            have hne : ∀ v, w1.ownsRow w.heap.size 3 1 v (sqTo l a ++ sqRow l a b).length ((sqTo l a ++ sqRow l a b).map (Value.int .i64)) → some blk ≠ v.ownBlock := fun v h e => own_ne_lt h hblk0 e.symm
            have Hne := Lib.hid (hne _ hown3)
            clear hne
            have k1 : IntKind.i64.wrap (l[a].1 - l[b].1) = l[a].1 - l[b].1 := IntWalk.i64_in _ (by omega)
            have k2 : IntKind.i64.wrap (l[a].2 - l[b].2) = l[a].2 - l[b].2 := IntWalk.i64_in _ (by omega)
            have k3 : IntKind.i64.wrap ((l[a].1 - l[b].1) * (l[a].1 - l[b].1)) = (l[a].1 - l[b].1) * (l[a].1 - l[b].1) := IntWalk.i64_in _ (by omega)
            have k4 : IntKind.i64.wrap ((l[a].2 - l[b].2) * (l[a].2 - l[b].2)) = (l[a].2 - l[b].2) * (l[a].2 - l[b].2) := IntWalk.i64_in _ (by omega)
            have k5 : IntKind.i64.wrap ((l[a].1 - l[b].1) * (l[a].1 - l[b].1) + (l[a].2 - l[b].2) * (l[a].2 - l[b].2)) = (l[a].1 - l[b].1) * (l[a].1 - l[b].1) + (l[a].2 - l[b].2) * (l[a].2 - l[b].2) := IntWalk.i64_in _ (by omega)
            go_region_held3 (fun w' => w'.cell? ⟨blk, off + a * 2, none⟩ = some (.int .i64 l[a].1) ∧ w'.cell? ⟨blk, off + a * 2 + 1, none⟩ = some (.int .i64 l[a].2) ∧ w'.cell? ⟨blk, off + b * 2, none⟩ = some (.int .i64 l[b].1) ∧ w'.cell? ⟨blk, off + b * 2 + 1, none⟩ = some (.int .i64 l[b].2)) (first | exact ⟨x1, x2, y1, y2⟩ | exact ⟨hgr.cell x1 Hne.out, hgr.cell x2 Hne.out, hgr.cell y1 Hne.out, hgr.cell y2 Hne.out⟩ | exact ⟨keepw (Below.drew (ba _ _)) x1, keepw (Below.drew (ba _ _)) x2, keepw (Below.drew (ba _ _)) y1, keepw (Below.drew (ba _ _)) y2⟩) (first | (refine wp_appI w1.drew ((l[a].1 - l[b].1) * (l[a].1 - l[b].1) + (l[a].2 - l[b].2) * (l[a].2 - l[b].2)) 3 _ _ 37 rfl w.heap.size 3 i0 Try.underlying37 hi hz0 hz1 hz2 _ _ rfl hown3 rfl hlz hzz ?_; intro v' w2 hown4 hgr))
            clear k1 k2 k3 k4 k5
            go_wp2
            go_roundw
            case rel =>
              refine ⟨b + 1, by omega, by omega, by go_num, below_grown (v := u3) hb2.drew hown3 (Nat.le_refl _) hgr, ?_, Lib.hid fun j hj h1 h2 => ?_⟩
              · rw [sqRow_succ l a b hab hla hlb, ← List.append_assoc, E1.out]
                exact hown4
              · rcases Nat.lt_succ_iff_lt_or_eq.1 h2 with h' | rfl
                · exact Ht.out j hj h1 h'
                · exact ⟨q1, q2, q3⟩
            case measure => simp [intOf]; omega
        · have hbl : b = l.length := by omega
          subst hbl
          go_wp2
          go_roundw
          case rel =>
            refine ⟨a + 1, by omega, by go_num, hbel, by rw [sqTo_succ]; exact hown, Lib.hid fun i j hij hj hi => ?_⟩
            rcases Nat.lt_succ_iff_lt_or_eq.1 hi with h' | rfl
            · exact Hs.out i j hij hj h'
            · exact Ht.out j hj hij hj
          case measure => simp [intOf]; omega
    · have hal : a = l.length := by omega
      subst hal
      go_wp2
      go_ret
      refine ⟨_, rfl, hbel, ?_⟩
      by_cases h2 : l.length < 2
      · have h3 : squaresL l = [] := squaresL_small h2
        have h4 : sqTo l l.length = [] := by
          have := sqTo_len l l.length
          have : l.length = 0 ∨ l.length = 1 := by omega
          rcases this with h | h <;> simp [h, sqTo, sqRow]
        rw [h3]; rw [h4] at hown; exact hown
      · rw [squaresL_ok (Hs.out 0 1 (by omega) (by omega) (by omega)).2.2 (fun p hp => by
          obtain ⟨i, hi, rfl⟩ := List.getElem_of_mem hp
          by_cases h0 : i = 0
          · subst h0; exact (Hs.out 0 1 (by omega) (by omega) (by omega)).1
          · exact (Hs.out 0 i (by omega) hi (by omega)).2.1)]
        exact hown
end Go.Proofs.Ytafblagnkjkdcaa
