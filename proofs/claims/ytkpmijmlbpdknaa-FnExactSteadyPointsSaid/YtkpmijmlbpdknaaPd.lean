/- Graphs and pinned structures: what the plain texts compute. -/
import Derived.Test.YtkpmijmlbpdknaaPc
import Derived.Test.YtkpmijmlbpdknaaG1
import Derived.Test.YtkpmijmlbpdknaaG4
import Derived.Test.YtkpmijmlbpdknaaG5
import Derived.Test.YtkpmijmlbpdknaaG6
import Derived.Test.YtkpmijmlbpdknaaG7
import Derived.Test.YtkpmijmlbpdknaaG14
import Derived.Test.YtkpmijmlbpdknaaG15
namespace Go.Proofs.Ytkpmijmlbpdknaa
set_option linter.unusedVariables false
set_option linter.unusedSimpArgs false
variable (N : Nat)
theorem l1In_s (x lo hi : Int) : S_l1In N x lo hi = some (inB x lo hi) := by
  unfold S_l1In inB
  rw [cnd_some]
  show some (cnd (decide (lo ≤ x)) _ _) = _
  cases decide (lo ≤ x) <;> rfl
theorem within_s (x lo hi : Int) : I_within N x lo hi = some (inB x lo hi) := by
  unfold I_within inB
  rw [cnd_some]
  show some (cnd (decide (lo ≤ x)) _ _) = _
  cases decide (lo ≤ x) <;> rfl
theorem l2Has_s (hN : 4000000 ≤ N) {l : List Int} (hl : l.length ≤ 3000000) (x : Int) : S_l2Has N l x = some (l.contains x) := by
  unfold S_l2Has
  refine (srch (len := l.length) (ok := fun i => !(l.getD i 0 == x)) (bad := some true) (fin := some false) (by omega) ?_ ?_).trans ?_
  · intro n i hi _
    rw [S_l2Has_l1]
    simp (disch := omega) only [Int.toNat_natCast, tk0, List.length_cons, List.length_nil, grd_pos, grd_T, grd_R, cnd_dt, cnd_df, cnd_true, cnd_false, Option.bind_some, cnd_not, succ_cast]
  · intro n _
    rw [S_l2Has_l1]
    simp (disch := omega) only [Int.toNat_natCast, tk0, List.length_cons, List.length_nil, grd_pos, grd_T, grd_R, cnd_dt, cnd_df, cnd_true, cnd_false, Option.bind_some]
  · rw [range_all_not_contains, cnd_some]; cases l.contains x <;> rfl
theorem indexInt_l (hN : 4000000 ≤ N) {l : List Int} (hl : l.length ≤ 3000000) (x : Int) : ∀ n i : Nat, i ≤ l.length → l.length < n + i → ∃ r : Int, G_Index_int_l1 N l x (fun _ => some (-1)) n (i : Int) = some r ∧ (decide (r ≥ 0) = (l.drop i).contains x) := by
  intro n
  induction n with
  | zero => intro i h1 h2; omega
  | succ n ih =>
    intro i h1 h2
    rw [G_Index_int_l1]
    by_cases hi : i < l.length
    · simp (disch := omega) only [Int.toNat_natCast, tk0, List.length_cons, List.length_nil, grd_pos, grd_T, grd_R, cnd_dt, cnd_df, cnd_true, cnd_false, Option.bind_some]
      rw [List.drop_eq_getElem_cons hi, List.contains_cons]
      have e : l.getD i 0 = l[i] := by simp [List.getD_eq_getElem?_getD, hi]
      rw [e]
      cases h : x == l[i] with
      | true => exact ⟨i, rfl, by simp⟩
      | false =>
        obtain ⟨r, h1, h2⟩ := ih (i + 1) (by omega) (by omega)
        exact ⟨r, h1, by rw [h2]; rfl⟩
    · simp (disch := omega) only [Int.toNat_natCast, tk0, List.length_cons, List.length_nil, grd_pos, grd_T, grd_R, cnd_dt, cnd_df, cnd_true, cnd_false, Option.bind_some]
      exact ⟨-1, rfl, by rw [List.drop_eq_nil_of_le (by omega)]; rfl⟩
theorem contains_s (hN : 4000000 ≤ N) {l : List Int} (hl : l.length ≤ 3000000) (x : Int) : G_Contains_int N l x = some (l.contains x) := by
  unfold G_Contains_int G_Index_int
  obtain ⟨r, h1, h2⟩ := indexInt_l N hN hl x N 0 (by omega) (by omega)
  rw [show (0 : Int) = ((0 : Nat) : Int) from rfl, h1]
  show some (decide (r ≥ 0)) = _
  rw [h2]; rfl
theorem l2After_s (a b : Int × Int) : S_l2After N a b = some (barLeB a b) := by
  unfold S_l2After barLeB
  simp only [cnd_some]
  cases decide (a.1 < b.1) <;> cases a.1 == b.1 <;> rfl
theorem compareInts_s (a b : Int) : I_compareInts N a b = some (cmpI a b) := by
  unfold I_compareInts cmpI
  by_cases h : a < b
  · simp (disch := omega) only [Int.toNat_natCast, tk0, List.length_cons, List.length_nil, grd_pos, grd_T, grd_R, cnd_dt, cnd_df, cnd_true, cnd_false, Option.bind_some, if_pos h]
  · by_cases h' : b < a
    · simp (disch := omega) only [Int.toNat_natCast, tk0, List.length_cons, List.length_nil, grd_pos, grd_T, grd_R, cnd_dt, cnd_df, cnd_true, cnd_false, Option.bind_some, if_neg h, if_pos h', gt_iff_lt]
    · simp (disch := omega) only [Int.toNat_natCast, tk0, List.length_cons, List.length_nil, grd_pos, grd_T, grd_R, cnd_dt, cnd_df, cnd_true, cnd_false, Option.bind_some, if_neg h, if_neg h', gt_iff_lt]
theorem compareBars_s (a b : Int × Int) : I_compareBars N a b = some (cmpBar a b) := by
  unfold I_compareBars cmpBar
  simp only [compareInts_s, Option.bind_some]
  by_cases h : cmpI a.1 b.1 = 0
  · rw [if_pos h, cnd_nef h]
  · rw [if_neg h, cnd_net h]
theorem cmpBar_gt (a b : Int × Int) : decide (cmpBar a b > 0) = !barLeB a b := by
  have := cmpBar_pos a b
  cases h : barLeB a b with
  | true => rw [h] at this; simp at this; simp; omega
  | false => rw [h] at this; simp at this; simp; omega
theorem isGraphS_s (hN : 4000000 ≤ N) {g : Grf} : S_IsGraph N g = some (isGraph g) := by
  unfold S_IsGraph isGraph
  rw [l1In_s, Option.bind_some, cnd_not]
  cases h1 : inB g.n 1 8 with
  | false => rfl
  | true =>
    by_cases h2 : g.bars.length ≤ 24
    · simp (disch := omega) only [Int.toNat_natCast, tk0, List.length_cons, List.length_nil, grd_pos, grd_T, grd_R, cnd_dt, cnd_df, cnd_true, cnd_false, Option.bind_some]
      refine (srch (len := g.bars.length) (ok := barAt g.n g.bars) (bad := some false) (fin := some true) (by omega) ?_ ?_).trans ?_
      · intro n i hi _
        rw [S_IsGraph_l1]
        by_cases h0 : i = 0
        · subst h0
          simp (disch := omega) only [Int.toNat_natCast, tk0, List.length_cons, List.length_nil, grd_pos, grd_T, grd_R, cnd_dt, cnd_df, cnd_true, cnd_false, Option.bind_some, l2After_s, cnd_or, cnd_and, succ_cast]
          refine cnd_congr' ?_ _ _
          simp only [barAt, barOkB]
          rw [Bool.eq_iff_iff]; simp; omega
        · simp (disch := omega) only [Int.toNat_natCast, tk0, List.length_cons, List.length_nil, grd_pos, grd_T, grd_R, cnd_dt, cnd_df, cnd_true, cnd_false, Option.bind_some, l2After_s, cnd_or, cnd_and, succ_cast, show ((i : Int) - 1).toNat = i - 1 from by omega]
          refine cnd_congr' ?_ _ _
          simp only [barAt, barOkB, decide_eq_false h0, Bool.false_or]
          cases barLeB (g.bars.getD (i - 1) (0, 0)) (g.bars.getD i (0, 0)) <;> (rw [Bool.eq_iff_iff]; simp; try omega)
      · intro n _
        rw [S_IsGraph_l1]
        simp (disch := omega) only [Int.toNat_natCast, tk0, List.length_cons, List.length_nil, grd_pos, grd_T, grd_R, cnd_dt, cnd_df, cnd_true, cnd_false, Option.bind_some]
      · rw [cnd_some, cnd_bool]; simp [h2]
    · simp (disch := omega) only [Int.toNat_natCast, tk0, List.length_cons, List.length_nil, grd_pos, grd_T, grd_R, cnd_dt, cnd_df, cnd_true, cnd_false, Option.bind_some]
      simp [h2]
theorem isGraphI_s (hN : 4000000 ≤ N) {g : Grf} : I_IsGraph N g = some (isGraph g) := by
  unfold I_IsGraph isGraph
  rw [within_s, Option.bind_some, cnd_not]
  cases h1 : inB g.n 1 8 with
  | false => rfl
  | true =>
    by_cases h2 : g.bars.length ≤ 24
    · simp (disch := omega) only [Int.toNat_natCast, tk0, List.length_cons, List.length_nil, grd_pos, grd_T, grd_R, cnd_dt, cnd_df, cnd_true, cnd_false, Option.bind_some]
      refine (srch (len := g.bars.length) (ok := barAt g.n g.bars) (bad := some false) (fin := some true) (by omega) ?_ ?_).trans ?_
      · intro n i hi _
        rw [I_IsGraph_l1]
        by_cases h0 : i = 0
        · subst h0
          simp (disch := omega) only [Int.toNat_natCast, tk0, List.length_cons, List.length_nil, grd_pos, grd_T, grd_R, cnd_dt, cnd_df, cnd_true, cnd_false, Option.bind_some, compareBars_s, cmpBar_gt, cnd_or, cnd_and, succ_cast]
          refine cnd_congr' ?_ _ _
          simp only [barAt, barOkB]
          rw [Bool.eq_iff_iff]; simp; omega
        · simp (disch := omega) only [Int.toNat_natCast, tk0, List.length_cons, List.length_nil, grd_pos, grd_T, grd_R, cnd_dt, cnd_df, cnd_true, cnd_false, Option.bind_some, compareBars_s, cmpBar_gt, cnd_or, cnd_and, succ_cast, show ((i : Int) - 1).toNat = i - 1 from by omega]
          refine cnd_congr' ?_ _ _
          simp only [barAt, barOkB, decide_eq_false h0, Bool.false_or]
          cases barLeB (g.bars.getD (i - 1) (0, 0)) (g.bars.getD i (0, 0)) <;> (rw [Bool.eq_iff_iff]; simp; try omega)
      · intro n _
        rw [I_IsGraph_l1]
        simp (disch := omega) only [Int.toNat_natCast, tk0, List.length_cons, List.length_nil, grd_pos, grd_T, grd_R, cnd_dt, cnd_df, cnd_true, cnd_false, Option.bind_some]
      · rw [cnd_some, cnd_bool]; simp [h2]
    · simp (disch := omega) only [Int.toNat_natCast, tk0, List.length_cons, List.length_nil, grd_pos, grd_T, grd_R, cnd_dt, cnd_df, cnd_true, cnd_false, Option.bind_some]
      simp [h2]
end Go.Proofs.Ytkpmijmlbpdknaa
