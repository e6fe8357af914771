/- Pinned structures: what the plain texts compute. -/
import Derived.Test.YtkpmijmlbpdknaaPd
import Derived.Test.YtkpmijmlbpdknaaG4
import Derived.Test.YtkpmijmlbpdknaaG6
import Derived.Test.YtkpmijmlbpdknaaG7
import Derived.Test.YtkpmijmlbpdknaaG14
import Derived.Test.YtkpmijmlbpdknaaG15
namespace Go.Proofs.Ytkpmijmlbpdknaa
set_option linter.unusedVariables false
set_option linter.unusedSimpArgs false
variable (N : Nat)
theorem all_not_dbl (l : List (Int × Int)) : ((List.range l.length).all fun i => !doubleAt l i) = !hasDbl l := by
  simp only [hasDbl, List.not_any_eq_all_not]
theorem pair_eq (a b : Int × Int) : ((a.1 == b.1) && (a.2 == b.2)) = (a == b) := by
  obtain ⟨x, y⟩ := a; obtain ⟨u, v⟩ := b; rfl
theorem hasDoubles_s (hN : 4000000 ≤ N) {g : Grf} (hb : g.bars.length ≤ 3000000) : I_hasDoubles N g = some (hasDbl g.bars) := by
  unfold I_hasDoubles
  refine (srch1 (len := g.bars.length) (ok := fun i => !doubleAt g.bars i) (bad := some true) (fin := some false) (by omega) rfl ?_ ?_).trans ?_
  · intro n i h0 hi
    rw [I_hasDoubles_l1]
    simp (disch := omega) only [Int.toNat_natCast, tk0, List.length_cons, List.length_nil, grd_pos, grd_T, grd_R, cnd_dt, cnd_df, cnd_true, cnd_false, Option.bind_some, succ_cast, pair_eq, show ((i : Int) - 1).toNat = i - 1 from by omega]
    refine cnd_congr' ?_ _ _
    simp [doubleAt, h0]
  · intro n i hi
    rw [I_hasDoubles_l1]
    simp (disch := omega) only [Int.toNat_natCast, tk0, List.length_cons, List.length_nil, grd_pos, grd_T, grd_R, cnd_dt, cnd_df, cnd_true, cnd_false, Option.bind_some]
  · rw [all_not_dbl, cnd_some]; cases hasDbl g.bars <;> rfl
theorem l17Simple_s (hN : 4000000 ≤ N) {g : Grf} (hb : g.bars.length ≤ 3000000) : S_l17Simple N g = some (isSimple g) := by
  unfold S_l17Simple isSimple
  refine (srch1 (len := g.bars.length) (ok := fun i => !doubleAt g.bars i) (bad := some false) (fin := some (isGraph g)) (by omega) rfl ?_ ?_).trans ?_
  · intro n i h0 hi
    rw [S_l17Simple_l1]
    simp (disch := omega) only [Int.toNat_natCast, tk0, List.length_cons, List.length_nil, grd_pos, grd_T, grd_R, cnd_dt, cnd_df, cnd_true, cnd_false, Option.bind_some, succ_cast, pair_eq, show ((i : Int) - 1).toNat = i - 1 from by omega]
    refine cnd_congr' ?_ _ _
    simp [doubleAt, h0]
  · intro n i hi
    rw [S_l17Simple_l1]
    simp (disch := omega) only [Int.toNat_natCast, tk0, List.length_cons, List.length_nil, grd_pos, grd_T, grd_R, cnd_dt, cnd_df, cnd_true, cnd_false, Option.bind_some, isGraphS_s N hN]
  · rw [all_not_dbl, cnd_some]; cases hasDbl g.bars <;> cases isGraph g <;> rfl
theorem ghasW_s (g : Grf) (x : Int) : M_Graph_has N g x = some (inB x 0 (w64 (g.n - 1))) := by
  unfold M_Graph_has
  simp (disch := omega) only [Int.toNat_natCast, tk0, List.length_cons, List.length_nil, grd_pos, grd_T, grd_R, cnd_dt, cnd_df, cnd_true, cnd_false, Option.bind_some, within_s]
theorem ghas_s {g : Grf} (h : 0 ≤ g.n) (h' : g.n ≤ 1048576) (x : Int) : M_Graph_has N g x = some (inB x 0 (g.n - 1)) := by
  unfold M_Graph_has
  rw [w64_id (by omega) (by omega)]
  simp (disch := omega) only [Int.toNat_natCast, tk0, List.length_cons, List.length_nil, grd_pos, grd_T, grd_R, cnd_dt, cnd_df, cnd_true, cnd_false, Option.bind_some, within_s]
theorem range_all_none (gr : List Int) (l : List (Int × Int)) : ((List.range l.length).all fun i => !bothIn gr (l.getD i (0, 0))) = noneIn gr l := by
  rw [Bool.eq_iff_iff, noneIn, List.all_eq_true, List.all_eq_true]
  simp only [List.mem_range]
  constructor
  · intro h p hp
    obtain ⟨i, hi, rfl⟩ := List.getElem_of_mem hp
    simpa [List.getD_eq_getElem?_getD, hi] using h i hi
  · intro h i hi
    have := h l[i] (List.getElem_mem hi)
    simpa [List.getD_eq_getElem?_getD, hi] using this
theorem isPinned_n {p : Pin} (h : isGraph p.g = true) : 1 ≤ p.g.n ∧ p.g.n ≤ 8 ∧ p.g.bars.length ≤ 24 := by
  have := isGraph_parts h; omega
theorem isPinnedI_s (hN : 4000000 ≤ N) {p : Pin} (hb : p.g.bars.length ≤ 3000000) (hg : p.ground.length ≤ 3000000) : I_IsPinned N p = some (isPinned p) := by
  unfold I_IsPinned isPinned
  rw [isGraphI_s N hN, Option.bind_some, cnd_not]
  cases h1 : isGraph p.g with
  | false => rfl
  | true =>
    obtain ⟨hn1, hn2, hbl⟩ := isPinned_n h1
    rw [cnd_true, hasDoubles_s N hN hb, Option.bind_some]
    cases h2 : hasDbl p.g.bars with
    | true => rfl
    | false =>
      rw [cnd_false]
      by_cases h3 : 2 ≤ p.ground.length
      · by_cases h4 : p.g.bars.length ≤ 15
        · by_cases h5 : p.g.bars.length + 2 * p.ground.length ≤ 27
          · simp (disch := omega) only [Int.toNat_natCast, tk0, List.length_cons, List.length_nil, grd_pos, grd_T, grd_R, cnd_dt, cnd_df, cnd_true, cnd_false, Option.bind_some]
            refine (srch (len := p.ground.length) (ok := ascAt p.g.n p.ground) (bad := some false) (fin := some (noneIn p.ground p.g.bars)) (by omega) ?_ ?_).trans ?_
            · intro n i hi _
              rw [I_IsPinned_l2]
              by_cases h0 : i = 0
              · subst h0
                simp (disch := omega) only [Int.toNat_natCast, tk0, List.length_cons, List.length_nil, grd_pos, grd_T, grd_R, cnd_dt, cnd_df, cnd_true, cnd_false, Option.bind_some, ghas_s N (by omega : 0 ≤ p.g.n) (by omega), cnd_not, succ_cast]
                refine cnd_congr ?_ _ _
                simp [ascAt]
              · simp (disch := omega) only [Int.toNat_natCast, tk0, List.length_cons, List.length_nil, grd_pos, grd_T, grd_R, cnd_dt, cnd_df, cnd_true, cnd_false, Option.bind_some, ghas_s N (by omega : 0 ≤ p.g.n) (by omega), succ_cast, cnd_or, show ((i : Int) - 1).toNat = i - 1 from by omega]
                refine cnd_congr' ?_ _ _
                simp only [ascAt, decide_eq_false h0, Bool.false_or]
                cases inB (p.ground.getD i 0) 0 (p.g.n - 1) <;> (rw [Bool.eq_iff_iff]; simp)
            · intro n _
              rw [I_IsPinned_l2]
              simp (disch := omega) only [Int.toNat_natCast, tk0, List.length_cons, List.length_nil, grd_pos, grd_T, grd_R, cnd_dt, cnd_df, cnd_true, cnd_false, Option.bind_some]
              refine (srch (len := p.g.bars.length) (ok := fun i => !bothIn p.ground (p.g.bars.getD i (0, 0))) (bad := some false) (fin := some true) (by omega) ?_ ?_).trans ?_
              · intro n i hi _
                rw [I_IsPinned_l1]
                simp (disch := omega) only [Int.toNat_natCast, tk0, List.length_cons, List.length_nil, grd_pos, grd_T, grd_R, cnd_dt, cnd_df, cnd_true, cnd_false, Option.bind_some, contains_s N hN hg, succ_cast, cnd_and]
                refine cnd_congr' ?_ _ _
                simp [bothIn]
              · intro n _
                rw [I_IsPinned_l1]
                simp (disch := omega) only [Int.toNat_natCast, tk0, List.length_cons, List.length_nil, grd_pos, grd_T, grd_R, cnd_dt, cnd_df, cnd_true, cnd_false, Option.bind_some]
              · rw [range_all_none, cnd_some, cnd_bool]
            · rw [cnd_some, show (List.range p.ground.length).all (ascAt p.g.n p.ground) = asc p.g.n p.ground from rfl]
              simp only [decide_eq_true h3, decide_eq_true h4, decide_eq_true h5]
              cases asc p.g.n p.ground <;> cases noneIn p.ground p.g.bars <;> rfl
          · simp (disch := omega) only [Int.toNat_natCast, tk0, List.length_cons, List.length_nil, grd_pos, grd_T, grd_R, cnd_dt, cnd_df, cnd_true, cnd_false, Option.bind_some]
            simp [h5]
        · simp (disch := omega) only [Int.toNat_natCast, tk0, List.length_cons, List.length_nil, grd_pos, grd_T, grd_R, cnd_dt, cnd_df, cnd_true, cnd_false, Option.bind_some]
          simp [h4]
      · simp (disch := omega) only [Int.toNat_natCast, tk0, List.length_cons, List.length_nil, grd_pos, grd_T, grd_R, cnd_dt, cnd_df, cnd_true, cnd_false, Option.bind_some]
        simp [h3]
theorem isPinnedS_s (hN : 4000000 ≤ N) {p : Pin} (hb : p.g.bars.length ≤ 3000000) (hg : p.ground.length ≤ 3000000) : S_IsPinned N p = some (isPinned p) := by
  unfold S_IsPinned
  refine (srch (len := p.ground.length) (ok := ascAt p.g.n p.ground) (bad := some false) (fin := cnd (noneIn p.ground p.g.bars) (some (isSimple p.g && decide (2 ≤ p.ground.length) && decide (p.g.bars.length ≤ 15) && decide (p.g.bars.length + 2 * p.ground.length ≤ 27))) (some false)) (by omega) ?_ ?_).trans ?_
  · intro n i hi _
    rw [S_IsPinned_l2]
    by_cases h0 : i = 0
    · subst h0
      simp (disch := omega) only [Int.toNat_natCast, tk0, List.length_cons, List.length_nil, grd_pos, grd_T, grd_R, cnd_dt, cnd_df, cnd_true, cnd_false, Option.bind_some, cnd_or, succ_cast]
      refine cnd_congr' ?_ _ _
      simp only [ascAt, inB]
      rw [Bool.eq_iff_iff]; simp; omega
    · simp (disch := omega) only [Int.toNat_natCast, tk0, List.length_cons, List.length_nil, grd_pos, grd_T, grd_R, cnd_dt, cnd_df, cnd_true, cnd_false, Option.bind_some, succ_cast, cnd_or, show ((i : Int) - 1).toNat = i - 1 from by omega]
      refine cnd_congr' ?_ _ _
      simp only [ascAt, inB, decide_eq_false h0, Bool.false_or]
      rw [Bool.eq_iff_iff]; simp; omega
  · intro n _
    rw [S_IsPinned_l2]
    simp (disch := omega) only [Int.toNat_natCast, tk0, List.length_cons, List.length_nil, grd_pos, grd_T, grd_R, cnd_dt, cnd_df, cnd_true, cnd_false, Option.bind_some]
    refine (srch (len := p.g.bars.length) (ok := fun i => !bothIn p.ground (p.g.bars.getD i (0, 0))) (bad := some false) (fin := some (isSimple p.g && decide (2 ≤ p.ground.length) && decide (p.g.bars.length ≤ 15) && decide (p.g.bars.length + 2 * p.ground.length ≤ 27))) (by omega) ?_ ?_).trans ?_
    · intro n i hi _
      rw [S_IsPinned_l1]
      simp (disch := omega) only [Int.toNat_natCast, tk0, List.length_cons, List.length_nil, grd_pos, grd_T, grd_R, cnd_dt, cnd_df, cnd_true, cnd_false, Option.bind_some, l2Has_s N hN hg, succ_cast, cnd_and]
      refine cnd_congr' ?_ _ _
      simp [bothIn]
    · intro n _
      rw [S_IsPinned_l1]
      simp (disch := omega) only [Int.toNat_natCast, tk0, List.length_cons, List.length_nil, grd_pos, grd_T, grd_R, cnd_dt, cnd_df, cnd_true, cnd_false, Option.bind_some, l17Simple_s N hN hb]
      simp only [cnd_some]
      congr 1
      rw [show decide ((p.ground.length : Int) ≥ 2) = decide (2 ≤ p.ground.length) from by rw [Bool.eq_iff_iff]; simp; omega, show decide ((p.g.bars.length : Int) ≤ 15) = decide (p.g.bars.length ≤ 15) from by rw [Bool.eq_iff_iff]; simp; omega,
        show decide ((p.g.bars.length : Int) + 2 * (p.ground.length : Int) - 3 ≤ 24) = decide (p.g.bars.length + 2 * p.ground.length ≤ 27) from by rw [Bool.eq_iff_iff]; simp; omega]
      cases isSimple p.g <;> cases decide (2 ≤ p.ground.length) <;> cases decide (p.g.bars.length ≤ 15) <;> rfl
    · rw [range_all_none]
  · rw [show (List.range p.ground.length).all (ascAt p.g.n p.ground) = asc p.g.n p.ground from rfl]
    simp only [cnd_some]
    congr 1
    unfold isPinned isSimple
    cases asc p.g.n p.ground <;> cases noneIn p.ground p.g.bars <;> simp [cnd]
end Go.Proofs.Ytkpmijmlbpdknaa
