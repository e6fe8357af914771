/- Owners: both plain texts give the same. -/
import Derived.Test.YtlmlfbjcpajinaaPf
import Derived.Test.YtlmlfbjcpajinaaG14
import Derived.Test.YtlmlfbjcpajinaaG15
namespace Go.Proofs.Ytlmlfbjcpajinaa
set_option linter.unusedVariables false
set_option linter.unusedSimpArgs false
variable (N : Nat)
theorem beq_comm' (a b : Int) : (a == b) = (b == a) := by rw [Bool.eq_iff_iff]; simp; exact eq_comm
theorem own_l1 (hN : 4000000 ≤ N) {p : Pin} (hp : isPinned p = true) {c : List Int} (hc : c.length = p.g.n.toNat) :
    ∃ b, S_AreOwners_l1 N p c (innerPts p) (fun _ => some true) N 0 = some b ∧ I_AreOwners_l1 N p c (innerPts p) (fun _ => some true) N 0 = some b := by
  have hbd := isPinned_bd hp
  have hlen : (innerPts p).length ≤ 8 := by
    unfold innerPts; rw [hp, cnd_true, inner_outside]
    have := outside_len p.ground p.g.n.toNat; omega
  have hin : ∀ i, i < (innerPts p).length → 0 ≤ (innerPts p).getD i 0 ∧ (innerPts p).getD i 0 < p.g.n := fun i hi => by
    have h1 : (innerPts p).contains ((innerPts p).getD i 0) = true := by
      simp [List.getD_eq_getElem?_getD, hi]
    rw [innerPts_mem hp, isIn, Bool.and_eq_true] at h1
    have := inB_true.1 h1.1
    omega
  refine ⟨(List.range (innerPts p).length).all (fun i => (c.getD ((innerPts p).getD i 0).toNat 0 == 2)), ?_, ?_⟩
  · refine (srch (len := (innerPts p).length) (ok := fun i => (c.getD ((innerPts p).getD i 0).toNat 0 == 2)) (bad := some false) (fin := some true) (by omega) ?_ ?_).trans (by rw [cnd_some, cnd_bool])
    · intro n i hi _
      have := hin i hi
      rw [S_AreOwners_l1]
      simp (disch := omega) only [Int.toNat_natCast, tk0, List.length_cons, List.length_nil, grd_pos, grd_T, grd_R, cnd_dt, cnd_df, cnd_true, cnd_false, Option.bind_some, List.length_replicate, succ_cast]
      refine cnd_congr' ?_ _ _
      rw [bne]
    · intro n _
      rw [S_AreOwners_l1]
      simp (disch := omega) only [Int.toNat_natCast, tk0, List.length_cons, List.length_nil, grd_pos, grd_T, grd_R, cnd_dt, cnd_df, cnd_true, cnd_false, Option.bind_some]
  · refine (srch (len := (innerPts p).length) (ok := fun i => (c.getD ((innerPts p).getD i 0).toNat 0 == 2)) (bad := some false) (fin := some true) (by omega) ?_ ?_).trans (by rw [cnd_some, cnd_bool])
    · intro n i hi _
      have := hin i hi
      rw [I_AreOwners_l1]
      simp (disch := omega) only [Int.toNat_natCast, tk0, List.length_cons, List.length_nil, grd_pos, grd_T, grd_R, cnd_dt, cnd_df, cnd_true, cnd_false, Option.bind_some, List.length_replicate, succ_cast]
      refine cnd_congr' ?_ _ _
      rw [bne]
    · intro n _
      rw [I_AreOwners_l1]
      simp (disch := omega) only [Int.toNat_natCast, tk0, List.length_cons, List.length_nil, grd_pos, grd_T, grd_R, cnd_dt, cnd_df, cnd_true, cnd_false, Option.bind_some]
theorem own_l2 (hN : 4000000 ≤ N) {p : Pin} (hp : isPinned p = true) {l : List Int} (hl : l.length = p.g.bars.length) {kS kI : List Int → Option Bool} (hk : ∀ c : List Int, c.length = p.g.n.toNat → ∃ b, kS c = some b ∧ kI c = some b) :
    ∀ (n i : Nat) (c : List Int), i ≤ l.length → l.length < n + i → c.length = p.g.n.toNat → (∀ j : Nat, 0 ≤ c.getD j 0 ∧ c.getD j 0 ≤ (i : Int)) →
      ∃ b, S_AreOwners_l2 N p l kS n (c, (i : Int)) = some b ∧ I_AreOwners_l2 N p l kI n (c, (i : Int)) = some b := by
  have hbd := isPinned_bd hp
  intro n
  induction n with
  | zero => intro i c h1 h2; omega
  | succ n ih =>
    intro i c h1 h2 hc hr
    rw [S_AreOwners_l2, I_AreOwners_l2]
    by_cases hi : i < l.length
    · simp (disch := omega) only [Int.toNat_natCast, tk0, List.length_cons, List.length_nil, grd_pos, grd_T, grd_R, cnd_dt, cnd_df, cnd_true, cnd_false, Option.bind_some, bhas_s, isInner_s N hN hp, cnd_not]
      have hbar := isPinned_bar hp (i := i) (by omega)
      by_cases he : hasEnd (p.g.bars.getD i (0, 0)) (l.getD i 0) = true
      · rw [he, cnd_true]
        have hx : 0 ≤ l.getD i 0 ∧ l.getD i 0 < p.g.n := by
          simp only [hasEnd, Bool.or_eq_true, beq_iff_eq] at he; omega
        have hr' := hr (l.getD i 0).toNat
        have hin : isIn p (l.getD i 0) = !p.ground.contains (l.getD i 0) := by
          unfold isIn; rw [inB_true.2 (by omega)]; rfl
        rw [hin]
        have e : ∀ X : Option Bool, cnd (l.getD i 0 != (p.g.bars.getD i (0, 0)).1) (cnd (l.getD i 0 != (p.g.bars.getD i (0, 0)).2) (some false) X) X = X := fun X => by
          simp only [hasEnd, Bool.or_eq_true, beq_iff_eq] at he
          rcases he with he | he
          · rw [cnd_nef he.symm]
          · rw [cnd_nef he.symm]; exact cnd_same _ _
        rw [e]
        rw [l2Has_s N hN (by omega), Option.bind_some]
        cases hg : p.ground.contains (l.getD i 0) with
        | true => exact ⟨false, rfl, rfl⟩
        | false =>
          simp (disch := omega) only [Int.toNat_natCast, tk0, List.length_cons, List.length_nil, grd_pos, grd_T, grd_R, cnd_dt, cnd_df, cnd_true, cnd_false, Option.bind_some, List.length_replicate, Bool.not_false]
          exact ih (i + 1) _ (by omega) (by omega) (by simp [hc]) fun j => by
            have h0 := hr j
            simp only [List.getD_eq_getElem?_getD, List.getElem?_set] at h0 hr' ⊢
            split
            · split
              · simp only [Option.getD_some]; omega
              · simp only [Option.getD_none]; omega
            · omega
      · have he' : hasEnd (p.g.bars.getD i (0, 0)) (l.getD i 0) = false := by simpa using he
        rw [he', cnd_false]
        have h3 : ¬ l.getD i 0 = (p.g.bars.getD i (0, 0)).1 := fun h => by rw [hasEnd_1 h.symm] at he'; cases he'
        have h4 : ¬ l.getD i 0 = (p.g.bars.getD i (0, 0)).2 := fun h => by rw [hasEnd_2 h.symm] at he'; cases he'
        rw [cnd_net h3, cnd_net h4]
        exact ⟨false, rfl, rfl⟩
    · simp (disch := omega) only [Int.toNat_natCast, tk0, List.length_cons, List.length_nil, grd_pos, grd_T, grd_R, cnd_dt, cnd_df, cnd_true, cnd_false, Option.bind_some]
      exact hk c hc
theorem areOwners_s (hN : 4000000 ≤ N) {p : Pin} (hb : p.g.bars.length ≤ 3000000) (hg : p.ground.length ≤ 3000000) {l : List Int} (hl : l.length ≤ 3000000) : ∃ b, S_AreOwners N p l = some b ∧ I_AreOwners N p l = some b := by
  unfold S_AreOwners I_AreOwners
  rw [isPinnedS_s N hN hb hg, isPinnedI_s N hN hb hg, Option.bind_some, Option.bind_some]
  cases hp : isPinned p with
  | false => exact ⟨false, rfl, rfl⟩
  | true =>
    have hbd := isPinned_bd hp
    rw [Bool.not_true, cnd_false, cnd_false]
    by_cases h : l.length = p.g.bars.length
    · rw [cnd_nef (by omega), cnd_nef (by omega)]
      simp (disch := omega) only [Int.toNat_natCast, tk0, List.length_cons, List.length_nil, grd_pos, grd_T, grd_R, cnd_dt, cnd_df, cnd_true, cnd_false, Option.bind_some, innerI_s N hN hb hg, innerS_s N hN hb hg]
      exact own_l2 N hN hp h (fun c hc => own_l1 N hN hp hc) N 0 _ (by omega) (by omega) (by simp) fun j => by
        simp only [List.getD_eq_getElem?_getD, List.getElem?_replicate]
        split <;> simp
    · rw [cnd_net (by omega), cnd_net (by omega)]
      exact ⟨false, rfl, rfl⟩
end Go.Proofs.Ytlmlfbjcpajinaa
