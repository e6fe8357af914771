/- Texts that the proof needs, put together: Pf Pw Ps G36 Pt G38 Pu M7 G54 Qc G55 G56 Qd G57. -/
import Derived.Test.YtkpmijmlbpdknaaBOw3
import Derived.Test.YtkpmijmlbpdknaaBOw4
import Derived.Test.YtkpmijmlbpdknaaBOw5
namespace Go.Proofs.Ytkpmijmlbpdknaa
set_option linter.unusedVariables false
set_option linter.unusedSimpArgs false
variable (N : Nat)
def outside (ground : List Int) (n : Nat) : List Int := ((List.range n).map Int.ofNat).filter fun i => !ground.contains i
theorem outside_succ (g : List Int) (n : Nat) : outside g (n + 1) = cnd (g.contains (n : Int)) (outside g n) (outside g n ++ [(n : Int)]) := by
  unfold outside
  rw [List.range_succ, List.map_append, List.filter_append]
  simp only [List.map_cons, List.map_nil, List.filter_cons, List.filter_nil]
  cases h : g.contains (n : Int) <;> simp_all
theorem outside_len (g : List Int) (n : Nat) : (outside g n).length ≤ n := by
  unfold outside
  exact Nat.le_trans (List.length_filter_le _ _) (by simp)
theorem inner_outside (p : Pin) : inner p = outside p.ground p.g.n.toNat := rfl
theorem outside_mem (g : List Int) (n : Nat) (x : Int) : (outside g n).contains x = (inB x 0 ((n : Int) - 1) && !g.contains x) := by
  rw [Bool.eq_iff_iff]
  simp only [List.contains_eq_mem, decide_eq_true_eq, outside, List.mem_filter, List.mem_map, List.mem_range, inB, Bool.and_eq_true]
  constructor
  · rintro ⟨⟨i, hi, rfl⟩, h⟩
    refine ⟨⟨?_, ?_⟩, h⟩
    · show (0 : Int) ≤ (i : Int); omega
    · show (i : Int) ≤ _; omega
  · rintro ⟨⟨h1, h2⟩, h⟩
    exact ⟨⟨x.toNat, by omega, by show ((x.toNat : Nat) : Int) = x; omega⟩, h⟩
/-- the points that are not grounded; none where the structure is not valid -/
def innerPts (p : Pin) : List Int := cnd (isPinned p) (inner p) []
theorem isPinned_bd {p : Pin} (h : isPinned p = true) : 1 ≤ p.g.n ∧ p.g.n ≤ 8 ∧ p.g.bars.length ≤ 15 ∧ p.ground.length ≤ 27 := by
  obtain ⟨h1, h2, h3, h4, h5, _⟩ := isPinned_parts h
  have := isPinned_n h1
  omega
theorem innerI_s (hN : 4000000 ≤ N) {p : Pin} (hb : p.g.bars.length ≤ 3000000) (hg : p.ground.length ≤ 3000000) : I_InnerPoints N p = some (innerPts p) := by
  unfold I_InnerPoints innerPts
  rw [isPinnedI_s N hN hb hg, Option.bind_some, cnd_not]
  cases hp : isPinned p with
  | false => rfl
  | true =>
    have hbd := isPinned_bd hp
    rw [cnd_true, cnd_true, inner_outside]
    refine (fold (len := p.g.n.toNat) (st := outside p.ground) (fin := some (outside p.ground p.g.n.toNat)) (by omega) ?_ ?_)
    · intro n i hi
      have hl := outside_len p.ground i
      rw [I_InnerPoints_l1]
      simp (disch := omega) only [Int.toNat_natCast, tk0, List.length_cons, List.length_nil, grd_pos, grd_T, grd_R, cnd_dt, cnd_df, cnd_true, cnd_false, Option.bind_some, contains_s N hN hg, cnd_not, succ_cast, outside_succ]
      cases p.ground.contains (i : Int) <;> rfl
    · intro n
      rw [I_InnerPoints_l1]
      simp (disch := omega) only [Int.toNat_natCast, tk0, List.length_cons, List.length_nil, grd_pos, grd_T, grd_R, cnd_dt, cnd_df, cnd_true, cnd_false, Option.bind_some]
theorem innerS_s (hN : 4000000 ≤ N) {p : Pin} (hb : p.g.bars.length ≤ 3000000) (hg : p.ground.length ≤ 3000000) : S_InnerPoints N p = some (innerPts p) := by
  unfold S_InnerPoints innerPts
  cases hp : isPinned p with
  | false =>
    obtain ⟨M, rfl⟩ : ∃ M, N = M + 1 := ⟨N - 1, by omega⟩
    rw [S_InnerPoints_l1, isPinnedS_s _ hN hb hg, Option.bind_some, hp]
    cases decide ((0 : Int) < p.g.n) <;> rfl
  | true =>
    have hbd := isPinned_bd hp
    rw [cnd_true, inner_outside]
    refine (fold (len := p.g.n.toNat) (st := outside p.ground) (fin := some (outside p.ground p.g.n.toNat)) (by omega) ?_ ?_)
    · intro n i hi
      have hl := outside_len p.ground i
      rw [S_InnerPoints_l1]
      simp (disch := omega) only [Int.toNat_natCast, tk0, List.length_cons, List.length_nil, grd_pos, grd_T, grd_R, cnd_dt, cnd_df, cnd_true, cnd_false, Option.bind_some, isPinnedS_s N hN hb hg, hp, l2Has_s N hN hg, cnd_not, succ_cast, outside_succ]
      cases p.ground.contains (i : Int) <;> rfl
    · intro n
      rw [S_InnerPoints_l1]
      simp (disch := omega) only [Int.toNat_natCast, tk0, List.length_cons, List.length_nil, grd_pos, grd_T, grd_R, cnd_dt, cnd_df, cnd_true, cnd_false, Option.bind_some]
/-- an inner point -/
def isIn (p : Pin) (x : Int) : Bool := inB x 0 (p.g.n - 1) && !p.ground.contains x
theorem isInner_s (hN : 4000000 ≤ N) {p : Pin} (hp : isPinned p = true) (x : Int) : M_Pinned_isInner N p x = some (isIn p x) := by
  have hbd := isPinned_bd hp
  unfold M_Pinned_isInner isIn
  rw [ghas_s N (by omega) (by omega), Option.bind_some, contains_s N hN (by omega), Option.bind_some, cnd_some]
  cases inB x 0 (p.g.n - 1) <;> rfl
theorem innerPts_mem {p : Pin} (hp : isPinned p = true) (x : Int) : (innerPts p).contains x = isIn p x := by
  have hbd := isPinned_bd hp
  unfold innerPts isIn
  rw [hp, cnd_true, inner_outside, outside_mem, show ((p.g.n.toNat : Nat) : Int) = p.g.n by omega]
/-- the other end -/
def otherEnd (b : Int × Int) (v : Int) : Int := cnd (b.1 == v) b.2 b.1
def hasEnd (b : Int × Int) (v : Int) : Bool := b.1 == v || b.2 == v
theorem hasEnd_1 {b : Int × Int} {v : Int} (h : b.1 = v) : hasEnd b v = true := by simp [hasEnd, h]
theorem hasEnd_2 {b : Int × Int} {v : Int} (h : b.2 = v) : hasEnd b v = true := by simp [hasEnd, h]
theorem hasEnd_0 {b : Int × Int} {v : Int} (h : ¬ b.1 = v) (h2 : ¬ b.2 = v) : hasEnd b v = false := by simp [hasEnd, h, h2]
theorem bhas_s (b : Int × Int) (v : Int) : M_Bar_has N b v = some (hasEnd b v) := by
  unfold M_Bar_has hasEnd
  rw [cnd_some]; cases b.1 == v <;> rfl
theorem bother_s (b : Int × Int) (v : Int) : M_Bar_other N b v = some (otherEnd b v) := by
  unfold M_Bar_other otherEnd
  rw [cnd_some]
theorem l4Other_s {b : Int × Int} {v : Int} (h1 : 0 ≤ b.1) (h2 : b.1 ≤ 1048576) (h3 : 0 ≤ b.2) (h4 : b.2 ≤ 1048576) (h : hasEnd b v = true) : S_l4Other N b v = some (otherEnd b v) := by
  unfold S_l4Other otherEnd
  simp only [hasEnd, Bool.or_eq_true, beq_iff_eq] at h
  rcases h with h | h
  · simp (disch := omega) only [Int.toNat_natCast, tk0, List.length_cons, List.length_nil, grd_pos, grd_T, grd_R, cnd_dt, cnd_df, cnd_true, cnd_false, Option.bind_some]
    congr 1
    rw [show (b.1 == v) = true by simpa using h, cnd_true]; omega
  · simp (disch := omega) only [Int.toNat_natCast, tk0, List.length_cons, List.length_nil, grd_pos, grd_T, grd_R, cnd_dt, cnd_df, cnd_true, cnd_false, Option.bind_some]
    congr 1
    cases hb : b.1 == v with
    | true => have : b.1 = v := by simpa using hb
              rw [cnd_true]; omega
    | false => rw [cnd_false]; omega
theorem isPinned_bar {p : Pin} (hp : isPinned p = true) {i : Nat} (hi : i < p.g.bars.length) : 0 ≤ (p.g.bars.getD i (0, 0)).1 ∧ (p.g.bars.getD i (0, 0)).1 ≤ 8 ∧ 0 ≤ (p.g.bars.getD i (0, 0)).2 ∧ (p.g.bars.getD i (0, 0)).2 ≤ 8 ∧ (p.g.bars.getD i (0, 0)).1 < p.g.n ∧ (p.g.bars.getD i (0, 0)).2 < p.g.n ∧ (p.g.bars.getD i (0, 0)).1 < (p.g.bars.getD i (0, 0)).2 := by
  have h1 := (isPinned_parts hp).1
  have h2 := isGraph_bar h1 (List.getElem_mem hi)
  have h3 := isPinned_n h1
  simp [List.getD_eq_getElem?_getD, hi]
  omega
/-- a bar leads from x to the ground or to what is done -/
def holdP (p : Pin) (dn : List Int) (x e : Int) : Bool :=
  inB e 0 ((p.g.bars.length : Int) - 1) && (hasEnd (p.g.bars.getD e.toNat (0, 0)) x && (p.ground.contains (otherEnd (p.g.bars.getD e.toNat (0, 0)) x) || dn.contains (otherEnd (p.g.bars.getD e.toNat (0, 0)) x)))
theorem holds_s (hN : 4000000 ≤ N) {p : Pin} (hp : isPinned p = true) {dn : List Int} (hd : dn.length ≤ 3000000) (x e : Int) : M_Pinned_holds N p dn x e = some (holdP p dn x e) := by
  have hbd := isPinned_bd hp
  unfold M_Pinned_holds holdP
  simp (disch := omega) only [Int.toNat_natCast, tk0, List.length_cons, List.length_nil, grd_pos, grd_T, grd_R, cnd_dt, cnd_df, cnd_true, cnd_false, Option.bind_some, within_s, cnd_not]
  cases h1 : inB e 0 ((p.g.bars.length : Int) - 1) with
  | false => rfl
  | true =>
    have h2 := inB_true.1 h1
    simp (disch := omega) only [Int.toNat_natCast, tk0, List.length_cons, List.length_nil, grd_pos, grd_T, grd_R, cnd_dt, cnd_df, cnd_true, cnd_false, Option.bind_some, bhas_s, bother_s, contains_s N hN (show p.ground.length ≤ 3000000 by omega), contains_s N hN hd, cnd_not]
    cases hasEnd (p.g.bars.getD e.toNat (0, 0)) x with
    | false => rfl
    | true =>
      rw [cnd_true]
      cases p.ground.contains (otherEnd (p.g.bars.getD e.toNat (0, 0)) x) <;> rfl
def raiseAt (p : Pin) (dn : List Int) (r : Rse) (i : Nat) : Bool := holdP p dn r.p (r.bars.getD i 0) && (decide (i = 0) || decide (r.bars.getD (i - 1) 0 < r.bars.getD i 0))
def raiseOk (p : Pin) (dn : List Int) (r : Rse) : Bool := isPinned p && (isIn p r.p && (!dn.contains r.p && (decide (2 ≤ r.bars.length) && (List.range r.bars.length).all (raiseAt p dn r))))
theorem isRaiseI_s (hN : 4000000 ≤ N) {p : Pin} (hb : p.g.bars.length ≤ 3000000) (hg : p.ground.length ≤ 3000000) {dn : List Int} (hd : dn.length ≤ 3000000) {r : Rse} (hr : r.bars.length ≤ 3000000) : I_IsRaise N p dn r = some (raiseOk p dn r) := by
  unfold I_IsRaise raiseOk
  rw [isPinnedI_s N hN hb hg, Option.bind_some, cnd_not]
  cases hp : isPinned p with
  | false => rfl
  | true =>
    rw [cnd_true, isInner_s N hN hp, Option.bind_some, contains_s N hN hd, Option.bind_some, cnd_not]
    cases isIn p r.p with
    | false => rfl
    | true =>
      rw [cnd_true]
      cases dn.contains r.p with
      | true => rfl
      | false =>
        rw [cnd_false]
        by_cases h2 : 2 ≤ r.bars.length
        · simp (disch := omega) only [Int.toNat_natCast, tk0, List.length_cons, List.length_nil, grd_pos, grd_T, grd_R, cnd_dt, cnd_df, cnd_true, cnd_false, Option.bind_some]
          refine (srch (len := r.bars.length) (ok := raiseAt p dn r) (bad := some false) (fin := some true) (by omega) ?_ ?_).trans ?_
          · intro n i hi _
            rw [I_IsRaise_l1]
            by_cases h0 : i = 0
            · subst h0
              simp (disch := omega) only [Int.toNat_natCast, tk0, List.length_cons, List.length_nil, grd_pos, grd_T, grd_R, cnd_dt, cnd_df, cnd_true, cnd_false, Option.bind_some, holds_s N hN hp hd, succ_cast]
              refine cnd_congr' ?_ _ _
              simp [raiseAt]
            · simp (disch := omega) only [Int.toNat_natCast, tk0, List.length_cons, List.length_nil, grd_pos, grd_T, grd_R, cnd_dt, cnd_df, cnd_true, cnd_false, Option.bind_some, holds_s N hN hp hd, succ_cast, cnd_or, show ((i : Int) - 1).toNat = i - 1 from by omega]
              refine cnd_congr' ?_ _ _
              simp only [raiseAt, decide_eq_false h0, Bool.false_or]
              cases holdP p dn r.p (r.bars.getD i 0) <;> (rw [Bool.eq_iff_iff]; simp)
          · intro n _
            rw [I_IsRaise_l1]
            simp (disch := omega) only [Int.toNat_natCast, tk0, List.length_cons, List.length_nil, grd_pos, grd_T, grd_R, cnd_dt, cnd_df, cnd_true, cnd_false, Option.bind_some]
          · rw [cnd_some, cnd_bool, decide_eq_true h2]; rfl
        · simp (disch := omega) only [Int.toNat_natCast, tk0, List.length_cons, List.length_nil, grd_pos, grd_T, grd_R, cnd_dt, cnd_df, cnd_true, cnd_false, Option.bind_some]
          rw [decide_eq_false h2]; rfl
end Go.Proofs.Ytkpmijmlbpdknaa

namespace Go.Proofs.Ytkpmijmlbpdknaa
set_option linter.unusedVariables false
set_option linter.unusedSimpArgs false
variable {n : Nat} {N : Nat}
/-- bars in order -/
def Srt (L : List (Int × Int)) : Prop := L.Pairwise fun a b => barLeB a b = true
theorem le_total {a b : Int × Int} (h : barLeB a b = false) : barLeB b a = true := by
  simp only [barLeB, Bool.or_eq_false_iff, Bool.and_eq_false_iff, decide_eq_false_iff_not, Bool.or_eq_true, Bool.and_eq_true, decide_eq_true_eq, beq_iff_eq, beq_eq_false_iff_ne] at h ⊢
  omega
theorem le_trans' {a b c : Int × Int} (h1 : barLeB a b = true) (h2 : barLeB b c = true) : barLeB a c = true := by
  simp only [barLeB, Bool.or_eq_true, Bool.and_eq_true, decide_eq_true_eq, beq_iff_eq] at h1 h2 ⊢
  omega
theorem srt_put {A B : List (Int × Int)} {x : Int × Int} (h : Srt (A ++ B)) (hA : ∀ e ∈ A, barLeB e x = true) (hB : ∀ b l, B = b :: l → barLeB b x = false) : Srt (A ++ x :: B) := by
  obtain ⟨h1, h2, h3⟩ := List.pairwise_append.1 h
  have hx : ∀ b ∈ B, barLeB x b = true := by
    cases B with
    | nil => intro b hb; simp at hb
    | cons b0 l =>
      have h0 := le_total (hB b0 l rfl)
      intro b hb
      rcases List.mem_cons.1 hb with rfl | hb
      · exact h0
      · exact le_trans' h0 ((List.pairwise_cons.1 h2).1 b hb)
  refine List.pairwise_append.2 ⟨h1, List.pairwise_cons.2 ⟨hx, h2⟩, fun a ha b hb => ?_⟩
  rcases List.mem_cons.1 hb with rfl | hb
  · exact hA a ha
  · exact h3 a ha b hb
theorem putX_s (hN : 4000000 ≤ N) {g : Grf} (hl : g.bars.length ≤ 1000) (x : Int × Int) (hs : Srt g.bars) : ∃ L, S_l2Put N g x = some ⟨g.n, L⟩ ∧ Srt L := by
  have keyT : ∀ {kk : (List (Int × Int) × Bool) → Option Grf} (fuel i : Nat) (l : List (Int × Int)), i ≤ g.bars.length → g.bars.length < fuel + i → l.length ≤ i + 1 →
      S_l2Put_l1 N g x kk fuel (l, true, (i : Int)) = kk (l ++ g.bars.drop i, true) := by
    intro kk fuel
    induction fuel with
    | zero => intro i l h1 h2; omega
    | succ fuel ih =>
      intro i l h1 h2 h3
      rw [S_l2Put_l1]
      by_cases hi : i < g.bars.length
      · have e : g.bars.drop i = g.bars.getD i (0, 0) :: g.bars.drop (i + 1) := by
          rw [List.drop_eq_getElem_cons hi]
          simp [List.getD_eq_getElem?_getD, List.getElem?_eq_getElem hi]
        have := ih (i + 1) (l ++ [g.bars.getD i (0, 0)]) (by omega) (by omega) (by simp; omega)
        rw [e]
        simp (disch := omega) only [Int.toNat_natCast, tk0, List.length_cons, List.length_nil, grd_pos, grd_T, grd_R, cnd_dt, cnd_df, cnd_true, cnd_false, Option.bind_some, Bool.not_true, succ_cast]
        refine this.trans ?_
        simp
      · have e : i = g.bars.length := by omega
        subst e
        simp (disch := omega) only [Int.toNat_natCast, tk0, List.length_cons, List.length_nil, grd_pos, grd_T, grd_R, cnd_dt, cnd_df, cnd_true, cnd_false, Option.bind_some]
        simp
  have keyF : ∀ {kk : (List (Int × Int) × Bool) → Option Grf} (fuel i : Nat), i ≤ g.bars.length → g.bars.length < fuel + i → (∀ e ∈ g.bars.take i, barLeB e x = true) →
      (∃ A B, g.bars = A ++ B ∧ (∀ e ∈ A, barLeB e x = true) ∧ (∀ b l, B = b :: l → barLeB b x = false) ∧ S_l2Put_l1 N g x kk fuel (g.bars.take i, false, (i : Int)) = kk (A ++ x :: B, true)) ∨
      ((∀ e ∈ g.bars, barLeB e x = true) ∧ S_l2Put_l1 N g x kk fuel (g.bars.take i, false, (i : Int)) = kk (g.bars, false)) := by
    intro kk fuel
    induction fuel with
    | zero => intro i h1 h2; omega
    | succ fuel ih =>
      intro i h1 h2 h3
      by_cases hi : i < g.bars.length
      · have hd : g.bars.getD i (0, 0) = g.bars[i] := by simp [List.getD_eq_getElem?_getD, List.getElem?_eq_getElem hi]
        have htl : (g.bars.take i).length = i := by simp; omega
        have etk : g.bars.take i ++ [g.bars.getD i (0, 0)] = g.bars.take (i + 1) := by
          rw [List.take_add_one, List.getElem?_eq_getElem hi, hd]; rfl
        cases hb : barLeB (g.bars.getD i (0, 0)) x with
        | false =>
          left
          refine ⟨g.bars.take i, g.bars.drop i, (List.take_append_drop i g.bars).symm, h3, fun b l e => ?_, ?_⟩
          · rw [List.drop_eq_getElem_cons hi] at e
            cases e
            rw [← hd]; exact hb
          · rw [S_l2Put_l1]
            have := keyT (kk := kk) fuel (i + 1) (g.bars.take i ++ [x] ++ [g.bars.getD i (0, 0)]) (by omega) (by omega) (by simp; omega)
            simp (disch := omega) only [Int.toNat_natCast, tk0, List.length_cons, List.length_nil, grd_pos, grd_T, grd_R, cnd_dt, cnd_df, cnd_true, cnd_false, Option.bind_some, Bool.not_false, l2After_s, hb, List.length_append, succ_cast, htl]
            refine this.trans ?_
            congr 2
            have : g.bars.drop i = g.bars.getD i (0, 0) :: g.bars.drop (i + 1) := by rw [List.drop_eq_getElem_cons hi, hd]
            rw [this]; simp
        | true =>
          have step : S_l2Put_l1 N g x kk (fuel + 1) (g.bars.take i, false, (i : Int)) = S_l2Put_l1 N g x kk fuel (g.bars.take (i + 1), false, ((i + 1 : Nat) : Int)) := by
            rw [S_l2Put_l1]
            simp (disch := omega) only [Int.toNat_natCast, tk0, List.length_cons, List.length_nil, grd_pos, grd_T, grd_R, cnd_dt, cnd_df, cnd_true, cnd_false, Option.bind_some, Bool.not_false, Bool.not_true, l2After_s, hb, succ_cast, htl]
            rw [show ((g.bars.getD i (0, 0)).1, (g.bars.getD i (0, 0)).2) = g.bars.getD i (0, 0) from rfl, etk]
          rw [step]
          refine ih (i + 1) (by omega) (by omega) fun e he => ?_
          rw [← etk] at he
          rcases List.mem_append.1 he with he | he
          · exact h3 e he
          · rw [List.mem_singleton] at he; subst he; exact hb
      · have e : i = g.bars.length := by omega
        subst e
        right
        rw [List.take_length] at h3 ⊢
        refine ⟨h3, ?_⟩
        rw [S_l2Put_l1]
        simp (disch := omega) only [Int.toNat_natCast, tk0, List.length_cons, List.length_nil, grd_pos, grd_T, grd_R, cnd_dt, cnd_df, cnd_true, cnd_false, Option.bind_some]
  have e0 : S_l2Put N g x = S_l2Put_l1 N g x (fun (x_ : (List (Int × Int)) × Bool) =>
      match x_ with
      | (l10, placed11) =>
        cnd (!placed11) (
          grd (l10.length + 1 ≤ 4294967296) <|
          some (⟨g.n, (l10 ++ ([(x.1, x.2)] : List (Int × Int)))⟩ : Grf)) (
          some (⟨g.n, l10⟩ : Grf))) N (g.bars.take 0, false, ((0 : Nat) : Int)) := rfl
  rcases keyF (kk := fun (x_ : (List (Int × Int)) × Bool) =>
      match x_ with
      | (l10, placed11) =>
        cnd (!placed11) (
          grd (l10.length + 1 ≤ 4294967296) <|
          some (⟨g.n, (l10 ++ ([(x.1, x.2)] : List (Int × Int)))⟩ : Grf)) (
          some (⟨g.n, l10⟩ : Grf))) N 0 (by omega) (by omega) (fun e he => by simp at he) with ⟨A, B, h1, h2, h3, h4⟩ | ⟨h1, h2⟩
  · refine ⟨A ++ x :: B, e0.trans (h4.trans rfl), srt_put (by rw [← h1]; exact hs) h2 h3⟩
  · refine ⟨g.bars ++ [x], e0.trans (h2.trans ?_), ?_⟩
    · simp (disch := omega) only [Int.toNat_natCast, tk0, List.length_cons, List.length_nil, grd_pos, grd_T, grd_R, cnd_dt, cnd_df, cnd_true, cnd_false, Option.bind_some, Bool.not_false]
    · have := srt_put (A := g.bars) (B := []) (x := x) (by simpa using hs) h1 (fun b l h => by cases h)
      exact this
end Go.Proofs.Ytkpmijmlbpdknaa

namespace Go.Proofs.Ytkpmijmlbpdknaa
set_option linter.unusedVariables false
set_option linter.unusedSimpArgs false
variable {n : Nat} {N : Nat}
theorem asc_lt {n : Int} {l : List Int} (h : asc n l = true) : ∀ j i : Nat, i < j → j < l.length → l.getD i 0 < l.getD j 0
  | 0, i, h1, _ => by omega
  | j + 1, i, h1, h2 => by
    have ha := asc_at h h2
    simp only [ascAt, Bool.and_eq_true, Bool.or_eq_true, decide_eq_true_eq, Nat.add_sub_cancel] at ha
    have hs : l.getD j 0 < l.getD (j + 1) 0 := ha.2.resolve_left (by omega)
    by_cases e : i = j
    · subst e; exact hs
    · have := asc_lt h j i (by omega) (by omega); omega
/-- the held bars of the spec: from the first two points of the ground -/
structure HeldS (G : List Int) (L : List (Int × Int)) (m : Nat) : Prop where
  mem : ∀ e ∈ L, ∃ i j : Nat, i < j ∧ j < m ∧ e = (G.getD i 0, G.getD j 0)
  h0 : ∀ i, 1 ≤ i → i < m → (G.getD 0 0, G.getD i 0) ∈ L
  h1 : ∀ i, 2 ≤ i → i < m → (G.getD 1 0, G.getD i 0) ∈ L
  srt : Srt L
theorem put0_s (hN : 4000000 ≤ N) {g : Grf} (hl : g.bars.length ≤ 1000) (x : Int × Int) : ∃ L, S_l2Put N g x = some ⟨g.n, L⟩ ∧ L.length = g.bars.length + 1 ∧ ∀ e, e ∈ L ↔ e = x ∨ e ∈ g.bars := by
  have key : ∀ {kk : (List (Int × Int) × Bool) → Option Grf} (fuel i : Nat) (l : List (Int × Int)) (pl : Bool), i ≤ g.bars.length → g.bars.length < fuel + i → l.length = i + (if pl = true then 1 else 0) → (pl = true → x ∈ l) → (∀ e, (e = x ∨ e ∈ l) ↔ (e = x ∨ e ∈ g.bars.take i)) →
      ∃ l' pl', S_l2Put_l1 N g x kk fuel (l, pl, (i : Int)) = kk (l', pl') ∧ l'.length = g.bars.length + (if pl' = true then 1 else 0) ∧ (pl' = true → x ∈ l') ∧ ∀ e, (e = x ∨ e ∈ l') ↔ (e = x ∨ e ∈ g.bars) := by
    intro kk fuel
    induction fuel with
    | zero => intro i l pl h1 h2; omega
    | succ fuel ih =>
      intro i l pl h1 h2 h3 h4 h5
      rw [S_l2Put_l1]
      have hlb : l.length ≤ 1001 := by rw [h3]; split <;> omega
      by_cases hi : i < g.bars.length
      · have htk : ∀ e, e ∈ g.bars.take (i + 1) ↔ e ∈ g.bars.take i ∨ e = g.bars.getD i (0, 0) := by
          intro e
          have hd : g.bars.getD i (0, 0) = g.bars[i] := by simp [List.getD_eq_getElem?_getD, List.getElem?_eq_getElem hi]
          rw [List.take_add_one, List.getElem?_eq_getElem hi, List.mem_append, hd]
          simp only [Option.toList_some, List.mem_singleton]
        have step : ∀ l2 : List (Int × Int), (∀ e, (e = x ∨ e ∈ l2) ↔ (e = x ∨ e ∈ l ∨ e = g.bars.getD i (0, 0))) → ∀ e, (e = x ∨ e ∈ l2) ↔ (e = x ∨ e ∈ g.bars.take (i + 1)) := by
          intro l2 h e
          rw [h e, htk e]
          have := h5 e
          constructor
          · rintro (h | h | h)
            · exact .inl h
            · rcases this.1 (.inr h) with h | h
              · exact .inl h
              · exact .inr (.inl h)
            · exact .inr (.inr h)
          · rintro (h | h | h)
            · exact .inl h
            · rcases this.2 (.inr h) with h | h
              · exact .inl h
              · exact .inr (.inl h)
            · exact .inr (.inr h)
        cases pl with
        | true =>
          simp only [if_true] at h3
          obtain ⟨l', pl', k1, k2⟩ := ih (i + 1) (l ++ [g.bars.getD i (0, 0)]) true (by omega) (by omega) (by simp; omega) (fun _ => by simp [h4 rfl]) (step _ fun e => by simp)
          refine ⟨l', pl', ?_, k2⟩
          simp (disch := omega) only [Int.toNat_natCast, tk0, List.length_cons, List.length_nil, grd_pos, grd_T, grd_R, cnd_dt, cnd_df, cnd_true, cnd_false, Option.bind_some, Bool.not_true, succ_cast]
          exact k1
        | false =>
          simp only [Bool.false_eq_true, if_false] at h3
          cases hb : barLeB (g.bars.getD i (0, 0)) x with
          | false =>
            obtain ⟨l', pl', k1, k2⟩ := ih (i + 1) (l ++ [x] ++ [g.bars.getD i (0, 0)]) true (by omega) (by omega) (by simp; omega) (fun _ => by simp) (step _ fun e => by simp; grind)
            refine ⟨l', pl', ?_, k2⟩
            simp (disch := omega) only [Int.toNat_natCast, tk0, List.length_cons, List.length_nil, grd_pos, grd_T, grd_R, cnd_dt, cnd_df, cnd_true, cnd_false, Option.bind_some, Bool.not_false, l2After_s, hb, List.length_append, succ_cast]
            exact k1
          | true =>
            obtain ⟨l', pl', k1, k2⟩ := ih (i + 1) (l ++ [g.bars.getD i (0, 0)]) false (by omega) (by omega) (by simp; omega) (fun h => by cases h) (step _ fun e => by simp)
            refine ⟨l', pl', ?_, k2⟩
            simp (disch := omega) only [Int.toNat_natCast, tk0, List.length_cons, List.length_nil, grd_pos, grd_T, grd_R, cnd_dt, cnd_df, cnd_true, cnd_false, Option.bind_some, Bool.not_false, Bool.not_true, l2After_s, hb, succ_cast]
            exact k1
      · have e : i = g.bars.length := by omega
        subst e
        refine ⟨l, pl, ?_, h3, h4, by simpa using h5⟩
        simp (disch := omega) only [Int.toNat_natCast, tk0, List.length_cons, List.length_nil, grd_pos, grd_T, grd_R, cnd_dt, cnd_df, cnd_true, cnd_false, Option.bind_some]
  obtain ⟨l', pl', k1, k2, k3, k4⟩ := key (kk := fun (x_ : (List (Int × Int)) × Bool) =>
      match x_ with
      | (l10, placed11) =>
        cnd (!placed11) (
          grd (l10.length + 1 ≤ 4294967296) <|
          some (⟨g.n, (l10 ++ ([(x.1, x.2)] : List (Int × Int)))⟩ : Grf)) (
          some (⟨g.n, l10⟩ : Grf))) N 0 [] false (by omega) (by omega) (by simp) (fun h => by cases h) (fun e => by simp)
  rw [show ((0 : Nat) : Int) = 0 from rfl] at k1
  cases pl' with
  | true =>
    refine ⟨l', k1, by simpa using k2, fun e => ?_⟩
    rw [← k4 e]
    constructor
    · exact .inr
    · rintro (rfl | h)
      · exact k3 rfl
      · exact h
  | false =>
    simp only [Bool.false_eq_true, if_false] at k2
    refine ⟨l' ++ [x], ?_, by simp; omega, fun e => ?_⟩
    · refine Eq.trans k1 ?_
      simp (disch := omega) only [Int.toNat_natCast, tk0, List.length_cons, List.length_nil, grd_pos, grd_T, grd_R, cnd_dt, cnd_df, cnd_true, cnd_false, Option.bind_some, Bool.not_false]
    · rw [← k4 e]; simp; grind
theorem put_s (hN : 4000000 ≤ N) {g : Grf} (hl : g.bars.length ≤ 1000) (x : Int × Int) : ∃ L, S_l2Put N g x = some ⟨g.n, L⟩ ∧ L.length = g.bars.length + 1 ∧ (∀ e, e ∈ L ↔ e = x ∨ e ∈ g.bars) ∧ (Srt g.bars → Srt L) := by
  obtain ⟨L, h1, h2, h3⟩ := put0_s (N := N) hN hl x
  refine ⟨L, h1, h2, h3, fun hs => ?_⟩
  obtain ⟨L', g1, g2⟩ := putX_s (N := N) hN hl x hs
  rw [h1] at g1
  cases g1
  exact g2
theorem heldS_s (hN : 4000000 ≤ N) {p : Pin} (hl : p.ground.length ≤ 27) : ∃ L, S_l20Held N p = some ⟨p.g.n, L⟩ ∧ L.length ≤ 2 * (p.ground.length - 1) - 1 ∧ HeldS p.ground L p.ground.length := by
  have key : ∀ {kk : (List (Int × Int) × Int) → Option Grf} (fuel i : Nat) (L : List (Int × Int)), 1 ≤ i → i ≤ p.ground.length + 1 → p.ground.length + 1 < fuel + i → L.length ≤ 2 * (i - 1) - 1 → HeldS p.ground L i → (i ≤ p.ground.length ∨ p.ground.length = 0) →
      ∃ L', S_l20Held_l1 N p kk fuel (L, (i : Int), p.g.n) = kk (L', p.g.n) ∧ L'.length ≤ 2 * (p.ground.length - 1) - 1 ∧ HeldS p.ground L' p.ground.length := by
    intro kk fuel
    induction fuel with
    | zero => intro i L h0 h1 h2 h3 h4 h5; omega
    | succ fuel ih =>
      intro i L h0 h1 h2 h3 h4 h5
      rw [S_l20Held_l1]
      by_cases hi : i < p.ground.length
      · obtain ⟨L1, a1, a2, a3, a4⟩ := put_s (N := N) hN (g := ⟨p.g.n, L⟩) (by simp only; omega) (p.ground.getD 0 0, p.ground.getD i 0)
        simp only at a1 a2 a3 a4
        by_cases h1' : 1 < i
        · obtain ⟨L2, b1, b2, b3, b4⟩ := put_s (N := N) hN (g := ⟨p.g.n, L1⟩) (by simp only; omega) (p.ground.getD 1 0, p.ground.getD i 0)
          simp only at b1 b2 b3 b4
          obtain ⟨L', k1, k2⟩ := ih (i + 1) L2 (by omega) (by omega) (by omega) (by omega) ⟨fun e he => by
            rcases (b3 e).1 he with h | h
            · exact ⟨1, i, h1', by omega, h⟩
            · rcases (a3 e).1 h with h | h
              · exact ⟨0, i, by omega, by omega, h⟩
              · obtain ⟨i', j', g1, g2, g3⟩ := h4.mem e h
                exact ⟨i', j', g1, by omega, g3⟩, fun i' g1 g2 => (b3 _).2 (.inr ((a3 _).2 (by
            by_cases e : i' = i
            · subst e; exact .inl rfl
            · exact .inr (h4.h0 i' g1 (by omega))))), fun i' g1 g2 => (b3 _).2 (by
            by_cases e : i' = i
            · subst e; exact .inl rfl
            · exact .inr ((a3 _).2 (.inr (h4.h1 i' g1 (by omega))))), b4 (a4 h4.srt)⟩ (.inl (by omega))
          refine ⟨L', ?_, k2⟩
          have z0 : (0 : Int).toNat = 0 := rfl
          have z1 : (1 : Int).toNat = 1 := rfl
          simp (disch := omega) only [Int.toNat_natCast, tk0, List.length_cons, List.length_nil, grd_pos, grd_T, grd_R, cnd_dt, cnd_df, cnd_true, cnd_false, Option.bind_some, z0, z1, a1, b1, succ_cast]
          exact k1
        · have e1 : i = 1 := by omega
          subst e1
          obtain ⟨L', k1, k2⟩ := ih 2 L1 (by omega) (by omega) (by omega) (by omega) ⟨fun e he => by
            rcases (a3 e).1 he with h | h
            · exact ⟨0, 1, by omega, by omega, h⟩
            · obtain ⟨i', j', g1, g2, g3⟩ := h4.mem e h
              exact ⟨i', j', g1, by omega, g3⟩, fun i' g1 g2 => (a3 _).2 (by
            by_cases e : i' = 1
            · subst e; exact .inl rfl
            · omega), fun i' g1 g2 => by omega, a4 h4.srt⟩ (.inl (by omega))
          refine ⟨L', ?_, k2⟩
          have z0 : (0 : Int).toNat = 0 := rfl
          simp (disch := omega) only [Int.toNat_natCast, tk0, List.length_cons, List.length_nil, grd_pos, grd_T, grd_R, cnd_dt, cnd_df, cnd_true, cnd_false, Option.bind_some, z0, a1, succ_cast]
          exact k1
      · refine ⟨L, ?_, by omega, ⟨fun e he => ?_, fun i' g1 g2 => h4.h0 i' g1 (by omega), fun i' g1 g2 => h4.h1 i' g1 (by omega), h4.srt⟩⟩
        · simp (disch := omega) only [Int.toNat_natCast, tk0, List.length_cons, List.length_nil, grd_pos, grd_T, grd_R, cnd_dt, cnd_df, cnd_true, cnd_false, Option.bind_some]
        · obtain ⟨i', j', g1, g2, g3⟩ := h4.mem e he
          exact ⟨i', j', g1, by omega, g3⟩
  by_cases h0 : p.ground.length = 0
  · obtain ⟨L, k1, k2⟩ := key (kk := fun x => match x with | (l14, c15) => some (⟨c15, l14⟩ : Grf)) N 1 [] (by omega) (by omega) (by omega) (by simp) ⟨fun e he => by simp at he, fun i g1 g2 => by omega, fun i g1 g2 => by omega, List.Pairwise.nil⟩ (.inr h0)
    exact ⟨L, k1, k2⟩
  · obtain ⟨L, k1, k2⟩ := key (kk := fun x => match x with | (l14, c15) => some (⟨c15, l14⟩ : Grf)) N 1 [] (by omega) (by omega) (by omega) (by simp) ⟨fun e he => by simp at he, fun i g1 g2 => by omega, fun i g1 g2 => by omega, List.Pairwise.nil⟩ (.inl (by omega))
    exact ⟨L, k1, k2⟩
theorem allS_s (hN : 4000000 ≤ N) {p : Pin} (hl : p.ground.length ≤ 27) (hb : p.g.bars.length ≤ 24) : ∃ LH L, S_l20Held N p = some ⟨p.g.n, LH⟩ ∧ LH.length ≤ 2 * (p.ground.length - 1) - 1 ∧ HeldS p.ground LH p.ground.length ∧ S_l20All N p = some ⟨p.g.n, L⟩ ∧ L.length = LH.length + p.g.bars.length ∧ (∀ e, e ∈ L ↔ e ∈ LH ∨ e ∈ p.g.bars) ∧ Srt L := by
  obtain ⟨LH, h1, h2, h3⟩ := heldS_s (N := N) hN hl
  have key : ∀ {kk : (List (Int × Int) × Int) → Option Grf} (fuel i : Nat) (L : List (Int × Int)), i ≤ p.g.bars.length → p.g.bars.length < fuel + i → L.length = LH.length + i → (∀ e, e ∈ L ↔ e ∈ LH ∨ e ∈ p.g.bars.take i) → Srt L →
      ∃ L', S_l20All_l1 N p kk fuel (L, (i : Int), p.g.n) = kk (L', p.g.n) ∧ L'.length = LH.length + p.g.bars.length ∧ (∀ e, e ∈ L' ↔ e ∈ LH ∨ e ∈ p.g.bars) ∧ Srt L' := by
    intro kk fuel
    induction fuel with
    | zero => intro i L g1 g2; omega
    | succ fuel ih =>
      intro i L g1 g2 g3 g4 g5
      rw [S_l20All_l1]
      by_cases hi : i < p.g.bars.length
      · obtain ⟨L1, a1, a2, a3, a4⟩ := put_s (N := N) hN (g := ⟨p.g.n, L⟩) (by simp only; omega) (p.g.bars.getD i (0, 0))
        simp only at a1 a2 a3 a4
        obtain ⟨L', k1, k2⟩ := ih (i + 1) L1 (by omega) (by omega) (by omega) (fun e => by
          have hd : p.g.bars.getD i (0, 0) = p.g.bars[i] := by simp [List.getD_eq_getElem?_getD, List.getElem?_eq_getElem hi]
          rw [a3 e, g4 e, List.take_add_one, List.getElem?_eq_getElem hi, List.mem_append, hd]
          simp only [Option.toList_some, List.mem_singleton]
          grind) (a4 g5)
        refine ⟨L', ?_, k2⟩
        simp (disch := omega) only [Int.toNat_natCast, tk0, List.length_cons, List.length_nil, grd_pos, grd_T, grd_R, cnd_dt, cnd_df, cnd_true, cnd_false, Option.bind_some, a1, succ_cast]
        exact k1
      · have e : i = p.g.bars.length := by omega
        subst e
        refine ⟨L, ?_, by omega, by simpa using g4, g5⟩
        simp (disch := omega) only [Int.toNat_natCast, tk0, List.length_cons, List.length_nil, grd_pos, grd_T, grd_R, cnd_dt, cnd_df, cnd_true, cnd_false, Option.bind_some]
  obtain ⟨L, k1, k2, k3⟩ := key (kk := fun x => match x with | (l8, c9) => some (⟨c9, l8⟩ : Grf)) N 0 LH (by omega) (by omega) (by omega) (by simp) h3.srt
  refine ⟨LH, L, h1, h2, h3, ?_, k2, k3⟩
  unfold S_l20All
  rw [h1, Option.bind_some]
  exact k1
end Go.Proofs.Ytkpmijmlbpdknaa

namespace Go.Proofs.Ytkpmijmlbpdknaa
open Go.RowKit
set_option linter.unusedVariables false
set_option linter.unusedSimpArgs false
end Go.Proofs.Ytkpmijmlbpdknaa

namespace Go.Proofs.Ytkpmijmlbpdknaa
set_option linter.unusedVariables false
set_option linter.unusedSimpArgs false
variable {n : Nat} {N : Nat}
/-- the held bars of the program: all pairs of the ground -/
def HeldI (G : List Int) (L : List (Int × Int)) : Prop := ∀ e, e ∈ L ↔ ∃ i j : Nat, i < j ∧ j < G.length ∧ e = (G.getD i 0, G.getD j 0)
theorem heldI_s (hN : 4000000 ≤ N) {p : Pin} {m : Int} (hl : p.ground.length ≤ 27) (ha : asc m p.ground = true) : ∃ L, M_Pinned_held N p = some L ∧ L.length ≤ 800 ∧ HeldI p.ground L := by
  have key2 : ∀ {kk : List (Int × Int) → Option (List (Int × Int))} (i : Nat) (hi : i < p.ground.length) (fuel x : Nat) (L : List (Int × Int)), i + 1 + x ≤ p.ground.length → p.ground.length < fuel + x → L.length ≤ 28 * i + x → (∀ e, e ∈ L ↔ ∃ i' j : Nat, i' < j ∧ j < p.ground.length ∧ (i' < i ∨ i' = i ∧ j < i + 1 + x) ∧ e = (p.ground.getD i' 0, p.ground.getD j 0)) →
      ∃ L', M_Pinned_held_l2 N p (i : Int) kk fuel (L, (x : Int)) = kk L' ∧ L'.length ≤ 28 * (i + 1) ∧ ∀ e, e ∈ L' ↔ ∃ i' j : Nat, i' < j ∧ j < p.ground.length ∧ i' < i + 1 ∧ e = (p.ground.getD i' 0, p.ground.getD j 0) := by
    intro kk i hi fuel
    induction fuel with
    | zero => intro x L h1 h2; omega
    | succ fuel ih =>
      intro x L h1 h2 h3 h4
      rw [M_Pinned_held_l2]
      have e1 : (((i : Int) + 1)).toNat = i + 1 := by omega
      have e2 : ((p.ground.take p.ground.length).drop (i + 1)).length = p.ground.length - (i + 1) := by simp
      by_cases hx : i + 1 + x < p.ground.length
      · have e3 : ((p.ground.take p.ground.length).drop (i + 1)).getD x 0 = p.ground.getD (i + 1 + x) 0 := by simp [List.getD_eq_getElem?_getD]
        have hlt := asc_lt ha (i + 1 + x) i (by omega) hx
        have eb : I_bar N (p.ground.getD i 0) (p.ground.getD (i + 1 + x) 0) = some (p.ground.getD i 0, p.ground.getD (i + 1 + x) 0) := by
          unfold I_bar
          rw [Int.min_eq_left (by omega), Int.max_eq_right (by omega)]
        obtain ⟨L', k1, k2⟩ := ih (x + 1) (L ++ [(p.ground.getD i 0, p.ground.getD (i + 1 + x) 0)]) (by omega) (by omega) (by simp; omega) fun e => by
          rw [List.mem_append, h4 e, List.mem_singleton]
          constructor
          · rintro (⟨i', j, g1, g2, g3, g4⟩ | h)
            · exact ⟨i', j, g1, g2, by omega, g4⟩
            · exact ⟨i, i + 1 + x, by omega, hx, by omega, h⟩
          · rintro ⟨i', j, g1, g2, g3, g4⟩
            by_cases hc : i' < i ∨ i' = i ∧ j < i + 1 + x
            · exact .inl ⟨i', j, g1, g2, hc, g4⟩
            · right
              have h1 : i' = i := by omega
              have h2 : j = i + 1 + x := by omega
              rw [g4, h1, h2]
        refine ⟨L', ?_, k2⟩
        simp (disch := omega) only [Int.toNat_natCast, tk0, List.length_cons, List.length_nil, grd_pos, grd_T, grd_R, cnd_dt, cnd_df, cnd_true, cnd_false, Option.bind_some, e1, e2, e3, eb, succ_cast]
        exact k1
      · refine ⟨L, ?_, by omega, fun e => ?_⟩
        · simp (disch := omega) only [Int.toNat_natCast, tk0, List.length_cons, List.length_nil, grd_pos, grd_T, grd_R, cnd_dt, cnd_df, cnd_true, cnd_false, Option.bind_some, e1, e2]
        · rw [h4 e]
          constructor
          · rintro ⟨i', j, g1, g2, g3, g4⟩
            exact ⟨i', j, g1, g2, by omega, g4⟩
          · rintro ⟨i', j, g1, g2, g3, g4⟩
            exact ⟨i', j, g1, g2, by omega, g4⟩
  have key1 : ∀ {kk : List (Int × Int) → Option (List (Int × Int))} (fuel i : Nat) (L : List (Int × Int)), i ≤ p.ground.length → p.ground.length < fuel + i → L.length ≤ 28 * i → (∀ e, e ∈ L ↔ ∃ i' j : Nat, i' < j ∧ j < p.ground.length ∧ i' < i ∧ e = (p.ground.getD i' 0, p.ground.getD j 0)) →
      ∃ L', M_Pinned_held_l1 N p kk fuel (L, (i : Int)) = kk L' ∧ L'.length ≤ 800 ∧ HeldI p.ground L' := by
    intro kk fuel
    induction fuel with
    | zero => intro i L h1 h2; omega
    | succ fuel ih =>
      intro i L h1 h2 h3 h4
      rw [M_Pinned_held_l1]
      by_cases hi : i < p.ground.length
      · obtain ⟨L1, a1, a2, a3⟩ := key2 (kk := fun l100 => M_Pinned_held_l1 N p kk fuel (l100, ((i : Int) + (1 : Int)))) i hi N 0 L (by omega) (by omega) (by omega) fun e => by
          rw [h4 e]
          constructor
          · rintro ⟨i', j, g1, g2, g3, g4⟩
            exact ⟨i', j, g1, g2, by omega, g4⟩
          · rintro ⟨i', j, g1, g2, g3, g4⟩
            exact ⟨i', j, g1, g2, by omega, g4⟩
        rw [show ((0 : Nat) : Int) = 0 from rfl] at a1
        obtain ⟨L', k1, k2⟩ := ih (i + 1) L1 (by omega) (by omega) (by omega) a3
        refine ⟨L', ?_, k2⟩
        rw [cnd_dt (by omega), grd_pos (by omega), grd_R (by omega) (by omega), grd_pos (by omega)]
        refine a1.trans ?_
        rw [← k1, succ_cast]
      · have e : i = p.ground.length := by omega
        subst e
        refine ⟨L, ?_, by omega, fun e => ?_⟩
        · simp (disch := omega) only [Int.toNat_natCast, tk0, List.length_cons, List.length_nil, grd_pos, grd_T, grd_R, cnd_dt, cnd_df, cnd_true, cnd_false, Option.bind_some]
        · rw [h4 e]
          constructor
          · rintro ⟨i', j, g1, g2, g3, g4⟩
            exact ⟨i', j, g1, g2, g4⟩
          · rintro ⟨i', j, g1, g2, g4⟩
            exact ⟨i', j, g1, g2, by omega, g4⟩
  obtain ⟨L, k1, k2⟩ := key1 (kk := fun x => some x) N 0 [] (by omega) (by omega) (by simp) (fun e => by
    constructor
    · intro h; simp at h
    · rintro ⟨i', j, g1, g2, g3, g4⟩; omega)
  rw [show ((0 : Nat) : Int) = 0 from rfl] at k1
  exact ⟨L, k1, k2⟩

theorem spr_len {I : List (Int × Int)} (h : Spr n I) : I.length ≤ 2 * n := by
  have h1 : spn (fun _ => true) I = I.length := by simp [spn, inX]
  have h2 : vsz n (fun _ => true) = n := by simp [vsz]
  by_cases h0 : 0 < spn (fun _ => true) I
  · have := h _ h0
    rw [h1, h2] at this
    omega
  · omega
/-- bases of the two lists are as long -/
theorem two_ranks {G : List Int} {LH LS LI bars I J : List (Int × Int)} (hG : ∀ i, i < G.length → 0 ≤ G.getD i 0 ∧ G.getD i 0 < n) (hlt : ∀ j i : Nat, i < j → j < G.length → G.getD i 0 < G.getD j 0) (hS : HeldS G LH G.length) (hI : HeldI G LI)
    (hb : ∀ e ∈ bars, Bok n e) (hLS : ∀ e, e ∈ LS ↔ e ∈ LH ∨ e ∈ bars) (h1 : Bas n LS I) (h2 : Bas n (LI ++ bars) J) : I.length = J.length := by
  have pok : ∀ i j : Nat, i < j → j < G.length → Bok n (G.getD i 0, G.getD j 0) := fun i j g1 g2 => by
    have a := hG i (by omega)
    have b := hG j g2
    have c := hlt j i g1 g2
    exact ⟨a.1, a.2, b.1, b.2, by simp only; omega⟩
  have okI : ∀ e ∈ I, Bok n e := fun e he => by
    rcases (hLS e).1 (h1.mem e he) with h | h
    · obtain ⟨i, j, g1, g2, rfl⟩ := hS.mem e h; exact pok i j g1 g2
    · exact hb e h
  have okJ : ∀ e ∈ J, Bok n e := fun e he => by
    rcases List.mem_append.1 (h2.mem e he) with h | h
    · obtain ⟨i, j, g1, g2, rfl⟩ := (hI e).1 h; exact pok i j g1 g2
    · exact hb e h
  have le1 : I.length ≤ J.length := spr_le h2.spr h1.spr okJ fun e he => h2.spn e (List.mem_append.2 (by
    rcases (hLS e).1 (h1.mem e he) with h | h
    · exact .inl ((hI e).2 (hS.mem e h))
    · exact .inr h))
  have le2 : J.length ≤ I.length := by
    refine spr_le h1.spr h2.spr okI fun e he => ?_
    rcases List.mem_append.1 (h2.mem e he) with h | h
    · obtain ⟨i, j, g1, g2, rfl⟩ := (hI e).1 h
      have s0 : ∀ k, 1 ≤ k → k < G.length → ∃ X, Tgt n I X ∧ inX X (G.getD 0 0, G.getD k 0) = true := fun k a b => h1.spn _ ((hLS _).2 (.inl (hS.h0 k a b)))
      have s1 : ∀ k, 2 ≤ k → k < G.length → ∃ X, Tgt n I X ∧ inX X (G.getD 1 0, G.getD k 0) = true := fun k a b => h1.spn _ ((hLS _).2 (.inl (hS.h1 k a b)))
      have t : ∀ k, 2 ≤ k → k < G.length → ∃ W, Tgt n I W ∧ W (G.getD 0 0) = true ∧ W (G.getD 1 0) = true ∧ W (G.getD k 0) = true := by
        intro k a b
        obtain ⟨A, a1, a2⟩ := s0 1 (by omega) (by omega)
        obtain ⟨B, b1, b2⟩ := s0 k (by omega) b
        obtain ⟨C, c1, c2⟩ := s1 k a b
        simp only [inX, Bool.and_eq_true] at a2 b2 c2
        have l1 := hlt 1 0 (by omega) (by omega)
        have l2 := hlt k 0 (by omega) b
        have l3 := hlt k 1 (by omega) b
        exact tri h1.spr okI a1 b1 c1 (hG 0 (by omega)) (hG 1 (by omega)) (hG k b) (by omega) (by omega) (by omega) a2.1 a2.2 b2.1 b2.2 c2.1 c2.2
      by_cases e0 : i = 0
      · subst e0; exact s0 j (by omega) g2
      by_cases e1 : i = 1
      · subst e1; exact s1 j (by omega) g2
      obtain ⟨V, v1, v2, v3, v4⟩ := t i (by omega) (by omega)
      obtain ⟨W, w1, w2, w3, w4⟩ := t j (by omega) g2
      have l1 := hlt 1 0 (by omega) (by omega)
      refine ⟨vU V W, v1.union h1.spr w1 (countP_two (hG 0 (by omega)) (hG 1 (by omega)) (by omega) (by simp only [vI, v2, w2, Bool.and_self]) (by simp only [vI, v3, w3, Bool.and_self])), ?_⟩
      simp only [inX, vU, v4, w4, Bool.true_or, Bool.or_true, Bool.and_self]
    · exact h1.spn e ((hLS e).2 (.inr h))
  omega
theorem pin_ranks (hN : 4000000 ≤ N) {p : Pin} (hp : isPinned p = true) : ∃ (r s : Nat) (hS : Grf) (aS : Grf) (hI : List (Int × Int)), S_l20All N p = some aS ∧ S_l20Held N p = some hS ∧ S_l6Rank N aS = some (r : Int) ∧ S_l6Rank N hS = some (s : Int) ∧
    M_Pinned_held N p = some hI ∧ hI.length ≤ 800 ∧ I_planeRank N p.g.n (hI ++ p.g.bars) = some (r : Int) ∧ I_planeRank N p.g.n hI = some (s : Int) ∧ r ≤ 1000 ∧ s ≤ 1000 := by
  obtain ⟨p1, p2, p3, p4, p5, p6, p7⟩ := isPinned_parts hp
  obtain ⟨hn1, hn2, hbl⟩ := isPinned_n p1
  obtain ⟨n, hn⟩ := Int.eq_ofNat_of_zero_le (show 0 ≤ p.g.n by omega)
  obtain ⟨LH, LS, a1, a2, a3, a4, a5, a6, _⟩ := allS_s (N := N) hN (p := p) (by omega) (by omega)
  obtain ⟨LI, b1, b2, b3⟩ := heldI_s (N := N) hN (p := p) (by omega) p6
  have hG : ∀ i, i < p.ground.length → 0 ≤ p.ground.getD i 0 ∧ p.ground.getD i 0 < n := fun i hi => by
    have := asc_in p6 (getD_mem (d := 0) hi)
    omega
  have hlt := asc_lt p6
  have hb : ∀ e ∈ p.g.bars, Bok n e := fun e he => by
    have := isGraph_bar p1 he
    exact ⟨by omega, by omega, by omega, by omega, by omega⟩
  have pok : ∀ i j : Nat, i < j → j < p.ground.length → Bok n (p.ground.getD i 0, p.ground.getD j 0) := fun i j g1 g2 => by
    have a := hG i (by omega)
    have b := hG j g2
    have c := hlt j i g1 g2
    exact ⟨a.1, a.2, b.1, b.2, by simp only; omega⟩
  have okLH : ∀ e ∈ LH, Bok n e := fun e he => by
    obtain ⟨i, j, g1, g2, rfl⟩ := a3.mem e he; exact pok i j g1 g2
  have okLI : ∀ e ∈ LI, Bok n e := fun e he => by
    obtain ⟨i, j, g1, g2, rfl⟩ := (b3 e).1 he; exact pok i j g1 g2
  obtain ⟨I1, c1, c2⟩ := rank_s (N := N) hN (g := ⟨p.g.n, LS⟩) (n := n) hn (by omega) (fun e he => by
    rcases (a6 e).1 he with h | h
    · exact okLH e h
    · exact hb e h) (by simp only; omega)
  obtain ⟨I2, d1, d2⟩ := rank_s (N := N) hN (g := ⟨p.g.n, LH⟩) (n := n) hn (by omega) okLH (by simp only; omega)
  obtain ⟨J1, e1, e2⟩ := planeRank_s (N := N) hN (n := n) (by omega) (bars := LI ++ p.g.bars) (fun e he => by
    rcases List.mem_append.1 he with h | h
    · exact okLI e h
    · exact hb e h) (by simp; omega)
  obtain ⟨J2, f1, f2⟩ := planeRank_s (N := N) hN (n := n) (by omega) (bars := LI) okLI (by omega)
  have q1 := two_ranks hG hlt a3 b3 hb a6 c1 e1
  have q2 := two_ranks (bars := []) hG hlt a3 b3 (by simp) (by simp) d1 (by simpa using f1)
  refine ⟨I1.length, I2.length, _, _, LI, a4, a1, c2, d2, b1, b2, ?_, ?_, ?_, ?_⟩
  · rw [hn, e2, q1]
  · rw [hn, f2, q2]
  · have := spr_len c1.spr
    omega
  · have := spr_len d1.spr
    omega
/-- the rank, the same from both sides -/
theorem pinnedRank_x (hN : 4000000 ≤ N) {p : Pin} (hb : p.g.bars.length ≤ 3000000) (hg : p.ground.length ≤ 3000000) : ∃ r : Int, S_PinnedRank N p = some r ∧ I_PinnedRank N p = some r ∧ -1001 ≤ r ∧ r ≤ 1001 := by
  cases hp : isPinned p with
  | false =>
    refine ⟨-1, ?_, ?_, by omega, by omega⟩
    · unfold S_PinnedRank
      simp (disch := omega) only [Int.toNat_natCast, tk0, List.length_cons, List.length_nil, grd_pos, grd_T, grd_R, cnd_dt, cnd_df, cnd_true, cnd_false, Option.bind_some, isPinnedS_s N hN hb hg, hp, Bool.not_false]
    · unfold I_PinnedRank
      simp (disch := omega) only [Int.toNat_natCast, tk0, List.length_cons, List.length_nil, grd_pos, grd_T, grd_R, cnd_dt, cnd_df, cnd_true, cnd_false, Option.bind_some, isPinnedI_s N hN hb hg, hp, Bool.not_false]
  | true =>
    obtain ⟨r, s, hS, aS, hI, h1, h2, h3, h4, h5, h6, h7, h8, h9, h10⟩ := pin_ranks hN hp
    obtain ⟨b1, b2, b3, b4⟩ := isPinned_bd hp
    refine ⟨(r : Int) - s, ?_, ?_, by omega, by omega⟩
    · unfold S_PinnedRank
      simp (disch := omega) only [Int.toNat_natCast, tk0, List.length_cons, List.length_nil, grd_pos, grd_T, grd_R, cnd_dt, cnd_df, cnd_true, cnd_false, Option.bind_some, isPinnedS_s N hN hb hg, hp, Bool.not_true, h1, h2, h3, h4]
    · unfold I_PinnedRank
      simp (disch := omega) only [Int.toNat_natCast, tk0, List.length_cons, List.length_nil, grd_pos, grd_T, grd_R, cnd_dt, cnd_df, cnd_true, cnd_false, Option.bind_some, isPinnedI_s N hN hb hg, hp, Bool.not_true, h5, h7, h8]
theorem pinnedFreedom_x (hN : 4000000 ≤ N) {p : Pin} (hb : p.g.bars.length ≤ 3000000) (hg : p.ground.length ≤ 3000000) : ∃ r : Int, S_PinnedFreedom N p = some r ∧ I_PinnedFreedom N p = some r := by
  obtain ⟨r, h1, h2, h3, h4⟩ := pinnedRank_x (N := N) hN hb hg
  cases hp : isPinned p with
  | false =>
    refine ⟨-1, ?_, ?_⟩
    · unfold S_PinnedFreedom
      simp (disch := omega) only [Int.toNat_natCast, tk0, List.length_cons, List.length_nil, grd_pos, grd_T, grd_R, cnd_dt, cnd_df, cnd_true, cnd_false, Option.bind_some, isPinnedS_s N hN hb hg, hp, Bool.not_false]
    · unfold I_PinnedFreedom
      simp (disch := omega) only [Int.toNat_natCast, tk0, List.length_cons, List.length_nil, grd_pos, grd_T, grd_R, cnd_dt, cnd_df, cnd_true, cnd_false, Option.bind_some, isPinnedI_s N hN hb hg, hp, Bool.not_false]
  | true =>
    obtain ⟨b1, b2, b3, b4⟩ := isPinned_bd hp
    have hl : (innerPts p).length ≤ 8 := by
      unfold innerPts
      rw [hp, cnd_true, inner_outside]
      have := outside_len p.ground p.g.n.toNat
      omega
    refine ⟨2 * ((innerPts p).length : Int) - r, ?_, ?_⟩
    · unfold S_PinnedFreedom
      simp (disch := omega) only [Int.toNat_natCast, tk0, List.length_cons, List.length_nil, grd_pos, grd_T, grd_R, cnd_dt, cnd_df, cnd_true, cnd_false, Option.bind_some, isPinnedS_s N hN hb hg, hp, Bool.not_true, innerS_s N hN hb hg, h1]
    · unfold I_PinnedFreedom
      simp (disch := omega) only [Int.toNat_natCast, tk0, List.length_cons, List.length_nil, grd_pos, grd_T, grd_R, cnd_dt, cnd_df, cnd_true, cnd_false, Option.bind_some, isPinnedI_s N hN hb hg, hp, Bool.not_true, innerI_s N hN hb hg, h2]
end Go.Proofs.Ytkpmijmlbpdknaa

namespace Go.Proofs.Ytkpmijmlbpdknaa
open Go.RowKit
set_option linter.unusedVariables false
set_option linter.unusedSimpArgs false
def S_IsPinnedRigid (N : Nat) (p_0 : Pin) : Option (Bool) :=
  (S_PinnedFreedom N p_0).bind fun v1 =>
  some (v1 == (0 : Int))
set_option maxRecDepth 20000 in
set_option maxHeartbeats 1600000 in
theorem S_IsPinnedRigid_w (N : Nat) (p_0 : Pin) (r : Bool) (h : S_IsPinnedRigid N p_0 = some r) : PCall Try.prog 58 [pD p_0] [] (.bool r) := by
  unfold S_IsPinnedRigid at h
  refine pcall_intro (TT := TT) tt Try.func58 rfl rfl Try.ntmps58 (congrArg Array.toList Try.results58) rfl rfl fun w0 => ?_
  refine vSeq ?_
  refine vRegion ?_
  refine oBox rfl rfl rfl rfl rfl rfl rfl rfl rfl ?_
  refine oVal tt rfl rfl rfl rfl rfl trivial ?_
  refine vNil ?_
  change VC _ _ _ _
  refine vSeq ?_
  refine vRegion ?_
  refine oVal tt rfl rfl rfl rfl rfl trivial ?_
  obtain ⟨v1, hc1, h⟩ := bind_inv h
  refine oCall (S_PinnedFreedom_w N p_0 v1 hc1) rfl rfl rfl rfl rfl rfl rfl rfl ⟨⟨rfl, rfl, rfl, trivial⟩, trivial⟩ ?_
  iterate 2 refine oVal tt rfl rfl rfl rfl rfl trivial ?_
  refine vNil ?_
  change VC _ _ _ _
  refine vRet ?_
  change ∃ _, _
  cases h
  exact ⟨[], _, rfl, trivial, rfl, (.eq rfl), rfl⟩
def S_IsIsostatic (N : Nat) (p_0 : Pin) : Option (Bool) :=
  (S_IsPinnedRigid N p_0).bind fun v1 =>
  cnd v1 (
    (S_PinnedRank N p_0).bind fun v2 =>
    some ((p_0.g.bars.length : Int) == v2)) (
    some false)
set_option maxRecDepth 20000 in
set_option maxHeartbeats 1600000 in
theorem S_IsIsostatic_w (N : Nat) (p_0 : Pin) (r : Bool) (h : S_IsIsostatic N p_0 = some r) : PCall Try.prog 20 [pD p_0] [] (.bool r) := by
  unfold S_IsIsostatic at h
  refine pcall_intro (TT := TT) tt Try.func20 rfl rfl Try.ntmps20 (congrArg Array.toList Try.results20) rfl rfl fun w0 => ?_
  refine vSeq ?_
  refine vRegion ?_
  refine oBox rfl rfl rfl rfl rfl rfl rfl rfl rfl ?_
  refine oVal tt rfl rfl rfl rfl rfl trivial ?_
  refine vNil ?_
  change VC _ _ _ _
  refine vSeq ?_
  refine vRegionD (by kernel_rfl) (by kernel_rfl) ?_
  refine cVal tt rfl (wNone rfl) rfl rfl rfl trivial ?_
  obtain ⟨v1, hc1, h⟩ := bind_inv h
  refine cCall (S_IsPinnedRigid_w N p_0 v1 hc1) rfl (wNone rfl) rfl rfl rfl rfl rfl rfl ⟨⟨rfl, rfl, rfl, trivial⟩, trivial⟩ ?_
  refine cVal tt rfl (wNone rfl) rfl rfl rfl trivial ?_
  refine cSplit rfl rfl rfl (fun hb2 => ?_) (fun hb2 => ?_)
  · replace h := cnd_t hb2 h
    iterate 5 refine cVal tt rfl (wSome rfl rfl rfl rfl hb2) rfl rfl rfl trivial ?_
    obtain ⟨v2, hc3, h⟩ := bind_inv h
    refine cCall (S_PinnedRank_w N p_0 v2 hc3) rfl (wSome rfl rfl rfl rfl hb2) rfl rfl rfl rfl rfl rfl ⟨⟨rfl, rfl, rfl, trivial⟩, trivial⟩ ?_
    refine cVal tt rfl (wSome rfl rfl rfl rfl hb2) rfl rfl rfl trivial ?_
    refine cPickT rfl (wNone rfl) rfl rfl rfl hb2 rfl ?_
    refine cVal tt rfl (wNone rfl) rfl rfl rfl trivial ?_
    refine cNil ?_
    change VC _ _ _ _
    refine vRet ?_
    change ∃ _, _
    cases h
    exact ⟨[], _, rfl, trivial, rfl, (.eq rfl), rfl⟩
  · replace h := cnd_f hb2 h
    iterate 7 refine cNoT rfl rfl rfl rfl hb2 rfl rfl ?_
    refine cPickF rfl (wNone rfl) rfl rfl rfl hb2 rfl ?_
    refine cVal tt rfl (wNone rfl) rfl rfl rfl trivial ?_
    refine cNil ?_
    change VC _ _ _ _
    refine vRet ?_
    change ∃ _, _
    cases h
    exact ⟨[], _, rfl, trivial, rfl, (.eq rfl), rfl⟩
def I_IsPinnedRigid (N : Nat) (p_0 : Pin) : Option (Bool) :=
  (I_PinnedFreedom N p_0).bind fun v1 =>
  some (v1 == (0 : Int))
set_option maxRecDepth 20000 in
set_option maxHeartbeats 1600000 in
theorem I_IsPinnedRigid_w (N : Nat) (p_0 : Pin) (r : Bool) (h : I_IsPinnedRigid N p_0 = some r) : PCall Try.prog 60 [pD p_0] [] (.bool r) := by
  unfold I_IsPinnedRigid at h
  refine pcall_intro (TT := TT) tt Try.func60 rfl rfl Try.ntmps60 (congrArg Array.toList Try.results60) rfl rfl fun w0 => ?_
  refine vSeq ?_
  refine vRegion ?_
  refine oBox rfl rfl rfl rfl rfl rfl rfl rfl rfl ?_
  refine oVal tt rfl rfl rfl rfl rfl trivial ?_
  refine vNil ?_
  change VC _ _ _ _
  refine vSeq ?_
  refine vRegion ?_
  refine oVal tt rfl rfl rfl rfl rfl trivial ?_
  obtain ⟨v1, hc1, h⟩ := bind_inv h
  refine oCall (I_PinnedFreedom_w N p_0 v1 hc1) rfl rfl rfl rfl rfl rfl rfl rfl ⟨⟨rfl, rfl, rfl, trivial⟩, trivial⟩ ?_
  iterate 2 refine oVal tt rfl rfl rfl rfl rfl trivial ?_
  refine vNil ?_
  change VC _ _ _ _
  refine vRet ?_
  change ∃ _, _
  cases h
  exact ⟨[], _, rfl, trivial, rfl, (.eq rfl), rfl⟩
def I_IsIsostatic (N : Nat) (p_0 : Pin) : Option (Bool) :=
  (I_IsPinnedRigid N p_0).bind fun v1 =>
  cnd v1 (
    (I_PinnedRank N p_0).bind fun v2 =>
    some (v2 == (p_0.g.bars.length : Int))) (
    some false)
set_option maxRecDepth 20000 in
set_option maxHeartbeats 1600000 in
theorem I_IsIsostatic_w (N : Nat) (p_0 : Pin) (r : Bool) (h : I_IsIsostatic N p_0 = some r) : PCall Try.prog 21 [pD p_0] [] (.bool r) := by
  unfold I_IsIsostatic at h
  refine pcall_intro (TT := TT) tt Try.func21 rfl rfl Try.ntmps21 (congrArg Array.toList Try.results21) rfl rfl fun w0 => ?_
  refine vSeq ?_
  refine vRegion ?_
  refine oBox rfl rfl rfl rfl rfl rfl rfl rfl rfl ?_
  refine oVal tt rfl rfl rfl rfl rfl trivial ?_
  refine vNil ?_
  change VC _ _ _ _
  refine vSeq ?_
  refine vRegionD (by kernel_rfl) (by kernel_rfl) ?_
  refine cVal tt rfl (wNone rfl) rfl rfl rfl trivial ?_
  obtain ⟨v1, hc1, h⟩ := bind_inv h
  refine cCall (I_IsPinnedRigid_w N p_0 v1 hc1) rfl (wNone rfl) rfl rfl rfl rfl rfl rfl ⟨⟨rfl, rfl, rfl, trivial⟩, trivial⟩ ?_
  refine cVal tt rfl (wNone rfl) rfl rfl rfl trivial ?_
  refine cSplit rfl rfl rfl (fun hb2 => ?_) (fun hb2 => ?_)
  · replace h := cnd_t hb2 h
    refine cVal tt rfl (wSome rfl rfl rfl rfl hb2) rfl rfl rfl trivial ?_
    obtain ⟨v2, hc3, h⟩ := bind_inv h
    refine cCall (I_PinnedRank_w N p_0 v2 hc3) rfl (wSome rfl rfl rfl rfl hb2) rfl rfl rfl rfl rfl rfl ⟨⟨rfl, rfl, rfl, trivial⟩, trivial⟩ ?_
    iterate 5 refine cVal tt rfl (wSome rfl rfl rfl rfl hb2) rfl rfl rfl trivial ?_
    refine cPickT rfl (wNone rfl) rfl rfl rfl hb2 rfl ?_
    refine cVal tt rfl (wNone rfl) rfl rfl rfl trivial ?_
    refine cNil ?_
    change VC _ _ _ _
    refine vRet ?_
    change ∃ _, _
    cases h
    exact ⟨[], _, rfl, trivial, rfl, (.eq rfl), rfl⟩
  · replace h := cnd_f hb2 h
    iterate 7 refine cNoT rfl rfl rfl rfl hb2 rfl rfl ?_
    refine cPickF rfl (wNone rfl) rfl rfl rfl hb2 rfl ?_
    refine cVal tt rfl (wNone rfl) rfl rfl rfl trivial ?_
    refine cNil ?_
    change VC _ _ _ _
    refine vRet ?_
    change ∃ _, _
    cases h
    exact ⟨[], _, rfl, trivial, rfl, (.eq rfl), rfl⟩
end Go.Proofs.Ytkpmijmlbpdknaa

namespace Go.Proofs.Ytkpmijmlbpdknaa
set_option linter.unusedVariables false
set_option linter.unusedSimpArgs false
variable {N : Nat}
theorem pinnedRigid_x (hN : 4000000 ≤ N) {p : Pin} (hb : p.g.bars.length ≤ 3000000) (hg : p.ground.length ≤ 3000000) : ∃ b : Bool, S_IsPinnedRigid N p = some b ∧ I_IsPinnedRigid N p = some b := by
  obtain ⟨r, h1, h2⟩ := pinnedFreedom_x (N := N) hN hb hg
  exact ⟨r == 0, by unfold S_IsPinnedRigid; rw [h1]; rfl, by unfold I_IsPinnedRigid; rw [h2]; rfl⟩
theorem isostatic_x (hN : 4000000 ≤ N) {p : Pin} (hb : p.g.bars.length ≤ 3000000) (hg : p.ground.length ≤ 3000000) : ∃ b : Bool, S_IsIsostatic N p = some b ∧ I_IsIsostatic N p = some b := by
  obtain ⟨b, h1, h2⟩ := pinnedRigid_x (N := N) hN hb hg
  obtain ⟨r, g1, g2, _⟩ := pinnedRank_x (N := N) hN hb hg
  cases b with
  | false => exact ⟨false, by unfold S_IsIsostatic; rw [h1]; rfl, by unfold I_IsIsostatic; rw [h2]; rfl⟩
  | true =>
    refine ⟨r == (p.g.bars.length : Int), ?_, ?_⟩
    · unfold S_IsIsostatic
      rw [h1, Option.bind_some, cnd_true, g1, Option.bind_some]
      congr 1
      by_cases e : r = (p.g.bars.length : Int)
      · rw [e]
      · have e' : ¬ (p.g.bars.length : Int) = r := fun h => e h.symm
        rw [beq_false_of_ne e, beq_false_of_ne e']
    · unfold I_IsIsostatic
      rw [h2, Option.bind_some, cnd_true, g2, Option.bind_some]
end Go.Proofs.Ytkpmijmlbpdknaa

namespace Go.Proofs.Ytkpmijmlbpdknaa
open Go.RowKit Go.Deep
set_option linter.unusedSimpArgs false
set_option linter.unusedVariables false
section
variable {C : Cx} {ops : Array Oper} {K : PS → Prop} {l : List Oper} {s s' : PS} {TT : List (Nat × Ty)} {tm : List (Nat × D)} {rw' : List (Nat × Option (TypeId × Sq))} {bx : List (Nat × Option (List D))}
theorem vEnO (hl : En C s s') (h : VO C ops K l s') : VO C ops K l s := ⟨fun M a w Q hr hk => by
  obtain ⟨M', h'⟩ := hl.out M a w hr
  exact h.out M' a w Q h' hk⟩
/-- another text for the length of a row that a slot names -/
theorem oRowT (t r : Nat) {n n' : Nat} (hn : n = n') (ht : (PS.t ⟨tm, rw', bx⟩ t) = .row r 0 n) (h : VO C ops K l ⟨(t, .row r 0 n') :: tm, rw', bx⟩) : VO C ops K l ⟨tm, rw', bx⟩ := by
  subst hn
  refine vEnO (s' := ⟨(t, .row r 0 n) :: tm, rw', bx⟩) ⟨fun M a w hr => ⟨M, hr.sameT (fun x => ?_) rfl rfl⟩⟩ h
  by_cases hx : t = x
  · subst hx
    rw [ht]; simp [PS.t, look_cons_self]
  · simp [PS.t, look_cons_ne hx]
/-- another text for the length of a row that a box holds -/
theorem oRowB (b i r : Nat) {n n' : Nat} {cs cs' : List D} (hb : (PS.b ⟨tm, rw', bx⟩ b) = some cs) (hi : cs[i]? = some (.row r 0 n)) (hn : n = n') (hcs : fcL (cs.set i (.row r 0 n')) some = some cs')
    (h : VO C ops K l ⟨tm, rw', (b, some cs') :: bx⟩) : VO C ops K l ⟨tm, rw', bx⟩ := by
  subst hn
  rw [fcL_eq] at hcs
  cases hcs
  have e : cs.set i (.row r 0 n) = cs := by
    apply List.ext_getElem?
    intro j
    rw [List.getElem?_set]
    by_cases hj : i = j
    · subst hj
      have hlt := (List.getElem?_eq_some_iff.1 hi).1
      rw [if_pos rfl, if_pos hlt, hi]
    · rw [if_neg hj]
  rw [e] at h
  refine vEnO ⟨fun M a w hr => ⟨M, ?_⟩⟩ h
  have hbb : ∀ x, (PS.b ⟨tm, rw', (b, some cs) :: bx⟩ x) = (PS.b ⟨tm, rw', bx⟩ x) := fun x => by
    by_cases hx : b = x
    · subst hx
      rw [hb]; simp [PS.b, look_cons_self]
    · simp [PS.b, look_cons_ne hx]
  exact ⟨hr.fr, hr.dfr, hr.sz, hr.tmp, fun x cs hx => hr.box x cs (by rwa [hbb] at hx), fun x hx => hr.boxn x (by rwa [hbb] at hx), hr.row, hr.rown, hr.low, hr.inj1, hr.inj2, hr.inj3, hr.nle, hr.fxb, hr.fxr⟩
end
section
theorem Rel.freeze0 {w0 : World} {O0 : Hd} {n : Nat} {M : Mp} {s : PS} {a : Act} {w : World} (h : Rel w0 O0 n M s a w) {r : Nat} {e : TypeId} {q : Sq} (hr : s.r r = some (e, q)) :
    ∃ M', Rel w0 O0 n M' ((s.kill r).setR r none) a w ∧ (∀ v, VR M (Ow (Fs w0 O0) M) w (.row r 0 q.len) v → VR M' (Ow (Fs w0 O0) M') w (.ro true q) v) ∧ ∀ d v, VR M (Ow (Fs w0 O0) M) w d v → VR M' (Ow (Fs w0 O0) M') w (klS r d) v := by
  let M' : Mp := ⟨M.β, fun y => if y = r then none else M.γ y⟩
  have hown : ∀ k, M'.owned k → M.owned k := by
    rintro k (⟨b, hb⟩ | ⟨y, c, z, hy⟩)
    · exact .inl ⟨b, hb⟩
    · simp only [M'] at hy
      split at hy
      · cases hy
      · exact .inr ⟨y, c, z, hy⟩
  have hA : ∀ f b, b < w.heap.size → Ow (Fs w0 O0) M f b → Ow (Fs w0 O0) M' f b ∧ b < w.heap.size ∧ w.heap[b]? = w.heap[b]? := fun f b h1 h2 => ⟨⟨fun h3 => h2.1 (hown b h3), h2.2⟩, h1, rfl⟩
  have hγ : ∀ y z, y ≠ r → M'.γ y = some z → M.γ y = some z := fun y z h1 h2 => by simpa [M', h1] using h2
  have hβ : ∀ b k, M'.β b = some k → M.β b = some k := fun _ _ h => h
  have hv : ∀ v, VR M (Ow (Fs w0 O0) M) w (.row r 0 q.len) v → VR M' (Ow (Fs w0 O0) M') w (.ro true q) v := by
    intro v h0
    cases h0 with
    | row _ _ _ _ g1 g2 =>
      rcases h.row r e q hr with ⟨hg, h0⟩ | ⟨g, cap, cur, hg, hh, hl, hmx, hcs, hc⟩
      · have := g2 _ hg
        simp only [RowV] at this
        obtain ⟨⟨ao0, rfl⟩, _, _⟩ := this
        have := VR.ro (M := M') (A := Ow (Fs w0 O0) M') (w := w) true q ao0 0 0 0 (fun _ _ => undef) (by omega) (by omega) (by omega) (by intro i j d hi; omega) (by intro i j d hi; omega)
        rwa [h0] at this
      · have := g2 _ hg
        simp only [RowV] at this
        obtain ⟨h1, ao, h2, h3⟩ := this
        have h4 := h3 (.inr trivial)
        rw [Nat.zero_mul] at h4
        subst h2
        refine .ro true q ao _ g 0 (fun i j => cur.getD (i * q.sz + j) undef) (by omega) (by omega) (fun _ => ⟨h4, (Array.getElem?_eq_some_iff.1 hh).1, ?_, ?_⟩) (fun i j d hi hd => ?_) (fun i j d hi hd => (hc i j d hi hd).elem_any hd hA)
        · rintro (⟨b, hb⟩ | ⟨y, c, z, hy⟩)
          · exact h.inj3 _ _ _ _ _ hb hg
          · simp only [M'] at hy
            split at hy
            · cases hy
            · rename_i hyr; exact hyr (h.inj2 _ _ _ _ _ _ _ hy hg)
        · exact (h.low _ (.inr ⟨r, _, _, hg⟩)).imp_right (O0.sub _ _)
        · have hj : j < q.sz := by rw [← Sq.elem_len true q i]; exact (List.getElem?_eq_some_iff.1 hd).1
          have hlt : i * q.sz + j < cur.size := by
            rw [hcs]
            have h4 : (i + 1) * q.sz ≤ cap * q.sz := Nat.mul_le_mul_right _ (by omega)
            rw [Nat.add_mul, Nat.one_mul] at h4; omega
          rw [Nat.zero_add, cell_of_row w g _ cur e (0, 0) hh]
          simp [hlt]
  refine ⟨M', ⟨h.fr, h.dfr, h.sz, fun x => ?_, fun b cs hb => ?_, fun b hb => ?_, fun y e' p hy => ?_, fun y hy => ?_, fun k hk => h.low k (hown k hk), h.inj1, fun y y' k c z c' z' h1 h2 => ?_, fun b y k c z h1 h2 => ?_, h.nle, h.fxb, fun y u u' h1 h2 => ?_⟩, hv, fun d v hd => VR.klS hA hγ hβ hd⟩
  · have : ((s.kill r).setR r none).t x = kl r (s.t x) := PS.t_kill s r x
    rw [this]; exact VR.kl hA hγ hβ (h.tmp x)
  · have hb' : (s.kill r).b b = some cs := hb
    rw [PS.b_kill] at hb'
    obtain ⟨cs0, h0, rfl⟩ := Option.map_eq_some_iff.1 hb'
    obtain ⟨k, cur, e2, a1, a2, a3, a4⟩ := h.box b cs0 h0
    refine ⟨k, cur, e2, a1, a2, by simpa using a3, fun j d hd => ?_⟩
    rw [List.getElem?_map] at hd
    obtain ⟨d0, h1, rfl⟩ := Option.map_eq_some_iff.1 hd
    exact VR.klS hA hγ hβ (a4 j d0 h1)
  · have hb' : (s.kill r).b b = none := hb
    rw [PS.b_kill] at hb'
    exact h.boxn b (by simpa using hb')
  · have hy : ((s.kill r).setR r none).r y = some (e', p) := hy
    rw [PS.r_setR] at hy
    by_cases hyr : r = y
    · rw [if_pos hyr] at hy; cases hy
    · rw [if_neg hyr] at hy
      rcases h.row y e' p hy with ⟨h1, h2⟩ | ⟨g, cap, cur, h1, h2, h3, h4, h5, h6⟩
      · exact .inl ⟨by simp [M', Ne.symm hyr, h1], h2⟩
      · exact .inr ⟨g, cap, cur, by simp [M', Ne.symm hyr, h1], h2, h3, h4, h5, fun i j d hi' hd => (h6 i j d hi' hd).elem_any hd hA⟩
  · have hy : ((s.kill r).setR r none).r y = none := hy
    rw [PS.r_setR] at hy
    by_cases hyr : r = y
    · simp [M', hyr]
    · rw [if_neg hyr] at hy
      simpa [M', Ne.symm hyr] using h.rown y hy
  · simp only [M'] at h1 h2
    split at h1 <;> split at h2 <;> first | (cases h1; done) | (cases h2; done) | exact h.inj2 _ _ _ _ _ _ _ h1 h2
  · simp only [M'] at h2
    split at h2
    · cases h2
    · exact h.inj3 _ _ _ _ _ h1 h2
  · simp only [M'] at h2
    split at h2
    · cases h2
    · exact h.fxr y u u' h1 h2
end
section
variable {C : Cx} {ops : Array Oper} {K : PS → Prop} {l : List Oper} {s s' : PS} {TT : List (Nat × Ty)} {tm : List (Nat × D)} {rw' : List (Nat × Option (TypeId × Sq))} {bx : List (Nat × Option (List D))}
/-- a row given away that a struct in a slot names -/
theorem oFreezeA (t i : Nat) {r m : Nat} {e : TypeId} {q : Sq} {ds : List D} (ht : (PS.t ⟨tm, rw', bx⟩ t) = .agg ds) (hi : ds[i]? = some (.row r 0 m)) (hr : (PS.r ⟨tm, rw', bx⟩ r) = some (e, q)) (hnf : nf ⟨(t, .agg ((ds.map (klS r)).set i (.ro true q))) :: (PS.kill ⟨tm, rw', bx⟩ r).tmp, (r, none) :: rw', (PS.kill ⟨tm, rw', bx⟩ r).box⟩ = some s') (hm : m = q.len)
    (h : VO C ops K l s') : VO C ops K l ⟨tm, rw', bx⟩ := by
  subst hm
  refine vEnO ⟨fun M a w hr' => ?_⟩ h
  rw [nf_ok hnf]
  obtain ⟨M', h1, h2, h3⟩ := hr'.freeze0 hr
  refine ⟨M', h1.fr, h1.dfr, h1.sz, fun x => ?_, h1.box, h1.boxn, h1.row, h1.rown, h1.low, h1.inj1, h1.inj2, h1.inj3, h1.nle, h1.fxb, h1.fxr⟩
  by_cases hx : t = x
  · subst hx
    have hv := hr'.tmp t
    rw [ht] at hv
    have : (PS.t ⟨(t, .agg ((ds.map (klS r)).set i (.ro true q))) :: (PS.kill ⟨tm, rw', bx⟩ r).tmp, (r, none) :: rw', (PS.kill ⟨tm, rw', bx⟩ r).box⟩ t) = .agg ((ds.map (klS r)).set i (.ro true q)) := by simp [PS.t, look_cons_self]
    rw [this]
    generalize a.tmps.getD t undef = v at hv ⊢
    cases hv with
    | agg _ us hl hd =>
      refine .agg _ us (by simpa using hl) fun j d hj => ?_
      rw [List.getElem?_set] at hj
      by_cases hij : i = j
      · subst hij
        have hlt := (List.getElem?_eq_some_iff.1 hi).1
        rw [if_pos rfl, if_pos (by simpa using hlt)] at hj
        cases hj
        exact h2 _ (hd i _ hi)
      · rw [if_neg hij, List.getElem?_map] at hj
        obtain ⟨d0, hd0, rfl⟩ := Option.map_eq_some_iff.1 hj
        exact h3 _ _ (hd j d0 hd0)
  · have : (PS.t ⟨(t, .agg ((ds.map (klS r)).set i (.ro true q))) :: (PS.kill ⟨tm, rw', bx⟩ r).tmp, (r, none) :: rw', (PS.kill ⟨tm, rw', bx⟩ r).box⟩ x) = (PS.setR (PS.kill ⟨tm, rw', bx⟩ r) r none).t x := by simp [PS.t, PS.setR, look_cons_ne hx]
    rw [this]; exact h1.tmp x
variable {o : Oper} {rest : List Oper} {rk rids bk bids pids : List Nat}
/-- a call of a closure -/
theorem oMCloX {f : FuncId} {x : Operand} {args : Array Operand} {ts : Array TypeId} {bs : List Nat} {r0 r1 : List (TypeId × Sq)} {b0 b1 : List (List D)} {d : D} (cs : List Nat) (ds : List D) (hp : MCall C.P f (ds ++ cs.map fun b => .ptr b 0) rk bk r0 r1 b0 b1 d) (rids bids pids : List Nat) (hg : o.guard = none) (hop : o.op = .call { callee := .value x, args := args, argTypes := ts })
    (hx : (PS.ev ⟨tm, rw', bx⟩ x) = .clo f bs) (hcs : cs.map (sgm bk bids) = bs) (hin : cs.all (isInL bk) = true) (hn : dstOk C.n o.dst = true)
    (hchk : mchk rk rids bk bids pids = true) (hf : frB ⟨tm, rw', bx⟩ noB (newP rids pids) = true)
    (hnf : nf ((PS.after ⟨tm, rw', bx⟩ rids pids r1 bids (b1.map fun cs => cs.map (renS (sgm bk bids) (sgm rk pids)))).put o.dst (ren (sgm bk bids) (sgm rk pids) d)) = some s')
    (hr : pairOk (PS.r ⟨tm, rw', bx⟩) rids r0) (hb : pairOk (PS.b ⟨tm, rw', bx⟩) bids (b0.map fun cs => cs.map (renS (sgm bk bids) (sgm rk rids)))) (hfit : fitsM rk rids bk bids ⟨tm, rw', bx⟩ args.toList ds) (h : VO C ops K rest s') : VO C ops K (o :: rest) ⟨tm, rw', bx⟩ :=
  vOp hg (sMClo hop hx hp hcs hin hn hchk (frB_ok hf) hr hb hfit (vNf hnf h))
end
end Go.Proofs.Ytkpmijmlbpdknaa

namespace Go.Proofs.Ytkpmijmlbpdknaa
open Go.RowKit
set_option linter.unusedVariables false
set_option linter.unusedSimpArgs false
def S_FindRaising_l2 (N : Nat) (p_0 : Pin) (v1 : List Int) (l147 : List (Int × List Int)) (l148 : List Int) (k : ((List (Int × List Int)) × (List Int)) → Option ((List (Int × List Int)) × Bool)) : Nat → Int → Option ((List (Int × List Int)) × Bool)
  | 0, _ => none
  | n + 1, i179 =>
    cnd (decide (i179 < (v1.length : Int))) (
      grd (0 ≤ i179 ∧ i179 < (v1.length : Int)) <|
      (S_l26Bars N p_0 l148 (v1.getD ((i179).toNat) 0)).bind fun v182 =>
      (S_l2Has N l148 (v1.getD ((i179).toNat) 0)).bind fun v183 =>
      cnd (!v183) (
        cnd (decide ((v182.length : Int) ≥ (2 : Int))) (
          grd (l147.length + 1 ≤ 4294967296) <|
          grd (l148.length + 1 ≤ 4294967296) <|
          k ((l147 ++ ([((v1.getD ((i179).toNat) 0), v182)] : List (Int × List Int))), (l148 ++ ([(v1.getD ((i179).toNat) 0)] : List Int)))) (
          grd (Rg64 (i179 + (1 : Int))) <|
          S_FindRaising_l2 N p_0 v1 l147 l148 k n (i179 + (1 : Int)))) (
        grd (Rg64 (i179 + (1 : Int))) <|
        S_FindRaising_l2 N p_0 v1 l147 l148 k n (i179 + (1 : Int)))) (
      k (l147, l148))
def S_FindRaising_l1 (N : Nat) (p_0 : Pin) (v1 : List Int) (k : ((List (Int × List Int)) × (List Int)) → Option ((List (Int × List Int)) × Bool)) : Nat → ((List (Int × List Int)) × (List Int) × Int) → Option ((List (Int × List Int)) × Bool)
  | 0, _ => none
  | n + 1, (l147, l148, n149) =>
    cnd (decide (n149 < (v1.length : Int))) (
      S_FindRaising_l2 N p_0 v1 l147 l148 (fun (x : (List (Int × List Int)) × (List Int)) =>
          match x with
          | (l174, l175) =>
            grd (Rg64 (n149 + (1 : Int))) <|
            S_FindRaising_l1 N p_0 v1 k n (l174, l175, (n149 + (1 : Int)))) N (0 : Int)) (
      k (l147, l148))
def S_FindRaising (N : Nat) (p_0 : Pin) : Option ((List (Int × List Int)) × Bool) :=
  (S_InnerPoints N p_0).bind fun v1 =>
  S_FindRaising_l1 N p_0 v1 (fun (x : (List (Int × List Int)) × (List Int)) =>
      match x with
      | (l91, l92) =>
        (S_IsPinned N p_0).bind fun v93 =>
        cnd (!v93) (
          some (([] : List (Int × List Int)), false)) (
          cnd (decide ((l92.length : Int) < (v1.length : Int))) (
            some (([] : List (Int × List Int)), false)) (
            some (l91, true)))) N (([] : List (Int × List Int)), ([] : List Int), (0 : Int))
set_option maxRecDepth 20000 in
set_option maxHeartbeats 1600000 in
theorem S_FindRaising_w (N : Nat) (p_0 : Pin) (r : (List (Int × List Int)) × Bool) (h : S_FindRaising N p_0 = some r) : PCall Try.prog 73 [pD p_0] [(85, .raises r.1)] (.tup [.row 0 0 r.1.length, .bool r.2]) := by
  unfold S_FindRaising at h
  refine pcall_intro (TT := TT) tt Try.func73 rfl rfl Try.ntmps73 (congrArg Array.toList Try.results73) rfl rfl fun w0 => ?_
  refine vSeq ?_
  refine vRegion ?_
  refine oBox rfl rfl rfl rfl rfl rfl rfl rfl rfl ?_
  iterate 2 refine oVal tt rfl rfl rfl rfl rfl trivial ?_
  refine vNil ?_
  change VC _ _ _ _
  refine vSeq ?_
  refine vRegion ?_
  refine oEmpty tt (wNone rfl) rfl rfl rfl rfl ?_
  refine oVal tt rfl rfl rfl rfl rfl trivial ?_
  refine vNil ?_
  change VC _ _ _ _
  refine vSeq ?_
  refine vRegion ?_
  refine oEmpty tt (wNone rfl) rfl rfl rfl rfl ?_
  refine oVal tt rfl rfl rfl rfl rfl trivial ?_
  refine vNil ?_
  change VC _ _ _ _
  refine vSeq ?_
  refine vRegion ?_
  refine oVal tt rfl rfl rfl rfl rfl trivial ?_
  obtain ⟨v1, hc1, h⟩ := bind_inv h
  refine oCall (S_InnerPoints_w N p_0 v1 hc1) rfl rfl rfl rfl rfl rfl rfl rfl ⟨⟨rfl, rfl, rfl, trivial⟩, trivial⟩ ?_
  refine oVal tt rfl rfl rfl rfl rfl trivial ?_
  refine vNil ?_
  change VC _ _ _ _
  iterate 2 refine vSeq ?_
  refine vRegion ?_
  refine oVal tt rfl rfl rfl rfl rfl trivial ?_
  refine vNil ?_
  change VC _ _ _ _
  refine vJoin (F := fun k => S_FindRaising_l1 N p_0 v1 k) h (α := (List (Int × List Int)) × (List Int)) (J := fun | (l91, l92) => (⟨[(1, .ptr 1 0), (4, .row 53 0 l91.length), (5, .row 60 0 l92.length), (6, .row 1130 0 v1.length)], [(53, some (85, .raises l91)), (60, some (3, .ints l92)), (1130, some (3, .ints v1))], [(1, some [.int p_0.g.n, .ro false (.pairs p_0.g.bars), .ro false (.ints p_0.ground)])]⟩ : PS)) ?_ ?_
  · rintro ⟨l91, l92⟩ h
    show VC _ _ _ (⟨[(1, .ptr 1 0), (4, .row 53 0 l91.length), (5, .row 60 0 l92.length), (6, .row 1130 0 v1.length)], [(53, some (85, .raises l91)), (60, some (3, .ints l92)), (1130, some (3, .ints v1))], [(1, some [.int p_0.g.n, .ro false (.pairs p_0.g.bars), .ro false (.ints p_0.ground)])]⟩ : PS)
    iterate 2 refine vSeq ?_
    refine vRegion ?_
    refine oVal tt rfl rfl rfl rfl rfl trivial ?_
    obtain ⟨v93, hc2, h⟩ := bind_inv h
    refine oCall (S_IsPinned_w N p_0 v93 hc2) rfl rfl rfl rfl rfl rfl rfl rfl ⟨⟨rfl, rfl, rfl, trivial⟩, trivial⟩ ?_
    iterate 2 refine oVal tt rfl rfl rfl rfl rfl trivial ?_
    refine oSplit rfl rfl rfl (fun hb3 => ?_) (fun hb3 => ?_)
    · replace h := cnd_t hb3 h
      iterate 5 refine oNoF rfl rfl rfl rfl hb3 rfl rfl ?_
      refine oPick rfl rfl rfl rfl rfl hb3 rfl ?_
      refine vNil ?_
      change VC _ _ _ _
      refine vCondT rfl rfl ?_
      refine vSeq ?_
      refine vRegion ?_
      refine oEmpty tt (wNone rfl) rfl rfl rfl rfl ?_
      iterate 2 refine oVal tt rfl rfl rfl rfl rfl trivial ?_
      refine vNil ?_
      change VC _ _ _ _
      refine vNilT 2 9001 85 (.raises []) rfl rfl rfl rfl ?_
      refine vRet ?_
      change ∃ _, _
      cases h
      exact ⟨[9001], _, rfl, ⟨rfl, trivial⟩, rfl, (.eq rfl), rfl⟩
    · replace h := cnd_f hb3 h
      iterate 5 refine oValG tt rfl rfl rfl rfl rfl hb3 rfl rfl rfl trivial ?_
      refine oPickF rfl rfl rfl rfl rfl hb3 rfl ?_
      refine vNil ?_
      change VC _ _ _ _
      refine vCond rfl (fun hb4 => ?_) (fun hb4 => ?_)
      · replace h := cnd_t hb4 h
        refine vSeq ?_
        refine vRegion ?_
        refine oEmpty tt (wNone rfl) rfl rfl rfl rfl ?_
        iterate 2 refine oVal tt rfl rfl rfl rfl rfl trivial ?_
        refine vNil ?_
        change VC _ _ _ _
        refine vNilT 2 9001 85 (.raises []) rfl rfl rfl rfl ?_
        refine vRet ?_
        change ∃ _, _
        cases h
        exact ⟨[9001], _, rfl, ⟨rfl, trivial⟩, rfl, (.eq rfl), rfl⟩
      · replace h := cnd_f hb4 h
        refine vSkip ?_
        change VC _ _ _ _
        refine vSeq ?_
        refine vRegion ?_
        iterate 3 refine oVal tt rfl rfl rfl rfl rfl trivial ?_
        refine vNil ?_
        change VC _ _ _ _
        refine vRet ?_
        change ∃ _, _
        cases h
        exact ⟨[53], _, rfl, ⟨rfl, trivial⟩, rfl, (.eq rfl), rfl⟩
  · intro k h
    refine vBlock ?_
    refine vNilT 4 53 85 (.raises []) rfl rfl rfl rfl ?_
    refine vNilT 5 60 3 (.ints []) rfl rfl rfl rfl ?_
    refine vLoopS (α := (List (Int × List Int)) × (List Int) × Int) (fun | (l147, l148, n149) => (⟨[(1, .ptr 1 0), (4, .row 53 0 l147.length), (5, .row 60 0 l148.length), (6, .row 1130 0 v1.length), (7, .int n149)], [(53, some (85, .raises l147)), (60, some (3, .ints l148)), (1130, some (3, .ints v1))], [(1, some [.int p_0.g.n, .ro false (.pairs p_0.g.bars), .ro false (.ints p_0.ground)])]⟩ : PS)) (S_FindRaising_l1 N p_0 v1 k) h (En.of ⟨rfl, rfl, rfl, rfl, rfl, trivial⟩ ⟨rfl, rfl, rfl, trivial⟩ ⟨rfl, trivial⟩) (fun _ => rfl) ?_
    rintro n ⟨l147, l148, n149⟩ h
    rw [S_FindRaising_l1] at h
    show VC _ _ _ (⟨[(1, .ptr 1 0), (4, .row 53 0 l147.length), (5, .row 60 0 l148.length), (6, .row 1130 0 v1.length), (7, .int n149)], [(53, some (85, .raises l147)), (60, some (3, .ints l148)), (1130, some (3, .ints v1))], [(1, some [.int p_0.g.n, .ro false (.pairs p_0.g.bars), .ro false (.ints p_0.ground)])]⟩ : PS)
    iterate 2 refine vSeq ?_
    refine vRegion ?_
    iterate 4 refine oVal tt rfl rfl rfl rfl rfl trivial ?_
    refine vNil ?_
    change VC _ _ _ _
    refine vCond rfl (fun hb5 => ?_) (fun hb5 => ?_)
    · replace h := cnd_t hb5 h
      refine vSkip ?_
      change VC _ _ _ _
      refine vSeq ?_
      refine vBlock ?_
      refine vSeq ?_
      refine vRegion ?_
      refine oVal tt rfl rfl rfl rfl rfl trivial ?_
      refine vNil ?_
      change VC _ _ _ _
      refine vJoin (F := fun k => S_FindRaising_l2 N p_0 v1 l147 l148 k) h (α := (List (Int × List Int)) × (List Int)) (J := fun | (l174, l175) => (⟨[(1, .ptr 1 0), (4, .row 53 0 l174.length), (5, .row 60 0 l175.length), (6, .row 1130 0 v1.length), (7, .int n149)], [(53, some (85, .raises l174)), (60, some (3, .ints l175)), (1130, some (3, .ints v1))], [(1, some [.int p_0.g.n, .ro false (.pairs p_0.g.bars), .ro false (.ints p_0.ground)])]⟩ : PS)) ?_ ?_
      · rintro ⟨l174, l175⟩ h
        show VC _ _ _ (⟨[(1, .ptr 1 0), (4, .row 53 0 l174.length), (5, .row 60 0 l175.length), (6, .row 1130 0 v1.length), (7, .int n149)], [(53, some (85, .raises l174)), (60, some (3, .ints l175)), (1130, some (3, .ints v1))], [(1, some [.int p_0.g.n, .ro false (.pairs p_0.g.bars), .ro false (.ints p_0.ground)])]⟩ : PS)
        refine vRegion ?_
        refine oVal tt rfl rfl rfl rfl rfl trivial ?_
        obtain ⟨hg6, h⟩ := grd_inv h
        refine oVal tt rfl rfl rfl rfl rfl hg6 ?_
        refine oVal tt rfl rfl rfl rfl rfl trivial ?_
        refine vNil ?_
        change ∃ _, _
        exact ⟨(l174, l175, (n149 + (1 : Int))), (En.of ⟨rfl, rfl, rfl, rfl, rfl, trivial⟩ ⟨rfl, rfl, rfl, trivial⟩ ⟨rfl, trivial⟩), h⟩
      · intro k h
        refine vBlock ?_
        refine vLoopS (α := Int) (fun (i179 : Int) => (⟨[(1, .ptr 1 0), (4, .row 53 0 l147.length), (5, .row 60 0 l148.length), (6, .row 1130 0 v1.length), (7, .int n149), (8, .int i179)], [(53, some (85, .raises l147)), (60, some (3, .ints l148)), (1130, some (3, .ints v1))], [(1, some [.int p_0.g.n, .ro false (.pairs p_0.g.bars), .ro false (.ints p_0.ground)])]⟩ : PS)) (S_FindRaising_l2 N p_0 v1 l147 l148 k) h (En.of ⟨rfl, rfl, rfl, rfl, rfl, rfl, trivial⟩ ⟨rfl, rfl, rfl, trivial⟩ ⟨rfl, trivial⟩) (fun _ => rfl) ?_
        rintro n i179 h
        rw [S_FindRaising_l2] at h
        show VC _ _ _ (⟨[(1, .ptr 1 0), (4, .row 53 0 l147.length), (5, .row 60 0 l148.length), (6, .row 1130 0 v1.length), (7, .int n149), (8, .int i179)], [(53, some (85, .raises l147)), (60, some (3, .ints l148)), (1130, some (3, .ints v1))], [(1, some [.int p_0.g.n, .ro false (.pairs p_0.g.bars), .ro false (.ints p_0.ground)])]⟩ : PS)
        iterate 2 refine vSeq ?_
        refine vRegion ?_
        iterate 4 refine oVal tt rfl rfl rfl rfl rfl trivial ?_
        refine vNil ?_
        change VC _ _ _ _
        refine vCond rfl (fun hb7 => ?_) (fun hb7 => ?_)
        · replace h := cnd_t hb7 h
          refine vSkip ?_
          change VC _ _ _ _
          refine vSeq ?_
          refine vBlock ?_
          refine vSeq ?_
          refine vRegionN 6 [] [0, 0, 0, 0, 12, 28, 63, 127] (by kernel_rfl) (by kernel_rfl) (by kernel_rfl) (by kernel_rfl) (by kernel_rfl) rfl (by rfl) ?_
          iterate 4 refine nVal tt rfl (wNone rfl) rfl rfl rfl rfl rfl trivial ?_
          obtain ⟨hg8, h⟩ := grd_inv h
          iterate 2 refine nVal tt rfl (wNone rfl) rfl rfl rfl rfl rfl hg8 ?_
          refine nNil ?_
          change VO _ _ _ _ _
          obtain ⟨v182, hc9, h⟩ := bind_inv h
          refine oCall (S_l26Bars_w N p_0 l148 (v1.getD ((i179).toNat) 0) v182 hc9) rfl rfl rfl rfl rfl rfl rfl rfl ⟨⟨rfl, rfl, rfl, trivial⟩, (.inl ⟨rfl, rfl⟩), rfl, trivial⟩ ?_
          refine oVal tt rfl rfl rfl rfl rfl trivial ?_
          refine vNil ?_
          change VC _ _ _ _
          refine vSeq ?_
          refine vRegion ?_
          iterate 3 refine oVal tt rfl rfl rfl rfl rfl trivial ?_
          iterate 2 refine oVal tt rfl rfl rfl rfl rfl hg8 ?_
          obtain ⟨v183, hc10, h⟩ := bind_inv h
          refine oCall (S_l2Has_w N l148 (v1.getD ((i179).toNat) 0) v183 hc10) rfl rfl rfl rfl rfl rfl rfl rfl ⟨(.inl ⟨rfl, rfl⟩), rfl, trivial⟩ ?_
          iterate 2 refine oVal tt rfl rfl rfl rfl rfl trivial ?_
          refine oSplit rfl rfl rfl (fun hb11 => ?_) (fun hb11 => ?_)
          · replace h := cnd_t hb11 h
            iterate 3 refine oValG tt rfl rfl rfl rfl rfl hb11 rfl rfl rfl trivial ?_
            refine oPick rfl rfl rfl rfl rfl hb11 rfl ?_
            refine vNil ?_
            change VC _ _ _ _
            refine vCond rfl (fun hb12 => ?_) (fun hb12 => ?_)
            · replace h := cnd_t hb12 h
              refine vSeq ?_
              refine vRegion ?_
              iterate 3 refine oVal tt rfl rfl rfl rfl rfl trivial ?_
              iterate 2 refine oVal tt rfl rfl rfl rfl rfl hg8 ?_
              refine oVal tt rfl rfl rfl rfl rfl trivial ?_
              refine oPure (wNone rfl) (pBuild bld_impl_Raise rfl rfl) rfl rfl ?_
              refine oFreezeA 51 1 rfl rfl rfl rfl rfl ?_
              refine oBuild tt rfl rfl rfl rfl rfl rfl rfl rfl rfl rfl rfl ?_
              obtain ⟨hg13, h⟩ := grd_inv h
              refine oAppend tt rfl rfl rfl rfl rfl rfl rfl rfl rfl rfl rfl rfl rfl rfl rfl rfl (Nat.le_of_eq (Nat.zero_add _)) hg13 ?_
              refine oVal tt rfl rfl rfl rfl rfl trivial ?_
              refine vNil ?_
              change VC _ _ _ _
              refine vSeq ?_
              refine vRegion ?_
              iterate 3 refine oVal tt rfl rfl rfl rfl rfl trivial ?_
              iterate 2 refine oVal tt rfl rfl rfl rfl rfl hg8 ?_
              refine oBuild tt rfl rfl rfl rfl rfl rfl rfl rfl rfl rfl rfl ?_
              obtain ⟨hg14, h⟩ := grd_inv h
              refine oAppend tt rfl rfl rfl rfl rfl rfl rfl rfl rfl rfl rfl rfl rfl rfl rfl rfl (Nat.le_of_eq (Nat.zero_add _)) hg14 ?_
              refine oVal tt rfl rfl rfl rfl rfl trivial ?_
              refine vNil ?_
              change VC _ _ _ _
              refine vExit ?_
              change ∃ _, _
              exact ⟨((l147 ++ ([((v1.getD ((i179).toNat) 0), v182)] : List (Int × List Int))), (l148 ++ ([(v1.getD ((i179).toNat) 0)] : List Int))), (En.of ⟨rfl, rfl, rfl, rfl, rfl, trivial⟩ ⟨rfl, rfl, rfl, trivial⟩ ⟨rfl, trivial⟩), h⟩
            · replace h := cnd_f hb12 h
              refine vSkip ?_
              change VC _ _ _ _
              refine vRegion ?_
              refine oVal tt rfl rfl rfl rfl rfl trivial ?_
              obtain ⟨hg15, h⟩ := grd_inv h
              refine oVal tt rfl rfl rfl rfl rfl hg15 ?_
              refine oVal tt rfl rfl rfl rfl rfl trivial ?_
              refine vNil ?_
              change ∃ _, _
              exact ⟨(i179 + (1 : Int)), (En.of ⟨rfl, rfl, rfl, rfl, rfl, rfl, trivial⟩ ⟨rfl, rfl, rfl, trivial⟩ ⟨rfl, trivial⟩), h⟩
          · replace h := cnd_f hb11 h
            iterate 3 refine oNoT rfl rfl rfl rfl hb11 rfl rfl ?_
            refine oPickF rfl rfl rfl rfl rfl hb11 rfl ?_
            refine vNil ?_
            change VC _ _ _ _
            refine vCondF rfl rfl ?_
            refine vSkip ?_
            change VC _ _ _ _
            refine vRegion ?_
            refine oVal tt rfl rfl rfl rfl rfl trivial ?_
            obtain ⟨hg16, h⟩ := grd_inv h
            refine oVal tt rfl rfl rfl rfl rfl hg16 ?_
            refine oVal tt rfl rfl rfl rfl rfl trivial ?_
            refine vNil ?_
            change ∃ _, _
            exact ⟨(i179 + (1 : Int)), (En.of ⟨rfl, rfl, rfl, rfl, rfl, rfl, trivial⟩ ⟨rfl, rfl, rfl, trivial⟩ ⟨rfl, trivial⟩), h⟩
        · replace h := cnd_f hb7 h
          refine vExit ?_
          change ∃ _, _
          exact ⟨(l147, l148), (En.of ⟨rfl, rfl, rfl, rfl, rfl, trivial⟩ ⟨rfl, rfl, rfl, trivial⟩ ⟨rfl, trivial⟩), h⟩
    · replace h := cnd_f hb5 h
      refine vExit ?_
      change ∃ _, _
      exact ⟨(l147, l148), (En.of ⟨rfl, rfl, rfl, rfl, trivial⟩ ⟨rfl, rfl, rfl, trivial⟩ ⟨rfl, trivial⟩), h⟩
def S_NeedsGroup (N : Nat) (p_0 : Pin) : Option (Bool) :=
  (S_FindRaising N p_0).bind fun v1 =>
  (S_IsPinnedRigid N p_0).bind fun v2 =>
  cnd v2 (
    some (!v1.2)) (
    some false)
set_option maxRecDepth 20000 in
set_option maxHeartbeats 1600000 in
theorem S_NeedsGroup_w (N : Nat) (p_0 : Pin) (r : Bool) (h : S_NeedsGroup N p_0 = some r) : PCall Try.prog 34 [pD p_0] [] (.bool r) := by
  unfold S_NeedsGroup at h
  refine pcall_intro (TT := TT) tt Try.func34 rfl rfl Try.ntmps34 (congrArg Array.toList Try.results34) rfl rfl fun w0 => ?_
  refine vSeq ?_
  refine vRegion ?_
  refine oBox rfl rfl rfl rfl rfl rfl rfl rfl rfl ?_
  refine oVal tt rfl rfl rfl rfl rfl trivial ?_
  refine vNil ?_
  change VC _ _ _ _
  refine vSeq ?_
  refine vRegion ?_
  refine oVal tt rfl rfl rfl rfl rfl trivial ?_
  obtain ⟨v1, hc1, h⟩ := bind_inv h
  refine oCall (S_FindRaising_w N p_0 v1 hc1) rfl rfl rfl rfl rfl rfl rfl rfl ⟨⟨rfl, rfl, rfl, trivial⟩, trivial⟩ ?_
  iterate 5 refine oVal tt rfl rfl rfl rfl rfl trivial ?_
  refine vNil ?_
  change VC _ _ _ _
  refine vSeq ?_
  refine vRegion ?_
  refine oVal tt rfl rfl rfl rfl rfl trivial ?_
  obtain ⟨v2, hc2, h⟩ := bind_inv h
  refine oCall (S_IsPinnedRigid_w N p_0 v2 hc2) rfl rfl rfl rfl rfl rfl rfl rfl ⟨⟨rfl, rfl, rfl, trivial⟩, trivial⟩ ?_
  refine oVal tt rfl rfl rfl rfl rfl trivial ?_
  refine oSplit rfl rfl rfl (fun hb3 => ?_) (fun hb3 => ?_)
  · replace h := cnd_t hb3 h
    iterate 2 refine oValG tt rfl rfl rfl rfl rfl hb3 rfl rfl rfl trivial ?_
    refine oPick rfl rfl rfl rfl rfl hb3 rfl ?_
    refine oVal tt rfl rfl rfl rfl rfl trivial ?_
    refine vNil ?_
    change VC _ _ _ _
    refine vRet ?_
    change ∃ _, _
    cases h
    exact ⟨[], _, rfl, trivial, rfl, (.eq rfl), rfl⟩
  · replace h := cnd_f hb3 h
    iterate 2 refine oNoT rfl rfl rfl rfl hb3 rfl rfl ?_
    refine oPickF rfl rfl rfl rfl rfl hb3 rfl ?_
    refine oVal tt rfl rfl rfl rfl rfl trivial ?_
    refine vNil ?_
    change VC _ _ _ _
    refine vRet ?_
    change ∃ _, _
    cases h
    exact ⟨[], _, rfl, trivial, rfl, (.eq rfl), rfl⟩
def I_FindRaising_l2 (N : Nat) (p_0 : Pin) (v2 : List Int) (l148 : List Int) (i149 : Int) (k : (List Int) → Option ((List (Int × List Int)) × Bool)) : Nat → ((List Int) × Int) → Option ((List (Int × List Int)) × Bool)
  | 0, _ => none
  | n + 1, (l180, x181) =>
    cnd (decide (x181 < (p_0.g.bars.length : Int))) (
      (M_Pinned_holds N p_0 l148 (v2.getD ((i149).toNat) 0) x181).bind fun v183 =>
      cnd v183 (
        grd (l180.length + 1 ≤ 4294967296) <|
        grd (Rg64 (x181 + (1 : Int))) <|
        I_FindRaising_l2 N p_0 v2 l148 i149 k n ((l180 ++ ([x181] : List Int)), (x181 + (1 : Int)))) (
        grd (Rg64 (x181 + (1 : Int))) <|
        I_FindRaising_l2 N p_0 v2 l148 i149 k n (l180, (x181 + (1 : Int))))) (
      k l180)
def I_FindRaising_l1 (N : Nat) (p_0 : Pin) (v2 : List Int) (k : ((List (Int × List Int)) × (List Int)) → Option ((List (Int × List Int)) × Bool)) : Nat → ((List (Int × List Int)) × (List Int) × Int) → Option ((List (Int × List Int)) × Bool)
  | 0, _ => none
  | n + 1, (l147, l148, i149) =>
    cnd (decide (i149 < (v2.length : Int))) (
      grd (0 ≤ i149 ∧ i149 < (v2.length : Int)) <|
      I_FindRaising_l2 N p_0 v2 l148 i149 (fun (l174 : List Int) =>
            (I_IsRaise N p_0 l148 (⟨(v2.getD ((i149).toNat) 0), l174⟩ : Rse)).bind fun v175 =>
            cnd v175 (
              grd (l147.length + 1 ≤ 4294967296) <|
              grd (l148.length + 1 ≤ 4294967296) <|
              grd (Rg64 ((-1 : Int) + (1 : Int))) <|
              I_FindRaising_l1 N p_0 v2 k n ((l147 ++ ([((v2.getD ((i149).toNat) 0), l174)] : List (Int × List Int))), (l148 ++ ([(v2.getD ((i149).toNat) 0)] : List Int)), ((-1 : Int) + (1 : Int)))) (
              grd (Rg64 (i149 + (1 : Int))) <|
              I_FindRaising_l1 N p_0 v2 k n (l147, l148, (i149 + (1 : Int))))) N (([] : List Int), (0 : Int))) (
      k (l147, l148))
def I_FindRaising (N : Nat) (p_0 : Pin) : Option ((List (Int × List Int)) × Bool) :=
  (I_IsPinned N p_0).bind fun v1 =>
  cnd (!v1) (
    some (([] : List (Int × List Int)), false)) (
    (I_InnerPoints N p_0).bind fun v2 =>
    I_FindRaising_l1 N p_0 v2 (fun (x : (List (Int × List Int)) × (List Int)) =>
        match x with
        | (l92, l93) =>
          cnd ((l93.length : Int) != (v2.length : Int)) (
            some (([] : List (Int × List Int)), false)) (
            some (l92, true))) N (([] : List (Int × List Int)), ([] : List Int), (0 : Int)))
set_option maxRecDepth 20000 in
set_option maxHeartbeats 1600000 in
theorem I_FindRaising_w (N : Nat) (p_0 : Pin) (r : (List (Int × List Int)) × Bool) (h : I_FindRaising N p_0 = some r) : PCall Try.prog 74 [pD p_0] [(85, .raises r.1)] (.tup [.row 0 0 r.1.length, .bool r.2]) := by
  unfold I_FindRaising at h
  refine pcall_intro (TT := TT) tt Try.func74 rfl rfl Try.ntmps74 (congrArg Array.toList Try.results74) rfl rfl fun w0 => ?_
  refine vSeq ?_
  refine vRegion ?_
  refine oBox rfl rfl rfl rfl rfl rfl rfl rfl rfl ?_
  iterate 2 refine oVal tt rfl rfl rfl rfl rfl trivial ?_
  refine vNil ?_
  change VC _ _ _ _
  refine vSeq ?_
  refine vRegion ?_
  refine oEmpty tt (wNone rfl) rfl rfl rfl rfl ?_
  refine oVal tt rfl rfl rfl rfl rfl trivial ?_
  refine vNil ?_
  change VC _ _ _ _
  iterate 2 refine vSeq ?_
  refine vRegion ?_
  refine oVal tt rfl rfl rfl rfl rfl trivial ?_
  obtain ⟨v1, hc1, h⟩ := bind_inv h
  refine oCall (I_IsPinned_w N p_0 v1 hc1) rfl rfl rfl rfl rfl rfl rfl rfl ⟨⟨rfl, rfl, rfl, trivial⟩, trivial⟩ ?_
  refine oVal tt rfl rfl rfl rfl rfl trivial ?_
  refine vNil ?_
  change VC _ _ _ _
  refine vCond rfl (fun hb2 => ?_) (fun hb2 => ?_)
  · replace h := cnd_t hb2 h
    refine vSeq ?_
    refine vRegion ?_
    iterate 3 refine oVal tt rfl rfl rfl rfl rfl trivial ?_
    refine vNil ?_
    change VC _ _ _ _
    refine vNilT 2 9001 85 (.raises []) rfl rfl rfl rfl ?_
    refine vRet ?_
    change ∃ _, _
    cases h
    exact ⟨[9001], _, rfl, ⟨rfl, trivial⟩, rfl, (.eq rfl), rfl⟩
  · replace h := cnd_f hb2 h
    refine vSkip ?_
    change VC _ _ _ _
    refine vSeq ?_
    refine vRegion ?_
    refine oEmpty tt (wNone rfl) rfl rfl rfl rfl ?_
    refine oVal tt rfl rfl rfl rfl rfl trivial ?_
    refine vNil ?_
    change VC _ _ _ _
    refine vSeq ?_
    refine vRegion ?_
    refine oVal tt rfl rfl rfl rfl rfl trivial ?_
    obtain ⟨v2, hc3, h⟩ := bind_inv h
    refine oCall (I_InnerPoints_w N p_0 v2 hc3) rfl rfl rfl rfl rfl rfl rfl rfl ⟨⟨rfl, rfl, rfl, trivial⟩, trivial⟩ ?_
    refine oVal tt rfl rfl rfl rfl rfl trivial ?_
    refine vNil ?_
    change VC _ _ _ _
    iterate 2 refine vSeq ?_
    refine vRegion ?_
    refine oVal tt rfl rfl rfl rfl rfl trivial ?_
    refine vNil ?_
    change VC _ _ _ _
    refine vJoin (F := fun k => I_FindRaising_l1 N p_0 v2 k) h (α := (List (Int × List Int)) × (List Int)) (J := fun | (l92, l93) => (⟨[(4, .row 56 0 l92.length), (5, .row 61 0 l93.length), (6, .row 1170 0 v2.length)], [(56, some (85, .raises l92)), (61, some (3, .ints l93)), (1170, some (3, .ints v2))], []⟩ : PS)) ?_ ?_
    · rintro ⟨l92, l93⟩ h
      show VC _ _ _ (⟨[(4, .row 56 0 l92.length), (5, .row 61 0 l93.length), (6, .row 1170 0 v2.length)], [(56, some (85, .raises l92)), (61, some (3, .ints l93)), (1170, some (3, .ints v2))], []⟩ : PS)
      iterate 2 refine vSeq ?_
      refine vRegion ?_
      iterate 5 refine oVal tt rfl rfl rfl rfl rfl trivial ?_
      refine vNil ?_
      change VC _ _ _ _
      refine vCond rfl (fun hb4 => ?_) (fun hb4 => ?_)
      · replace h := cnd_t hb4 h
        refine vSeq ?_
        refine vRegion ?_
        refine oEmpty tt (wNone rfl) rfl rfl rfl rfl ?_
        iterate 2 refine oVal tt rfl rfl rfl rfl rfl trivial ?_
        refine vNil ?_
        change VC _ _ _ _
        refine vNilT 2 9001 85 (.raises []) rfl rfl rfl rfl ?_
        refine vRet ?_
        change ∃ _, _
        cases h
        exact ⟨[9001], _, rfl, ⟨rfl, trivial⟩, rfl, (.eq rfl), rfl⟩
      · replace h := cnd_f hb4 h
        refine vSkip ?_
        change VC _ _ _ _
        refine vSeq ?_
        refine vRegion ?_
        iterate 3 refine oVal tt rfl rfl rfl rfl rfl trivial ?_
        refine vNil ?_
        change VC _ _ _ _
        refine vRet ?_
        change ∃ _, _
        cases h
        exact ⟨[56], _, rfl, ⟨rfl, trivial⟩, rfl, (.eq rfl), rfl⟩
    · intro k h
      refine vBlock ?_
      refine vNilT 4 56 85 (.raises []) rfl rfl rfl rfl ?_
      refine vNilT 5 61 3 (.ints []) rfl rfl rfl rfl ?_
      refine vLoopS (α := (List (Int × List Int)) × (List Int) × Int) (fun | (l147, l148, i149) => (⟨[(1, .ptr 1 0), (4, .row 56 0 l147.length), (5, .row 61 0 l148.length), (6, .row 1170 0 v2.length), (7, .int i149)], [(56, some (85, .raises l147)), (61, some (3, .ints l148)), (1170, some (3, .ints v2))], [(1, some [.int p_0.g.n, .ro false (.pairs p_0.g.bars), .ro false (.ints p_0.ground)])]⟩ : PS)) (I_FindRaising_l1 N p_0 v2 k) h (En.of ⟨rfl, rfl, rfl, rfl, rfl, trivial⟩ ⟨rfl, rfl, rfl, trivial⟩ ⟨rfl, trivial⟩) (fun _ => rfl) ?_
      rintro n ⟨l147, l148, i149⟩ h
      rw [I_FindRaising_l1] at h
      show VC _ _ _ (⟨[(1, .ptr 1 0), (4, .row 56 0 l147.length), (5, .row 61 0 l148.length), (6, .row 1170 0 v2.length), (7, .int i149)], [(56, some (85, .raises l147)), (61, some (3, .ints l148)), (1170, some (3, .ints v2))], [(1, some [.int p_0.g.n, .ro false (.pairs p_0.g.bars), .ro false (.ints p_0.ground)])]⟩ : PS)
      iterate 2 refine vSeq ?_
      refine vRegion ?_
      iterate 4 refine oVal tt rfl rfl rfl rfl rfl trivial ?_
      refine vNil ?_
      change VC _ _ _ _
      refine vCond rfl (fun hb5 => ?_) (fun hb5 => ?_)
      · replace h := cnd_t hb5 h
        refine vSkip ?_
        change VC _ _ _ _
        refine vSeq ?_
        refine vBlock ?_
        refine vSeq ?_
        refine vRegion ?_
        iterate 2 refine oVal tt rfl rfl rfl rfl rfl trivial ?_
        obtain ⟨hg6, h⟩ := grd_inv h
        iterate 2 refine oVal tt rfl rfl rfl rfl rfl hg6 ?_
        refine oPure (wNone rfl) (pBuild bld_impl_Raise rfl rfl) rfl rfl ?_
        refine oAlloc tt rfl rfl rfl rfl rfl rfl rfl rfl rfl ?_
        refine oStore tt rfl rfl rfl rfl rfl rfl rfl rfl rfl rfl rfl ⟨trivial, trivial, trivial⟩ ?_
        refine vNil ?_
        change VC _ _ _ _
        iterate 2 refine vSeq ?_
        refine vRegion ?_
        iterate 5 refine oVal tt rfl rfl rfl rfl rfl trivial ?_
        refine vNil ?_
        change VC _ _ _ _
        refine vJoin (F := fun k => I_FindRaising_l2 N p_0 v2 l148 i149 k) h (α := List Int) (J := fun (l174 : List Int) => (⟨[(1, .ptr 1 0), (4, .row 56 0 l147.length), (5, .row 61 0 l148.length), (6, .row 1170 0 v2.length), (7, .int i149), (8, .ptr 8 0)], [(56, some (85, .raises l147)), (61, some (3, .ints l148)), (1170, some (3, .ints v2)), (46, some (3, .ints l174))], [(1, some [.int p_0.g.n, .ro false (.pairs p_0.g.bars), .ro false (.ints p_0.ground)]), (8, some [.int (v2.getD ((i149).toNat) 0), .row 46 0 l174.length])]⟩ : PS)) ?_ ?_
        · rintro l174 h
          show VC _ _ _ (⟨[(1, .ptr 1 0), (4, .row 56 0 l147.length), (5, .row 61 0 l148.length), (6, .row 1170 0 v2.length), (7, .int i149), (8, .ptr 8 0)], [(56, some (85, .raises l147)), (61, some (3, .ints l148)), (1170, some (3, .ints v2)), (46, some (3, .ints l174))], [(1, some [.int p_0.g.n, .ro false (.pairs p_0.g.bars), .ro false (.ints p_0.ground)]), (8, some [.int (v2.getD ((i149).toNat) 0), .row 46 0 l174.length])]⟩ : PS)
          refine vSeq ?_
          refine vRegion ?_
          iterate 3 refine oVal tt rfl rfl rfl rfl rfl trivial ?_
          obtain ⟨v175, hc7, h⟩ := bind_inv h
          refine oCall (I_IsRaise_w N p_0 l148 (⟨(v2.getD ((i149).toNat) 0), l174⟩ : Rse) v175 hc7) rfl rfl rfl rfl rfl rfl rfl rfl ⟨⟨rfl, rfl, rfl, trivial⟩, (.inl ⟨rfl, rfl⟩), ⟨rfl, (.inl ⟨rfl, rfl⟩), trivial⟩, trivial⟩ ?_
          refine vNil ?_
          change VC _ _ _ _
          refine vCond rfl (fun hb8 => ?_) (fun hb8 => ?_)
          · replace h := cnd_t hb8 h
            refine vSeq ?_
            refine vRegion ?_
            iterate 2 refine oVal tt rfl rfl rfl rfl rfl trivial ?_
            refine oFreezeA 54 1 rfl rfl rfl rfl rfl ?_
            refine oBuild tt rfl rfl rfl rfl rfl rfl rfl rfl rfl rfl rfl ?_
            obtain ⟨hg9, h⟩ := grd_inv h
            refine oAppend tt rfl rfl rfl rfl rfl rfl rfl rfl rfl rfl rfl rfl rfl rfl rfl rfl (Nat.le_of_eq (Nat.zero_add _)) hg9 ?_
            refine oVal tt rfl rfl rfl rfl rfl trivial ?_
            refine vNil ?_
            change VC _ _ _ _
            refine vSeq ?_
            refine vRegion ?_
            iterate 3 refine oVal tt rfl rfl rfl rfl rfl trivial ?_
            refine oBuild tt rfl rfl rfl rfl rfl rfl rfl rfl rfl rfl rfl ?_
            obtain ⟨hg10, h⟩ := grd_inv h
            refine oAppend tt rfl rfl rfl rfl rfl rfl rfl rfl rfl rfl rfl rfl rfl rfl rfl rfl (Nat.le_of_eq (Nat.zero_add _)) hg10 ?_
            refine oVal tt rfl rfl rfl rfl rfl trivial ?_
            refine vNil ?_
            change VC _ _ _ _
            refine vRegion ?_
            refine oVal tt rfl rfl rfl rfl rfl trivial ?_
            refine vNil ?_
            change VC _ _ _ _
            refine vRegion ?_
            refine oVal tt rfl rfl rfl rfl rfl trivial ?_
            obtain ⟨hg11, h⟩ := grd_inv h
            refine oVal tt rfl rfl rfl rfl rfl hg11 ?_
            refine oVal tt rfl rfl rfl rfl rfl trivial ?_
            refine vNil ?_
            change ∃ _, _
            exact ⟨((l147 ++ ([((v2.getD ((i149).toNat) 0), l174)] : List (Int × List Int))), (l148 ++ ([(v2.getD ((i149).toNat) 0)] : List Int)), ((-1 : Int) + (1 : Int))), (En.of ⟨rfl, rfl, rfl, rfl, rfl, trivial⟩ ⟨rfl, rfl, rfl, trivial⟩ ⟨rfl, trivial⟩), h⟩
          · replace h := cnd_f hb8 h
            refine vSkip ?_
            change VC _ _ _ _
            refine vRegion ?_
            refine oVal tt rfl rfl rfl rfl rfl trivial ?_
            obtain ⟨hg12, h⟩ := grd_inv h
            refine oVal tt rfl rfl rfl rfl rfl hg12 ?_
            refine oVal tt rfl rfl rfl rfl rfl trivial ?_
            refine vNil ?_
            change ∃ _, _
            exact ⟨(l147, l148, (i149 + (1 : Int))), (En.of ⟨rfl, rfl, rfl, rfl, rfl, trivial⟩ ⟨rfl, rfl, rfl, trivial⟩ ⟨rfl, trivial⟩), h⟩
        · intro k h
          refine vBlock ?_
          refine vNilB 8 1 46 3 (.ints []) rfl rfl rfl rfl rfl ?_
          refine vLoopS (α := (List Int) × Int) (fun | (l180, x181) => (⟨[(1, .ptr 1 0), (4, .row 56 0 l147.length), (5, .row 61 0 l148.length), (6, .row 1170 0 v2.length), (7, .int i149), (8, .ptr 8 0), (32, .int (p_0.g.bars.length : Int)), (33, .int x181)], [(56, some (85, .raises l147)), (61, some (3, .ints l148)), (1170, some (3, .ints v2)), (46, some (3, .ints l180))], [(1, some [.int p_0.g.n, .ro false (.pairs p_0.g.bars), .ro false (.ints p_0.ground)]), (8, some [.int (v2.getD ((i149).toNat) 0), .row 46 0 l180.length])]⟩ : PS)) (I_FindRaising_l2 N p_0 v2 l148 i149 k) h (En.of ⟨rfl, rfl, rfl, rfl, rfl, rfl, rfl, rfl, trivial⟩ ⟨rfl, rfl, rfl, rfl, trivial⟩ ⟨rfl, rfl, trivial⟩) (fun _ => rfl) ?_
          rintro n ⟨l180, x181⟩ h
          rw [I_FindRaising_l2] at h
          show VC _ _ _ (⟨[(1, .ptr 1 0), (4, .row 56 0 l147.length), (5, .row 61 0 l148.length), (6, .row 1170 0 v2.length), (7, .int i149), (8, .ptr 8 0), (32, .int (p_0.g.bars.length : Int)), (33, .int x181)], [(56, some (85, .raises l147)), (61, some (3, .ints l148)), (1170, some (3, .ints v2)), (46, some (3, .ints l180))], [(1, some [.int p_0.g.n, .ro false (.pairs p_0.g.bars), .ro false (.ints p_0.ground)]), (8, some [.int (v2.getD ((i149).toNat) 0), .row 46 0 l180.length])]⟩ : PS)
          refine vSeq ?_
          refine vRegion ?_
          refine oVal tt rfl rfl rfl rfl rfl trivial ?_
          refine vNil ?_
          change VC _ _ _ _
          refine vSeq ?_
          refine vCond rfl (fun hb13 => ?_) (fun hb13 => ?_)
          · replace h := cnd_t hb13 h
            refine vSkip ?_
            change VC _ _ _ _
            refine vSeq ?_
            refine vBlock ?_
            refine vSeq ?_
            refine vRegion ?_
            iterate 2 refine oVal tt rfl rfl rfl rfl rfl trivial ?_
            refine vNil ?_
            change VC _ _ _ _
            refine vSeq ?_
            refine vRegion ?_
            iterate 5 refine oVal tt rfl rfl rfl rfl rfl trivial ?_
            obtain ⟨v183, hc14, h⟩ := bind_inv h
            refine oCall (M_Pinned_holds_w N p_0 l148 (v2.getD ((i149).toNat) 0) x181 v183 hc14) rfl rfl rfl rfl rfl rfl rfl rfl ⟨⟨rfl, rfl, rfl, trivial⟩, (.inl ⟨rfl, rfl⟩), rfl, rfl, trivial⟩ ?_
            refine vNil ?_
            change VC _ _ _ _
            refine vCond rfl (fun hb15 => ?_) (fun hb15 => ?_)
            · replace h := cnd_t hb15 h
              refine vRegion ?_
              iterate 3 refine oVal tt rfl rfl rfl rfl rfl trivial ?_
              refine oBuild tt rfl rfl rfl rfl rfl rfl rfl rfl rfl rfl rfl ?_
              obtain ⟨hg16, h⟩ := grd_inv h
              refine oAppend tt rfl rfl rfl rfl rfl rfl rfl rfl rfl rfl rfl rfl rfl rfl rfl rfl (Nat.le_of_eq (Nat.zero_add _)) hg16 ?_
              refine oVal tt rfl rfl rfl rfl rfl trivial ?_
              refine oStore tt rfl rfl rfl rfl rfl rfl rfl rfl rfl rfl rfl ⟨trivial, trivial⟩ ?_
              refine vNil ?_
              change VC _ _ _ _
              refine vRegion ?_
              obtain ⟨hg17, h⟩ := grd_inv h
              refine oVal tt rfl rfl rfl rfl rfl hg17 ?_
              refine oVal tt rfl rfl rfl rfl rfl trivial ?_
              refine vNil ?_
              change ∃ _, _
              exact ⟨((l180 ++ ([x181] : List Int)), (x181 + (1 : Int))), (En.of ⟨rfl, rfl, rfl, rfl, rfl, rfl, rfl, rfl, trivial⟩ ⟨rfl, rfl, rfl, rfl, trivial⟩ ⟨rfl, rfl, trivial⟩), h⟩
            · replace h := cnd_f hb15 h
              refine vSkip ?_
              change VC _ _ _ _
              refine vRegion ?_
              obtain ⟨hg18, h⟩ := grd_inv h
              refine oVal tt rfl rfl rfl rfl rfl hg18 ?_
              refine oVal tt rfl rfl rfl rfl rfl trivial ?_
              refine vNil ?_
              change ∃ _, _
              exact ⟨(l180, (x181 + (1 : Int))), (En.of ⟨rfl, rfl, rfl, rfl, rfl, rfl, rfl, rfl, trivial⟩ ⟨rfl, rfl, rfl, rfl, trivial⟩ ⟨rfl, rfl, trivial⟩), h⟩
          · replace h := cnd_f hb13 h
            refine vExit ?_
            change ∃ _, _
            exact ⟨l180, (En.of ⟨rfl, rfl, rfl, rfl, rfl, rfl, trivial⟩ ⟨rfl, rfl, rfl, rfl, trivial⟩ ⟨rfl, rfl, trivial⟩), h⟩
      · replace h := cnd_f hb5 h
        refine vExit ?_
        change ∃ _, _
        exact ⟨(l147, l148), (En.of ⟨rfl, rfl, rfl, trivial⟩ ⟨rfl, rfl, rfl, trivial⟩ trivial), h⟩
def I_NeedsGroup (N : Nat) (p_0 : Pin) : Option (Bool) :=
  (I_FindRaising N p_0).bind fun v1 =>
  (I_IsPinnedRigid N p_0).bind fun v2 =>
  cnd v2 (
    some (!v1.2)) (
    some false)
set_option maxRecDepth 20000 in
set_option maxHeartbeats 1600000 in
theorem I_NeedsGroup_w (N : Nat) (p_0 : Pin) (r : Bool) (h : I_NeedsGroup N p_0 = some r) : PCall Try.prog 35 [pD p_0] [] (.bool r) := by
  unfold I_NeedsGroup at h
  refine pcall_intro (TT := TT) tt Try.func35 rfl rfl Try.ntmps35 (congrArg Array.toList Try.results35) rfl rfl fun w0 => ?_
  refine vSeq ?_
  refine vRegion ?_
  refine oBox rfl rfl rfl rfl rfl rfl rfl rfl rfl ?_
  refine oVal tt rfl rfl rfl rfl rfl trivial ?_
  refine vNil ?_
  change VC _ _ _ _
  refine vSeq ?_
  refine vRegion ?_
  refine oVal tt rfl rfl rfl rfl rfl trivial ?_
  obtain ⟨v1, hc1, h⟩ := bind_inv h
  refine oCall (I_FindRaising_w N p_0 v1 hc1) rfl rfl rfl rfl rfl rfl rfl rfl ⟨⟨rfl, rfl, rfl, trivial⟩, trivial⟩ ?_
  iterate 5 refine oVal tt rfl rfl rfl rfl rfl trivial ?_
  refine vNil ?_
  change VC _ _ _ _
  refine vSeq ?_
  refine vRegion ?_
  refine oVal tt rfl rfl rfl rfl rfl trivial ?_
  obtain ⟨v2, hc2, h⟩ := bind_inv h
  refine oCall (I_IsPinnedRigid_w N p_0 v2 hc2) rfl rfl rfl rfl rfl rfl rfl rfl ⟨⟨rfl, rfl, rfl, trivial⟩, trivial⟩ ?_
  refine oVal tt rfl rfl rfl rfl rfl trivial ?_
  refine oSplit rfl rfl rfl (fun hb3 => ?_) (fun hb3 => ?_)
  · replace h := cnd_t hb3 h
    iterate 2 refine oValG tt rfl rfl rfl rfl rfl hb3 rfl rfl rfl trivial ?_
    refine oPick rfl rfl rfl rfl rfl hb3 rfl ?_
    refine oVal tt rfl rfl rfl rfl rfl trivial ?_
    refine vNil ?_
    change VC _ _ _ _
    refine vRet ?_
    change ∃ _, _
    cases h
    exact ⟨[], _, rfl, trivial, rfl, (.eq rfl), rfl⟩
  · replace h := cnd_f hb3 h
    iterate 2 refine oNoT rfl rfl rfl rfl hb3 rfl rfl ?_
    refine oPickF rfl rfl rfl rfl rfl hb3 rfl ?_
    refine oVal tt rfl rfl rfl rfl rfl trivial ?_
    refine vNil ?_
    change VC _ _ _ _
    refine vRet ?_
    change ∃ _, _
    cases h
    exact ⟨[], _, rfl, trivial, rfl, (.eq rfl), rfl⟩
end Go.Proofs.Ytkpmijmlbpdknaa

namespace Go.Proofs.Ytkpmijmlbpdknaa
set_option linter.unusedVariables false
set_option linter.unusedSimpArgs false
variable {N : Nat}
/-- the bars below m from a point to the ground or to what is done -/
def barsTo (p : Pin) (dn : List Int) (v : Int) (m : Nat) : List Int := ((List.range m).map Int.ofNat).filter fun e => holdP p dn v e
theorem barsTo_succ (p : Pin) (dn : List Int) (v : Int) (m : Nat) : barsTo p dn v (m + 1) = cnd (holdP p dn v (m : Int)) (barsTo p dn v m ++ [(m : Int)]) (barsTo p dn v m) := by
  simp only [barsTo, List.range_succ, List.map_append, List.filter_append, List.map_cons, List.map_nil, List.filter_cons, List.filter_nil]
  have e : Int.ofNat m = (m : Int) := rfl
  rw [e]
  cases holdP p dn v (m : Int) <;> simp [cnd]
theorem barsTo_len (p : Pin) (dn : List Int) (v : Int) (m : Nat) : (barsTo p dn v m).length ≤ m := by
  refine Nat.le_trans (List.length_filter_le _ _) (by simp)
theorem barsTo_mem {p : Pin} {dn : List Int} {v : Int} {m : Nat} {e : Int} (h : e ∈ barsTo p dn v m) : holdP p dn v e = true ∧ 0 ≤ e ∧ e < (m : Int) := by
  simp only [barsTo, List.mem_filter, List.mem_map, List.mem_range] at h
  obtain ⟨⟨k, hk, rfl⟩, h2⟩ := h
  exact ⟨h2, by simp, by simp; omega⟩
theorem barsTo_asc (p : Pin) (dn : List Int) (v : Int) : ∀ m, (barsTo p dn v m).Pairwise (· < ·) := by
  intro m
  induction m with
  | zero => exact List.Pairwise.nil
  | succ m ih =>
    rw [barsTo_succ]
    cases holdP p dn v (m : Int) with
    | false => exact ih
    | true =>
      rw [cnd_true, List.pairwise_append]
      refine ⟨ih, List.pairwise_singleton _ _, fun a ha b hb => ?_⟩
      have := (barsTo_mem ha).2.2
      simp at hb; omega
abbrev barsOf (p : Pin) (dn : List Int) (v : Int) : List Int := barsTo p dn v p.g.bars.length
theorem barsI_s (hN : 4000000 ≤ N) {p : Pin} (hp : isPinned p = true) {dn v2 : List Int} (hd : dn.length ≤ 3000000) {i0 : Int} {k : List Int → Option ((List (Int × List Int)) × Bool)} : ∀ (fuel i : Nat), i ≤ p.g.bars.length → p.g.bars.length < fuel + i →
    I_FindRaising_l2 N p v2 dn i0 k fuel (barsTo p dn (v2.getD (i0).toNat 0) i, (i : Int)) = k (barsOf p dn (v2.getD (i0).toNat 0)) := by
  have hbd := isPinned_bd hp
  intro fuel
  induction fuel with
  | zero => intro i h1 h2; omega
  | succ fuel ih =>
    intro i h1 h2
    have hl := barsTo_len p dn (v2.getD (i0).toNat 0) i
    rw [I_FindRaising_l2]
    by_cases hi : i < p.g.bars.length
    · rw [cnd_dt (by omega), holds_s N hN hp hd, Option.bind_some]
      have hs := barsTo_succ p dn (v2.getD (i0).toNat 0) i
      have := ih (i + 1) (by omega) (by omega)
      rw [hs] at this
      cases hh : holdP p dn (v2.getD (i0).toNat 0) (i : Int) with
      | true =>
        rw [hh, cnd_true] at this
        rw [cnd_true, grd_pos (by omega), grd_R (by omega) (by omega), succ_cast]
        exact this
      | false =>
        rw [hh, cnd_false] at this
        rw [cnd_false, grd_R (by omega) (by omega), succ_cast]
        exact this
    · obtain rfl : i = p.g.bars.length := by omega
      rw [cnd_df (by omega)]
theorem holdP_at {p : Pin} {dn : List Int} {v : Int} {i : Nat} (hi : i < p.g.bars.length) : holdP p dn v (i : Int) = (hasEnd (p.g.bars.getD i (0, 0)) v && (p.ground.contains (otherEnd (p.g.bars.getD i (0, 0)) v) || dn.contains (otherEnd (p.g.bars.getD i (0, 0)) v))) := by
  unfold holdP
  rw [inB_true.2 ⟨by omega, by omega⟩, Bool.true_and, Int.toNat_natCast]
theorem barsS_s (hN : 4000000 ≤ N) {p : Pin} (hp : isPinned p = true) {dn : List Int} (hd : dn.length ≤ 3000000) (v : Int) : S_l26Bars N p dn v = some (barsOf p dn v) := by
  have hbd := isPinned_bd hp
  have key : ∀ (fuel i : Nat), i ≤ p.g.bars.length → p.g.bars.length < fuel + i → S_l26Bars_l1 N p dn v (fun x => some x) fuel (barsTo p dn v i, (i : Int)) = some (barsOf p dn v) := by
    intro fuel
    induction fuel with
    | zero => intro i h1 h2; omega
    | succ fuel ih =>
      intro i h1 h2
      have hl := barsTo_len p dn v i
      rw [S_l26Bars_l1]
      by_cases hi : i < p.g.bars.length
      · have hb := isPinned_bar hp hi
        have hs := barsTo_succ p dn v i
        have hr := ih (i + 1) (by omega) (by omega)
        rw [hs, holdP_at hi] at hr
        have e2 : ((i : Int)).toNat = i := by omega
        rw [cnd_dt (by omega), grd_pos (by omega), e2]
        by_cases ha : (p.g.bars.getD i (0, 0)).1 = v
        · have he : hasEnd (p.g.bars.getD i (0, 0)) v = true := hasEnd_1 ha
          rw [he, Bool.true_and] at hr
          rw [cnd_eqt ha, l4Other_s N (by omega) (by omega) (by omega) (by omega) he, Option.bind_some, l2Has_s N hN (by omega), Option.bind_some, l2Has_s N hN hd, Option.bind_some]
          generalize p.ground.contains (otherEnd (p.g.bars.getD i (0, 0)) v) = bg at hr ⊢
          generalize dn.contains (otherEnd (p.g.bars.getD i (0, 0)) v) = bd at hr ⊢
          cases bg with
          | true => rw [cnd_true, grd_pos (by omega), grd_R (by omega) (by omega), succ_cast]; exact hr
          | false =>
            cases bd with
            | true => rw [cnd_false, cnd_true, grd_pos (by omega), grd_R (by omega) (by omega), succ_cast]; exact hr
            | false => rw [cnd_false, cnd_false, grd_R (by omega) (by omega), succ_cast]; exact hr
        · by_cases hc : (p.g.bars.getD i (0, 0)).2 = v
          · have he : hasEnd (p.g.bars.getD i (0, 0)) v = true := hasEnd_2 hc
            rw [he, Bool.true_and] at hr
            rw [cnd_eqf ha, cnd_eqt hc, l4Other_s N (by omega) (by omega) (by omega) (by omega) he, Option.bind_some, l2Has_s N hN (by omega), Option.bind_some, l2Has_s N hN hd, Option.bind_some]
            generalize p.ground.contains (otherEnd (p.g.bars.getD i (0, 0)) v) = bg at hr ⊢
            generalize dn.contains (otherEnd (p.g.bars.getD i (0, 0)) v) = bd at hr ⊢
            cases bg with
            | true => rw [cnd_true, grd_pos (by omega), grd_R (by omega) (by omega), succ_cast]; exact hr
            | false =>
              cases bd with
              | true => rw [cnd_false, cnd_true, grd_pos (by omega), grd_R (by omega) (by omega), succ_cast]; exact hr
              | false => rw [cnd_false, cnd_false, grd_R (by omega) (by omega), succ_cast]; exact hr
          · have he : hasEnd (p.g.bars.getD i (0, 0)) v = false := hasEnd_0 ha hc
            rw [he, Bool.false_and, cnd_false] at hr
            rw [cnd_eqf ha, cnd_eqf hc, grd_R (by omega) (by omega), succ_cast]
            exact hr
      · obtain rfl : i = p.g.bars.length := by omega
        rw [cnd_df (by omega)]
  have h0 := key N 0 (by omega) (by omega)
  rw [show barsTo p dn v 0 = [] from rfl] at h0
  unfold S_l26Bars
  exact h0
/-- a point may be raised next -/
def upOk (p : Pin) (dn : List Int) (v : Int) : Bool := !dn.contains v && decide (2 ≤ (barsOf p dn v).length)
theorem raiseOk_of {p : Pin} (hp : isPinned p = true) {dn : List Int} {v : Int} (hv : isIn p v = true) : raiseOk p dn ⟨v, barsOf p dn v⟩ = upOk p dn v := by
  unfold raiseOk upOk
  have h : ((List.range (barsOf p dn v).length).all (raiseAt p dn ⟨v, barsOf p dn v⟩)) = true := by
    rw [List.all_eq_true]
    intro i hi
    rw [List.mem_range] at hi
    unfold raiseAt
    have hm : (barsOf p dn v).getD i 0 ∈ barsOf p dn v := getD_mem hi
    rw [Bool.and_eq_true]
    refine ⟨(barsTo_mem hm).1, ?_⟩
    by_cases h0 : i = 0
    · simp [h0]
    · have ha := List.pairwise_iff_getElem.1 (barsTo_asc p dn v p.g.bars.length) (i - 1) i (by have := hi; show i - 1 < (barsOf p dn v).length; omega) hi (by omega)
      have e1 : (barsOf p dn v).getD (i - 1) 0 = (barsOf p dn v)[i - 1]'(by omega) := by simp [List.getD_eq_getElem?_getD, List.getElem?_eq_getElem (show i - 1 < (barsOf p dn v).length by omega)]
      have e2 : (barsOf p dn v).getD i 0 = (barsOf p dn v)[i]'hi := by simp [List.getD_eq_getElem?_getD, List.getElem?_eq_getElem hi]
      rw [e1, e2, Bool.or_eq_true]
      exact .inr (decide_eq_true ha)
  rw [hp, hv, h]; simp
/-- the first point that may be raised next, if there is one; k steps at most -/
def raiseRun (p : Pin) (l : List Int) : Nat → List (Int × List Int) × List Int → List (Int × List Int) × List Int
  | 0, st => st
  | k + 1, st => match l.find? (upOk p st.2) with
    | some v => raiseRun p l k (st.1 ++ [(v, barsOf p st.2 v)], st.2 ++ [v])
    | none => st
theorem raiseRun_none {p : Pin} {l : List Int} {st : List (Int × List Int) × List Int} (h : l.find? (upOk p st.2) = none) : ∀ k, raiseRun p l k st = st
  | 0 => rfl
  | k + 1 => by rw [raiseRun, h]
theorem raiseRun_len {p : Pin} {l : List Int} : ∀ (k : Nat) (st : List (Int × List Int) × List Int), (raiseRun p l k st).1.length ≤ st.1.length + k ∧ (raiseRun p l k st).2.length ≤ st.2.length + k
  | 0, st => by simp [raiseRun]
  | k + 1, st => by
    rw [raiseRun]
    split
    · rename_i v hv
      have := raiseRun_len (p := p) (l := l) k (st.1 ++ [(v, barsOf p st.2 v)], st.2 ++ [v])
      simp only [List.length_append, List.length_cons, List.length_nil] at this
      omega
    · omega
theorem find_at {l : List Int} {f : Int → Bool} {i : Nat} (hi : i < l.length) (h : f (l.getD i 0) = true) (hb : ∀ j, j < i → f (l.getD j 0) = false) : l.find? f = some (l.getD i 0) := by
  have e : l.getD i 0 = l[i] := by simp [List.getD_eq_getElem?_getD, List.getElem?_eq_getElem hi]
  rw [e] at h ⊢
  rw [List.find?_eq_some_iff_getElem]
  refine ⟨h, i, hi, rfl, fun j hj => ?_⟩
  have := hb j hj
  have e2 : l.getD j 0 = l[j] := by simp [List.getD_eq_getElem?_getD, List.getElem?_eq_getElem (show j < l.length by omega)]
  rw [e2] at this
  simp [this]
theorem find_no {l : List Int} {f : Int → Bool} (hb : ∀ j, j < l.length → f (l.getD j 0) = false) : l.find? f = none := by
  rw [List.find?_eq_none]
  intro x hx
  obtain ⟨j, hj, rfl⟩ := List.getElem_of_mem hx
  have := hb j hj
  have e2 : l.getD j 0 = l[j] := by simp [List.getD_eq_getElem?_getD, List.getElem?_eq_getElem hj]
  rw [e2] at this
  simp [this]
/-- how many are left -/
def leftN (l dn : List Int) : Nat := l.countP fun v => !dn.contains v
theorem leftN_push {l dn : List Int} {v : Int} (hv : v ∈ l) (hn : dn.contains v = false) : leftN l (dn ++ [v]) + 1 ≤ leftN l dn := by
  unfold leftN
  induction l with
  | nil => simp at hv
  | cons x l ih =>
    simp only [List.countP_cons]
    have hle : (l.countP fun w => !(dn ++ [v]).contains w) ≤ l.countP fun w => !dn.contains w := by
      refine List.countP_mono_left fun w _ h => ?_
      simp only [List.contains_append, Bool.not_or, Bool.and_eq_true] at h
      exact h.1
    by_cases hx : x = v
    · subst hx
      have e1 : (!(dn ++ [x]).contains x) = false := by simp
      rw [e1, hn]
      simp only [Bool.not_false, if_true, Bool.false_eq_true, if_false]
      omega
    · have hv' : v ∈ l := by simpa [Ne.symm hx] using hv
      have e : (!(dn ++ [v]).contains x) = !dn.contains x := by
        simp only [List.contains_append, List.contains_cons, List.contains_nil, Bool.or_false]
        have : (x == v) = false := by simpa using hx
        rw [this, Bool.or_false]
      rw [e]
      have := ih hv'
      omega
theorem raiseI_s (hN : 4000000 ≤ N) {p : Pin} (hp : isPinned p = true) {l : List Int} (hl : l.length ≤ 8) (hin : ∀ v ∈ l, isIn p v = true) {k : ((List (Int × List Int)) × (List Int)) → Option ((List (Int × List Int)) × Bool)} :
    ∀ (fuel i : Nat) (st : List (Int × List Int) × List Int), i ≤ l.length → st.1.length + leftN l st.2 ≤ 100 → st.2.length + leftN l st.2 ≤ 100 → (∀ j, j < i → upOk p st.2 (l.getD j 0) = false) → (leftN l st.2) * 9 + l.length < fuel + i →
    I_FindRaising_l1 N p l k fuel (st.1, st.2, (i : Int)) = k (raiseRun p l (leftN l st.2) st) := by
  intro fuel
  induction fuel with
  | zero => intro i st h1 _ _ _ h2; omega
  | succ fuel ih =>
    intro i st h1 hb1 hb2 hno h2
    rw [I_FindRaising_l1]
    by_cases hi : i < l.length
    · have e2 : ((i : Int)).toNat = i := by omega
      have hbd := isPinned_bd hp
      have hm : l.getD i 0 ∈ l := getD_mem hi
      rw [cnd_dt (by omega), grd_pos (by omega)]
      have hb := barsI_s (N := N) hN hp (dn := st.2) (v2 := l) (by omega) (i0 := (i : Int)) (k := fun (l174 : List Int) =>
            (I_IsRaise N p st.2 (⟨(l.getD ((i : Int)).toNat 0), l174⟩ : Rse)).bind fun v175 =>
            cnd v175 (
              grd (st.1.length + 1 ≤ 4294967296) <|
              grd (st.2.length + 1 ≤ 4294967296) <|
              grd (Rg64 ((-1 : Int) + (1 : Int))) <|
              I_FindRaising_l1 N p l k fuel ((st.1 ++ ([((l.getD ((i : Int)).toNat 0), l174)] : List (Int × List Int))), (st.2 ++ ([(l.getD ((i : Int)).toNat 0)] : List Int)), ((-1 : Int) + (1 : Int)))) (
              grd (Rg64 ((i : Int) + (1 : Int))) <|
              I_FindRaising_l1 N p l k fuel (st.1, st.2, ((i : Int) + (1 : Int))))) N 0 (by omega) (by omega)
      have e0 : barsTo p st.2 (l.getD ((i : Int)).toNat 0) 0 = [] := rfl
      rw [e0] at hb
      refine hb.trans ?_
      show (I_IsRaise N p st.2 (⟨(l.getD ((i : Int)).toNat 0), barsOf p st.2 (l.getD ((i : Int)).toNat 0)⟩ : Rse)).bind _ = _
      have hlb := barsTo_len p st.2 (l.getD i 0) p.g.bars.length
      rw [e2, isRaiseI_s N hN (by omega) (by omega) (by omega) (by show (barsTo p st.2 (l.getD i 0) p.g.bars.length).length ≤ 3000000; omega), Option.bind_some, raiseOk_of hp (hin _ hm)]
      cases hu : upOk p st.2 (l.getD i 0) with
      | true =>
        have hnc : st.2.contains (l.getD i 0) = false := by
          unfold upOk at hu
          simp only [Bool.and_eq_true, Bool.not_eq_true'] at hu
          exact hu.1
        have hp1 := leftN_push (l := l) hm hnc
        rw [cnd_true, grd_pos (by omega), grd_pos (by omega), grd_R (by omega) (by omega)]
        have hpos : ∃ c, leftN l st.2 = c + 1 := ⟨leftN l st.2 - 1, by omega⟩
        obtain ⟨c, hc⟩ := hpos
        have hrec := ih 0 (st.1 ++ [(l.getD i 0, barsOf p st.2 (l.getD i 0))], st.2 ++ [l.getD i 0]) (by omega) (by simp only [List.length_append, List.length_cons, List.length_nil]; omega) (by simp only [List.length_append, List.length_cons, List.length_nil]; omega) (by intro j hj; omega) (by simp only [List.length_append, List.length_cons, List.length_nil]; omega)
        have ez : ((-1 : Int) + 1) = ((0 : Nat) : Int) := by omega
        rw [ez]
        refine hrec.trans ?_
        congr 1
        rw [hc, raiseRun, find_at hi hu hno]
        -- as many steps as are needed
        have mono : ∀ (a b : Nat) (s : List (Int × List Int) × List Int), leftN l s.2 ≤ a → a ≤ b → raiseRun p l a s = raiseRun p l b s := by
          intro a
          induction a with
          | zero =>
            intro b s h3 h4
            have : l.find? (upOk p s.2) = none := by
              rw [List.find?_eq_none]
              intro x hx hxu
              have : 0 < leftN l s.2 := by
                unfold leftN
                rw [List.countP_pos_iff]
                refine ⟨x, hx, ?_⟩
                unfold upOk at hxu
                simp only [Bool.and_eq_true] at hxu
                exact hxu.1
              omega
            rw [raiseRun_none this b]; rfl
          | succ a iha =>
            intro b s h3 h4
            obtain ⟨b', rfl⟩ : ∃ b', b = b' + 1 := ⟨b - 1, by omega⟩
            rw [raiseRun, raiseRun]
            split
            · rename_i v hv
              have hvm := List.mem_of_find?_eq_some hv
              have hvu := List.find?_some hv
              have hvc : s.2.contains v = false := by
                unfold upOk at hvu
                simp only [Bool.and_eq_true, Bool.not_eq_true'] at hvu
                exact hvu.1
              have := leftN_push (l := l) hvm hvc
              exact iha b' _ (by show leftN l (s.2 ++ [v]) ≤ a; omega) (by omega)
            · rfl
        exact mono _ _ _ (Nat.le_refl _) (by show leftN l (st.2 ++ [l.getD i 0]) ≤ c; omega)
      | false =>
        rw [cnd_false, grd_R (by omega) (by omega), succ_cast]
        exact ih (i + 1) st (by omega) hb1 hb2 (fun j hj => by
          by_cases hji : j = i
          · subst hji; exact hu
          · exact hno j (by omega)) (by omega)
    · obtain rfl : i = l.length := by omega
      rw [cnd_df (by omega), raiseRun_none (find_no hno)]
theorem raiseS2_s (hN : 4000000 ≤ N) {p : Pin} (hp : isPinned p = true) {l : List Int} (hl : l.length ≤ 8) {st : List (Int × List Int) × List Int} (hb1 : st.1.length ≤ 100) (hb2 : st.2.length ≤ 100) {k : ((List (Int × List Int)) × (List Int)) → Option ((List (Int × List Int)) × Bool)} :
    ∀ (fuel i : Nat), i ≤ l.length → l.length < fuel + i → (∀ j, j < i → upOk p st.2 (l.getD j 0) = false) → S_FindRaising_l2 N p l st.1 st.2 k fuel (i : Int) = k (raiseRun p l 1 st) := by
  intro fuel
  induction fuel with
  | zero => intro i h1 h2; omega
  | succ fuel ih =>
    intro i h1 h2 hno
    rw [S_FindRaising_l2]
    by_cases hi : i < l.length
    · have e2 : ((i : Int)).toNat = i := by omega
      rw [cnd_dt (by omega), grd_pos (by omega), e2, barsS_s hN hp (by omega), Option.bind_some, l2Has_s N hN (by omega), Option.bind_some]
      have step : upOk p st.2 (l.getD i 0) = false → grd (Rg64 ((i : Int) + (1 : Int))) (S_FindRaising_l2 N p l st.1 st.2 k fuel ((i : Int) + (1 : Int))) = k (raiseRun p l 1 st) := fun hu => by
        rw [grd_R (by omega) (by omega), succ_cast]
        exact ih (i + 1) (by omega) (by omega) (fun j hj => by
          by_cases hji : j = i
          · subst hji; exact hu
          · exact hno j (by omega))
      cases hc : st.2.contains (l.getD i 0) with
      | true =>
        rw [Bool.not_true, cnd_false]
        exact step (by unfold upOk; rw [hc]; rfl)
      | false =>
        rw [Bool.not_false, cnd_true]
        by_cases h2' : 2 ≤ (barsOf p st.2 (l.getD i 0)).length
        · have hu : upOk p st.2 (l.getD i 0) = true := by unfold upOk; rw [hc, decide_eq_true h2']; rfl
          rw [cnd_dt (by omega), grd_pos (by omega), grd_pos (by omega), raiseRun, find_at hi hu hno]
          rfl
        · rw [cnd_df (by omega)]
          exact step (by unfold upOk; rw [hc, decide_eq_false h2']; rfl)
    · obtain rfl : i = l.length := by omega
      rw [cnd_df (by omega), raiseRun_none (find_no hno)]
theorem raiseRun_add {p : Pin} {l : List Int} (b : Nat) : ∀ (a : Nat) (st : List (Int × List Int) × List Int), raiseRun p l b (raiseRun p l a st) = raiseRun p l (a + b) st
  | 0, st => by rw [Nat.zero_add]; rfl
  | a + 1, st => by
    rw [raiseRun, show a + 1 + b = (a + b) + 1 by omega, raiseRun]
    cases h : l.find? (upOk p st.2) with
    | some v => exact raiseRun_add b a _
    | none => exact raiseRun_none h b
theorem raiseS_s (hN : 4000000 ≤ N) {p : Pin} (hp : isPinned p = true) {l : List Int} (hl : l.length ≤ 8) {k : ((List (Int × List Int)) × (List Int)) → Option ((List (Int × List Int)) × Bool)} :
    ∀ (fuel i : Nat) (st : List (Int × List Int) × List Int), i ≤ l.length → l.length < fuel + i → st.1.length ≤ i → st.2.length ≤ i → S_FindRaising_l1 N p l k fuel (st.1, st.2, (i : Int)) = k (raiseRun p l (l.length - i) st) := by
  intro fuel
  induction fuel with
  | zero => intro i st h1 h2; omega
  | succ fuel ih =>
    intro i st h1 h2 h3 h4
    rw [S_FindRaising_l1]
    by_cases hi : i < l.length
    · rw [cnd_dt (by omega)]
      have h5 := raiseS2_s (N := N) hN hp hl (st := st) (by omega) (by omega) (k := fun (x : (List (Int × List Int)) × (List Int)) =>
          match x with
          | (l174, l175) =>
            grd (Rg64 ((i : Int) + (1 : Int))) <|
            S_FindRaising_l1 N p l k fuel (l174, l175, ((i : Int) + (1 : Int)))) N 0 (by omega) (by omega) (by intro j hj; omega)
      refine h5.trans ?_
      have hlen := raiseRun_len (p := p) (l := l) 1 st
      show grd _ (S_FindRaising_l1 N p l k fuel ((raiseRun p l 1 st).1, (raiseRun p l 1 st).2, ((i : Int) + 1))) = _
      rw [grd_R (by omega) (by omega), succ_cast]
      refine (ih (i + 1) (raiseRun p l 1 st) (by omega) (by omega) (by omega) (by omega)).trans ?_
      rw [raiseRun_add, show 1 + (l.length - (i + 1)) = l.length - i by omega]
    · obtain rfl : i = l.length := by omega
      rw [cnd_df (by omega), Nat.sub_self]; rfl
theorem inner_isIn {p : Pin} (hp : isPinned p = true) : ∀ v ∈ innerPts p, isIn p v = true := fun v hv => by
  rw [← innerPts_mem hp]; simpa using hv
theorem innerPts_len {p : Pin} : (innerPts p).length ≤ 8 := by
  unfold innerPts
  cases hp : isPinned p with
  | false => simp
  | true =>
    have hbd := isPinned_bd hp
    rw [cnd_true, inner_outside]
    have := outside_len p.ground p.g.n.toNat
    omega
/-- the raising that both sides find -/
theorem findRaising_x (hN : 4000000 ≤ N) {p : Pin} (hb : p.g.bars.length ≤ 3000000) (hg : p.ground.length ≤ 3000000) : ∃ (l : List (Int × List Int)) (b : Bool), l.length ≤ 8 ∧ S_FindRaising N p = some (l, b) ∧ I_FindRaising N p = some (l, b) := by
  unfold S_FindRaising I_FindRaising
  rw [innerS_s N hN hb hg, isPinnedI_s N hN hb hg, Option.bind_some, Option.bind_some]
  have hl := innerPts_len (p := p)
  cases hp : isPinned p with
  | false =>
    refine ⟨[], false, by simp, ?_, rfl⟩
    have h0 : innerPts p = [] := by unfold innerPts; rw [hp]; rfl
    rw [h0]
    obtain ⟨m, rfl⟩ : ∃ m, N = m + 1 := ⟨N - 1, by omega⟩
    rw [S_FindRaising_l1, cnd_df (by simp)]
    show (S_IsPinned _ p).bind _ = _
    rw [isPinnedS_s _ hN hb hg, hp]; rfl
  | true =>
    rw [Bool.not_true, cnd_false, innerI_s N hN hb hg, Option.bind_some]
    have hc : leftN (innerPts p) [] = (innerPts p).length := by
      unfold leftN
      rw [List.countP_eq_length]
      intro v _; rfl
    have h1 := raiseS_s (N := N) hN hp hl (k := fun (x : (List (Int × List Int)) × (List Int)) =>
      match x with
      | (l91, l92) =>
        (S_IsPinned N p).bind fun v93 =>
        cnd (!v93) (
          some (([] : List (Int × List Int)), false)) (
          cnd (decide ((l92.length : Int) < ((innerPts p).length : Int))) (
            some (([] : List (Int × List Int)), false)) (
            some (l91, true)))) N 0 ([], []) (by omega) (by omega) (by simp) (by simp)
    have h2 := raiseI_s (N := N) hN hp hl (inner_isIn hp) (k := fun (x : (List (Int × List Int)) × (List Int)) =>
        match x with
        | (l92, l93) =>
          cnd ((l93.length : Int) != ((innerPts p).length : Int)) (
            some (([] : List (Int × List Int)), false)) (
            some (l92, true))) N 0 ([], []) (by omega) (by simp only [List.length_nil]; omega) (by simp only [List.length_nil]; omega) (by intro j hj; omega) (by simp only [hc]; omega)
    have hlen := raiseRun_len (p := p) (l := innerPts p) (innerPts p).length ([], [])
    simp only [List.length_nil, Nat.zero_add] at hlen
    rw [Nat.sub_zero] at h1
    simp only [hc] at h2
    by_cases hq : (raiseRun p (innerPts p) (innerPts p).length ([], [])).2.length = (innerPts p).length
    · refine ⟨(raiseRun p (innerPts p) (innerPts p).length ([], [])).1, true, by omega, h1.trans ?_, h2.trans ?_⟩
      · show (S_IsPinned N p).bind _ = _
        rw [isPinnedS_s N hN hb hg, hp, Option.bind_some, Bool.not_true, cnd_false, cnd_df (by omega)]
      · show cnd _ _ _ = _
        rw [cnd_nef (by omega)]
    · refine ⟨[], false, by simp, h1.trans ?_, h2.trans ?_⟩
      · show (S_IsPinned N p).bind _ = _
        rw [isPinnedS_s N hN hb hg, hp, Option.bind_some, Bool.not_true, cnd_false, cnd_dt (by omega)]
      · show cnd _ _ _ = _
        rw [cnd_net (by omega)]
theorem needsGroup_x (hN : 4000000 ≤ N) {p : Pin} (hb : p.g.bars.length ≤ 3000000) (hg : p.ground.length ≤ 3000000) : ∃ b : Bool, S_NeedsGroup N p = some b ∧ I_NeedsGroup N p = some b := by
  obtain ⟨l, b, _, h1, h2⟩ := findRaising_x (N := N) hN hb hg
  obtain ⟨c, g1, g2⟩ := pinnedRigid_x (N := N) hN hb hg
  unfold S_NeedsGroup I_NeedsGroup
  rw [h1, h2, g1, g2]
  simp only [Option.bind_some]
  cases c
  · exact ⟨false, rfl, rfl⟩
  · exact ⟨!b, rfl, rfl⟩
end Go.Proofs.Ytkpmijmlbpdknaa

namespace Go.Proofs.Ytkpmijmlbpdknaa
open Go.RowKit
set_option linter.unusedVariables false
set_option linter.unusedSimpArgs false
def L_FnExactNeedsGroup (N : Nat) (aP_0 : Pin) : Option (Bool) :=
  (L_szPinned N aP_0 (1048576 : Int)).bind fun v1 =>
  cnd (decide (v1 < (0 : Int))) (
    some true) (
    (L_toPinned N aP_0).bind fun v2 =>
    (S_NeedsGroup N v2).bind fun v3 =>
    (L_toPinned N aP_0).bind fun v4 =>
    (I_NeedsGroup N v4).bind fun v5 =>
    cnd (v5 != v3) (
      some false) (
      (L_toPinned N aP_0).bind fun v6 =>
      (L_eqPinned N v4 v6).bind fun v7 =>
      cnd (!v7) (
        some false) (
        some true)))
set_option maxRecDepth 20000 in
set_option maxHeartbeats 1600000 in
theorem L_FnExactNeedsGroup_w (N : Nat) (aP_0 : Pin) (r : Bool) (h : L_FnExactNeedsGroup N aP_0 = some r) : PCall Try.prog 9 [pD aP_0] [] (.bool r) := by
  unfold L_FnExactNeedsGroup at h
  refine pcall_intro (TT := TT) tt Try.func9 rfl rfl Try.ntmps9 (congrArg Array.toList Try.results9) rfl rfl fun w0 => ?_
  refine vSeq ?_
  refine vRegion ?_
  refine oBox rfl rfl rfl rfl rfl rfl rfl rfl rfl ?_
  refine oVal tt rfl rfl rfl rfl rfl trivial ?_
  refine vNil ?_
  change VC _ _ _ _
  refine vSeq ?_
  refine vRegion ?_
  refine oVal tt rfl rfl rfl rfl rfl trivial ?_
  refine vNil ?_
  change VC _ _ _ _
  refine vSeq ?_
  refine vRegion ?_
  iterate 2 refine oVal tt rfl rfl rfl rfl rfl trivial ?_
  obtain ⟨v1, hc1, h⟩ := bind_inv h
  refine oCall (L_szPinned_w N aP_0 (1048576 : Int) v1 hc1) rfl rfl rfl rfl rfl rfl rfl rfl ⟨⟨rfl, rfl, rfl, trivial⟩, rfl, trivial⟩ ?_
  refine oVal tt rfl rfl rfl rfl rfl trivial ?_
  refine vNil ?_
  change VC _ _ _ _
  iterate 2 refine vSeq ?_
  refine vRegion ?_
  iterate 2 refine oVal tt rfl rfl rfl rfl rfl trivial ?_
  refine vNil ?_
  change VC _ _ _ _
  refine vCond rfl (fun hb2 => ?_) (fun hb2 => ?_)
  · replace h := cnd_t hb2 h
    refine vSeq ?_
    refine vRegion ?_
    refine oVal tt rfl rfl rfl rfl rfl trivial ?_
    refine vNil ?_
    change VC _ _ _ _
    refine vRet ?_
    change ∃ _, _
    cases h
    exact ⟨[], _, rfl, trivial, rfl, (.eq rfl), rfl⟩
  · replace h := cnd_f hb2 h
    refine vSkip ?_
    change VC _ _ _ _
    refine vSeq ?_
    refine vRegion ?_
    refine oVal tt rfl rfl rfl rfl rfl trivial ?_
    obtain ⟨v2, hc3, h⟩ := bind_inv h
    refine oCall (L_toPinned_w N aP_0 v2 hc3) rfl rfl rfl rfl rfl rfl rfl rfl ⟨⟨rfl, rfl, rfl, trivial⟩, trivial⟩ ?_
    obtain ⟨v3, hc4, h⟩ := bind_inv h
    refine oCall (S_NeedsGroup_w N v2 v3 hc4) rfl rfl rfl rfl rfl rfl rfl rfl ⟨⟨rfl, (.inl ⟨rfl, rfl⟩), (.inl ⟨rfl, rfl⟩), trivial⟩, trivial⟩ ?_
    refine oVal tt rfl rfl rfl rfl rfl trivial ?_
    refine vNil ?_
    change VC _ _ _ _
    refine vSeq ?_
    refine vRegion ?_
    refine oVal tt rfl rfl rfl rfl rfl trivial ?_
    obtain ⟨v4, hc5, h⟩ := bind_inv h
    refine oCall (L_toPinned_w N aP_0 v4 hc5) rfl rfl rfl rfl rfl rfl rfl rfl ⟨⟨rfl, rfl, rfl, trivial⟩, trivial⟩ ?_
    refine oAlloc tt rfl rfl rfl rfl rfl rfl rfl rfl rfl ?_
    refine oStore tt rfl rfl rfl rfl rfl rfl rfl rfl rfl rfl rfl ⟨trivial, trivial, trivial, trivial⟩ ?_
    refine vNil ?_
    change VC _ _ _ _
    refine vSeq ?_
    refine vRegion ?_
    refine oVal tt rfl rfl rfl rfl rfl trivial ?_
    obtain ⟨v5, hc6, h⟩ := bind_inv h
    refine oCall (I_NeedsGroup_w N v4 v5 hc6) rfl rfl rfl rfl rfl rfl rfl rfl ⟨⟨rfl, (.inl ⟨rfl, rfl⟩), (.inl ⟨rfl, rfl⟩), trivial⟩, trivial⟩ ?_
    refine oVal tt rfl rfl rfl rfl rfl trivial ?_
    refine vNil ?_
    change VC _ _ _ _
    iterate 2 refine vSeq ?_
    refine vRegion ?_
    iterate 2 refine oVal tt rfl rfl rfl rfl rfl trivial ?_
    refine oPure (wNone rfl) (pNeB Try.underlying4 rfl rfl rfl) rfl rfl ?_
    refine vNil ?_
    change VC _ _ _ _
    refine vCond rfl (fun hb7 => ?_) (fun hb7 => ?_)
    · replace h := cnd_t hb7 h
      refine vSeq ?_
      refine vRegion ?_
      refine oVal tt rfl rfl rfl rfl rfl trivial ?_
      refine vNil ?_
      change VC _ _ _ _
      refine vRet ?_
      change ∃ _, _
      cases h
      exact ⟨[], _, rfl, trivial, rfl, (.eq rfl), rfl⟩
    · replace h := cnd_f hb7 h
      refine vSkip ?_
      change VC _ _ _ _
      iterate 2 refine vSeq ?_
      refine vRegionN 3 [2] [0, 0, 2, 7, 15] (by kernel_rfl) (by kernel_rfl) (by kernel_rfl) (by kernel_rfl) (by kernel_rfl) rfl (by rfl) ?_
      iterate 2 refine nVal tt rfl (wNone rfl) rfl rfl rfl rfl rfl trivial ?_
      obtain ⟨v6, hc8, h⟩ := bind_inv h
      refine nCallR (L_toPinned_w N aP_0 v6 hc8) rfl (wNone rfl) rfl rfl rfl rfl rfl rfl (by first | rfl | kernel_rfl | (simp [nrL, nm, gdst, nmT, rowB]; done)) rfl (by first | rfl | kernel_rfl | (simp [chkE, nrL, nm, gdst, nmT, rowB, hid, ment, mentA, mentS]; done) | (simp [chkE, nrL, nm, gdst, nmT, rowB, hid, ment, mentA, mentS]; decide)) ⟨⟨rfl, rfl, rfl, trivial⟩, trivial⟩ ?_
      refine nNil ?_
      change VO _ _ _ _ _
      obtain ⟨v7, hc9, h⟩ := bind_inv h
      refine oCall (L_eqPinned_w N v4 v6 v7 hc9) rfl rfl rfl rfl rfl rfl rfl rfl ⟨⟨rfl, (.inl ⟨rfl, rfl⟩), (.inl ⟨rfl, rfl⟩), trivial⟩, ⟨rfl, (.inl ⟨rfl, rfl⟩), (.inl ⟨rfl, rfl⟩), trivial⟩, trivial⟩ ?_
      refine oVal tt rfl rfl rfl rfl rfl trivial ?_
      refine vNil ?_
      change VC _ _ _ _
      refine vCond rfl (fun hb10 => ?_) (fun hb10 => ?_)
      · replace h := cnd_t hb10 h
        refine vSeq ?_
        refine vRegion ?_
        refine oVal tt rfl rfl rfl rfl rfl trivial ?_
        refine vNil ?_
        change VC _ _ _ _
        refine vRet ?_
        change ∃ _, _
        cases h
        exact ⟨[], _, rfl, trivial, rfl, (.eq rfl), rfl⟩
      · replace h := cnd_f hb10 h
        refine vSkip ?_
        change VC _ _ _ _
        refine vSeq ?_
        refine vRegion ?_
        refine oVal tt rfl rfl rfl rfl rfl trivial ?_
        refine vNil ?_
        change VC _ _ _ _
        refine vRet ?_
        change ∃ _, _
        cases h
        exact ⟨[], _, rfl, trivial, rfl, (.eq rfl), rfl⟩
end Go.Proofs.Ytkpmijmlbpdknaa

namespace Go.Proofs.Ytkpmijmlbpdknaa
open Go.RowKit
set_option linter.unusedVariables false
set_option linter.unusedSimpArgs false
def S_l21Assign_l2 (N : Nat) (p_0 : Pin) (at_1 : Int) (owner_2 : List Int) (l37 : List Int) (k38 : Int) (k : Int → Option (Bool × (List Int))) : Nat → (Int × Int) → Option (Bool × (List Int))
  | 0, _ => none
  | n + 1, (n53, i54) =>
    cnd (decide (i54 < at_1)) (
      grd (0 ≤ i54 ∧ i54 < (owner_2.length : Int)) <|
      grd (0 ≤ i54 ∧ i54 < (l37.length : Int)) <|
      grd (0 ≤ k38 ∧ k38 < (([(p_0.g.bars.getD ((at_1).toNat) (0, 0)).1, (p_0.g.bars.getD ((at_1).toNat) (0, 0)).2] : List Int).length : Int)) <|
      cnd ((l37.getD ((i54).toNat) 0) == (([(p_0.g.bars.getD ((at_1).toNat) (0, 0)).1, (p_0.g.bars.getD ((at_1).toNat) (0, 0)).2] : List Int).getD ((k38).toNat) 0)) (
        grd (Rg64 (n53 + (1 : Int))) <|
        grd (Rg64 (i54 + (1 : Int))) <|
        S_l21Assign_l2 N p_0 at_1 owner_2 l37 k38 k n ((n53 + (1 : Int)), (i54 + (1 : Int)))) (
        grd (Rg64 (i54 + (1 : Int))) <|
        S_l21Assign_l2 N p_0 at_1 owner_2 l37 k38 k n (n53, (i54 + (1 : Int))))) (
      k n53)
def S_l21Assign_l1 (N : Nat) (p_0 : Pin) (at_1 : Int) (owner_2 : List Int) (rec_99 : Pin → Int → (List Int) → Option (Bool × (List Int))) (k : (List Int) → Option (Bool × (List Int))) : Nat → ((List Int) × Int) → Option (Bool × (List Int))
  | 0, _ => none
  | n + 1, (l37, k38) =>
    cnd (decide (k38 < (2 : Int))) (
      S_l21Assign_l2 N p_0 at_1 owner_2 l37 k38 (fun (n49 : Int) =>
            cnd (decide (n49 < (2 : Int))) (
              grd (0 ≤ k38 ∧ k38 < (([(p_0.g.bars.getD ((at_1).toNat) (0, 0)).1, (p_0.g.bars.getD ((at_1).toNat) (0, 0)).2] : List Int).length : Int)) <|
              (S_l2Has N p_0.ground (([(p_0.g.bars.getD ((at_1).toNat) (0, 0)).1, (p_0.g.bars.getD ((at_1).toNat) (0, 0)).2] : List Int).getD ((k38).toNat) 0)).bind fun v50 =>
              cnd (!v50) (
                grd (0 ≤ at_1 ∧ at_1 < (owner_2.length : Int)) <|
                grd (0 ≤ at_1 ∧ at_1 < (l37.length : Int)) <|
                grd (Rg64 (at_1 + (1 : Int))) <|
                grd (owner_2.length = (l37.set ((at_1).toNat) (([(p_0.g.bars.getD ((at_1).toNat) (0, 0)).1, (p_0.g.bars.getD ((at_1).toNat) (0, 0)).2] : List Int).getD ((k38).toNat) 0)).length) <|
                (rec_99 (⟨⟨p_0.g.n, p_0.g.bars⟩, p_0.ground⟩ : Pin) (at_1 + (1 : Int)) (l37.set ((at_1).toNat) (([(p_0.g.bars.getD ((at_1).toNat) (0, 0)).1, (p_0.g.bars.getD ((at_1).toNat) (0, 0)).2] : List Int).getD ((k38).toNat) 0))).bind fun v51 =>
                cnd v51.1 (
                  some (true, v51.2)) (
                  grd (Rg64 (k38 + (1 : Int))) <|
                  S_l21Assign_l1 N p_0 at_1 owner_2 rec_99 k n (v51.2, (k38 + (1 : Int))))) (
                grd (Rg64 (k38 + (1 : Int))) <|
                S_l21Assign_l1 N p_0 at_1 owner_2 rec_99 k n (l37, (k38 + (1 : Int))))) (
              grd (Rg64 (k38 + (1 : Int))) <|
              S_l21Assign_l1 N p_0 at_1 owner_2 rec_99 k n (l37, (k38 + (1 : Int))))) N ((0 : Int), (0 : Int))) (
      k l37)
def S_l21Assign_b (N : Nat) (rec_99 : Pin → Int → (List Int) → Option (Bool × (List Int))) (p_0 : Pin) (at_1 : Int) (owner_2 : List Int) : Option (Bool × (List Int)) :=
  cnd (at_1 == (p_0.g.bars.length : Int)) (
    some (true, owner_2)) (
    grd (0 ≤ at_1 ∧ at_1 < (p_0.g.bars.length : Int)) <|
    S_l21Assign_l1 N p_0 at_1 owner_2 rec_99 (fun (l27 : List Int) =>
          some (false, l27)) N (owner_2, (0 : Int)))
def S_l21Assign_r (N : Nat) : Nat → Pin → Int → (List Int) → Option (Bool × (List Int))
  | 0, _, _, _ => none
  | d + 1, p_0, at_1, owner_2 => S_l21Assign_b N (S_l21Assign_r N d) p_0 at_1 owner_2
def S_l21Assign (N : Nat) (p_0 : Pin) (at_1 : Int) (owner_2 : List Int) : Option (Bool × (List Int)) := S_l21Assign_r N N p_0 at_1 owner_2
set_option maxRecDepth 20000 in
set_option maxHeartbeats 1600000 in
theorem S_l21Assign_bw (N : Nat) (rec_99 : Pin → Int → (List Int) → Option (Bool × (List Int))) (hrec : ∀ (p_0 : Pin) (at_1 : Int) (owner_2 : List Int) (r : Bool × (List Int)), rec_99 p_0 at_1 owner_2 = some r → MCall Try.prog 80 [pD p_0, .int at_1, .row 1000020 0 owner_2.length] [1000020] [] [(3, .ints owner_2)] [(3, .ints r.2)] [] [] (.bool r.1)) (p_0 : Pin) (at_1 : Int) (owner_2 : List Int) (r : Bool × (List Int)) (h : S_l21Assign_b N rec_99 p_0 at_1 owner_2 = some r) : MCall Try.prog 80 [pD p_0, .int at_1, .row 1000020 0 owner_2.length] [1000020] [] [(3, .ints owner_2)] [(3, .ints r.2)] [] [] (.bool r.1) := by
  unfold S_l21Assign_b at h
  refine mcall_intro (TT := TT) tt Try.func80 rfl rfl Try.ntmps80 (congrArg Array.toList Try.results80) rfl rfl rfl rfl rfl fun w0 O0 => ?_
  refine vSeq ?_
  refine vRegion ?_
  refine oBox rfl rfl rfl rfl rfl rfl rfl rfl rfl ?_
  refine oVal tt rfl rfl rfl rfl rfl trivial ?_
  refine vNil ?_
  change VC _ _ _ _
  iterate 2 refine vSeq ?_
  refine vRegion ?_
  iterate 6 refine oVal tt rfl rfl rfl rfl rfl trivial ?_
  refine vNil ?_
  change VC _ _ _ _
  refine vCond rfl (fun hb1 => ?_) (fun hb1 => ?_)
  · replace h := cnd_t hb1 h
    refine vSeq ?_
    refine vRegion ?_
    refine oVal tt rfl rfl rfl rfl rfl trivial ?_
    refine vNil ?_
    change VC _ _ _ _
    refine vRet ?_
    change ∃ _, _
    cases h
    exact ⟨[1000020], rfl, ⟨rfl, trivial⟩, trivial, rfl⟩
  · replace h := cnd_f hb1 h
    refine vSkip ?_
    change VC _ _ _ _
    refine vSeq ?_
    refine vRegionN 14 [] [0, 1, 3, 0, 15, 31, 63, 0, 128, 384, 0, 1920, 3968, 8064, 16383, 32767] (by kernel_rfl) (by kernel_rfl) (by kernel_rfl) (by kernel_rfl) (by kernel_rfl) rfl (by rfl) ?_
    iterate 4 refine nVal tt rfl (wNone rfl) rfl rfl rfl rfl rfl trivial ?_
    obtain ⟨hg2, h⟩ := grd_inv h
    refine nVal tt rfl (wNone rfl) rfl rfl rfl rfl rfl hg2 ?_
    iterate 6 refine nVal tt rfl (wNone rfl) rfl rfl rfl rfl rfl trivial ?_
    refine nVal tt rfl (wNone rfl) rfl rfl rfl rfl rfl hg2 ?_
    iterate 2 refine nVal tt rfl (wNone rfl) rfl rfl rfl rfl rfl trivial ?_
    refine nNil ?_
    change VO _ _ _ _ _
    refine oBuild tt rfl rfl rfl rfl rfl rfl rfl rfl rfl rfl rfl ?_
    refine oVal tt rfl rfl rfl rfl rfl trivial ?_
    refine vNil ?_
    change VC _ _ _ _
    iterate 2 refine vSeq ?_
    refine vRegion ?_
    refine oVal tt rfl rfl rfl rfl rfl trivial ?_
    refine vNil ?_
    change VC _ _ _ _
    refine vJoin (F := fun k => S_l21Assign_l1 N p_0 at_1 owner_2 rec_99 k) h (α := List Int) (J := fun (l27 : List Int) => (⟨[], [(1000020, some (3, .ints l27))], []⟩ : PS)) ?_ ?_
    · rintro l27 h
      show VC _ _ _ (⟨[], [(1000020, some (3, .ints l27))], []⟩ : PS)
      refine vSeq ?_
      refine vRegion ?_
      refine oVal tt rfl rfl rfl rfl rfl trivial ?_
      refine vNil ?_
      change VC _ _ _ _
      refine vRet ?_
      change ∃ _, _
      cases h
      exact ⟨[1000020], rfl, ⟨rfl, trivial⟩, trivial, rfl⟩
    · intro k h
      refine vBlock ?_
      refine vLoopS (α := (List Int) × Int) (fun | (l37, k38) => (⟨[(1, .int at_1), (2, .row 1000020 0 owner_2.length), (3, .ptr 3 0), (7, .row 31 0 (([(p_0.g.bars.getD ((at_1).toNat) (0, 0)).1, (p_0.g.bars.getD ((at_1).toNat) (0, 0)).2] : List Int).length)), (8, .int k38)], [(1000020, some (3, .ints l37)), (31, some (3, .ints ([(p_0.g.bars.getD ((at_1).toNat) (0, 0)).1, (p_0.g.bars.getD ((at_1).toNat) (0, 0)).2] : List Int)))], [(3, some [.int p_0.g.n, .ro false (.pairs p_0.g.bars), .ro false (.ints p_0.ground)])]⟩ : PS)) (S_l21Assign_l1 N p_0 at_1 owner_2 rec_99 k) h (En.of ⟨rfl, rfl, rfl, rfl, rfl, trivial⟩ ⟨rfl, rfl, trivial⟩ ⟨rfl, trivial⟩) (fun _ => rfl) ?_
      rintro n ⟨l37, k38⟩ h
      rw [S_l21Assign_l1] at h
      show VC _ _ _ (⟨[(1, .int at_1), (2, .row 1000020 0 owner_2.length), (3, .ptr 3 0), (7, .row 31 0 (([(p_0.g.bars.getD ((at_1).toNat) (0, 0)).1, (p_0.g.bars.getD ((at_1).toNat) (0, 0)).2] : List Int).length)), (8, .int k38)], [(1000020, some (3, .ints l37)), (31, some (3, .ints ([(p_0.g.bars.getD ((at_1).toNat) (0, 0)).1, (p_0.g.bars.getD ((at_1).toNat) (0, 0)).2] : List Int)))], [(3, some [.int p_0.g.n, .ro false (.pairs p_0.g.bars), .ro false (.ints p_0.ground)])]⟩ : PS)
      iterate 2 refine vSeq ?_
      refine vRegion ?_
      iterate 2 refine oVal tt rfl rfl rfl rfl rfl trivial ?_
      refine vNil ?_
      change VC _ _ _ _
      refine vCond rfl (fun hb3 => ?_) (fun hb3 => ?_)
      · replace h := cnd_t hb3 h
        refine vSkip ?_
        change VC _ _ _ _
        refine vSeq ?_
        refine vBlock ?_
        refine vSeq ?_
        refine vRegion ?_
        refine oVal tt rfl rfl rfl rfl rfl trivial ?_
        refine vNil ?_
        change VC _ _ _ _
        iterate 2 refine vSeq ?_
        refine vRegion ?_
        refine oVal tt rfl rfl rfl rfl rfl trivial ?_
        refine vNil ?_
        change VC _ _ _ _
        refine vJoin (F := fun k => S_l21Assign_l2 N p_0 at_1 owner_2 l37 k38 k) h (α := Int) (J := fun (n49 : Int) => (⟨[(1, .int at_1), (2, .row 1000020 0 owner_2.length), (3, .ptr 3 0), (7, .row 31 0 (([(p_0.g.bars.getD ((at_1).toNat) (0, 0)).1, (p_0.g.bars.getD ((at_1).toNat) (0, 0)).2] : List Int).length)), (8, .int k38), (9, .int n49)], [(1000020, some (3, .ints l37)), (31, some (3, .ints ([(p_0.g.bars.getD ((at_1).toNat) (0, 0)).1, (p_0.g.bars.getD ((at_1).toNat) (0, 0)).2] : List Int)))], [(3, some [.int p_0.g.n, .ro false (.pairs p_0.g.bars), .ro false (.ints p_0.ground)])]⟩ : PS)) ?_ ?_
        · rintro n49 h
          show VC _ _ _ (⟨[(1, .int at_1), (2, .row 1000020 0 owner_2.length), (3, .ptr 3 0), (7, .row 31 0 (([(p_0.g.bars.getD ((at_1).toNat) (0, 0)).1, (p_0.g.bars.getD ((at_1).toNat) (0, 0)).2] : List Int).length)), (8, .int k38), (9, .int n49)], [(1000020, some (3, .ints l37)), (31, some (3, .ints ([(p_0.g.bars.getD ((at_1).toNat) (0, 0)).1, (p_0.g.bars.getD ((at_1).toNat) (0, 0)).2] : List Int)))], [(3, some [.int p_0.g.n, .ro false (.pairs p_0.g.bars), .ro false (.ints p_0.ground)])]⟩ : PS)
          refine vSeq ?_
          refine vRegionD (by kernel_rfl) (by kernel_rfl) ?_
          iterate 3 refine cVal tt rfl (wNone rfl) rfl rfl rfl trivial ?_
          refine cSplit rfl rfl rfl (fun hb4 => ?_) (fun hb4 => ?_)
          · replace h := cnd_t hb4 h
            iterate 4 refine cVal tt rfl (wSome rfl rfl rfl rfl hb4) rfl rfl rfl trivial ?_
            obtain ⟨hg5, h⟩ := grd_inv h
            iterate 2 refine cVal tt rfl (wSome rfl rfl rfl rfl hb4) rfl rfl rfl hg5 ?_
            obtain ⟨v50, hc6, h⟩ := bind_inv h
            refine cCall (S_l2Has_w N p_0.ground (([(p_0.g.bars.getD ((at_1).toNat) (0, 0)).1, (p_0.g.bars.getD ((at_1).toNat) (0, 0)).2] : List Int).getD ((k38).toNat) 0) v50 hc6) rfl (wSome rfl rfl rfl rfl hb4) rfl rfl rfl rfl rfl rfl ⟨rfl, rfl, trivial⟩ ?_
            refine cVal tt rfl (wSome rfl rfl rfl rfl hb4) rfl rfl rfl trivial ?_
            refine cPickT rfl (wNone rfl) rfl rfl rfl hb4 rfl ?_
            refine cNil ?_
            change VC _ _ _ _
            refine vCond rfl (fun hb7 => ?_) (fun hb7 => ?_)
            · replace h := cnd_t hb7 h
              refine vSeq ?_
              refine vRegion ?_
              iterate 4 refine oVal tt rfl rfl rfl rfl rfl trivial ?_
              iterate 2 refine oVal tt rfl rfl rfl rfl rfl hg5 ?_
              obtain ⟨hg8, h⟩ := grd_inv h
              refine oVal tt rfl rfl rfl rfl rfl hg8 ?_
              obtain ⟨hg9, h⟩ := grd_inv h
              refine oStore tt rfl rfl rfl rfl rfl rfl rfl rfl rfl rfl ⟨_, _, rfl, hg9.1, hg9.2⟩ ⟨hg9, trivial⟩ ?_
              refine vNil ?_
              change VC _ _ _ _
              refine vSeq ?_
              refine vRegion ?_
              iterate 2 refine oVal tt rfl rfl rfl rfl rfl trivial ?_
              obtain ⟨hg10, h⟩ := grd_inv h
              refine oVal tt rfl rfl rfl rfl rfl hg10 ?_
              refine oVal tt rfl rfl rfl rfl rfl trivial ?_
              obtain ⟨hg11, h⟩ := grd_inv h
              refine oRowT 74 1000020 hg11 rfl ?_
              obtain ⟨v51, hc12, h⟩ := bind_inv h
              refine oMCall (hrec (⟨⟨p_0.g.n, p_0.g.bars⟩, p_0.ground⟩ : Pin) (at_1 + (1 : Int)) (l37.set ((at_1).toNat) (([(p_0.g.bars.getD ((at_1).toNat) (0, 0)).1, (p_0.g.bars.getD ((at_1).toNat) (0, 0)).2] : List Int).getD ((k38).toNat) 0)) v51 hc12) [1000020] [] [1000020] rfl rfl rfl rfl rfl rfl ⟨rfl, trivial⟩ trivial ⟨⟨⟨rfl, rfl⟩, .inl rfl, .inl rfl, trivial⟩, ⟨rfl, rfl⟩, ⟨rfl, rfl⟩, trivial⟩ ?_
              refine vNil ?_
              change VC _ _ _ _
              refine vCond rfl (fun hb13 => ?_) (fun hb13 => ?_)
              · replace h := cnd_t hb13 h
                refine vSeq ?_
                refine vRegion ?_
                refine oVal tt rfl rfl rfl rfl rfl trivial ?_
                refine vNil ?_
                change VC _ _ _ _
                refine vRet ?_
                change ∃ _, _
                cases h
                exact ⟨[1000020], rfl, ⟨rfl, trivial⟩, trivial, rfl⟩
              · replace h := cnd_f hb13 h
                refine vSkip ?_
                change VC _ _ _ _
                refine vRegion ?_
                refine oVal tt rfl rfl rfl rfl rfl trivial ?_
                obtain ⟨hg14, h⟩ := grd_inv h
                refine oVal tt rfl rfl rfl rfl rfl hg14 ?_
                refine oVal tt rfl rfl rfl rfl rfl trivial ?_
                refine vNil ?_
                change ∃ _, _
                exact ⟨(v51.2, (k38 + (1 : Int))), (En.of ⟨rfl, rfl, rfl, rfl, rfl, trivial⟩ ⟨rfl, rfl, trivial⟩ ⟨rfl, trivial⟩), h⟩
            · replace h := cnd_f hb7 h
              refine vSkip ?_
              change VC _ _ _ _
              refine vRegion ?_
              refine oVal tt rfl rfl rfl rfl rfl trivial ?_
              obtain ⟨hg15, h⟩ := grd_inv h
              refine oVal tt rfl rfl rfl rfl rfl hg15 ?_
              refine oVal tt rfl rfl rfl rfl rfl trivial ?_
              refine vNil ?_
              change ∃ _, _
              exact ⟨(l37, (k38 + (1 : Int))), (En.of ⟨rfl, rfl, rfl, rfl, rfl, trivial⟩ ⟨rfl, rfl, trivial⟩ ⟨rfl, trivial⟩), h⟩
          · replace h := cnd_f hb4 h
            iterate 8 refine cNoT rfl rfl rfl rfl hb4 rfl rfl ?_
            refine cPickF rfl (wNone rfl) rfl rfl rfl hb4 rfl ?_
            refine cNil ?_
            change VC _ _ _ _
            refine vCondF rfl rfl ?_
            refine vSkip ?_
            change VC _ _ _ _
            refine vRegion ?_
            refine oVal tt rfl rfl rfl rfl rfl trivial ?_
            obtain ⟨hg16, h⟩ := grd_inv h
            refine oVal tt rfl rfl rfl rfl rfl hg16 ?_
            refine oVal tt rfl rfl rfl rfl rfl trivial ?_
            refine vNil ?_
            change ∃ _, _
            exact ⟨(l37, (k38 + (1 : Int))), (En.of ⟨rfl, rfl, rfl, rfl, rfl, trivial⟩ ⟨rfl, rfl, trivial⟩ ⟨rfl, trivial⟩), h⟩
        · intro k h
          refine vBlock ?_
          refine vLoopS (α := Int × Int) (fun | (n53, i54) => (⟨[(1, .int at_1), (2, .row 1000020 0 owner_2.length), (3, .ptr 3 0), (7, .row 31 0 (([(p_0.g.bars.getD ((at_1).toNat) (0, 0)).1, (p_0.g.bars.getD ((at_1).toNat) (0, 0)).2] : List Int).length)), (8, .int k38), (9, .int n53), (10, .int i54)], [(1000020, some (3, .ints l37)), (31, some (3, .ints ([(p_0.g.bars.getD ((at_1).toNat) (0, 0)).1, (p_0.g.bars.getD ((at_1).toNat) (0, 0)).2] : List Int)))], [(3, some [.int p_0.g.n, .ro false (.pairs p_0.g.bars), .ro false (.ints p_0.ground)])]⟩ : PS)) (S_l21Assign_l2 N p_0 at_1 owner_2 l37 k38 k) h (En.of ⟨rfl, rfl, rfl, rfl, rfl, rfl, rfl, trivial⟩ ⟨rfl, rfl, trivial⟩ ⟨rfl, trivial⟩) (fun _ => rfl) ?_
          rintro n ⟨n53, i54⟩ h
          rw [S_l21Assign_l2] at h
          show VC _ _ _ (⟨[(1, .int at_1), (2, .row 1000020 0 owner_2.length), (3, .ptr 3 0), (7, .row 31 0 (([(p_0.g.bars.getD ((at_1).toNat) (0, 0)).1, (p_0.g.bars.getD ((at_1).toNat) (0, 0)).2] : List Int).length)), (8, .int k38), (9, .int n53), (10, .int i54)], [(1000020, some (3, .ints l37)), (31, some (3, .ints ([(p_0.g.bars.getD ((at_1).toNat) (0, 0)).1, (p_0.g.bars.getD ((at_1).toNat) (0, 0)).2] : List Int)))], [(3, some [.int p_0.g.n, .ro false (.pairs p_0.g.bars), .ro false (.ints p_0.ground)])]⟩ : PS)
          iterate 2 refine vSeq ?_
          refine vRegion ?_
          iterate 3 refine oVal tt rfl rfl rfl rfl rfl trivial ?_
          refine vNil ?_
          change VC _ _ _ _
          refine vCond rfl (fun hb17 => ?_) (fun hb17 => ?_)
          · replace h := cnd_t hb17 h
            refine vSkip ?_
            change VC _ _ _ _
            refine vSeq ?_
            refine vBlock ?_
            refine vSeq ?_
            refine vRegionD (by kernel_rfl) (by kernel_rfl) ?_
            iterate 2 refine cVal tt rfl (wNone rfl) rfl rfl rfl trivial ?_
            obtain ⟨hg18, h⟩ := grd_inv h
            refine cVal tt rfl (wNone rfl) rfl rfl rfl hg18 ?_
            obtain ⟨hg19, h⟩ := grd_inv h
            refine cVal tt rfl (wNone rfl) rfl rfl rfl hg19 ?_
            iterate 2 refine cVal tt rfl (wNone rfl) rfl rfl rfl trivial ?_
            obtain ⟨hg20, h⟩ := grd_inv h
            iterate 2 refine cVal tt rfl (wNone rfl) rfl rfl rfl hg20 ?_
            refine cVal tt rfl (wNone rfl) rfl rfl rfl trivial ?_
            refine cNil ?_
            change VC _ _ _ _
            refine vCond rfl (fun hb21 => ?_) (fun hb21 => ?_)
            · replace h := cnd_t hb21 h
              refine vRegion ?_
              refine oVal tt rfl rfl rfl rfl rfl trivial ?_
              obtain ⟨hg22, h⟩ := grd_inv h
              refine oVal tt rfl rfl rfl rfl rfl hg22 ?_
              refine oVal tt rfl rfl rfl rfl rfl trivial ?_
              refine vNil ?_
              change VC _ _ _ _
              refine vRegion ?_
              refine oVal tt rfl rfl rfl rfl rfl trivial ?_
              obtain ⟨hg23, h⟩ := grd_inv h
              refine oVal tt rfl rfl rfl rfl rfl hg23 ?_
              refine oVal tt rfl rfl rfl rfl rfl trivial ?_
              refine vNil ?_
              change ∃ _, _
              exact ⟨((n53 + (1 : Int)), (i54 + (1 : Int))), (En.of ⟨rfl, rfl, rfl, rfl, rfl, rfl, rfl, trivial⟩ ⟨rfl, rfl, trivial⟩ ⟨rfl, trivial⟩), h⟩
            · replace h := cnd_f hb21 h
              refine vSkip ?_
              change VC _ _ _ _
              refine vRegion ?_
              refine oVal tt rfl rfl rfl rfl rfl trivial ?_
              obtain ⟨hg24, h⟩ := grd_inv h
              refine oVal tt rfl rfl rfl rfl rfl hg24 ?_
              refine oVal tt rfl rfl rfl rfl rfl trivial ?_
              refine vNil ?_
              change ∃ _, _
              exact ⟨(n53, (i54 + (1 : Int))), (En.of ⟨rfl, rfl, rfl, rfl, rfl, rfl, rfl, trivial⟩ ⟨rfl, rfl, trivial⟩ ⟨rfl, trivial⟩), h⟩
          · replace h := cnd_f hb17 h
            refine vExit ?_
            change ∃ _, _
            exact ⟨n53, (En.of ⟨rfl, rfl, rfl, rfl, rfl, rfl, trivial⟩ ⟨rfl, rfl, trivial⟩ ⟨rfl, trivial⟩), h⟩
      · replace h := cnd_f hb3 h
        refine vExit ?_
        change ∃ _, _
        exact ⟨l37, (En.of trivial ⟨rfl, trivial⟩ trivial), h⟩
theorem S_l21Assign_rw (N : Nat) : ∀ (d : Nat) (p_0 : Pin) (at_1 : Int) (owner_2 : List Int) (r : Bool × (List Int)), S_l21Assign_r N d p_0 at_1 owner_2 = some r → MCall Try.prog 80 [pD p_0, .int at_1, .row 1000020 0 owner_2.length] [1000020] [] [(3, .ints owner_2)] [(3, .ints r.2)] [] [] (.bool r.1)
  | 0, _, _, _, r, h => by cases h
  | d + 1, p_0, at_1, owner_2, r, h => S_l21Assign_bw N _ (fun p_0 at_1 owner_2 r h => S_l21Assign_rw N d p_0 at_1 owner_2 r h) p_0 at_1 owner_2 r h
theorem S_l21Assign_w (N : Nat) (p_0 : Pin) (at_1 : Int) (owner_2 : List Int) (r : Bool × (List Int)) (h : S_l21Assign N p_0 at_1 owner_2 = some r) : MCall Try.prog 80 [pD p_0, .int at_1, .row 1000020 0 owner_2.length] [1000020] [] [(3, .ints owner_2)] [(3, .ints r.2)] [] [] (.bool r.1) := S_l21Assign_rw N N p_0 at_1 owner_2 r h
def S_OwnersOf (N : Nat) (p_0 : Pin) : Option ((List Int) × Bool) :=
  grd (0 ≤ (p_0.g.bars.length : Int) ∧ (p_0.g.bars.length : Int) ≤ 4294967296) <|
  (S_IsIsostatic N p_0).bind fun v1 =>
  cnd (!v1) (
    some (([] : List Int), false)) (
    (S_l21Assign N (⟨⟨p_0.g.n, p_0.g.bars⟩, p_0.ground⟩ : Pin) (0 : Int) (List.replicate (((p_0.g.bars.length : Int)).toNat) (0 : Int))).bind fun v2 =>
    cnd (!v2.1) (
      some (([] : List Int), false)) (
      grd ((List.replicate (((p_0.g.bars.length : Int)).toNat) (0 : Int)).length = v2.2.length) <|
      some (v2.2, true)))
set_option maxRecDepth 20000 in
set_option maxHeartbeats 1600000 in
theorem S_OwnersOf_w (N : Nat) (p_0 : Pin) (r : (List Int) × Bool) (h : S_OwnersOf N p_0 = some r) : PCall Try.prog 43 [pD p_0] [(3, .ints r.1)] (.tup [.row 0 0 r.1.length, .bool r.2]) := by
  unfold S_OwnersOf at h
  refine pcall_intro (TT := TT) tt Try.func43 rfl rfl Try.ntmps43 (congrArg Array.toList Try.results43) rfl rfl fun w0 => ?_
  refine vSeq ?_
  refine vRegion ?_
  refine oBox rfl rfl rfl rfl rfl rfl rfl rfl rfl ?_
  iterate 2 refine oVal tt rfl rfl rfl rfl rfl trivial ?_
  refine vNil ?_
  change VC _ _ _ _
  refine vSeq ?_
  refine vRegion ?_
  iterate 4 refine oVal tt rfl rfl rfl rfl rfl trivial ?_
  obtain ⟨hg1, h⟩ := grd_inv h
  refine oMake tt rfl rfl rfl rfl rfl rfl rfl rfl rfl rfl rfl hg1 ?_
  refine oVal tt rfl rfl rfl rfl rfl trivial ?_
  refine vNil ?_
  change VC _ _ _ _
  iterate 2 refine vSeq ?_
  refine vRegion ?_
  refine oVal tt rfl rfl rfl rfl rfl trivial ?_
  obtain ⟨v1, hc2, h⟩ := bind_inv h
  refine oCall (S_IsIsostatic_w N p_0 v1 hc2) rfl rfl rfl rfl rfl rfl rfl rfl ⟨⟨rfl, rfl, rfl, trivial⟩, trivial⟩ ?_
  iterate 2 refine oVal tt rfl rfl rfl rfl rfl trivial ?_
  refine oSplit rfl rfl rfl (fun hb3 => ?_) (fun hb3 => ?_)
  · replace h := cnd_t hb3 h
    iterate 4 refine oNoF rfl rfl rfl rfl hb3 rfl rfl ?_
    refine oPick rfl rfl rfl rfl rfl hb3 rfl ?_
    refine vNil ?_
    change VC _ _ _ _
    refine vCondT rfl rfl ?_
    refine vSeq ?_
    refine vRegion ?_
    refine oEmpty tt (wNone rfl) rfl rfl rfl rfl ?_
    iterate 2 refine oVal tt rfl rfl rfl rfl rfl trivial ?_
    refine vNil ?_
    change VC _ _ _ _
    refine vNilT 2 9001 3 (.ints []) rfl rfl rfl rfl ?_
    refine vRet ?_
    change ∃ _, _
    cases h
    exact ⟨[9001], _, rfl, ⟨rfl, trivial⟩, rfl, (.eq rfl), rfl⟩
  · replace h := cnd_f hb3 h
    iterate 2 refine oValG tt rfl rfl rfl rfl rfl hb3 rfl rfl rfl trivial ?_
    obtain ⟨v2, hc4, h⟩ := bind_inv h
    refine oMCallG (S_l21Assign_w N (⟨⟨p_0.g.n, p_0.g.bars⟩, p_0.ground⟩ : Pin) (0 : Int) (List.replicate (((p_0.g.bars.length : Int)).toNat) (0 : Int)) v2 hc4) [9] [] [9] rfl rfl rfl rfl hb3 rfl rfl rfl rfl rfl ⟨rfl, trivial⟩ trivial ⟨⟨⟨rfl, rfl⟩, .inl rfl, .inl rfl, trivial⟩, ⟨rfl, rfl⟩, ⟨rfl, rfl⟩, trivial⟩ ?_
    refine oValG tt rfl rfl rfl rfl rfl hb3 rfl rfl rfl trivial ?_
    refine oPickF rfl rfl rfl rfl rfl hb3 rfl ?_
    refine vNil ?_
    change VC _ _ _ _
    refine vCond rfl (fun hb5 => ?_) (fun hb5 => ?_)
    · replace h := cnd_t hb5 h
      refine vSeq ?_
      refine vRegion ?_
      refine oEmpty tt (wNone rfl) rfl rfl rfl rfl ?_
      iterate 2 refine oVal tt rfl rfl rfl rfl rfl trivial ?_
      refine vNil ?_
      change VC _ _ _ _
      refine vNilT 2 9001 3 (.ints []) rfl rfl rfl rfl ?_
      refine vRet ?_
      change ∃ _, _
      cases h
      exact ⟨[9001], _, rfl, ⟨rfl, trivial⟩, rfl, (.eq rfl), rfl⟩
    · replace h := cnd_f hb5 h
      refine vSkip ?_
      change VC _ _ _ _
      refine vSeq ?_
      refine vRegion ?_
      iterate 3 refine oVal tt rfl rfl rfl rfl rfl trivial ?_
      refine vNil ?_
      change VC _ _ _ _
      obtain ⟨hg6, h⟩ := grd_inv h
      refine vRet ?_
      change ∃ _, _
      cases h
      exact ⟨[9], _, rfl, ⟨rfl, trivial⟩, rfl, (.eq (by simp only [hg6]; rfl)), rfl⟩
def I_OwnersOf_1_l1 (N : Nat) (e_0 : Int) (p_2 : Pin) (rec_99 : Int → (List Int) → Pin → (List Int) → Option (Bool × (List Int) × (List Int))) (k : ((List Int) × (List Int) × Nat) → Option (Bool × (List Int) × (List Int))) : Nat → ((List Int) × (List Int) × Int × Nat) → Option (Bool × (List Int) × (List Int))
  | 0, _ => none
  | n + 1, (l17, l18, x19, n20) =>
    cnd (decide (x19 < (([(p_2.g.bars.getD ((e_0).toNat) (0, 0)).1, (p_2.g.bars.getD ((e_0).toNat) (0, 0)).2] : List Int).length : Int))) (
      grd (0 ≤ x19 ∧ x19 < (([(p_2.g.bars.getD ((e_0).toNat) (0, 0)).1, (p_2.g.bars.getD ((e_0).toNat) (0, 0)).2] : List Int).length : Int)) <|
      (M_Pinned_isInner N p_2 (([(p_2.g.bars.getD ((e_0).toNat) (0, 0)).1, (p_2.g.bars.getD ((e_0).toNat) (0, 0)).2] : List Int).getD ((x19).toNat) 0)).bind fun v23 =>
      cnd (!v23) (
        grd (Rg64 (x19 + (1 : Int))) <|
        I_OwnersOf_1_l1 N e_0 p_2 rec_99 k n (l17, l18, (x19 + (1 : Int)), n20)) (
        grd (0 ≤ (([(p_2.g.bars.getD ((e_0).toNat) (0, 0)).1, (p_2.g.bars.getD ((e_0).toNat) (0, 0)).2] : List Int).getD ((x19).toNat) 0) ∧ (([(p_2.g.bars.getD ((e_0).toNat) (0, 0)).1, (p_2.g.bars.getD ((e_0).toNat) (0, 0)).2] : List Int).getD ((x19).toNat) 0) < (n20 : Int)) <|
        grd (0 ≤ (([(p_2.g.bars.getD ((e_0).toNat) (0, 0)).1, (p_2.g.bars.getD ((e_0).toNat) (0, 0)).2] : List Int).getD ((x19).toNat) 0) ∧ (([(p_2.g.bars.getD ((e_0).toNat) (0, 0)).1, (p_2.g.bars.getD ((e_0).toNat) (0, 0)).2] : List Int).getD ((x19).toNat) 0) < (l18.length : Int)) <|
        cnd ((l18.getD (((([(p_2.g.bars.getD ((e_0).toNat) (0, 0)).1, (p_2.g.bars.getD ((e_0).toNat) (0, 0)).2] : List Int).getD ((x19).toNat) 0)).toNat) 0) == (2 : Int)) (
          grd (Rg64 (x19 + (1 : Int))) <|
          I_OwnersOf_1_l1 N e_0 p_2 rec_99 k n (l17, l18, (x19 + (1 : Int)), n20)) (
          grd (Rg64 ((l18.getD (((([(p_2.g.bars.getD ((e_0).toNat) (0, 0)).1, (p_2.g.bars.getD ((e_0).toNat) (0, 0)).2] : List Int).getD ((x19).toNat) 0)).toNat) 0) + (1 : Int))) <|
          grd (0 ≤ e_0 ∧ e_0 < (l17.length : Int)) <|
          grd (Rg64 (e_0 + (1 : Int))) <|
          grd (l17.length = (l17.set ((e_0).toNat) (([(p_2.g.bars.getD ((e_0).toNat) (0, 0)).1, (p_2.g.bars.getD ((e_0).toNat) (0, 0)).2] : List Int).getD ((x19).toNat) 0)).length) <|
          grd (n20 = (l18.set (((([(p_2.g.bars.getD ((e_0).toNat) (0, 0)).1, (p_2.g.bars.getD ((e_0).toNat) (0, 0)).2] : List Int).getD ((x19).toNat) 0)).toNat) ((l18.getD (((([(p_2.g.bars.getD ((e_0).toNat) (0, 0)).1, (p_2.g.bars.getD ((e_0).toNat) (0, 0)).2] : List Int).getD ((x19).toNat) 0)).toNat) 0) + (1 : Int))).length) <|
          (rec_99 (e_0 + (1 : Int)) (l17.set ((e_0).toNat) (([(p_2.g.bars.getD ((e_0).toNat) (0, 0)).1, (p_2.g.bars.getD ((e_0).toNat) (0, 0)).2] : List Int).getD ((x19).toNat) 0)) p_2 (l18.set (((([(p_2.g.bars.getD ((e_0).toNat) (0, 0)).1, (p_2.g.bars.getD ((e_0).toNat) (0, 0)).2] : List Int).getD ((x19).toNat) 0)).toNat) ((l18.getD (((([(p_2.g.bars.getD ((e_0).toNat) (0, 0)).1, (p_2.g.bars.getD ((e_0).toNat) (0, 0)).2] : List Int).getD ((x19).toNat) 0)).toNat) 0) + (1 : Int)))).bind fun v24 =>
          cnd v24.1 (
            some (true, v24.2.1, v24.2.2)) (
            grd (0 ≤ (([(p_2.g.bars.getD ((e_0).toNat) (0, 0)).1, (p_2.g.bars.getD ((e_0).toNat) (0, 0)).2] : List Int).getD ((x19).toNat) 0) ∧ (([(p_2.g.bars.getD ((e_0).toNat) (0, 0)).1, (p_2.g.bars.getD ((e_0).toNat) (0, 0)).2] : List Int).getD ((x19).toNat) 0) < (v24.2.2.length : Int)) <|
            grd (Rg64 ((v24.2.2.getD (((([(p_2.g.bars.getD ((e_0).toNat) (0, 0)).1, (p_2.g.bars.getD ((e_0).toNat) (0, 0)).2] : List Int).getD ((x19).toNat) 0)).toNat) 0) - (1 : Int))) <|
            grd (Rg64 (x19 + (1 : Int))) <|
            I_OwnersOf_1_l1 N e_0 p_2 rec_99 k n (v24.2.1, (v24.2.2.set (((([(p_2.g.bars.getD ((e_0).toNat) (0, 0)).1, (p_2.g.bars.getD ((e_0).toNat) (0, 0)).2] : List Int).getD ((x19).toNat) 0)).toNat) ((v24.2.2.getD (((([(p_2.g.bars.getD ((e_0).toNat) (0, 0)).1, (p_2.g.bars.getD ((e_0).toNat) (0, 0)).2] : List Int).getD ((x19).toNat) 0)).toNat) 0) - (1 : Int))), (x19 + (1 : Int)), v24.2.2.length))))) (
      k (l17, l18, n20))
def I_OwnersOf_1_b (N : Nat) (rec_99 : Int → (List Int) → Pin → (List Int) → Option (Bool × (List Int) × (List Int))) (e_0 : Int) (out_1 : List Int) (p_2 : Pin) (owned_3 : List Int) : Option (Bool × (List Int) × (List Int)) :=
  cnd (e_0 == (out_1.length : Int)) (
    some (true, out_1, owned_3)) (
    grd (0 ≤ e_0 ∧ e_0 < (p_2.g.bars.length : Int)) <|
    I_OwnersOf_1_l1 N e_0 p_2 rec_99 (fun (x : (List Int) × (List Int) × Nat) =>
        match x with
        | (l11, l12, n13) =>
          grd (n13 = l12.length) <|
          some (false, l11, l12)) N (out_1, owned_3, (0 : Int), owned_3.length))
def I_OwnersOf_1_r (N : Nat) : Nat → Int → (List Int) → Pin → (List Int) → Option (Bool × (List Int) × (List Int))
  | 0, _, _, _, _ => none
  | d + 1, e_0, out_1, p_2, owned_3 => I_OwnersOf_1_b N (I_OwnersOf_1_r N d) e_0 out_1 p_2 owned_3
def I_OwnersOf_1 (N : Nat) (e_0 : Int) (out_1 : List Int) (p_2 : Pin) (owned_3 : List Int) : Option (Bool × (List Int) × (List Int)) := I_OwnersOf_1_r N N e_0 out_1 p_2 owned_3
set_option maxRecDepth 20000 in
set_option maxHeartbeats 1600000 in
theorem I_OwnersOf_1_bw (N : Nat) (rec_99 : Int → (List Int) → Pin → (List Int) → Option (Bool × (List Int) × (List Int))) (hrec : ∀ (e_0 : Int) (out_1 : List Int) (p_2 : Pin) (owned_3 : List Int) (r : Bool × (List Int) × (List Int)), rec_99 e_0 out_1 p_2 owned_3 = some r → MCall Try.prog 81 [.int e_0, .ptr 1000001 0, .ptr 1000002 0, .ptr 1000003 0, .ptr 1000004 0] [900010, 900030] [1000001, 1000002, 1000003, 1000004] [(3, .ints out_1), (3, .ints owned_3)] [(3, .ints r.2.1), (3, .ints r.2.2)] [[.row 900010 0 out_1.length], [.int p_2.g.n, .ro false (.pairs p_2.g.bars), .ro false (.ints p_2.ground)], [.row 900030 0 owned_3.length], [.clo 81 [1000001, 1000002, 1000003, 1000004]]] [[.row 900010 0 r.2.1.length], [.int p_2.g.n, .ro false (.pairs p_2.g.bars), .ro false (.ints p_2.ground)], [.row 900030 0 r.2.2.length], [.clo 81 [1000001, 1000002, 1000003, 1000004]]] (.bool r.1)) (e_0 : Int) (out_1 : List Int) (p_2 : Pin) (owned_3 : List Int) (r : Bool × (List Int) × (List Int)) (h : I_OwnersOf_1_b N rec_99 e_0 out_1 p_2 owned_3 = some r) : MCall Try.prog 81 [.int e_0, .ptr 1000001 0, .ptr 1000002 0, .ptr 1000003 0, .ptr 1000004 0] [900010, 900030] [1000001, 1000002, 1000003, 1000004] [(3, .ints out_1), (3, .ints owned_3)] [(3, .ints r.2.1), (3, .ints r.2.2)] [[.row 900010 0 out_1.length], [.int p_2.g.n, .ro false (.pairs p_2.g.bars), .ro false (.ints p_2.ground)], [.row 900030 0 owned_3.length], [.clo 81 [1000001, 1000002, 1000003, 1000004]]] [[.row 900010 0 r.2.1.length], [.int p_2.g.n, .ro false (.pairs p_2.g.bars), .ro false (.ints p_2.ground)], [.row 900030 0 r.2.2.length], [.clo 81 [1000001, 1000002, 1000003, 1000004]]] (.bool r.1) := by
  unfold I_OwnersOf_1_b at h
  refine mcall_intro (TT := TT) tt Try.func81 rfl rfl Try.ntmps81 (congrArg Array.toList Try.results81) rfl rfl rfl rfl rfl fun w0 O0 => ?_
  refine vSeq ?_
  refine vRegion ?_
  refine oVal tt rfl rfl rfl rfl rfl trivial ?_
  refine vNil ?_
  change VC _ _ _ _
  iterate 2 refine vSeq ?_
  refine vRegion ?_
  iterate 4 refine oVal tt rfl rfl rfl rfl rfl trivial ?_
  refine vNil ?_
  change VC _ _ _ _
  refine vCond rfl (fun hb1 => ?_) (fun hb1 => ?_)
  · replace h := cnd_t hb1 h
    refine vSeq ?_
    refine vRegion ?_
    refine oVal tt rfl rfl rfl rfl rfl trivial ?_
    refine vNil ?_
    change VC _ _ _ _
    refine vRet ?_
    change ∃ _, _
    cases h
    exact ⟨[900010, 900030], rfl, ⟨rfl, rfl, trivial⟩, ⟨rfl, rfl, rfl, rfl, trivial⟩, rfl⟩
  · replace h := cnd_f hb1 h
    refine vSkip ?_
    change VC _ _ _ _
    iterate 2 refine vSeq ?_
    refine vRegionN 17 [14] [0, 1, 3, 0, 15, 31, 63, 0, 128, 384, 0, 1920, 3968, 8064, 16383, 32767, 0] (by kernel_rfl) (by kernel_rfl) (by kernel_rfl) (by kernel_rfl) (by kernel_rfl) rfl (by rfl) ?_
    iterate 4 refine nVal tt rfl (wNone rfl) rfl rfl rfl rfl rfl trivial ?_
    obtain ⟨hg2, h⟩ := grd_inv h
    refine nVal tt rfl (wNone rfl) rfl rfl rfl rfl rfl hg2 ?_
    iterate 6 refine nVal tt rfl (wNone rfl) rfl rfl rfl rfl rfl trivial ?_
    refine nVal tt rfl (wNone rfl) rfl rfl rfl rfl rfl hg2 ?_
    iterate 2 refine nVal tt rfl (wNone rfl) rfl rfl rfl rfl rfl trivial ?_
    refine nBuild tt (wNone rfl) rfl rfl rfl rfl rfl rfl rfl rfl rfl rfl rfl rfl ?_
    iterate 2 refine nVal tt rfl (wNone rfl) rfl rfl rfl rfl rfl trivial ?_
    refine nNil ?_
    change VO _ _ _ _ _
    refine vNil ?_
    change VC _ _ _ _
    refine vJoin (F := fun k => I_OwnersOf_1_l1 N e_0 p_2 rec_99 k) h (α := (List Int) × (List Int) × Nat) (J := fun | (l11, l12, n13) => (⟨[], [(900010, some (3, .ints l11)), (900030, some (3, .ints l12))], [(1000001, some [.row 900010 0 l11.length]), (1000002, some [.int p_2.g.n, .ro false (.pairs p_2.g.bars), .ro false (.ints p_2.ground)]), (1000003, some [.row 900030 0 n13]), (1000004, some [.clo 81 [1000001, 1000002, 1000003, 1000004]])]⟩ : PS)) ?_ ?_
    · rintro ⟨l11, l12, n13⟩ h
      show VC _ _ _ (⟨[], [(900010, some (3, .ints l11)), (900030, some (3, .ints l12))], [(1000001, some [.row 900010 0 l11.length]), (1000002, some [.int p_2.g.n, .ro false (.pairs p_2.g.bars), .ro false (.ints p_2.ground)]), (1000003, some [.row 900030 0 n13]), (1000004, some [.clo 81 [1000001, 1000002, 1000003, 1000004]])]⟩ : PS)
      refine vSeq ?_
      refine vRegion ?_
      refine oVal tt rfl rfl rfl rfl rfl trivial ?_
      refine vNil ?_
      change VC _ _ _ _
      obtain ⟨hg3, h⟩ := grd_inv h
      refine vRowB 1000003 0 900030 rfl rfl hg3 rfl ?_
      refine vRet ?_
      change ∃ _, _
      cases h
      exact ⟨[900010, 900030], rfl, ⟨rfl, rfl, trivial⟩, ⟨rfl, rfl, rfl, rfl, trivial⟩, rfl⟩
    · intro k h
      refine vBlock ?_
      refine vLoopS (α := (List Int) × (List Int) × Int × Nat) (fun | (l17, l18, x19, n20) => (⟨[(0, .int e_0), (1, .ptr 1000001 0), (2, .ptr 1000002 0), (3, .ptr 1000003 0), (4, .ptr 1000004 0), (27, .row 27 0 (([(p_2.g.bars.getD ((e_0).toNat) (0, 0)).1, (p_2.g.bars.getD ((e_0).toNat) (0, 0)).2] : List Int).length)), (28, .int (([(p_2.g.bars.getD ((e_0).toNat) (0, 0)).1, (p_2.g.bars.getD ((e_0).toNat) (0, 0)).2] : List Int).length : Int)), (29, .int x19)], [(27, some (3, .ints ([(p_2.g.bars.getD ((e_0).toNat) (0, 0)).1, (p_2.g.bars.getD ((e_0).toNat) (0, 0)).2] : List Int))), (900010, some (3, .ints l17)), (900030, some (3, .ints l18))], [(1000001, some [.row 900010 0 l17.length]), (1000002, some [.int p_2.g.n, .ro false (.pairs p_2.g.bars), .ro false (.ints p_2.ground)]), (1000003, some [.row 900030 0 n20]), (1000004, some [.clo 81 [1000001, 1000002, 1000003, 1000004]])]⟩ : PS)) (I_OwnersOf_1_l1 N e_0 p_2 rec_99 k) h (En.of ⟨rfl, rfl, rfl, rfl, rfl, rfl, rfl, rfl, trivial⟩ ⟨rfl, rfl, rfl, trivial⟩ ⟨rfl, rfl, rfl, rfl, trivial⟩) (fun _ => rfl) ?_
      rintro n ⟨l17, l18, x19, n20⟩ h
      rw [I_OwnersOf_1_l1] at h
      show VC _ _ _ (⟨[(0, .int e_0), (1, .ptr 1000001 0), (2, .ptr 1000002 0), (3, .ptr 1000003 0), (4, .ptr 1000004 0), (27, .row 27 0 (([(p_2.g.bars.getD ((e_0).toNat) (0, 0)).1, (p_2.g.bars.getD ((e_0).toNat) (0, 0)).2] : List Int).length)), (28, .int (([(p_2.g.bars.getD ((e_0).toNat) (0, 0)).1, (p_2.g.bars.getD ((e_0).toNat) (0, 0)).2] : List Int).length : Int)), (29, .int x19)], [(27, some (3, .ints ([(p_2.g.bars.getD ((e_0).toNat) (0, 0)).1, (p_2.g.bars.getD ((e_0).toNat) (0, 0)).2] : List Int))), (900010, some (3, .ints l17)), (900030, some (3, .ints l18))], [(1000001, some [.row 900010 0 l17.length]), (1000002, some [.int p_2.g.n, .ro false (.pairs p_2.g.bars), .ro false (.ints p_2.ground)]), (1000003, some [.row 900030 0 n20]), (1000004, some [.clo 81 [1000001, 1000002, 1000003, 1000004]])]⟩ : PS)
      refine vSeq ?_
      refine vRegion ?_
      refine oVal tt rfl rfl rfl rfl rfl trivial ?_
      refine vNil ?_
      change VC _ _ _ _
      refine vSeq ?_
      refine vCond rfl (fun hb4 => ?_) (fun hb4 => ?_)
      · replace h := cnd_t hb4 h
        refine vSkip ?_
        change VC _ _ _ _
        refine vSeq ?_
        refine vBlock ?_
        refine vSeq ?_
        refine vRegion ?_
        obtain ⟨hg5, h⟩ := grd_inv h
        iterate 2 refine oVal tt rfl rfl rfl rfl rfl hg5 ?_
        refine oVal tt rfl rfl rfl rfl rfl trivial ?_
        refine vNil ?_
        change VC _ _ _ _
        iterate 2 refine vSeq ?_
        refine vRegion ?_
        iterate 2 refine oVal tt rfl rfl rfl rfl rfl trivial ?_
        obtain ⟨v23, hc6, h⟩ := bind_inv h
        refine oCall (M_Pinned_isInner_w N p_2 (([(p_2.g.bars.getD ((e_0).toNat) (0, 0)).1, (p_2.g.bars.getD ((e_0).toNat) (0, 0)).2] : List Int).getD ((x19).toNat) 0) v23 hc6) rfl rfl rfl rfl rfl rfl rfl rfl ⟨⟨rfl, rfl, rfl, trivial⟩, rfl, trivial⟩ ?_
        iterate 2 refine oVal tt rfl rfl rfl rfl rfl trivial ?_
        refine oSplit rfl rfl rfl (fun hb7 => ?_) (fun hb7 => ?_)
        · replace h := cnd_t hb7 h
          iterate 5 refine oNoF rfl rfl rfl rfl hb7 rfl rfl ?_
          refine oPick rfl rfl rfl rfl rfl hb7 rfl ?_
          refine vNil ?_
          change VC _ _ _ _
          refine vCondT rfl rfl ?_
          refine vExit ?_
          change VC _ _ _ _
          refine vRegion ?_
          obtain ⟨hg8, h⟩ := grd_inv h
          refine oVal tt rfl rfl rfl rfl rfl hg8 ?_
          refine oVal tt rfl rfl rfl rfl rfl trivial ?_
          refine vNil ?_
          change ∃ _, _
          exact ⟨(l17, l18, (x19 + (1 : Int)), n20), (En.of ⟨rfl, rfl, rfl, rfl, rfl, rfl, rfl, rfl, trivial⟩ ⟨rfl, rfl, rfl, trivial⟩ ⟨rfl, rfl, rfl, rfl, trivial⟩), h⟩
        · replace h := cnd_f hb7 h
          iterate 2 refine oValG tt rfl rfl rfl rfl rfl hb7 rfl rfl rfl trivial ?_
          obtain ⟨hg9, h⟩ := grd_inv h
          refine oValG tt rfl rfl rfl rfl rfl hb7 rfl rfl rfl hg9 ?_
          obtain ⟨hg10, h⟩ := grd_inv h
          refine oValG tt rfl rfl rfl rfl rfl hb7 rfl rfl rfl hg10 ?_
          refine oValG tt rfl rfl rfl rfl rfl hb7 rfl rfl rfl trivial ?_
          refine oPickF rfl rfl rfl rfl rfl hb7 rfl ?_
          refine vNil ?_
          change VC _ _ _ _
          refine vCond rfl (fun hb11 => ?_) (fun hb11 => ?_)
          · replace h := cnd_t hb11 h
            refine vExit ?_
            change VC _ _ _ _
            refine vRegion ?_
            obtain ⟨hg12, h⟩ := grd_inv h
            refine oVal tt rfl rfl rfl rfl rfl hg12 ?_
            refine oVal tt rfl rfl rfl rfl rfl trivial ?_
            refine vNil ?_
            change ∃ _, _
            exact ⟨(l17, l18, (x19 + (1 : Int)), n20), (En.of ⟨rfl, rfl, rfl, rfl, rfl, rfl, rfl, rfl, trivial⟩ ⟨rfl, rfl, rfl, trivial⟩ ⟨rfl, rfl, rfl, rfl, trivial⟩), h⟩
          · replace h := cnd_f hb11 h
            refine vSkip ?_
            change VC _ _ _ _
            refine vSeq ?_
            refine vRegion ?_
            iterate 2 refine oVal tt rfl rfl rfl rfl rfl trivial ?_
            refine oVal tt rfl rfl rfl rfl rfl hg9 ?_
            refine oVal tt rfl rfl rfl rfl rfl hg10 ?_
            obtain ⟨hg13, h⟩ := grd_inv h
            refine oVal tt rfl rfl rfl rfl rfl hg13 ?_
            refine oVal tt rfl rfl rfl rfl rfl hg9 ?_
            refine oStore tt rfl rfl rfl rfl rfl rfl rfl rfl rfl rfl ⟨_, _, rfl, hg10.1, hg10.2⟩ ⟨hg10, trivial⟩ ?_
            refine vNil ?_
            change VC _ _ _ _
            refine vSeq ?_
            refine vRegion ?_
            iterate 3 refine oVal tt rfl rfl rfl rfl rfl trivial ?_
            obtain ⟨hg14, h⟩ := grd_inv h
            refine oVal tt rfl rfl rfl rfl rfl hg14 ?_
            refine oStore tt rfl rfl rfl rfl rfl rfl rfl rfl rfl rfl ⟨_, _, rfl, hg14.1, hg14.2⟩ ⟨hg14, trivial⟩ ?_
            refine vNil ?_
            change VC _ _ _ _
            iterate 2 refine vSeq ?_
            refine vRegion ?_
            iterate 2 refine oVal tt rfl rfl rfl rfl rfl trivial ?_
            obtain ⟨hg15, h⟩ := grd_inv h
            refine oVal tt rfl rfl rfl rfl rfl hg15 ?_
            obtain ⟨hg16, h⟩ := grd_inv h
            refine oRowB 1000001 0 900010 rfl rfl hg16 rfl ?_
            obtain ⟨hg17, h⟩ := grd_inv h
            refine oRowB 1000003 0 900030 rfl rfl hg17 rfl ?_
            obtain ⟨v24, hc18, h⟩ := bind_inv h
            refine oMCloX [1000001, 1000002, 1000003, 1000004] [.int (e_0 + (1 : Int))] (hrec (e_0 + (1 : Int)) (l17.set ((e_0).toNat) (([(p_2.g.bars.getD ((e_0).toNat) (0, 0)).1, (p_2.g.bars.getD ((e_0).toNat) (0, 0)).2] : List Int).getD ((x19).toNat) 0)) p_2 (l18.set (((([(p_2.g.bars.getD ((e_0).toNat) (0, 0)).1, (p_2.g.bars.getD ((e_0).toNat) (0, 0)).2] : List Int).getD ((x19).toNat) 0)).toNat) ((l18.getD (((([(p_2.g.bars.getD ((e_0).toNat) (0, 0)).1, (p_2.g.bars.getD ((e_0).toNat) (0, 0)).2] : List Int).getD ((x19).toNat) 0)).toNat) 0) + (1 : Int))) v24 hc18) [900010, 900030] [1000001, 1000002, 1000003, 1000004] [1570, 1571] rfl rfl rfl rfl rfl rfl rfl rfl rfl  ⟨rfl, rfl, trivial⟩ ⟨rfl, rfl, rfl, rfl, trivial⟩ ⟨⟨rfl, rfl⟩, trivial⟩ ?_
            refine vNil ?_
            change VC _ _ _ _
            refine vCond rfl (fun hb19 => ?_) (fun hb19 => ?_)
            · replace h := cnd_t hb19 h
              refine vSeq ?_
              refine vRegion ?_
              refine oVal tt rfl rfl rfl rfl rfl trivial ?_
              refine vNil ?_
              change VC _ _ _ _
              refine vRet ?_
              change ∃ _, _
              cases h
              exact ⟨[1570, 1571], rfl, ⟨rfl, rfl, trivial⟩, ⟨rfl, rfl, rfl, rfl, trivial⟩, rfl⟩
            · replace h := cnd_f hb19 h
              refine vSkip ?_
              change VC _ _ _ _
              refine vRegion ?_
              iterate 2 refine oVal tt rfl rfl rfl rfl rfl trivial ?_
              obtain ⟨hg20, h⟩ := grd_inv h
              iterate 2 refine oVal tt rfl rfl rfl rfl rfl hg20 ?_
              obtain ⟨hg21, h⟩ := grd_inv h
              refine oVal tt rfl rfl rfl rfl rfl hg21 ?_
              refine oVal tt rfl rfl rfl rfl rfl hg20 ?_
              refine oStore tt rfl rfl rfl rfl rfl rfl rfl rfl rfl rfl ⟨_, _, rfl, hg20.1, hg20.2⟩ ⟨hg20, trivial⟩ ?_
              refine vNil ?_
              change VC _ _ _ _
              refine vRegion ?_
              obtain ⟨hg22, h⟩ := grd_inv h
              refine oVal tt rfl rfl rfl rfl rfl hg22 ?_
              refine oVal tt rfl rfl rfl rfl rfl trivial ?_
              refine vNil ?_
              change ∃ _, _
              exact ⟨(v24.2.1, (v24.2.2.set (((([(p_2.g.bars.getD ((e_0).toNat) (0, 0)).1, (p_2.g.bars.getD ((e_0).toNat) (0, 0)).2] : List Int).getD ((x19).toNat) 0)).toNat) ((v24.2.2.getD (((([(p_2.g.bars.getD ((e_0).toNat) (0, 0)).1, (p_2.g.bars.getD ((e_0).toNat) (0, 0)).2] : List Int).getD ((x19).toNat) 0)).toNat) 0) - (1 : Int))), (x19 + (1 : Int)), v24.2.2.length), (En.ren [900010, 900030] [1570, 1571] rfl ⟨.inr rfl, .inr rfl, .inr rfl, .inr rfl, .inr rfl, .inr rfl, .inr rfl, .inr rfl, trivial⟩ ⟨.inr rfl, .inr rfl, .inr rfl, trivial⟩ ⟨.inr ⟨_, _, rfl, rfl, ⟨.inr rfl, trivial⟩⟩, .inr ⟨_, _, rfl, rfl, ⟨.inr rfl, .inr rfl, .inr rfl, trivial⟩⟩, .inr ⟨_, _, rfl, rfl, ⟨.inr rfl, trivial⟩⟩, .inr ⟨_, _, rfl, rfl, ⟨.inr rfl, trivial⟩⟩, trivial⟩), h⟩
      · replace h := cnd_f hb4 h
        refine vExit ?_
        change ∃ _, _
        exact ⟨(l17, l18, n20), (En.of trivial ⟨rfl, rfl, trivial⟩ ⟨rfl, rfl, rfl, rfl, trivial⟩), h⟩
theorem I_OwnersOf_1_rw (N : Nat) : ∀ (d : Nat) (e_0 : Int) (out_1 : List Int) (p_2 : Pin) (owned_3 : List Int) (r : Bool × (List Int) × (List Int)), I_OwnersOf_1_r N d e_0 out_1 p_2 owned_3 = some r → MCall Try.prog 81 [.int e_0, .ptr 1000001 0, .ptr 1000002 0, .ptr 1000003 0, .ptr 1000004 0] [900010, 900030] [1000001, 1000002, 1000003, 1000004] [(3, .ints out_1), (3, .ints owned_3)] [(3, .ints r.2.1), (3, .ints r.2.2)] [[.row 900010 0 out_1.length], [.int p_2.g.n, .ro false (.pairs p_2.g.bars), .ro false (.ints p_2.ground)], [.row 900030 0 owned_3.length], [.clo 81 [1000001, 1000002, 1000003, 1000004]]] [[.row 900010 0 r.2.1.length], [.int p_2.g.n, .ro false (.pairs p_2.g.bars), .ro false (.ints p_2.ground)], [.row 900030 0 r.2.2.length], [.clo 81 [1000001, 1000002, 1000003, 1000004]]] (.bool r.1)
  | 0, _, _, _, _, r, h => by cases h
  | d + 1, e_0, out_1, p_2, owned_3, r, h => I_OwnersOf_1_bw N _ (fun e_0 out_1 p_2 owned_3 r h => I_OwnersOf_1_rw N d e_0 out_1 p_2 owned_3 r h) e_0 out_1 p_2 owned_3 r h
theorem I_OwnersOf_1_w (N : Nat) (e_0 : Int) (out_1 : List Int) (p_2 : Pin) (owned_3 : List Int) (r : Bool × (List Int) × (List Int)) (h : I_OwnersOf_1 N e_0 out_1 p_2 owned_3 = some r) : MCall Try.prog 81 [.int e_0, .ptr 1000001 0, .ptr 1000002 0, .ptr 1000003 0, .ptr 1000004 0] [900010, 900030] [1000001, 1000002, 1000003, 1000004] [(3, .ints out_1), (3, .ints owned_3)] [(3, .ints r.2.1), (3, .ints r.2.2)] [[.row 900010 0 out_1.length], [.int p_2.g.n, .ro false (.pairs p_2.g.bars), .ro false (.ints p_2.ground)], [.row 900030 0 owned_3.length], [.clo 81 [1000001, 1000002, 1000003, 1000004]]] [[.row 900010 0 r.2.1.length], [.int p_2.g.n, .ro false (.pairs p_2.g.bars), .ro false (.ints p_2.ground)], [.row 900030 0 r.2.2.length], [.clo 81 [1000001, 1000002, 1000003, 1000004]]] (.bool r.1) := I_OwnersOf_1_rw N N e_0 out_1 p_2 owned_3 r h
def I_OwnersOf (N : Nat) (p_0 : Pin) : Option ((List Int) × Bool) :=
  (I_IsIsostatic N p_0).bind fun v1 =>
  cnd (!v1) (
    some (([] : List Int), false)) (
    grd (0 ≤ (p_0.g.bars.length : Int) ∧ (p_0.g.bars.length : Int) ≤ 4294967296) <|
    grd (0 ≤ p_0.g.n ∧ p_0.g.n ≤ 4294967296) <|
    (I_OwnersOf_1 N (0 : Int) (List.replicate (((p_0.g.bars.length : Int)).toNat) (0 : Int)) p_0 (List.replicate ((p_0.g.n).toNat) (0 : Int))).bind fun v2 =>
    cnd (!v2.1) (
      some (([] : List Int), false)) (
      some (v2.2.1, true)))
set_option maxRecDepth 20000 in
set_option maxHeartbeats 1600000 in
theorem I_OwnersOf_w (N : Nat) (p_0 : Pin) (r : (List Int) × Bool) (h : I_OwnersOf N p_0 = some r) : PCall Try.prog 44 [pD p_0] [(3, .ints r.1)] (.tup [.row 0 0 r.1.length, .bool r.2]) := by
  unfold I_OwnersOf at h
  refine pcall_intro (TT := TT) tt Try.func44 rfl rfl Try.ntmps44 (congrArg Array.toList Try.results44) rfl rfl fun w0 => ?_
  refine vSeq ?_
  refine vRegion ?_
  refine oBox rfl rfl rfl rfl rfl rfl rfl rfl rfl ?_
  iterate 2 refine oVal tt rfl rfl rfl rfl rfl trivial ?_
  refine vNil ?_
  change VC _ _ _ _
  iterate 2 refine vSeq ?_
  refine vRegion ?_
  refine oVal tt rfl rfl rfl rfl rfl trivial ?_
  obtain ⟨v1, hc1, h⟩ := bind_inv h
  refine oCall (I_IsIsostatic_w N p_0 v1 hc1) rfl rfl rfl rfl rfl rfl rfl rfl ⟨⟨rfl, rfl, rfl, trivial⟩, trivial⟩ ?_
  refine oVal tt rfl rfl rfl rfl rfl trivial ?_
  refine vNil ?_
  change VC _ _ _ _
  refine vCond rfl (fun hb2 => ?_) (fun hb2 => ?_)
  · replace h := cnd_t hb2 h
    refine vSeq ?_
    refine vRegion ?_
    refine oEmpty tt (wNone rfl) rfl rfl rfl rfl ?_
    iterate 2 refine oVal tt rfl rfl rfl rfl rfl trivial ?_
    refine vNil ?_
    change VC _ _ _ _
    refine vNilT 2 9001 3 (.ints []) rfl rfl rfl rfl ?_
    refine vRet ?_
    change ∃ _, _
    cases h
    exact ⟨[9001], _, rfl, ⟨rfl, trivial⟩, rfl, (.eq rfl), rfl⟩
  · replace h := cnd_f hb2 h
    refine vSkip ?_
    change VC _ _ _ _
    refine vSeq ?_
    refine vRegion ?_
    iterate 4 refine oVal tt rfl rfl rfl rfl rfl trivial ?_
    obtain ⟨hg3, h⟩ := grd_inv h
    refine oMake tt rfl rfl rfl rfl rfl rfl rfl rfl rfl rfl rfl hg3 ?_
    refine oAlloc tt rfl rfl rfl rfl rfl rfl rfl rfl rfl ?_
    refine oStore tt rfl rfl rfl rfl rfl rfl rfl rfl rfl rfl rfl ⟨trivial, trivial⟩ ?_
    refine vNil ?_
    change VC _ _ _ _
    refine vSeq ?_
    refine vRegion ?_
    iterate 3 refine oVal tt rfl rfl rfl rfl rfl trivial ?_
    obtain ⟨hg4, h⟩ := grd_inv h
    refine oMake tt rfl rfl rfl rfl rfl rfl rfl rfl rfl rfl rfl hg4 ?_
    refine oAlloc tt rfl rfl rfl rfl rfl rfl rfl rfl rfl ?_
    refine oStore tt rfl rfl rfl rfl rfl rfl rfl rfl rfl rfl rfl ⟨trivial, trivial⟩ ?_
    refine vNil ?_
    change VC _ _ _ _
    refine vSeq ?_
    refine vRegion ?_
    refine oAlloc tt rfl rfl rfl rfl rfl rfl rfl rfl rfl ?_
    refine vNil ?_
    change VC _ _ _ _
    refine vSeq ?_
    refine vRegion ?_
    refine oMakeFunc rfl [4, 1, 5, 6] rfl rfl rfl rfl ?_
    refine oStore tt rfl rfl rfl rfl rfl rfl rfl rfl rfl rfl rfl ⟨trivial, trivial⟩ ?_
    refine vNil ?_
    change VC _ _ _ _
    iterate 2 refine vSeq ?_
    refine vRegion ?_
    refine oVal tt rfl rfl rfl rfl rfl trivial ?_
    obtain ⟨v2, hc5, h⟩ := bind_inv h
    refine oMCloX [1000001, 1000002, 1000003, 1000004] [.int (0 : Int)] (I_OwnersOf_1_w N (0 : Int) (List.replicate (((p_0.g.bars.length : Int)).toNat) (0 : Int)) p_0 (List.replicate ((p_0.g.n).toNat) (0 : Int)) v2 hc5) [15, 19] [4, 1, 5, 6] [1220, 1221] rfl rfl rfl rfl rfl rfl rfl rfl rfl  ⟨rfl, rfl, trivial⟩ ⟨rfl, rfl, rfl, rfl, trivial⟩ ⟨⟨rfl, rfl⟩, trivial⟩ ?_
    refine oVal tt rfl rfl rfl rfl rfl trivial ?_
    refine vNil ?_
    change VC _ _ _ _
    refine vCond rfl (fun hb6 => ?_) (fun hb6 => ?_)
    · replace h := cnd_t hb6 h
      refine vSeq ?_
      refine vRegion ?_
      refine oEmpty tt (wNone rfl) rfl rfl rfl rfl ?_
      iterate 2 refine oVal tt rfl rfl rfl rfl rfl trivial ?_
      refine vNil ?_
      change VC _ _ _ _
      refine vNilT 2 9001 3 (.ints []) rfl rfl rfl rfl ?_
      refine vRet ?_
      change ∃ _, _
      cases h
      exact ⟨[9001], _, rfl, ⟨rfl, trivial⟩, rfl, (.eq rfl), rfl⟩
    · replace h := cnd_f hb6 h
      refine vSkip ?_
      change VC _ _ _ _
      refine vSeq ?_
      refine vRegion ?_
      iterate 3 refine oVal tt rfl rfl rfl rfl rfl trivial ?_
      refine vNil ?_
      change VC _ _ _ _
      refine vRet ?_
      change ∃ _, _
      cases h
      exact ⟨[1220], _, rfl, ⟨rfl, trivial⟩, rfl, (.eq rfl), rfl⟩
end Go.Proofs.Ytkpmijmlbpdknaa

namespace Go.Proofs.Ytkpmijmlbpdknaa
set_option linter.unusedVariables false
set_option linter.unusedSimpArgs false
variable {N : Nat}
/-- how many of the first e bars each point owns -/
def cnt (n e : Nat) (L : List Int) : List Int := (List.range n).map fun (v : Nat) => (((L.take e).count (v : Int) : Nat) : Int)
theorem cnt_len (n e : Nat) (L : List Int) : (cnt n e L).length = n := by simp [cnt]
theorem cnt_get {n e : Nat} {L : List Int} {v : Int} (h0 : 0 ≤ v) (h1 : v < n) : (cnt n e L).getD v.toNat 0 = (((L.take e).count v : Nat) : Int) := by
  have h : v.toNat < n := by omega
  have hv : ((v.toNat : Nat) : Int) = v := by omega
  simp [cnt, List.getD_eq_getElem?_getD, List.getElem?_range h, hv]
theorem take_set_succ {L : List Int} {e : Nat} (h : e < L.length) (v : Int) : (L.set e v).take (e + 1) = L.take e ++ [v] := by
  have h2 : e < (L.set e v).length := by simpa using h
  rw [List.take_add_one, List.take_set_of_le (Nat.le_refl _), List.getElem?_eq_getElem h2, List.getElem_set_self]; rfl
theorem take_set_self {L : List Int} {e : Nat} (v : Int) : (L.set e v).take e = L.take e := List.take_set_of_le (Nat.le_refl _)
theorem cnt_up {n e : Nat} {L : List Int} {v : Int} (h0 : 0 ≤ v) (h1 : v < n) (he : e < L.length) : (cnt n e L).set v.toNat ((cnt n e L).getD v.toNat 0 + 1) = cnt n (e + 1) (L.set e v) := by
  rw [cnt_get h0 h1]
  apply List.ext_getElem?
  intro i
  have hv : ((v.toNat : Nat) : Int) = v := by omega
  rw [List.getElem?_set, cnt_len]
  by_cases hi : i < n
  · have e2 : (cnt n (e + 1) (L.set e v))[i]? = some ((((L.take e ++ [v]).count (i : Int) : Nat)) : Int) := by simp [cnt, List.getElem?_range hi, take_set_succ he]
    have e1 : (cnt n e L)[i]? = some ((((L.take e).count (i : Int) : Nat)) : Int) := by simp [cnt, List.getElem?_range hi]
    rw [e1, e2]
    by_cases hvi : v.toNat = i
    · rw [if_pos hvi, if_pos (by omega)]
      subst hvi
      rw [hv, List.count_append, List.count_singleton_self]; rfl
    · rw [if_neg hvi, List.count_append]
      have : List.count (i : Int) [v] = 0 := by rw [List.count_eq_zero]; simp; omega
      rw [this]; rfl
  · rw [List.getElem?_eq_none (by rw [cnt_len]; omega), List.getElem?_eq_none (by rw [cnt_len]; omega)]
    split
    · split
      · omega
      · rfl
    · rfl
theorem cnt_down {n e : Nat} {L : List Int} {v : Int} (h0 : 0 ≤ v) (h1 : v < n) (he : e < L.length) : (cnt n (e + 1) (L.set e v)).set v.toNat ((cnt n (e + 1) (L.set e v)).getD v.toNat 0 - 1) = cnt n e L := by
  rw [cnt_get h0 h1, take_set_succ he]
  apply List.ext_getElem?
  intro i
  have hv : ((v.toNat : Nat) : Int) = v := by omega
  rw [List.getElem?_set, cnt_len]
  by_cases hi : i < n
  · have e2 : (cnt n (e + 1) (L.set e v))[i]? = some ((((L.take e ++ [v]).count (i : Int) : Nat)) : Int) := by simp [cnt, List.getElem?_range hi, take_set_succ he]
    have e1 : (cnt n e L)[i]? = some ((((L.take e).count (i : Int) : Nat)) : Int) := by simp [cnt, List.getElem?_range hi]
    rw [e1, e2]
    by_cases hvi : v.toNat = i
    · rw [if_pos hvi, if_pos (by omega)]
      subst hvi
      rw [hv, List.count_append, List.count_singleton_self]
      congr 1; omega
    · rw [if_neg hvi, List.count_append]
      have : List.count (i : Int) [v] = 0 := by rw [List.count_eq_zero]; simp; omega
      rw [this]; rfl
  · rw [List.getElem?_eq_none (by rw [cnt_len]; omega), List.getElem?_eq_none (by rw [cnt_len]; omega)]
    split
    · split
      · omega
      · rfl
    · rfl
theorem cnt_take {n e : Nat} {L L' : List Int} (h : L'.take e = L.take e) : cnt n e L' = cnt n e L := by unfold cnt; rw [h]
def cok (e : Nat) (L : List Int) : Prop := ∀ v : Int, (L.take e).count v ≤ 2
abbrev ends (p : Pin) (e : Nat) : List Int := [(p.g.bars.getD e (0, 0)).1, (p.g.bars.getD e (0, 0)).2]
theorem count2_s {p : Pin} {e : Nat} {L0 L : List Int} {k : Nat} (hk : k < 2) (h0 : L0.length = L.length) (he : e ≤ L.length) (hb : L.length ≤ 1000) {kk : Int → Option (Bool × List Int)} : ∀ (fuel i : Nat), i ≤ e → e < fuel + i →
    S_l21Assign_l2 N p (e : Int) L0 L (k : Int) kk fuel ((((L.take i).count ((ends p e).getD k 0) : Nat) : Int), (i : Int)) = kk (((L.take e).count ((ends p e).getD k 0) : Nat) : Int) := by
  intro fuel
  induction fuel with
  | zero => intro i h1 h2; omega
  | succ fuel ih =>
    intro i h1 h2
    rw [S_l21Assign_l2]
    by_cases hi : i < e
    · have e2 : ((i : Int)).toNat = i := by omega
      have e3 : ((k : Int)).toNat = k := by omega
      have e4 : ((e : Int)).toNat = e := by omega
      have hc : (L.take i).count ((ends p e).getD k 0) ≤ i := Nat.le_trans List.count_le_length (by rw [List.length_take]; omega)
      have hl : ([(p.g.bars.getD e (0, 0)).1, (p.g.bars.getD e (0, 0)).2] : List Int).length = 2 := rfl
      rw [cnd_dt (by omega), grd_pos (by omega), grd_pos (by omega), e4, grd_pos (by rw [hl]; omega), e2, e3]
      have hil : i < L.length := by omega
      have ht : L.take (i + 1) = L.take i ++ [L.getD i 0] := by
        rw [List.take_add_one, List.getElem?_eq_getElem hil, List.getD_eq_getElem?_getD, List.getElem?_eq_getElem hil]; rfl
      have hr := ih (i + 1) (by omega) (by omega)
      rw [ht, List.count_append] at hr
      by_cases hv : L.getD i 0 = (ends p e).getD k 0
      · rw [cnd_eqt hv, grd_R (by omega) (by omega), grd_R (by omega) (by omega), succ_cast, succ_cast]
        rw [hv, List.count_singleton_self] at hr
        exact hr
      · rw [cnd_eqf hv, grd_R (by omega) (by omega), succ_cast]
        have : List.count ((ends p e).getD k 0) [L.getD i 0] = 0 := by rw [List.count_eq_zero]; simpa using fun h => hv h.symm
        rw [this, Nat.add_zero] at hr
        exact hr
    · obtain rfl : i = e := by omega
      rw [cnd_df (by omega)]
theorem own1_s (hN : 4000000 ≤ N) {p : Pin} (hp : isPinned p = true) {n : Nat} (hn : p.g.n = n) {e : Nat} (he : e < p.g.bars.length) {rS : Pin → Int → List Int → Option (Bool × List Int)} {rI : Int → List Int → Pin → List Int → Option (Bool × List Int × List Int)} {L0 : List Int} (hL0 : L0.length = p.g.bars.length)
    (hrec : ∀ L : List Int, L.length = p.g.bars.length → cok (e + 1) L → ∃ (b : Bool) (L' o' : List Int), rS p ((e : Int) + 1) L = some (b, L') ∧ rI ((e : Int) + 1) L p (cnt n (e + 1) L) = some (b, L', o') ∧ L'.length = p.g.bars.length ∧ L'.take (e + 1) = L.take (e + 1) ∧ (b = false → o' = cnt n (e + 1) L)) :
    ∀ (fuel k : Nat) (L : List Int), k ≤ 2 → 2 < fuel + k → L.length = p.g.bars.length → cok e L →
    ∃ (b : Bool) (L' o' : List Int), S_l21Assign_l1 N p (e : Int) L0 rS (fun l => some (false, l)) fuel (L, (k : Int)) = some (b, L') ∧
      I_OwnersOf_1_l1 N (e : Int) p rI (fun (x : (List Int) × (List Int) × Nat) => match x with | (l11, l12, n13) => grd (n13 = l12.length) <| some (false, l11, l12)) fuel (L, cnt n e L, (k : Int), n) = some (b, L', o') ∧ L'.length = p.g.bars.length ∧ L'.take e = L.take e ∧ (b = false → o' = cnt n e L) := by
  have hbd := isPinned_bd hp
  have hbar := isPinned_bar hp he
  intro fuel
  induction fuel with
  | zero => intro k L h1 h2; omega
  | succ fuel ih =>
    intro k L h1 h2 hL hok
    rw [S_l21Assign_l1, I_OwnersOf_1_l1]
    have e4 : ((e : Int)).toNat = e := by omega
    have hl : ([(p.g.bars.getD e (0, 0)).1, (p.g.bars.getD e (0, 0)).2] : List Int).length = 2 := rfl
    rw [e4, hl]
    by_cases hk : k < 2
    · have e3 : ((k : Int)).toNat = k := by omega
      have e5 : ((((2 : Nat)) : Int)) = 2 := rfl
      rw [cnd_dt (by omega), cnd_dt (by omega), e3, e5]
      -- the end
      have hv : 0 ≤ (ends p e).getD k 0 ∧ (ends p e).getD k 0 < n := by
        rcases (by omega : k = 0 ∨ k = 1) with rfl | rfl
        · exact ⟨hbar.1, by show (p.g.bars.getD e (0, 0)).1 < _; omega⟩
        · exact ⟨hbar.2.2.1, by show (p.g.bars.getD e (0, 0)).2 < _; omega⟩
      have hcS := count2_s (N := N) (p := p) (e := e) (L0 := L0) (L := L) hk (by omega) (by omega) (by omega) (kk := (fun (n49 : Int) =>
            cnd (decide (n49 < (2 : Int))) (
              grd (0 ≤ (k : Int) ∧ (k : Int) < (2 : Int)) <|
              (S_l2Has N p.ground ((ends p e).getD k 0)).bind fun v50 =>
              cnd (!v50) (
                grd (0 ≤ (e : Int) ∧ (e : Int) < (L0.length : Int)) <|
                grd (0 ≤ (e : Int) ∧ (e : Int) < (L.length : Int)) <|
                grd (Rg64 ((e : Int) + (1 : Int))) <|
                grd (L0.length = (L.set e ((ends p e).getD k 0)).length) <|
                (rS (⟨⟨p.g.n, p.g.bars⟩, p.ground⟩ : Pin) ((e : Int) + (1 : Int)) (L.set e ((ends p e).getD k 0))).bind fun v51 =>
                cnd v51.1 (
                  some (true, v51.2)) (
                  grd (Rg64 ((k : Int) + (1 : Int))) <|
                  S_l21Assign_l1 N p e L0 rS (fun l => some (false, l)) fuel (v51.2, ((k : Int) + (1 : Int))))) (
                grd (Rg64 ((k : Int) + (1 : Int))) <|
                S_l21Assign_l1 N p e L0 rS (fun l => some (false, l)) fuel (L, ((k : Int) + (1 : Int))))) (
              grd (Rg64 ((k : Int) + (1 : Int))) <|
              S_l21Assign_l1 N p e L0 rS (fun l => some (false, l)) fuel (L, ((k : Int) + (1 : Int)))))) N 0 (by omega) (by omega)
      rw [List.take_zero, List.count_nil] at hcS
      have next := ih (k + 1) L (by omega) (by omega) hL hok
      rw [← succ_cast] at next
      have hin : isIn p ((ends p e).getD k 0) = !p.ground.contains ((ends p e).getD k 0) := by
        unfold isIn
        rw [inB_true.2 ⟨hv.1, by omega⟩, Bool.true_and]
      have hgd := cnt_get (e := e) (L := L) hv.1 hv.2
      have hcl := cnt_len n e L
      have hco := hok ((ends p e).getD k 0)
      have hI : ∀ X : Option (Bool × List Int × List Int), (grd (0 ≤ (k : Int) ∧ (k : Int) < 2) <| (M_Pinned_isInner N p ((ends p e).getD k 0)).bind fun v23 => cnd (!v23) (grd (Rg64 ((k : Int) + (1 : Int))) (I_OwnersOf_1_l1 N (e : Int) p rI (fun (x : (List Int) × (List Int) × Nat) => match x with | (l11, l12, n13) => grd (n13 = l12.length) <| some (false, l11, l12)) fuel (L, cnt n e L, ((k : Int) + (1 : Int)), n))) X) =
          cnd (p.ground.contains ((ends p e).getD k 0)) (I_OwnersOf_1_l1 N (e : Int) p rI (fun (x : (List Int) × (List Int) × Nat) => match x with | (l11, l12, n13) => grd (n13 = l12.length) <| some (false, l11, l12)) fuel (L, cnt n e L, ((k : Int) + (1 : Int)), n)) X := by
        intro X
        rw [grd_pos (by omega), isInner_s N hN hp, Option.bind_some, hin, Bool.not_not, grd_R (by omega) (by omega)]
      -- the same choice
      cases hg : p.ground.contains ((ends p e).getD k 0) with
      | true =>
        obtain ⟨b, L', o', n1, n2, n3, n4, n5⟩ := next
        refine ⟨b, L', o', ?_, ?_, n3, n4, n5⟩
        · refine hcS.trans ?_
          by_cases hlt : (L.take e).count ((ends p e).getD k 0) < 2
          · rw [cnd_dt (by omega), grd_pos (by omega), l2Has_s N hN (by omega), hg, Option.bind_some, Bool.not_true, cnd_false, grd_R (by omega) (by omega)]
            exact n1
          · rw [cnd_df (by omega), grd_R (by omega) (by omega)]
            exact n1
        · refine (hI _).trans ?_
          rw [hg, cnd_true]
          exact n2
      | false =>
        by_cases hlt : (L.take e).count ((ends p e).getD k 0) < 2
        · have hset : (L.set e ((ends p e).getD k 0)).length = p.g.bars.length := by simpa using hL
          have hok2 : cok (e + 1) (L.set e ((ends p e).getD k 0)) := by
            intro v
            rw [take_set_succ (by omega), List.count_append]
            by_cases hvv : v = (ends p e).getD k 0
            · rw [hvv, List.count_singleton_self]; omega
            · have : List.count v [(ends p e).getD k 0] = 0 := by rw [List.count_eq_zero]; simpa using hvv
              rw [this]; exact hok v
          obtain ⟨b, L', o', r1, r2, r3, r4, r5⟩ := hrec _ hset hok2
          have hup := cnt_up (n := n) (e := e) (L := L) hv.1 hv.2 (by omega)
          have hpe : (⟨⟨p.g.n, p.g.bars⟩, p.ground⟩ : Pin) = p := rfl
          have hul : (cnt n (e + 1) (L.set e ((ends p e).getD k 0))).length = n := cnt_len _ _ _
          have hne : ¬ (cnt n e L).getD ((ends p e).getD k 0).toNat 0 = 2 := by rw [hgd]; omega
          have hS : S_l21Assign_l2 N p (e : Int) L0 L (k : Int) (fun (n49 : Int) =>
            cnd (decide (n49 < (2 : Int))) (
              grd (0 ≤ (k : Int) ∧ (k : Int) < (2 : Int)) <|
              (S_l2Has N p.ground ((ends p e).getD k 0)).bind fun v50 =>
              cnd (!v50) (
                grd (0 ≤ (e : Int) ∧ (e : Int) < (L0.length : Int)) <|
                grd (0 ≤ (e : Int) ∧ (e : Int) < (L.length : Int)) <|
                grd (Rg64 ((e : Int) + (1 : Int))) <|
                grd (L0.length = (L.set e ((ends p e).getD k 0)).length) <|
                (rS (⟨⟨p.g.n, p.g.bars⟩, p.ground⟩ : Pin) ((e : Int) + (1 : Int)) (L.set e ((ends p e).getD k 0))).bind fun v51 =>
                cnd v51.1 (
                  some (true, v51.2)) (
                  grd (Rg64 ((k : Int) + (1 : Int))) <|
                  S_l21Assign_l1 N p e L0 rS (fun l => some (false, l)) fuel (v51.2, ((k : Int) + (1 : Int))))) (
                grd (Rg64 ((k : Int) + (1 : Int))) <|
                S_l21Assign_l1 N p e L0 rS (fun l => some (false, l)) fuel (L, ((k : Int) + (1 : Int))))) (
              grd (Rg64 ((k : Int) + (1 : Int))) <|
              S_l21Assign_l1 N p e L0 rS (fun l => some (false, l)) fuel (L, ((k : Int) + (1 : Int))))) N ((((0 : Nat) : Int)), (((0 : Nat) : Int))) = cnd b (some (true, L')) (S_l21Assign_l1 N p e L0 rS (fun l => some (false, l)) fuel (L', ((k : Int) + (1 : Int)))) := by
            refine hcS.trans ?_
            rw [cnd_dt (by omega), grd_pos (by omega), l2Has_s N hN (by omega), hg, Option.bind_some, Bool.not_false, cnd_true, grd_pos (by omega), grd_pos (by omega), grd_R (by omega) (by omega), grd_pos (by omega), hpe, r1, Option.bind_some, grd_R (by omega) (by omega)]
          cases b with
          | true =>
            refine ⟨true, L', o', hS, ?_, r3, ?_, fun h => by cases h⟩
            · refine (hI _).trans ?_
              rw [hg, cnd_false, grd_pos hv, grd_pos ⟨hv.1, by rw [hcl]; exact hv.2⟩, cnd_eqf hne, grd_R (by rw [hgd]; omega) (by rw [hgd]; omega), grd_pos (by omega), grd_R (by omega) (by omega), grd_pos (List.length_set).symm, grd_pos (by rw [List.length_set, hcl]), hup, r2, Option.bind_some]
              rfl
            · have := congrArg (List.take e) r4
              rw [List.take_take, List.take_take, Nat.min_eq_left (by omega), take_set_self] at this
              exact this
          | false =>
            have ht : L'.take e = L.take e := by
              have := congrArg (List.take e) r4
              rw [List.take_take, List.take_take, Nat.min_eq_left (by omega), take_set_self] at this
              exact this
            obtain ⟨b2, L2, o2, n1, n2, n3, n4, n5⟩ := ih (k + 1) L' (by omega) (by omega) r3 (by intro v; rw [ht]; exact hok v)
            rw [← succ_cast] at n1 n2
            rw [cnt_take ht] at n2 n5
            refine ⟨b2, L2, o2, hS.trans n1, ?_, n3, n4.trans ht, n5⟩
            refine (hI _).trans ?_
            have hdn := cnt_down (n := n) (e := e) (L := L) hv.1 hv.2 (by omega)
            have hgd2 := cnt_get (e := e + 1) (L := L.set e ((ends p e).getD k 0)) hv.1 hv.2
            have ho := r5 rfl
            subst ho
            have hco2 := hok2 ((ends p e).getD k 0)
            rw [hg, cnd_false, grd_pos hv, grd_pos ⟨hv.1, by rw [hcl]; exact hv.2⟩, cnd_eqf hne, grd_R (by rw [hgd]; omega) (by rw [hgd]; omega), grd_pos (by omega), grd_R (by omega) (by omega), grd_pos (List.length_set).symm, grd_pos (by rw [List.length_set, hcl]), hup, r2, Option.bind_some]
            show grd _ (grd _ (grd _ (I_OwnersOf_1_l1 N (e : Int) p rI _ fuel (L', (cnt n (e + 1) (L.set e ((ends p e).getD k 0))).set ((ends p e).getD k 0).toNat ((cnt n (e + 1) (L.set e ((ends p e).getD k 0))).getD ((ends p e).getD k 0).toNat 0 - 1), ((k : Int) + 1), (cnt n (e + 1) (L.set e ((ends p e).getD k 0))).length)))) = _
            rw [grd_pos ⟨hv.1, by rw [hul]; exact hv.2⟩, grd_R (by rw [hgd2]; omega) (by rw [hgd2]; omega), grd_R (by omega) (by omega), hdn, hul]
            exact n2
        · have heq : (cnt n e L).getD ((ends p e).getD k 0).toNat 0 = 2 := by rw [hgd]; omega
          obtain ⟨b, L', o', n1, n2, n3, n4, n5⟩ := next
          refine ⟨b, L', o', ?_, ?_, n3, n4, n5⟩
          · refine hcS.trans ?_
            rw [cnd_df (by omega), grd_R (by omega) (by omega)]
            exact n1
          · refine (hI _).trans ?_
            rw [hg, cnd_false, grd_pos hv, grd_pos ⟨hv.1, by rw [hcl]; exact hv.2⟩, cnd_eqt heq, grd_R (by omega) (by omega)]
            exact n2
    · obtain rfl : k = 2 := by omega
      refine ⟨false, L, cnt n e L, ?_, ?_, hL, rfl, fun _ => rfl⟩
      · rw [cnd_df (by omega)]
      · rw [cnd_df (by omega)]
        show grd _ _ = _
        rw [grd_pos (cnt_len n e L).symm]
theorem own_s (hN : 4000000 ≤ N) {p : Pin} (hp : isPinned p = true) {n : Nat} (hn : p.g.n = n) : ∀ (d e : Nat) (L : List Int), e ≤ p.g.bars.length → p.g.bars.length < d + e → L.length = p.g.bars.length → cok e L →
    ∃ (b : Bool) (L' o' : List Int), S_l21Assign_r N d p (e : Int) L = some (b, L') ∧ I_OwnersOf_1_r N d (e : Int) L p (cnt n e L) = some (b, L', o') ∧ L'.length = p.g.bars.length ∧ L'.take e = L.take e ∧ (b = false → o' = cnt n e L) := by
  have hbd := isPinned_bd hp
  intro d
  induction d with
  | zero => intro e L h1 h2; omega
  | succ d ih =>
    intro e L h1 h2 hL hok
    rw [S_l21Assign_r, I_OwnersOf_1_r]
    unfold S_l21Assign_b I_OwnersOf_1_b
    by_cases he : e < p.g.bars.length
    · rw [cnd_eqf (by omega), cnd_eqf (by omega), grd_pos (by omega), grd_pos (by omega)]
      have := own1_s (N := N) hN hp hn he (rS := S_l21Assign_r N d) (rI := I_OwnersOf_1_r N d) hL (fun L hL hok => by
        have := ih (e + 1) L (by omega) (by omega) hL hok
        rw [← succ_cast] at this
        exact this) N 0 L (by omega) (by omega) hL hok
      rw [cnt_len]
      exact this
    · obtain rfl : e = p.g.bars.length := by omega
      rw [cnd_eqt rfl, cnd_eqt (by omega)]
      exact ⟨true, L, _, rfl, rfl, hL, rfl, fun h => by cases h⟩
/-- the owners that both sides find -/
theorem owners_x (hN : 4000000 ≤ N) {p : Pin} (hb : p.g.bars.length ≤ 3000000) (hg : p.ground.length ≤ 3000000) : ∃ (l : List Int) (b : Bool), l.length ≤ 15 ∧ S_OwnersOf N p = some (l, b) ∧ I_OwnersOf N p = some (l, b) := by
  obtain ⟨b, g1, g2⟩ := isostatic_x (N := N) hN hb hg
  unfold S_OwnersOf I_OwnersOf
  rw [grd_pos (by omega), g1, g2, Option.bind_some, Option.bind_some]
  cases b with
  | false => exact ⟨[], false, by simp, rfl, rfl⟩
  | true =>
    have hp : isPinned p = true := by
      cases hp : isPinned p with
      | true => rfl
      | false =>
        unfold S_IsIsostatic S_IsPinnedRigid S_PinnedFreedom at g1
        rw [isPinnedS_s N hN hb hg, hp] at g1
        simp [cnd] at g1
    have hbd := isPinned_bd hp
    obtain ⟨n, hn⟩ : ∃ n : Nat, p.g.n = n := ⟨p.g.n.toNat, by omega⟩
    have e1 : ((p.g.bars.length : Int)).toNat = p.g.bars.length := by omega
    have e2 : (p.g.n).toNat = n := by omega
    have e3 : List.replicate n (0 : Int) = cnt n 0 (List.replicate p.g.bars.length (0 : Int)) := by
      apply List.ext_getElem?
      intro i
      by_cases hi : i < n
      · simp [cnt, List.getElem?_range hi, List.getElem?_replicate, hi]
      · rw [List.getElem?_eq_none (by simpa using Nat.le_of_not_lt hi), List.getElem?_eq_none (by rw [cnt_len]; omega)]
    obtain ⟨b, L', o', h1, h2, h3, h4, h5⟩ := own_s (N := N) hN hp hn N 0 (List.replicate p.g.bars.length (0 : Int)) (by omega) (by omega) (by simp) (by intro v; simp)
    have hpe : (⟨⟨p.g.n, p.g.bars⟩, p.ground⟩ : Pin) = p := rfl
    rw [Bool.not_true, cnd_false, cnd_false, grd_pos (by omega), grd_pos (by omega), e1, e2, e3, hpe]
    have h1' : S_l21Assign N p 0 (List.replicate p.g.bars.length (0 : Int)) = some (b, L') := h1
    have h2' : I_OwnersOf_1 N 0 (List.replicate p.g.bars.length (0 : Int)) p (cnt n 0 (List.replicate p.g.bars.length (0 : Int))) = some (b, L', o') := h2
    rw [h1', h2', Option.bind_some, Option.bind_some]
    cases b with
    | false => exact ⟨[], false, by simp, rfl, rfl⟩
    | true =>
      refine ⟨L', true, by omega, ?_, rfl⟩
      show grd _ _ = _
      rw [grd_pos (by rw [List.length_replicate, h3])]
end Go.Proofs.Ytkpmijmlbpdknaa

namespace Go.Proofs.Ytkpmijmlbpdknaa
open Go.RowKit
set_option linter.unusedVariables false
set_option linter.unusedSimpArgs false
def L_FnExactOwnersOf (N : Nat) (aP_0 : Pin) : Option (Bool) :=
  (L_szPinned N aP_0 (1048576 : Int)).bind fun v1 =>
  cnd (decide (v1 < (0 : Int))) (
    some true) (
    (L_toPinned N aP_0).bind fun v2 =>
    (S_OwnersOf N v2).bind fun v3 =>
    (L_toPinned N aP_0).bind fun v4 =>
    (I_OwnersOf N v4).bind fun v5 =>
    (L_eqIntS N v5.1 v3.1).bind fun v6 =>
    cnd (!v6) (
      some false) (
      cnd (v5.2 != v3.2) (
        some false) (
        (L_toPinned N aP_0).bind fun v7 =>
        (L_eqPinned N v4 v7).bind fun v8 =>
        cnd (!v8) (
          some false) (
          (L_markPinned N (⟨⟨v4.g.n, v4.g.bars⟩, v4.ground⟩ : Pin) (1 : Int)).bind fun v9 =>
          cnd (decide (v9.1 < (0 : Int))) (
            some false) (
            (L_eqIntS N v5.1 v3.1).bind fun v10 =>
            cnd (!v10) (
              some false) (
              (L_markIntS N v5.1 (1 : Int)).bind fun v11 =>
              grd (v5.1.length = v11.2.length) <|
              (L_heldIntS N v11.2 (1 : Int)).bind fun v12 =>
              cnd (decide (v12 < (0 : Int))) (
                some false) (
                cnd (v12 != v11.1) (
                  some false) (
                  (L_toPinned N aP_0).bind fun v13 =>
                  (I_OwnersOf N v13).bind fun v14 =>
                  (L_eqIntS N v14.1 v3.1).bind fun v15 =>
                  cnd (!v15) (
                    some false) (
                    cnd (v14.2 != v3.2) (
                      some false) (
                      (L_heldIntS N v11.2 (1 : Int)).bind fun v16 =>
                      cnd (decide (v16 < (0 : Int))) (
                        some false) (
                        cnd (v16 != v11.1) (
                          some false) (
                          some true))))))))))))
set_option maxRecDepth 20000 in
set_option maxHeartbeats 1600000 in
theorem L_FnExactOwnersOf_w (N : Nat) (aP_0 : Pin) (r : Bool) (h : L_FnExactOwnersOf N aP_0 = some r) : PCall Try.prog 13 [pD aP_0] [] (.bool r) := by
  unfold L_FnExactOwnersOf at h
  refine pcall_intro (TT := TT) tt Try.func13 rfl rfl Try.ntmps13 (congrArg Array.toList Try.results13) rfl rfl fun w0 => ?_
  refine vSeq ?_
  refine vRegion ?_
  refine oBox rfl rfl rfl rfl rfl rfl rfl rfl rfl ?_
  refine oVal tt rfl rfl rfl rfl rfl trivial ?_
  refine vNil ?_
  change VC _ _ _ _
  refine vSeq ?_
  refine vRegion ?_
  refine oVal tt rfl rfl rfl rfl rfl trivial ?_
  refine vNil ?_
  change VC _ _ _ _
  refine vSeq ?_
  refine vRegion ?_
  iterate 2 refine oVal tt rfl rfl rfl rfl rfl trivial ?_
  obtain ⟨v1, hc1, h⟩ := bind_inv h
  refine oCall (L_szPinned_w N aP_0 (1048576 : Int) v1 hc1) rfl rfl rfl rfl rfl rfl rfl rfl ⟨⟨rfl, rfl, rfl, trivial⟩, rfl, trivial⟩ ?_
  refine oVal tt rfl rfl rfl rfl rfl trivial ?_
  refine vNil ?_
  change VC _ _ _ _
  iterate 2 refine vSeq ?_
  refine vRegion ?_
  iterate 2 refine oVal tt rfl rfl rfl rfl rfl trivial ?_
  refine vNil ?_
  change VC _ _ _ _
  refine vCond rfl (fun hb2 => ?_) (fun hb2 => ?_)
  · replace h := cnd_t hb2 h
    refine vSeq ?_
    refine vRegion ?_
    refine oVal tt rfl rfl rfl rfl rfl trivial ?_
    refine vNil ?_
    change VC _ _ _ _
    refine vRet ?_
    change ∃ _, _
    cases h
    exact ⟨[], _, rfl, trivial, rfl, (.eq rfl), rfl⟩
  · replace h := cnd_f hb2 h
    refine vSkip ?_
    change VC _ _ _ _
    refine vSeq ?_
    refine vRegion ?_
    refine oVal tt rfl rfl rfl rfl rfl trivial ?_
    obtain ⟨v2, hc3, h⟩ := bind_inv h
    refine oCall (L_toPinned_w N aP_0 v2 hc3) rfl rfl rfl rfl rfl rfl rfl rfl ⟨⟨rfl, rfl, rfl, trivial⟩, trivial⟩ ?_
    obtain ⟨v3, hc4, h⟩ := bind_inv h
    refine oCall (S_OwnersOf_w N v2 v3 hc4) rfl rfl rfl rfl rfl rfl rfl rfl ⟨⟨rfl, (.inl ⟨rfl, rfl⟩), (.inl ⟨rfl, rfl⟩), trivial⟩, trivial⟩ ?_
    iterate 5 refine oVal tt rfl rfl rfl rfl rfl trivial ?_
    refine vNil ?_
    change VC _ _ _ _
    refine vSeq ?_
    refine vRegion ?_
    refine oVal tt rfl rfl rfl rfl rfl trivial ?_
    obtain ⟨v4, hc5, h⟩ := bind_inv h
    refine oCall (L_toPinned_w N aP_0 v4 hc5) rfl rfl rfl rfl rfl rfl rfl rfl ⟨⟨rfl, rfl, rfl, trivial⟩, trivial⟩ ?_
    refine oAlloc tt rfl rfl rfl rfl rfl rfl rfl rfl rfl ?_
    refine oStore tt rfl rfl rfl rfl rfl rfl rfl rfl rfl rfl rfl ⟨trivial, trivial, trivial, trivial⟩ ?_
    refine vNil ?_
    change VC _ _ _ _
    refine vSeq ?_
    refine vRegion ?_
    refine oVal tt rfl rfl rfl rfl rfl trivial ?_
    obtain ⟨v5, hc6, h⟩ := bind_inv h
    refine oCall (I_OwnersOf_w N v4 v5 hc6) rfl rfl rfl rfl rfl rfl rfl rfl ⟨⟨rfl, (.inl ⟨rfl, rfl⟩), (.inl ⟨rfl, rfl⟩), trivial⟩, trivial⟩ ?_
    iterate 5 refine oVal tt rfl rfl rfl rfl rfl trivial ?_
    refine vNil ?_
    change VC _ _ _ _
    iterate 2 refine vSeq ?_
    refine vRegion ?_
    iterate 2 refine oVal tt rfl rfl rfl rfl rfl trivial ?_
    obtain ⟨v6, hc7, h⟩ := bind_inv h
    refine oCall (L_eqIntS_w N v5.1 v3.1 v6 hc7) rfl rfl rfl rfl rfl rfl rfl rfl ⟨(.inl ⟨rfl, rfl⟩), (.inl ⟨rfl, rfl⟩), trivial⟩ ?_
    iterate 2 refine oVal tt rfl rfl rfl rfl rfl trivial ?_
    refine oSplit rfl rfl rfl (fun hb8 => ?_) (fun hb8 => ?_)
    · replace h := cnd_t hb8 h
      iterate 3 refine oNoF rfl rfl rfl rfl hb8 rfl rfl ?_
      refine oPick rfl rfl rfl rfl rfl hb8 rfl ?_
      refine vNil ?_
      change VC _ _ _ _
      refine vCondT rfl rfl ?_
      refine vSeq ?_
      refine vRegion ?_
      refine oVal tt rfl rfl rfl rfl rfl trivial ?_
      refine vNil ?_
      change VC _ _ _ _
      refine vRet ?_
      change ∃ _, _
      cases h
      exact ⟨[], _, rfl, trivial, rfl, (.eq rfl), rfl⟩
    · replace h := cnd_f hb8 h
      iterate 2 refine oValG tt rfl rfl rfl rfl rfl hb8 rfl rfl rfl trivial ?_
      refine oPure (wSome rfl rfl rfl rfl hb8) (pNeB Try.underlying4 rfl rfl rfl) rfl rfl ?_
      refine oPickF rfl rfl rfl rfl rfl hb8 rfl ?_
      refine vNil ?_
      change VC _ _ _ _
      refine vCond rfl (fun hb9 => ?_) (fun hb9 => ?_)
      · replace h := cnd_t hb9 h
        refine vSeq ?_
        refine vRegion ?_
        refine oVal tt rfl rfl rfl rfl rfl trivial ?_
        refine vNil ?_
        change VC _ _ _ _
        refine vRet ?_
        change ∃ _, _
        cases h
        exact ⟨[], _, rfl, trivial, rfl, (.eq rfl), rfl⟩
      · replace h := cnd_f hb9 h
        refine vSkip ?_
        change VC _ _ _ _
        iterate 2 refine vSeq ?_
        refine vRegionN 3 [2] [0, 0, 2, 7, 15] (by kernel_rfl) (by kernel_rfl) (by kernel_rfl) (by kernel_rfl) (by kernel_rfl) rfl (by rfl) ?_
        iterate 2 refine nVal tt rfl (wNone rfl) rfl rfl rfl rfl rfl trivial ?_
        obtain ⟨v7, hc10, h⟩ := bind_inv h
        refine nCallR (L_toPinned_w N aP_0 v7 hc10) rfl (wNone rfl) rfl rfl rfl rfl rfl rfl (by first | rfl | kernel_rfl | (simp [nrL, nm, gdst, nmT, rowB]; done)) rfl (by first | rfl | kernel_rfl | (simp [chkE, nrL, nm, gdst, nmT, rowB, hid, ment, mentA, mentS]; done) | (simp [chkE, nrL, nm, gdst, nmT, rowB, hid, ment, mentA, mentS]; decide)) ⟨⟨rfl, rfl, rfl, trivial⟩, trivial⟩ ?_
        refine nNil ?_
        change VO _ _ _ _ _
        obtain ⟨v8, hc11, h⟩ := bind_inv h
        refine oCall (L_eqPinned_w N v4 v7 v8 hc11) rfl rfl rfl rfl rfl rfl rfl rfl ⟨⟨rfl, (.inl ⟨rfl, rfl⟩), (.inl ⟨rfl, rfl⟩), trivial⟩, ⟨rfl, (.inl ⟨rfl, rfl⟩), (.inl ⟨rfl, rfl⟩), trivial⟩, trivial⟩ ?_
        refine oVal tt rfl rfl rfl rfl rfl trivial ?_
        refine vNil ?_
        change VC _ _ _ _
        refine vCond rfl (fun hb12 => ?_) (fun hb12 => ?_)
        · replace h := cnd_t hb12 h
          refine vSeq ?_
          refine vRegion ?_
          refine oVal tt rfl rfl rfl rfl rfl trivial ?_
          refine vNil ?_
          change VC _ _ _ _
          refine vRet ?_
          change ∃ _, _
          cases h
          exact ⟨[], _, rfl, trivial, rfl, (.eq rfl), rfl⟩
        · replace h := cnd_f hb12 h
          refine vSkip ?_
          change VC _ _ _ _
          refine vSeq ?_
          refine vRegion ?_
          refine oVal tt rfl rfl rfl rfl rfl trivial ?_
          refine vNil ?_
          change VC _ _ _ _
          refine vSeq ?_
          refine vRegion ?_
          iterate 2 refine oVal tt rfl rfl rfl rfl rfl trivial ?_
          obtain ⟨v9, hc13, h⟩ := bind_inv h
          refine oMCall (L_markPinned_w N (⟨⟨v4.g.n, v4.g.bars⟩, v4.ground⟩ : Pin) (1 : Int) v9 hc13) [1260, 1261] [] [1260, 1261] rfl rfl rfl rfl rfl rfl ⟨rfl, rfl, trivial⟩ trivial ⟨⟨⟨rfl, rfl⟩, ⟨rfl, rfl⟩, ⟨rfl, rfl⟩, trivial⟩, ⟨rfl, rfl⟩, trivial⟩ ?_
          refine oVal tt rfl rfl rfl rfl rfl trivial ?_
          refine vNil ?_
          change VC _ _ _ _
          iterate 2 refine vSeq ?_
          refine vRegion ?_
          iterate 3 refine oVal tt rfl rfl rfl rfl rfl trivial ?_
          refine oSplit rfl rfl rfl (fun hb14 => ?_) (fun hb14 => ?_)
          · replace h := cnd_t hb14 h
            iterate 4 refine oNoF rfl rfl rfl rfl hb14 rfl rfl ?_
            refine oPick rfl rfl rfl rfl rfl hb14 rfl ?_
            refine oVal tt rfl rfl rfl rfl rfl trivial ?_
            iterate 3 refine oNoF rfl rfl rfl rfl rfl rfl rfl ?_
            refine oPick rfl rfl rfl rfl rfl rfl rfl ?_
            refine vNil ?_
            change VC _ _ _ _
            refine vCondT rfl rfl ?_
            refine vSeq ?_
            refine vRegion ?_
            refine oVal tt rfl rfl rfl rfl rfl trivial ?_
            refine vNil ?_
            change VC _ _ _ _
            refine vRet ?_
            change ∃ _, _
            cases h
            exact ⟨[], _, rfl, trivial, rfl, (.eq rfl), rfl⟩
          · replace h := cnd_f hb14 h
            iterate 2 refine oValG tt rfl rfl rfl rfl rfl hb14 rfl rfl rfl trivial ?_
            obtain ⟨v10, hc15, h⟩ := bind_inv h
            refine oCallG (L_eqIntS_w N v5.1 v3.1 v10 hc15) rfl rfl rfl rfl hb14 rfl rfl rfl rfl rfl rfl rfl ⟨(.inl ⟨rfl, rfl⟩), (.inl ⟨rfl, rfl⟩), trivial⟩ ?_
            refine oValG tt rfl rfl rfl rfl rfl hb14 rfl rfl rfl trivial ?_
            refine oPickF rfl rfl rfl rfl rfl hb14 rfl ?_
            refine oVal tt rfl rfl rfl rfl rfl trivial ?_
            refine oSplit rfl rfl rfl (fun hb16 => ?_) (fun hb16 => ?_)
            · replace h := cnd_t hb16 h
              iterate 3 refine oNoF rfl rfl rfl rfl hb16 rfl rfl ?_
              refine oPick rfl rfl rfl rfl rfl hb16 rfl ?_
              refine vNil ?_
              change VC _ _ _ _
              refine vCondT rfl rfl ?_
              refine vSeq ?_
              refine vRegion ?_
              refine oVal tt rfl rfl rfl rfl rfl trivial ?_
              refine vNil ?_
              change VC _ _ _ _
              refine vRet ?_
              change ∃ _, _
              cases h
              exact ⟨[], _, rfl, trivial, rfl, (.eq rfl), rfl⟩
            · replace h := cnd_f hb16 h
              iterate 2 refine oValG tt rfl rfl rfl rfl rfl hb16 rfl rfl rfl trivial ?_
              refine oPure (wSome rfl rfl rfl rfl hb16) (pNeB Try.underlying4 rfl rfl rfl) rfl rfl ?_
              refine oPickF rfl rfl rfl rfl rfl hb16 rfl ?_
              refine vNil ?_
              change VC _ _ _ _
              refine vCondF rfl hb9 ?_
              refine vSkip ?_
              change VC _ _ _ _
              refine vSeq ?_
              refine vRegion ?_
              refine oVal tt rfl rfl rfl rfl rfl trivial ?_
              refine vNil ?_
              change VC _ _ _ _
              refine vSeq ?_
              refine vRegion ?_
              iterate 2 refine oVal tt rfl rfl rfl rfl rfl trivial ?_
              obtain ⟨v11, hc17, h⟩ := bind_inv h
              refine oMCall (L_markIntS_w N v5.1 (1 : Int) v11 hc17) [1290] [] [1290] rfl rfl rfl rfl rfl rfl ⟨rfl, trivial⟩ trivial ⟨⟨rfl, rfl⟩, ⟨rfl, rfl⟩, trivial⟩ ?_
              refine oVal tt rfl rfl rfl rfl rfl trivial ?_
              refine vNil ?_
              change VC _ _ _ _
              refine vSeq ?_
              refine vRegion ?_
              refine oVal tt rfl rfl rfl rfl rfl trivial ?_
              refine vNil ?_
              change VC _ _ _ _
              refine vSeq ?_
              refine vRegion ?_
              iterate 2 refine oVal tt rfl rfl rfl rfl rfl trivial ?_
              obtain ⟨hg18, h⟩ := grd_inv h
              obtain ⟨v12, hc19, h⟩ := bind_inv h
              refine oCall (L_heldIntS_w N v11.2 (1 : Int) v12 hc19) rfl rfl rfl rfl rfl rfl rfl rfl ⟨(.inl ⟨hg18, rfl⟩), rfl, trivial⟩ ?_
              refine oVal tt rfl rfl rfl rfl rfl trivial ?_
              refine vNil ?_
              change VC _ _ _ _
              iterate 2 refine vSeq ?_
              refine vRegion ?_
              iterate 2 refine oVal tt rfl rfl rfl rfl rfl trivial ?_
              refine vNil ?_
              change VC _ _ _ _
              refine vCond rfl (fun hb20 => ?_) (fun hb20 => ?_)
              · replace h := cnd_t hb20 h
                refine vSeq ?_
                refine vRegion ?_
                refine oVal tt rfl rfl rfl rfl rfl trivial ?_
                refine vNil ?_
                change VC _ _ _ _
                refine vRet ?_
                change ∃ _, _
                cases h
                exact ⟨[], _, rfl, trivial, rfl, (.eq rfl), rfl⟩
              · replace h := cnd_f hb20 h
                refine vSkip ?_
                change VC _ _ _ _
                iterate 2 refine vSeq ?_
                refine vRegion ?_
                iterate 3 refine oVal tt rfl rfl rfl rfl rfl trivial ?_
                refine vNil ?_
                change VC _ _ _ _
                refine vCond rfl (fun hb21 => ?_) (fun hb21 => ?_)
                · replace h := cnd_t hb21 h
                  refine vSeq ?_
                  refine vRegion ?_
                  refine oVal tt rfl rfl rfl rfl rfl trivial ?_
                  refine vNil ?_
                  change VC _ _ _ _
                  refine vRet ?_
                  change ∃ _, _
                  cases h
                  exact ⟨[], _, rfl, trivial, rfl, (.eq rfl), rfl⟩
                · replace h := cnd_f hb21 h
                  refine vSkip ?_
                  change VC _ _ _ _
                  refine vSeq ?_
                  refine vRegion ?_
                  refine oVal tt rfl rfl rfl rfl rfl trivial ?_
                  obtain ⟨v13, hc22, h⟩ := bind_inv h
                  refine oCall (L_toPinned_w N aP_0 v13 hc22) rfl rfl rfl rfl rfl rfl rfl rfl ⟨⟨rfl, rfl, rfl, trivial⟩, trivial⟩ ?_
                  obtain ⟨v14, hc23, h⟩ := bind_inv h
                  refine oCall (I_OwnersOf_w N v13 v14 hc23) rfl rfl rfl rfl rfl rfl rfl rfl ⟨⟨rfl, (.inl ⟨rfl, rfl⟩), (.inl ⟨rfl, rfl⟩), trivial⟩, trivial⟩ ?_
                  iterate 5 refine oVal tt rfl rfl rfl rfl rfl trivial ?_
                  refine vNil ?_
                  change VC _ _ _ _
                  iterate 2 refine vSeq ?_
                  refine vRegion ?_
                  iterate 2 refine oVal tt rfl rfl rfl rfl rfl trivial ?_
                  obtain ⟨v15, hc24, h⟩ := bind_inv h
                  refine oCall (L_eqIntS_w N v14.1 v3.1 v15 hc24) rfl rfl rfl rfl rfl rfl rfl rfl ⟨(.inl ⟨rfl, rfl⟩), (.inl ⟨rfl, rfl⟩), trivial⟩ ?_
                  iterate 2 refine oVal tt rfl rfl rfl rfl rfl trivial ?_
                  refine oSplit rfl rfl rfl (fun hb25 => ?_) (fun hb25 => ?_)
                  · replace h := cnd_t hb25 h
                    iterate 3 refine oNoF rfl rfl rfl rfl hb25 rfl rfl ?_
                    refine oPick rfl rfl rfl rfl rfl hb25 rfl ?_
                    refine vNil ?_
                    change VC _ _ _ _
                    refine vCondT rfl rfl ?_
                    refine vSeq ?_
                    refine vRegion ?_
                    refine oVal tt rfl rfl rfl rfl rfl trivial ?_
                    refine vNil ?_
                    change VC _ _ _ _
                    refine vRet ?_
                    change ∃ _, _
                    cases h
                    exact ⟨[], _, rfl, trivial, rfl, (.eq rfl), rfl⟩
                  · replace h := cnd_f hb25 h
                    iterate 2 refine oValG tt rfl rfl rfl rfl rfl hb25 rfl rfl rfl trivial ?_
                    refine oPure (wSome rfl rfl rfl rfl hb25) (pNeB Try.underlying4 rfl rfl rfl) rfl rfl ?_
                    refine oPickF rfl rfl rfl rfl rfl hb25 rfl ?_
                    refine vNil ?_
                    change VC _ _ _ _
                    refine vCond rfl (fun hb26 => ?_) (fun hb26 => ?_)
                    · replace h := cnd_t hb26 h
                      refine vSeq ?_
                      refine vRegion ?_
                      refine oVal tt rfl rfl rfl rfl rfl trivial ?_
                      refine vNil ?_
                      change VC _ _ _ _
                      refine vRet ?_
                      change ∃ _, _
                      cases h
                      exact ⟨[], _, rfl, trivial, rfl, (.eq rfl), rfl⟩
                    · replace h := cnd_f hb26 h
                      refine vSkip ?_
                      change VC _ _ _ _
                      refine vSeq ?_
                      refine vRegion ?_
                      refine oVal tt rfl rfl rfl rfl rfl trivial ?_
                      refine vNil ?_
                      change VC _ _ _ _
                      refine vSeq ?_
                      refine vRegion ?_
                      iterate 2 refine oVal tt rfl rfl rfl rfl rfl trivial ?_
                      obtain ⟨v16, hc27, h⟩ := bind_inv h
                      refine oCall (L_heldIntS_w N v11.2 (1 : Int) v16 hc27) rfl rfl rfl rfl rfl rfl rfl rfl ⟨(.inl ⟨hg18, rfl⟩), rfl, trivial⟩ ?_
                      refine oVal tt rfl rfl rfl rfl rfl trivial ?_
                      refine vNil ?_
                      change VC _ _ _ _
                      iterate 2 refine vSeq ?_
                      refine vRegion ?_
                      iterate 2 refine oVal tt rfl rfl rfl rfl rfl trivial ?_
                      refine vNil ?_
                      change VC _ _ _ _
                      refine vCond rfl (fun hb28 => ?_) (fun hb28 => ?_)
                      · replace h := cnd_t hb28 h
                        refine vSeq ?_
                        refine vRegion ?_
                        refine oVal tt rfl rfl rfl rfl rfl trivial ?_
                        refine vNil ?_
                        change VC _ _ _ _
                        refine vRet ?_
                        change ∃ _, _
                        cases h
                        exact ⟨[], _, rfl, trivial, rfl, (.eq rfl), rfl⟩
                      · replace h := cnd_f hb28 h
                        refine vSkip ?_
                        change VC _ _ _ _
                        iterate 2 refine vSeq ?_
                        refine vRegion ?_
                        iterate 3 refine oVal tt rfl rfl rfl rfl rfl trivial ?_
                        refine vNil ?_
                        change VC _ _ _ _
                        refine vCond rfl (fun hb29 => ?_) (fun hb29 => ?_)
                        · replace h := cnd_t hb29 h
                          refine vSeq ?_
                          refine vRegion ?_
                          refine oVal tt rfl rfl rfl rfl rfl trivial ?_
                          refine vNil ?_
                          change VC _ _ _ _
                          refine vRet ?_
                          change ∃ _, _
                          cases h
                          exact ⟨[], _, rfl, trivial, rfl, (.eq rfl), rfl⟩
                        · replace h := cnd_f hb29 h
                          refine vSkip ?_
                          change VC _ _ _ _
                          refine vSeq ?_
                          refine vRegion ?_
                          refine oVal tt rfl rfl rfl rfl rfl trivial ?_
                          refine vNil ?_
                          change VC _ _ _ _
                          refine vRet ?_
                          change ∃ _, _
                          cases h
                          exact ⟨[], _, rfl, trivial, rfl, (.eq rfl), rfl⟩
end Go.Proofs.Ytkpmijmlbpdknaa
