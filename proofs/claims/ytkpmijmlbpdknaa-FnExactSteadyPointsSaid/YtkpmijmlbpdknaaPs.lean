/- Both ranks of a pinned framework are alike. -/
import Derived.Test.YtkpmijmlbpdknaaPr
import Derived.Test.YtkpmijmlbpdknaaPw
import Derived.Test.YtkpmijmlbpdknaaPf
import Derived.Test.YtkpmijmlbpdknaaG30
import Derived.Test.YtkpmijmlbpdknaaG35
namespace Go.Proofs.Ytkpmijmlbpdknaa
set_option linter.unusedVariables false
set_option linter.unusedSimpArgs false
variable {n : Nat} {N : Nat}
theorem asc_lt {n : Int} {l : List Int} (h : asc n l = true) : ∀ j i : Nat, i < j → j < l.length → l.getD i 0 < l.getD j 0
  | 0, i, h1, _ => by omega
  | j + 1, i, h1, h2 => by
    have ha := asc_at h h2
    simp only [ascAt, Bool.and_eq_true, Bool.or_eq_true, decide_eq_true_eq, Nat.add_sub_cancel] at ha
    have hs : l.getD j 0 < l.getD (j + 1) 0 := ha.2.resolve_left (by omega)
    by_cases e : i = j
    · subst e; exact hs
    · have := asc_lt h j i (by omega) (by omega); omega
/-- the held bars of the spec: from the first two points of the ground -/
structure HeldS (G : List Int) (L : List (Int × Int)) (m : Nat) : Prop where
  mem : ∀ e ∈ L, ∃ i j : Nat, i < j ∧ j < m ∧ e = (G.getD i 0, G.getD j 0)
  h0 : ∀ i, 1 ≤ i → i < m → (G.getD 0 0, G.getD i 0) ∈ L
  h1 : ∀ i, 2 ≤ i → i < m → (G.getD 1 0, G.getD i 0) ∈ L
  srt : Srt L
theorem put0_s (hN : 4000000 ≤ N) {g : Grf} (hl : g.bars.length ≤ 1000) (x : Int × Int) : ∃ L, S_l2Put N g x = some ⟨g.n, L⟩ ∧ L.length = g.bars.length + 1 ∧ ∀ e, e ∈ L ↔ e = x ∨ e ∈ g.bars := by
  have key : ∀ {kk : (List (Int × Int) × Bool) → Option Grf} (fuel i : Nat) (l : List (Int × Int)) (pl : Bool), i ≤ g.bars.length → g.bars.length < fuel + i → l.length = i + (if pl = true then 1 else 0) → (pl = true → x ∈ l) → (∀ e, (e = x ∨ e ∈ l) ↔ (e = x ∨ e ∈ g.bars.take i)) →
      ∃ l' pl', S_l2Put_l1 N g x kk fuel (l, pl, (i : Int)) = kk (l', pl') ∧ l'.length = g.bars.length + (if pl' = true then 1 else 0) ∧ (pl' = true → x ∈ l') ∧ ∀ e, (e = x ∨ e ∈ l') ↔ (e = x ∨ e ∈ g.bars) := by
    intro kk fuel
    induction fuel with
    | zero => intro i l pl h1 h2; omega
    | succ fuel ih =>
      intro i l pl h1 h2 h3 h4 h5
      rw [S_l2Put_l1]
      have hlb : l.length ≤ 1001 := by rw [h3]; split <;> omega
      by_cases hi : i < g.bars.length
      · have htk : ∀ e, e ∈ g.bars.take (i + 1) ↔ e ∈ g.bars.take i ∨ e = g.bars.getD i (0, 0) := by
          intro e
          have hd : g.bars.getD i (0, 0) = g.bars[i] := by simp [List.getD_eq_getElem?_getD, List.getElem?_eq_getElem hi]
          rw [List.take_add_one, List.getElem?_eq_getElem hi, List.mem_append, hd]
          simp only [Option.toList_some, List.mem_singleton]
        have step : ∀ l2 : List (Int × Int), (∀ e, (e = x ∨ e ∈ l2) ↔ (e = x ∨ e ∈ l ∨ e = g.bars.getD i (0, 0))) → ∀ e, (e = x ∨ e ∈ l2) ↔ (e = x ∨ e ∈ g.bars.take (i + 1)) := by
          intro l2 h e
          rw [h e, htk e]
          have := h5 e
          constructor
          · rintro (h | h | h)
            · exact .inl h
            · rcases this.1 (.inr h) with h | h
              · exact .inl h
              · exact .inr (.inl h)
            · exact .inr (.inr h)
          · rintro (h | h | h)
            · exact .inl h
            · rcases this.2 (.inr h) with h | h
              · exact .inl h
              · exact .inr (.inl h)
            · exact .inr (.inr h)
        cases pl with
        | true =>
          simp only [if_true] at h3
          obtain ⟨l', pl', k1, k2⟩ := ih (i + 1) (l ++ [g.bars.getD i (0, 0)]) true (by omega) (by omega) (by simp; omega) (fun _ => by simp [h4 rfl]) (step _ fun e => by simp)
          refine ⟨l', pl', ?_, k2⟩
          simp (disch := omega) only [Int.toNat_natCast, tk0, List.length_cons, List.length_nil, grd_pos, grd_T, grd_R, cnd_dt, cnd_df, cnd_true, cnd_false, Option.bind_some, Bool.not_true, succ_cast]
          exact k1
        | false =>
          simp only [Bool.false_eq_true, if_false] at h3
          cases hb : barLeB (g.bars.getD i (0, 0)) x with
          | false =>
            obtain ⟨l', pl', k1, k2⟩ := ih (i + 1) (l ++ [x] ++ [g.bars.getD i (0, 0)]) true (by omega) (by omega) (by simp; omega) (fun _ => by simp) (step _ fun e => by simp; grind)
            refine ⟨l', pl', ?_, k2⟩
            simp (disch := omega) only [Int.toNat_natCast, tk0, List.length_cons, List.length_nil, grd_pos, grd_T, grd_R, cnd_dt, cnd_df, cnd_true, cnd_false, Option.bind_some, Bool.not_false, l2After_s, hb, List.length_append, succ_cast]
            exact k1
          | true =>
            obtain ⟨l', pl', k1, k2⟩ := ih (i + 1) (l ++ [g.bars.getD i (0, 0)]) false (by omega) (by omega) (by simp; omega) (fun h => by cases h) (step _ fun e => by simp)
            refine ⟨l', pl', ?_, k2⟩
            simp (disch := omega) only [Int.toNat_natCast, tk0, List.length_cons, List.length_nil, grd_pos, grd_T, grd_R, cnd_dt, cnd_df, cnd_true, cnd_false, Option.bind_some, Bool.not_false, Bool.not_true, l2After_s, hb, succ_cast]
            exact k1
      · have e : i = g.bars.length := by omega
        subst e
        refine ⟨l, pl, ?_, h3, h4, by simpa using h5⟩
        simp (disch := omega) only [Int.toNat_natCast, tk0, List.length_cons, List.length_nil, grd_pos, grd_T, grd_R, cnd_dt, cnd_df, cnd_true, cnd_false, Option.bind_some]
  obtain ⟨l', pl', k1, k2, k3, k4⟩ := key (kk := fun (x_ : (List (Int × Int)) × Bool) =>
      match x_ with
      | (l10, placed11) =>
        cnd (!placed11) (
          grd (l10.length + 1 ≤ 4294967296) <|
          some (⟨g.n, (l10 ++ ([(x.1, x.2)] : List (Int × Int)))⟩ : Grf)) (
          some (⟨g.n, l10⟩ : Grf))) N 0 [] false (by omega) (by omega) (by simp) (fun h => by cases h) (fun e => by simp)
  rw [show ((0 : Nat) : Int) = 0 from rfl] at k1
  cases pl' with
  | true =>
    refine ⟨l', k1, by simpa using k2, fun e => ?_⟩
    rw [← k4 e]
    constructor
    · exact .inr
    · rintro (rfl | h)
      · exact k3 rfl
      · exact h
  | false =>
    simp only [Bool.false_eq_true, if_false] at k2
    refine ⟨l' ++ [x], ?_, by simp; omega, fun e => ?_⟩
    · refine Eq.trans k1 ?_
      simp (disch := omega) only [Int.toNat_natCast, tk0, List.length_cons, List.length_nil, grd_pos, grd_T, grd_R, cnd_dt, cnd_df, cnd_true, cnd_false, Option.bind_some, Bool.not_false]
    · rw [← k4 e]; simp; grind
theorem put_s (hN : 4000000 ≤ N) {g : Grf} (hl : g.bars.length ≤ 1000) (x : Int × Int) : ∃ L, S_l2Put N g x = some ⟨g.n, L⟩ ∧ L.length = g.bars.length + 1 ∧ (∀ e, e ∈ L ↔ e = x ∨ e ∈ g.bars) ∧ (Srt g.bars → Srt L) := by
  obtain ⟨L, h1, h2, h3⟩ := put0_s (N := N) hN hl x
  refine ⟨L, h1, h2, h3, fun hs => ?_⟩
  obtain ⟨L', g1, g2⟩ := putX_s (N := N) hN hl x hs
  rw [h1] at g1
  cases g1
  exact g2
theorem heldS_s (hN : 4000000 ≤ N) {p : Pin} (hl : p.ground.length ≤ 27) : ∃ L, S_l20Held N p = some ⟨p.g.n, L⟩ ∧ L.length ≤ 2 * (p.ground.length - 1) - 1 ∧ HeldS p.ground L p.ground.length := by
  have key : ∀ {kk : (List (Int × Int) × Int) → Option Grf} (fuel i : Nat) (L : List (Int × Int)), 1 ≤ i → i ≤ p.ground.length + 1 → p.ground.length + 1 < fuel + i → L.length ≤ 2 * (i - 1) - 1 → HeldS p.ground L i → (i ≤ p.ground.length ∨ p.ground.length = 0) →
      ∃ L', S_l20Held_l1 N p kk fuel (L, (i : Int), p.g.n) = kk (L', p.g.n) ∧ L'.length ≤ 2 * (p.ground.length - 1) - 1 ∧ HeldS p.ground L' p.ground.length := by
    intro kk fuel
    induction fuel with
    | zero => intro i L h0 h1 h2 h3 h4 h5; omega
    | succ fuel ih =>
      intro i L h0 h1 h2 h3 h4 h5
      rw [S_l20Held_l1]
      by_cases hi : i < p.ground.length
      · obtain ⟨L1, a1, a2, a3, a4⟩ := put_s (N := N) hN (g := ⟨p.g.n, L⟩) (by simp only; omega) (p.ground.getD 0 0, p.ground.getD i 0)
        simp only at a1 a2 a3 a4
        by_cases h1' : 1 < i
        · obtain ⟨L2, b1, b2, b3, b4⟩ := put_s (N := N) hN (g := ⟨p.g.n, L1⟩) (by simp only; omega) (p.ground.getD 1 0, p.ground.getD i 0)
          simp only at b1 b2 b3 b4
          obtain ⟨L', k1, k2⟩ := ih (i + 1) L2 (by omega) (by omega) (by omega) (by omega) ⟨fun e he => by
            rcases (b3 e).1 he with h | h
            · exact ⟨1, i, h1', by omega, h⟩
            · rcases (a3 e).1 h with h | h
              · exact ⟨0, i, by omega, by omega, h⟩
              · obtain ⟨i', j', g1, g2, g3⟩ := h4.mem e h
                exact ⟨i', j', g1, by omega, g3⟩, fun i' g1 g2 => (b3 _).2 (.inr ((a3 _).2 (by
            by_cases e : i' = i
            · subst e; exact .inl rfl
            · exact .inr (h4.h0 i' g1 (by omega))))), fun i' g1 g2 => (b3 _).2 (by
            by_cases e : i' = i
            · subst e; exact .inl rfl
            · exact .inr ((a3 _).2 (.inr (h4.h1 i' g1 (by omega))))), b4 (a4 h4.srt)⟩ (.inl (by omega))
          refine ⟨L', ?_, k2⟩
          have z0 : (0 : Int).toNat = 0 := rfl
          have z1 : (1 : Int).toNat = 1 := rfl
          simp (disch := omega) only [Int.toNat_natCast, tk0, List.length_cons, List.length_nil, grd_pos, grd_T, grd_R, cnd_dt, cnd_df, cnd_true, cnd_false, Option.bind_some, z0, z1, a1, b1, succ_cast]
          exact k1
        · have e1 : i = 1 := by omega
          subst e1
          obtain ⟨L', k1, k2⟩ := ih 2 L1 (by omega) (by omega) (by omega) (by omega) ⟨fun e he => by
            rcases (a3 e).1 he with h | h
            · exact ⟨0, 1, by omega, by omega, h⟩
            · obtain ⟨i', j', g1, g2, g3⟩ := h4.mem e h
              exact ⟨i', j', g1, by omega, g3⟩, fun i' g1 g2 => (a3 _).2 (by
            by_cases e : i' = 1
            · subst e; exact .inl rfl
            · omega), fun i' g1 g2 => by omega, a4 h4.srt⟩ (.inl (by omega))
          refine ⟨L', ?_, k2⟩
          have z0 : (0 : Int).toNat = 0 := rfl
          simp (disch := omega) only [Int.toNat_natCast, tk0, List.length_cons, List.length_nil, grd_pos, grd_T, grd_R, cnd_dt, cnd_df, cnd_true, cnd_false, Option.bind_some, z0, a1, succ_cast]
          exact k1
      · refine ⟨L, ?_, by omega, ⟨fun e he => ?_, fun i' g1 g2 => h4.h0 i' g1 (by omega), fun i' g1 g2 => h4.h1 i' g1 (by omega), h4.srt⟩⟩
        · simp (disch := omega) only [Int.toNat_natCast, tk0, List.length_cons, List.length_nil, grd_pos, grd_T, grd_R, cnd_dt, cnd_df, cnd_true, cnd_false, Option.bind_some]
        · obtain ⟨i', j', g1, g2, g3⟩ := h4.mem e he
          exact ⟨i', j', g1, by omega, g3⟩
  by_cases h0 : p.ground.length = 0
  · obtain ⟨L, k1, k2⟩ := key (kk := fun x => match x with | (l14, c15) => some (⟨c15, l14⟩ : Grf)) N 1 [] (by omega) (by omega) (by omega) (by simp) ⟨fun e he => by simp at he, fun i g1 g2 => by omega, fun i g1 g2 => by omega, List.Pairwise.nil⟩ (.inr h0)
    exact ⟨L, k1, k2⟩
  · obtain ⟨L, k1, k2⟩ := key (kk := fun x => match x with | (l14, c15) => some (⟨c15, l14⟩ : Grf)) N 1 [] (by omega) (by omega) (by omega) (by simp) ⟨fun e he => by simp at he, fun i g1 g2 => by omega, fun i g1 g2 => by omega, List.Pairwise.nil⟩ (.inl (by omega))
    exact ⟨L, k1, k2⟩
theorem allS_s (hN : 4000000 ≤ N) {p : Pin} (hl : p.ground.length ≤ 27) (hb : p.g.bars.length ≤ 24) : ∃ LH L, S_l20Held N p = some ⟨p.g.n, LH⟩ ∧ LH.length ≤ 2 * (p.ground.length - 1) - 1 ∧ HeldS p.ground LH p.ground.length ∧ S_l20All N p = some ⟨p.g.n, L⟩ ∧ L.length = LH.length + p.g.bars.length ∧ (∀ e, e ∈ L ↔ e ∈ LH ∨ e ∈ p.g.bars) ∧ Srt L := by
  obtain ⟨LH, h1, h2, h3⟩ := heldS_s (N := N) hN hl
  have key : ∀ {kk : (List (Int × Int) × Int) → Option Grf} (fuel i : Nat) (L : List (Int × Int)), i ≤ p.g.bars.length → p.g.bars.length < fuel + i → L.length = LH.length + i → (∀ e, e ∈ L ↔ e ∈ LH ∨ e ∈ p.g.bars.take i) → Srt L →
      ∃ L', S_l20All_l1 N p kk fuel (L, (i : Int), p.g.n) = kk (L', p.g.n) ∧ L'.length = LH.length + p.g.bars.length ∧ (∀ e, e ∈ L' ↔ e ∈ LH ∨ e ∈ p.g.bars) ∧ Srt L' := by
    intro kk fuel
    induction fuel with
    | zero => intro i L g1 g2; omega
    | succ fuel ih =>
      intro i L g1 g2 g3 g4 g5
      rw [S_l20All_l1]
      by_cases hi : i < p.g.bars.length
      · obtain ⟨L1, a1, a2, a3, a4⟩ := put_s (N := N) hN (g := ⟨p.g.n, L⟩) (by simp only; omega) (p.g.bars.getD i (0, 0))
        simp only at a1 a2 a3 a4
        obtain ⟨L', k1, k2⟩ := ih (i + 1) L1 (by omega) (by omega) (by omega) (fun e => by
          have hd : p.g.bars.getD i (0, 0) = p.g.bars[i] := by simp [List.getD_eq_getElem?_getD, List.getElem?_eq_getElem hi]
          rw [a3 e, g4 e, List.take_add_one, List.getElem?_eq_getElem hi, List.mem_append, hd]
          simp only [Option.toList_some, List.mem_singleton]
          grind) (a4 g5)
        refine ⟨L', ?_, k2⟩
        simp (disch := omega) only [Int.toNat_natCast, tk0, List.length_cons, List.length_nil, grd_pos, grd_T, grd_R, cnd_dt, cnd_df, cnd_true, cnd_false, Option.bind_some, a1, succ_cast]
        exact k1
      · have e : i = p.g.bars.length := by omega
        subst e
        refine ⟨L, ?_, by omega, by simpa using g4, g5⟩
        simp (disch := omega) only [Int.toNat_natCast, tk0, List.length_cons, List.length_nil, grd_pos, grd_T, grd_R, cnd_dt, cnd_df, cnd_true, cnd_false, Option.bind_some]
  obtain ⟨L, k1, k2, k3⟩ := key (kk := fun x => match x with | (l8, c9) => some (⟨c9, l8⟩ : Grf)) N 0 LH (by omega) (by omega) (by omega) (by simp) h3.srt
  refine ⟨LH, L, h1, h2, h3, ?_, k2, k3⟩
  unfold S_l20All
  rw [h1, Option.bind_some]
  exact k1
end Go.Proofs.Ytkpmijmlbpdknaa
