/- The spec's put keeps order; all bars of a pinned framework make a graph. -/
import Derived.Test.YtkpmijmlbpdknaaPr
import Derived.Test.YtkpmijmlbpdknaaPf
import Derived.Test.YtkpmijmlbpdknaaG30
namespace Go.Proofs.Ytkpmijmlbpdknaa
set_option linter.unusedVariables false
set_option linter.unusedSimpArgs false
variable {n : Nat} {N : Nat}
/-- bars in order -/
def Srt (L : List (Int × Int)) : Prop := L.Pairwise fun a b => barLeB a b = true
theorem le_total {a b : Int × Int} (h : barLeB a b = false) : barLeB b a = true := by
  simp only [barLeB, Bool.or_eq_false_iff, Bool.and_eq_false_iff, decide_eq_false_iff_not, Bool.or_eq_true, Bool.and_eq_true, decide_eq_true_eq, beq_iff_eq, beq_eq_false_iff_ne] at h ⊢
  omega
theorem le_trans' {a b c : Int × Int} (h1 : barLeB a b = true) (h2 : barLeB b c = true) : barLeB a c = true := by
  simp only [barLeB, Bool.or_eq_true, Bool.and_eq_true, decide_eq_true_eq, beq_iff_eq] at h1 h2 ⊢
  omega
theorem srt_put {A B : List (Int × Int)} {x : Int × Int} (h : Srt (A ++ B)) (hA : ∀ e ∈ A, barLeB e x = true) (hB : ∀ b l, B = b :: l → barLeB b x = false) : Srt (A ++ x :: B) := by
  obtain ⟨h1, h2, h3⟩ := List.pairwise_append.1 h
  have hx : ∀ b ∈ B, barLeB x b = true := by
    cases B with
    | nil => intro b hb; simp at hb
    | cons b0 l =>
      have h0 := le_total (hB b0 l rfl)
      intro b hb
      rcases List.mem_cons.1 hb with rfl | hb
      · exact h0
      · exact le_trans' h0 ((List.pairwise_cons.1 h2).1 b hb)
  refine List.pairwise_append.2 ⟨h1, List.pairwise_cons.2 ⟨hx, h2⟩, fun a ha b hb => ?_⟩
  rcases List.mem_cons.1 hb with rfl | hb
  · exact hA a ha
  · exact h3 a ha b hb
theorem putX_s (hN : 4000000 ≤ N) {g : Grf} (hl : g.bars.length ≤ 1000) (x : Int × Int) (hs : Srt g.bars) : ∃ L, S_l2Put N g x = some ⟨g.n, L⟩ ∧ Srt L := by
  have keyT : ∀ {kk : (List (Int × Int) × Bool) → Option Grf} (fuel i : Nat) (l : List (Int × Int)), i ≤ g.bars.length → g.bars.length < fuel + i → l.length ≤ i + 1 →
      S_l2Put_l1 N g x kk fuel (l, true, (i : Int)) = kk (l ++ g.bars.drop i, true) := by
    intro kk fuel
    induction fuel with
    | zero => intro i l h1 h2; omega
    | succ fuel ih =>
      intro i l h1 h2 h3
      rw [S_l2Put_l1]
      by_cases hi : i < g.bars.length
      · have e : g.bars.drop i = g.bars.getD i (0, 0) :: g.bars.drop (i + 1) := by
          rw [List.drop_eq_getElem_cons hi]
          simp [List.getD_eq_getElem?_getD, List.getElem?_eq_getElem hi]
        have := ih (i + 1) (l ++ [g.bars.getD i (0, 0)]) (by omega) (by omega) (by simp; omega)
        rw [e]
        simp (disch := omega) only [Int.toNat_natCast, tk0, List.length_cons, List.length_nil, grd_pos, grd_T, grd_R, cnd_dt, cnd_df, cnd_true, cnd_false, Option.bind_some, Bool.not_true, succ_cast]
        refine this.trans ?_
        simp
      · have e : i = g.bars.length := by omega
        subst e
        simp (disch := omega) only [Int.toNat_natCast, tk0, List.length_cons, List.length_nil, grd_pos, grd_T, grd_R, cnd_dt, cnd_df, cnd_true, cnd_false, Option.bind_some]
        simp
  have keyF : ∀ {kk : (List (Int × Int) × Bool) → Option Grf} (fuel i : Nat), i ≤ g.bars.length → g.bars.length < fuel + i → (∀ e ∈ g.bars.take i, barLeB e x = true) →
      (∃ A B, g.bars = A ++ B ∧ (∀ e ∈ A, barLeB e x = true) ∧ (∀ b l, B = b :: l → barLeB b x = false) ∧ S_l2Put_l1 N g x kk fuel (g.bars.take i, false, (i : Int)) = kk (A ++ x :: B, true)) ∨
      ((∀ e ∈ g.bars, barLeB e x = true) ∧ S_l2Put_l1 N g x kk fuel (g.bars.take i, false, (i : Int)) = kk (g.bars, false)) := by
    intro kk fuel
    induction fuel with
    | zero => intro i h1 h2; omega
    | succ fuel ih =>
      intro i h1 h2 h3
      by_cases hi : i < g.bars.length
      · have hd : g.bars.getD i (0, 0) = g.bars[i] := by simp [List.getD_eq_getElem?_getD, List.getElem?_eq_getElem hi]
        have htl : (g.bars.take i).length = i := by simp; omega
        have etk : g.bars.take i ++ [g.bars.getD i (0, 0)] = g.bars.take (i + 1) := by
          rw [List.take_add_one, List.getElem?_eq_getElem hi, hd]; rfl
        cases hb : barLeB (g.bars.getD i (0, 0)) x with
        | false =>
          left
          refine ⟨g.bars.take i, g.bars.drop i, (List.take_append_drop i g.bars).symm, h3, fun b l e => ?_, ?_⟩
          · rw [List.drop_eq_getElem_cons hi] at e
            cases e
            rw [← hd]; exact hb
          · rw [S_l2Put_l1]
            have := keyT (kk := kk) fuel (i + 1) (g.bars.take i ++ [x] ++ [g.bars.getD i (0, 0)]) (by omega) (by omega) (by simp; omega)
            simp (disch := omega) only [Int.toNat_natCast, tk0, List.length_cons, List.length_nil, grd_pos, grd_T, grd_R, cnd_dt, cnd_df, cnd_true, cnd_false, Option.bind_some, Bool.not_false, l2After_s, hb, List.length_append, succ_cast, htl]
            refine this.trans ?_
            congr 2
            have : g.bars.drop i = g.bars.getD i (0, 0) :: g.bars.drop (i + 1) := by rw [List.drop_eq_getElem_cons hi, hd]
            rw [this]; simp
        | true =>
          have step : S_l2Put_l1 N g x kk (fuel + 1) (g.bars.take i, false, (i : Int)) = S_l2Put_l1 N g x kk fuel (g.bars.take (i + 1), false, ((i + 1 : Nat) : Int)) := by
            rw [S_l2Put_l1]
            simp (disch := omega) only [Int.toNat_natCast, tk0, List.length_cons, List.length_nil, grd_pos, grd_T, grd_R, cnd_dt, cnd_df, cnd_true, cnd_false, Option.bind_some, Bool.not_false, Bool.not_true, l2After_s, hb, succ_cast, htl]
            rw [show ((g.bars.getD i (0, 0)).1, (g.bars.getD i (0, 0)).2) = g.bars.getD i (0, 0) from rfl, etk]
          rw [step]
          refine ih (i + 1) (by omega) (by omega) fun e he => ?_
          rw [← etk] at he
          rcases List.mem_append.1 he with he | he
          · exact h3 e he
          · rw [List.mem_singleton] at he; subst he; exact hb
      · have e : i = g.bars.length := by omega
        subst e
        right
        rw [List.take_length] at h3 ⊢
        refine ⟨h3, ?_⟩
        rw [S_l2Put_l1]
        simp (disch := omega) only [Int.toNat_natCast, tk0, List.length_cons, List.length_nil, grd_pos, grd_T, grd_R, cnd_dt, cnd_df, cnd_true, cnd_false, Option.bind_some]
  have e0 : S_l2Put N g x = S_l2Put_l1 N g x (fun (x_ : (List (Int × Int)) × Bool) =>
      match x_ with
      | (l10, placed11) =>
        cnd (!placed11) (
          grd (l10.length + 1 ≤ 4294967296) <|
          some (⟨g.n, (l10 ++ ([(x.1, x.2)] : List (Int × Int)))⟩ : Grf)) (
          some (⟨g.n, l10⟩ : Grf))) N (g.bars.take 0, false, ((0 : Nat) : Int)) := rfl
  rcases keyF (kk := fun (x_ : (List (Int × Int)) × Bool) =>
      match x_ with
      | (l10, placed11) =>
        cnd (!placed11) (
          grd (l10.length + 1 ≤ 4294967296) <|
          some (⟨g.n, (l10 ++ ([(x.1, x.2)] : List (Int × Int)))⟩ : Grf)) (
          some (⟨g.n, l10⟩ : Grf))) N 0 (by omega) (by omega) (fun e he => by simp at he) with ⟨A, B, h1, h2, h3, h4⟩ | ⟨h1, h2⟩
  · refine ⟨A ++ x :: B, e0.trans (h4.trans rfl), srt_put (by rw [← h1]; exact hs) h2 h3⟩
  · refine ⟨g.bars ++ [x], e0.trans (h2.trans ?_), ?_⟩
    · simp (disch := omega) only [Int.toNat_natCast, tk0, List.length_cons, List.length_nil, grd_pos, grd_T, grd_R, cnd_dt, cnd_df, cnd_true, cnd_false, Option.bind_some, Bool.not_false]
    · have := srt_put (A := g.bars) (B := []) (x := x) (by simpa using hs) h1 (fun b l h => by cases h)
      exact this
end Go.Proofs.Ytkpmijmlbpdknaa
