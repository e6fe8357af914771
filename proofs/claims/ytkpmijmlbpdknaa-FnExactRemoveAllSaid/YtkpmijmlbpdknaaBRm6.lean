/- Texts that the proof needs, put together: Pt Pv G40 G41 Px G43 G44 G46 G48 G51 Qa G45 G47 G49. -/
import Derived.Test.YtkpmijmlbpdknaaBRm3
import Derived.Test.YtkpmijmlbpdknaaBRm4
import Derived.Test.YtkpmijmlbpdknaaBRm5
namespace Go.Proofs.Ytkpmijmlbpdknaa
set_option linter.unusedVariables false
set_option linter.unusedSimpArgs false
variable {n : Nat} {N : Nat}
/-- the held bars of the program: all pairs of the ground -/
def HeldI (G : List Int) (L : List (Int × Int)) : Prop := ∀ e, e ∈ L ↔ ∃ i j : Nat, i < j ∧ j < G.length ∧ e = (G.getD i 0, G.getD j 0)
theorem heldI_s (hN : 4000000 ≤ N) {p : Pin} {m : Int} (hl : p.ground.length ≤ 27) (ha : asc m p.ground = true) : ∃ L, M_Pinned_held N p = some L ∧ L.length ≤ 800 ∧ HeldI p.ground L := by
  have key2 : ∀ {kk : List (Int × Int) → Option (List (Int × Int))} (i : Nat) (hi : i < p.ground.length) (fuel x : Nat) (L : List (Int × Int)), i + 1 + x ≤ p.ground.length → p.ground.length < fuel + x → L.length ≤ 28 * i + x → (∀ e, e ∈ L ↔ ∃ i' j : Nat, i' < j ∧ j < p.ground.length ∧ (i' < i ∨ i' = i ∧ j < i + 1 + x) ∧ e = (p.ground.getD i' 0, p.ground.getD j 0)) →
      ∃ L', M_Pinned_held_l2 N p (i : Int) kk fuel (L, (x : Int)) = kk L' ∧ L'.length ≤ 28 * (i + 1) ∧ ∀ e, e ∈ L' ↔ ∃ i' j : Nat, i' < j ∧ j < p.ground.length ∧ i' < i + 1 ∧ e = (p.ground.getD i' 0, p.ground.getD j 0) := by
    intro kk i hi fuel
    induction fuel with
    | zero => intro x L h1 h2; omega
    | succ fuel ih =>
      intro x L h1 h2 h3 h4
      rw [M_Pinned_held_l2]
      have e1 : (((i : Int) + 1)).toNat = i + 1 := by omega
      have e2 : ((p.ground.take p.ground.length).drop (i + 1)).length = p.ground.length - (i + 1) := by simp
      by_cases hx : i + 1 + x < p.ground.length
      · have e3 : ((p.ground.take p.ground.length).drop (i + 1)).getD x 0 = p.ground.getD (i + 1 + x) 0 := by simp [List.getD_eq_getElem?_getD]
        have hlt := asc_lt ha (i + 1 + x) i (by omega) hx
        have eb : I_bar N (p.ground.getD i 0) (p.ground.getD (i + 1 + x) 0) = some (p.ground.getD i 0, p.ground.getD (i + 1 + x) 0) := by
          unfold I_bar
          rw [Int.min_eq_left (by omega), Int.max_eq_right (by omega)]
        obtain ⟨L', k1, k2⟩ := ih (x + 1) (L ++ [(p.ground.getD i 0, p.ground.getD (i + 1 + x) 0)]) (by omega) (by omega) (by simp; omega) fun e => by
          rw [List.mem_append, h4 e, List.mem_singleton]
          constructor
          · rintro (⟨i', j, g1, g2, g3, g4⟩ | h)
            · exact ⟨i', j, g1, g2, by omega, g4⟩
            · exact ⟨i, i + 1 + x, by omega, hx, by omega, h⟩
          · rintro ⟨i', j, g1, g2, g3, g4⟩
            by_cases hc : i' < i ∨ i' = i ∧ j < i + 1 + x
            · exact .inl ⟨i', j, g1, g2, hc, g4⟩
            · right
              have h1 : i' = i := by omega
              have h2 : j = i + 1 + x := by omega
              rw [g4, h1, h2]
        refine ⟨L', ?_, k2⟩
        simp (disch := omega) only [Int.toNat_natCast, tk0, List.length_cons, List.length_nil, grd_pos, grd_T, grd_R, cnd_dt, cnd_df, cnd_true, cnd_false, Option.bind_some, e1, e2, e3, eb, succ_cast]
        exact k1
      · refine ⟨L, ?_, by omega, fun e => ?_⟩
        · simp (disch := omega) only [Int.toNat_natCast, tk0, List.length_cons, List.length_nil, grd_pos, grd_T, grd_R, cnd_dt, cnd_df, cnd_true, cnd_false, Option.bind_some, e1, e2]
        · rw [h4 e]
          constructor
          · rintro ⟨i', j, g1, g2, g3, g4⟩
            exact ⟨i', j, g1, g2, by omega, g4⟩
          · rintro ⟨i', j, g1, g2, g3, g4⟩
            exact ⟨i', j, g1, g2, by omega, g4⟩
  have key1 : ∀ {kk : List (Int × Int) → Option (List (Int × Int))} (fuel i : Nat) (L : List (Int × Int)), i ≤ p.ground.length → p.ground.length < fuel + i → L.length ≤ 28 * i → (∀ e, e ∈ L ↔ ∃ i' j : Nat, i' < j ∧ j < p.ground.length ∧ i' < i ∧ e = (p.ground.getD i' 0, p.ground.getD j 0)) →
      ∃ L', M_Pinned_held_l1 N p kk fuel (L, (i : Int)) = kk L' ∧ L'.length ≤ 800 ∧ HeldI p.ground L' := by
    intro kk fuel
    induction fuel with
    | zero => intro i L h1 h2; omega
    | succ fuel ih =>
      intro i L h1 h2 h3 h4
      rw [M_Pinned_held_l1]
      by_cases hi : i < p.ground.length
      · obtain ⟨L1, a1, a2, a3⟩ := key2 (kk := fun l100 => M_Pinned_held_l1 N p kk fuel (l100, ((i : Int) + (1 : Int)))) i hi N 0 L (by omega) (by omega) (by omega) fun e => by
          rw [h4 e]
          constructor
          · rintro ⟨i', j, g1, g2, g3, g4⟩
            exact ⟨i', j, g1, g2, by omega, g4⟩
          · rintro ⟨i', j, g1, g2, g3, g4⟩
            exact ⟨i', j, g1, g2, by omega, g4⟩
        rw [show ((0 : Nat) : Int) = 0 from rfl] at a1
        obtain ⟨L', k1, k2⟩ := ih (i + 1) L1 (by omega) (by omega) (by omega) a3
        refine ⟨L', ?_, k2⟩
        rw [cnd_dt (by omega), grd_pos (by omega), grd_R (by omega) (by omega), grd_pos (by omega)]
        refine a1.trans ?_
        rw [← k1, succ_cast]
      · have e : i = p.ground.length := by omega
        subst e
        refine ⟨L, ?_, by omega, fun e => ?_⟩
        · simp (disch := omega) only [Int.toNat_natCast, tk0, List.length_cons, List.length_nil, grd_pos, grd_T, grd_R, cnd_dt, cnd_df, cnd_true, cnd_false, Option.bind_some]
        · rw [h4 e]
          constructor
          · rintro ⟨i', j, g1, g2, g3, g4⟩
            exact ⟨i', j, g1, g2, g4⟩
          · rintro ⟨i', j, g1, g2, g4⟩
            exact ⟨i', j, g1, g2, by omega, g4⟩
  obtain ⟨L, k1, k2⟩ := key1 (kk := fun x => some x) N 0 [] (by omega) (by omega) (by simp) (fun e => by
    constructor
    · intro h; simp at h
    · rintro ⟨i', j, g1, g2, g3, g4⟩; omega)
  rw [show ((0 : Nat) : Int) = 0 from rfl] at k1
  exact ⟨L, k1, k2⟩

theorem spr_len {I : List (Int × Int)} (h : Spr n I) : I.length ≤ 2 * n := by
  have h1 : spn (fun _ => true) I = I.length := by simp [spn, inX]
  have h2 : vsz n (fun _ => true) = n := by simp [vsz]
  by_cases h0 : 0 < spn (fun _ => true) I
  · have := h _ h0
    rw [h1, h2] at this
    omega
  · omega
/-- bases of the two lists are as long -/
theorem two_ranks {G : List Int} {LH LS LI bars I J : List (Int × Int)} (hG : ∀ i, i < G.length → 0 ≤ G.getD i 0 ∧ G.getD i 0 < n) (hlt : ∀ j i : Nat, i < j → j < G.length → G.getD i 0 < G.getD j 0) (hS : HeldS G LH G.length) (hI : HeldI G LI)
    (hb : ∀ e ∈ bars, Bok n e) (hLS : ∀ e, e ∈ LS ↔ e ∈ LH ∨ e ∈ bars) (h1 : Bas n LS I) (h2 : Bas n (LI ++ bars) J) : I.length = J.length := by
  have pok : ∀ i j : Nat, i < j → j < G.length → Bok n (G.getD i 0, G.getD j 0) := fun i j g1 g2 => by
    have a := hG i (by omega)
    have b := hG j g2
    have c := hlt j i g1 g2
    exact ⟨a.1, a.2, b.1, b.2, by simp only; omega⟩
  have okI : ∀ e ∈ I, Bok n e := fun e he => by
    rcases (hLS e).1 (h1.mem e he) with h | h
    · obtain ⟨i, j, g1, g2, rfl⟩ := hS.mem e h; exact pok i j g1 g2
    · exact hb e h
  have okJ : ∀ e ∈ J, Bok n e := fun e he => by
    rcases List.mem_append.1 (h2.mem e he) with h | h
    · obtain ⟨i, j, g1, g2, rfl⟩ := (hI e).1 h; exact pok i j g1 g2
    · exact hb e h
  have le1 : I.length ≤ J.length := spr_le h2.spr h1.spr okJ fun e he => h2.spn e (List.mem_append.2 (by
    rcases (hLS e).1 (h1.mem e he) with h | h
    · exact .inl ((hI e).2 (hS.mem e h))
    · exact .inr h))
  have le2 : J.length ≤ I.length := by
    refine spr_le h1.spr h2.spr okI fun e he => ?_
    rcases List.mem_append.1 (h2.mem e he) with h | h
    · obtain ⟨i, j, g1, g2, rfl⟩ := (hI e).1 h
      have s0 : ∀ k, 1 ≤ k → k < G.length → ∃ X, Tgt n I X ∧ inX X (G.getD 0 0, G.getD k 0) = true := fun k a b => h1.spn _ ((hLS _).2 (.inl (hS.h0 k a b)))
      have s1 : ∀ k, 2 ≤ k → k < G.length → ∃ X, Tgt n I X ∧ inX X (G.getD 1 0, G.getD k 0) = true := fun k a b => h1.spn _ ((hLS _).2 (.inl (hS.h1 k a b)))
      have t : ∀ k, 2 ≤ k → k < G.length → ∃ W, Tgt n I W ∧ W (G.getD 0 0) = true ∧ W (G.getD 1 0) = true ∧ W (G.getD k 0) = true := by
        intro k a b
        obtain ⟨A, a1, a2⟩ := s0 1 (by omega) (by omega)
        obtain ⟨B, b1, b2⟩ := s0 k (by omega) b
        obtain ⟨C, c1, c2⟩ := s1 k a b
        simp only [inX, Bool.and_eq_true] at a2 b2 c2
        have l1 := hlt 1 0 (by omega) (by omega)
        have l2 := hlt k 0 (by omega) b
        have l3 := hlt k 1 (by omega) b
        exact tri h1.spr okI a1 b1 c1 (hG 0 (by omega)) (hG 1 (by omega)) (hG k b) (by omega) (by omega) (by omega) a2.1 a2.2 b2.1 b2.2 c2.1 c2.2
      by_cases e0 : i = 0
      · subst e0; exact s0 j (by omega) g2
      by_cases e1 : i = 1
      · subst e1; exact s1 j (by omega) g2
      obtain ⟨V, v1, v2, v3, v4⟩ := t i (by omega) (by omega)
      obtain ⟨W, w1, w2, w3, w4⟩ := t j (by omega) g2
      have l1 := hlt 1 0 (by omega) (by omega)
      refine ⟨vU V W, v1.union h1.spr w1 (countP_two (hG 0 (by omega)) (hG 1 (by omega)) (by omega) (by simp only [vI, v2, w2, Bool.and_self]) (by simp only [vI, v3, w3, Bool.and_self])), ?_⟩
      simp only [inX, vU, v4, w4, Bool.true_or, Bool.or_true, Bool.and_self]
    · exact h1.spn e ((hLS e).2 (.inr h))
  omega
theorem pin_ranks (hN : 4000000 ≤ N) {p : Pin} (hp : isPinned p = true) : ∃ (r s : Nat) (hS : Grf) (aS : Grf) (hI : List (Int × Int)), S_l20All N p = some aS ∧ S_l20Held N p = some hS ∧ S_l6Rank N aS = some (r : Int) ∧ S_l6Rank N hS = some (s : Int) ∧
    M_Pinned_held N p = some hI ∧ hI.length ≤ 800 ∧ I_planeRank N p.g.n (hI ++ p.g.bars) = some (r : Int) ∧ I_planeRank N p.g.n hI = some (s : Int) ∧ r ≤ 1000 ∧ s ≤ 1000 := by
  obtain ⟨p1, p2, p3, p4, p5, p6, p7⟩ := isPinned_parts hp
  obtain ⟨hn1, hn2, hbl⟩ := isPinned_n p1
  obtain ⟨n, hn⟩ := Int.eq_ofNat_of_zero_le (show 0 ≤ p.g.n by omega)
  obtain ⟨LH, LS, a1, a2, a3, a4, a5, a6, _⟩ := allS_s (N := N) hN (p := p) (by omega) (by omega)
  obtain ⟨LI, b1, b2, b3⟩ := heldI_s (N := N) hN (p := p) (by omega) p6
  have hG : ∀ i, i < p.ground.length → 0 ≤ p.ground.getD i 0 ∧ p.ground.getD i 0 < n := fun i hi => by
    have := asc_in p6 (getD_mem (d := 0) hi)
    omega
  have hlt := asc_lt p6
  have hb : ∀ e ∈ p.g.bars, Bok n e := fun e he => by
    have := isGraph_bar p1 he
    exact ⟨by omega, by omega, by omega, by omega, by omega⟩
  have pok : ∀ i j : Nat, i < j → j < p.ground.length → Bok n (p.ground.getD i 0, p.ground.getD j 0) := fun i j g1 g2 => by
    have a := hG i (by omega)
    have b := hG j g2
    have c := hlt j i g1 g2
    exact ⟨a.1, a.2, b.1, b.2, by simp only; omega⟩
  have okLH : ∀ e ∈ LH, Bok n e := fun e he => by
    obtain ⟨i, j, g1, g2, rfl⟩ := a3.mem e he; exact pok i j g1 g2
  have okLI : ∀ e ∈ LI, Bok n e := fun e he => by
    obtain ⟨i, j, g1, g2, rfl⟩ := (b3 e).1 he; exact pok i j g1 g2
  obtain ⟨I1, c1, c2⟩ := rank_s (N := N) hN (g := ⟨p.g.n, LS⟩) (n := n) hn (by omega) (fun e he => by
    rcases (a6 e).1 he with h | h
    · exact okLH e h
    · exact hb e h) (by simp only; omega)
  obtain ⟨I2, d1, d2⟩ := rank_s (N := N) hN (g := ⟨p.g.n, LH⟩) (n := n) hn (by omega) okLH (by simp only; omega)
  obtain ⟨J1, e1, e2⟩ := planeRank_s (N := N) hN (n := n) (by omega) (bars := LI ++ p.g.bars) (fun e he => by
    rcases List.mem_append.1 he with h | h
    · exact okLI e h
    · exact hb e h) (by simp; omega)
  obtain ⟨J2, f1, f2⟩ := planeRank_s (N := N) hN (n := n) (by omega) (bars := LI) okLI (by omega)
  have q1 := two_ranks hG hlt a3 b3 hb a6 c1 e1
  have q2 := two_ranks (bars := []) hG hlt a3 b3 (by simp) (by simp) d1 (by simpa using f1)
  refine ⟨I1.length, I2.length, _, _, LI, a4, a1, c2, d2, b1, b2, ?_, ?_, ?_, ?_⟩
  · rw [hn, e2, q1]
  · rw [hn, f2, q2]
  · have := spr_len c1.spr
    omega
  · have := spr_len d1.spr
    omega
/-- the rank, the same from both sides -/
theorem pinnedRank_x (hN : 4000000 ≤ N) {p : Pin} (hb : p.g.bars.length ≤ 3000000) (hg : p.ground.length ≤ 3000000) : ∃ r : Int, S_PinnedRank N p = some r ∧ I_PinnedRank N p = some r ∧ -1001 ≤ r ∧ r ≤ 1001 := by
  cases hp : isPinned p with
  | false =>
    refine ⟨-1, ?_, ?_, by omega, by omega⟩
    · unfold S_PinnedRank
      simp (disch := omega) only [Int.toNat_natCast, tk0, List.length_cons, List.length_nil, grd_pos, grd_T, grd_R, cnd_dt, cnd_df, cnd_true, cnd_false, Option.bind_some, isPinnedS_s N hN hb hg, hp, Bool.not_false]
    · unfold I_PinnedRank
      simp (disch := omega) only [Int.toNat_natCast, tk0, List.length_cons, List.length_nil, grd_pos, grd_T, grd_R, cnd_dt, cnd_df, cnd_true, cnd_false, Option.bind_some, isPinnedI_s N hN hb hg, hp, Bool.not_false]
  | true =>
    obtain ⟨r, s, hS, aS, hI, h1, h2, h3, h4, h5, h6, h7, h8, h9, h10⟩ := pin_ranks hN hp
    obtain ⟨b1, b2, b3, b4⟩ := isPinned_bd hp
    refine ⟨(r : Int) - s, ?_, ?_, by omega, by omega⟩
    · unfold S_PinnedRank
      simp (disch := omega) only [Int.toNat_natCast, tk0, List.length_cons, List.length_nil, grd_pos, grd_T, grd_R, cnd_dt, cnd_df, cnd_true, cnd_false, Option.bind_some, isPinnedS_s N hN hb hg, hp, Bool.not_true, h1, h2, h3, h4]
    · unfold I_PinnedRank
      simp (disch := omega) only [Int.toNat_natCast, tk0, List.length_cons, List.length_nil, grd_pos, grd_T, grd_R, cnd_dt, cnd_df, cnd_true, cnd_false, Option.bind_some, isPinnedI_s N hN hb hg, hp, Bool.not_true, h5, h7, h8]
end Go.Proofs.Ytkpmijmlbpdknaa

namespace Go.Proofs.Ytkpmijmlbpdknaa
set_option linter.unusedVariables false
set_option linter.unusedSimpArgs false
variable {n : Nat}
/-- some tight set of the basis spans the bar -/
def Tied (n : Nat) (I : List (Int × Int)) (e : Int × Int) : Prop := ∃ X, Tgt n I X ∧ inX X e = true
theorem spr_add {I : List (Int × Int)} (hI : Spr n I) {e : Int × Int} (hb : Bok n e) (h : ¬ Tied n I e) : Spr n (I ++ [e]) := by
  intro X hX
  rw [spn_append] at hX ⊢
  have e1 : spn X [e] = if inX X e = true then 1 else 0 := by rw [spn_cons]; simp [spn]
  rw [e1] at hX ⊢
  by_cases hin : inX X e = true
  · rw [if_pos hin]
    have h2 : 2 ≤ vsz n X := by
      obtain ⟨h1, h2, h3, h4, h5⟩ := hb
      simp only [inX, Bool.and_eq_true] at hin
      exact countP_two ⟨h1, h2⟩ ⟨h3, h4⟩ h5 hin.1 hin.2
    by_cases h0 : 0 < spn X I
    · have := hI X h0
      have hn : ¬ Tgt n I X := fun ht => h ⟨X, ht, hin⟩
      have : ¬ (2 * vsz n X ≤ spn X I + 3) := fun hc => hn ⟨h2, hc⟩
      omega
    · omega
  · rw [if_neg hin] at hX ⊢
    have := hI X (by omega)
    omega
/-- bases of lists with the same bars are as long -/
theorem bas_len {L L' I J : List (Int × Int)} (hb : ∀ e ∈ L, Bok n e) (hm : ∀ e, e ∈ L' ↔ e ∈ L) (hI : Bas n L I) (hJ : Bas n L' J) : I.length = J.length := by
  have h1 : J.length ≤ I.length := spr_le hI.spr hJ.spr (fun e he => hb e (hI.mem e he)) fun e he => hI.spn e ((hm e).1 (hJ.mem e he))
  have h2 : I.length ≤ J.length := spr_le hJ.spr hI.spr (fun e he => hb e ((hm e).1 (hJ.mem e he))) fun e he => hJ.spn e ((hm e).2 (hI.mem e he))
  omega
theorem rank_tied {L L' I J : List (Int × Int)} {e : Int × Int} (hb : ∀ x ∈ L, Bok n x) (he : Bok n e) (hm : ∀ x, x ∈ L' ↔ x = e ∨ x ∈ L) (hI : Bas n L I) (hJ : Bas n L' J) (h : Tied n I e) : J.length = I.length := by
  have hI' : Bas n L' I := ⟨fun x hx => (hm x).2 (.inr (hI.mem x hx)), hI.spr, fun x hx => by
    rcases (hm x).1 hx with rfl | hx
    · exact h
    · exact hI.spn x hx⟩
  exact (bas_len (L := L') (fun x hx => by
    rcases (hm x).1 hx with rfl | hx
    · exact he
    · exact hb x hx) (fun x => Iff.rfl) hI' hJ).symm
theorem rank_free {L L' I J : List (Int × Int)} {e : Int × Int} (hb : ∀ x ∈ L, Bok n x) (he : Bok n e) (hm : ∀ x, x ∈ L' ↔ x = e ∨ x ∈ L) (hI : Bas n L I) (hJ : Bas n L' J) (h : ¬ Tied n I e) : J.length = I.length + 1 := by
  have hI' : Bas n L' (I ++ [e]) := ⟨fun x hx => by
    rcases List.mem_append.1 hx with hx | hx
    · exact (hm x).2 (.inr (hI.mem x hx))
    · simp at hx; exact (hm x).2 (.inl hx), spr_add hI.spr he h, fun x hx => by
    rcases (hm x).1 hx with rfl | hx
    · exact ⟨_, tgt_bar (by simp) he, by simp [inX, v2]⟩
    · obtain ⟨X, g1, g2⟩ := hI.spn x hx
      exact ⟨X, g1.grow (by rw [spn_append]; omega), g2⟩⟩
  have := bas_len (L := L') (fun x hx => by
    rcases (hm x).1 hx with rfl | hx
    · exact he
    · exact hb x hx) (fun x => Iff.rfl) hI' hJ
  simp at this
  omega
/-- one more bar leaves the rank iff a tight set spans it -/
theorem rank_iff {L L' I J : List (Int × Int)} {e : Int × Int} (hb : ∀ x ∈ L, Bok n x) (he : Bok n e) (hm : ∀ x, x ∈ L' ↔ x = e ∨ x ∈ L) (hI : Bas n L I) (hJ : Bas n L' J) : J.length = I.length ↔ Tied n I e := by
  by_cases h : Tied n I e
  · exact ⟨fun _ => h, fun _ => rank_tied hb he hm hI hJ h⟩
  · have := rank_free hb he hm hI hJ h
    exact ⟨fun h => by omega, fun h' => absurd h' h⟩
/-- what one basis ties every other ties that spans it -/
theorem Tied.of {I J : List (Int × Int)} (hI : Spr n I) (hJ : Spr n J) (okI : ∀ e ∈ I, Bok n e) (okJ : ∀ e ∈ J, Bok n e) (h1 : ∀ e ∈ I, Tied n J e) (h2 : ∀ e ∈ J, Tied n I e) {e : Int × Int} (he : Bok n e) (h : Tied n I e) : Tied n J e := by
  by_cases hc : Tied n J e
  · exact hc
  · exfalso
    have hs := spr_add hJ he hc
    have := spr_le hI hs okI fun x hx => by
      rcases List.mem_append.1 hx with hx | hx
      · exact h2 x hx
      · simp at hx; subst hx; exact h
    have h3 := spr_le hJ hI okJ h1
    simp at this
    omega
theorem Tied.swap {I : List (Int × Int)} {a b : Int} (h : Tied n I (a, b)) : Tied n I (b, a) := by
  obtain ⟨X, h1, h2⟩ := h
  refine ⟨X, h1, ?_⟩
  simp only [inX, Bool.and_eq_true] at h2 ⊢
  exact ⟨h2.2, h2.1⟩
/-- three points: two ties make the third -/
theorem Tied.tri {I : List (Int × Int)} (hI : Spr n I) (ok : ∀ e ∈ I, Bok n e) {x y z : Int} (hx : 0 ≤ x ∧ x < n) (hy : 0 ≤ y ∧ y < n) (hz : 0 ≤ z ∧ z < n) (hxy : x ≠ y) (hxz : x ≠ z) (hyz : y ≠ z) (a : Tied n I (x, y)) (b : Tied n I (x, z)) (c : Tied n I (y, z)) : ∃ W, Tgt n I W ∧ W x = true ∧ W y = true ∧ W z = true := by
  obtain ⟨A, a1, a2⟩ := a
  obtain ⟨B, b1, b2⟩ := b
  obtain ⟨C, c1, c2⟩ := c
  simp only [inX, Bool.and_eq_true] at a2 b2 c2
  exact Ytkpmijmlbpdknaa.tri hI ok a1 b1 c1 hx hy hz hxy hxz hyz a2.1 a2.2 b2.1 b2.2 c2.1 c2.2
/-- two points that are each tied to the same two are tied -/
theorem Tied.via {I : List (Int × Int)} (hI : Spr n I) (ok : ∀ e ∈ I, Bok n e) {x y z w : Int} (hx : 0 ≤ x ∧ x < n) (hy : 0 ≤ y ∧ y < n) (hz : 0 ≤ z ∧ z < n) (hw : 0 ≤ w ∧ w < n) (hxy : x ≠ y) (hxz : x ≠ z) (hyz : y ≠ z) (hxw : x ≠ w) (hyw : y ≠ w)
    (a : Tied n I (x, y)) (b : Tied n I (x, z)) (c : Tied n I (y, z)) (d : Tied n I (x, w)) (f : Tied n I (y, w)) : Tied n I (z, w) := by
  obtain ⟨V, v1, v2, v3, v4⟩ := Tied.tri hI ok hx hy hz hxy hxz hyz a b c
  obtain ⟨W, w1, w2, w3, w4⟩ := Tied.tri hI ok hx hy hw hxy hxw hyw a d f
  refine ⟨vU V W, v1.union hI w1 (countP_two hx hy hxy (by simp only [vI, v2, w2, Bool.and_self]) (by simp only [vI, v3, w3, Bool.and_self])), ?_⟩
  simp only [inX, vU, v4, w4, Bool.true_or, Bool.or_true, Bool.and_self]
end Go.Proofs.Ytkpmijmlbpdknaa

namespace Go.Proofs.Ytkpmijmlbpdknaa
open Go.RowKit
set_option linter.unusedVariables false
set_option linter.unusedSimpArgs false
def S_RemoveBar (N : Nat) (g_0 : Grf) (k_1 : Int) : Option (Grf × Bool) :=
  (S_IsGraph N g_0).bind fun v1 =>
  cnd (!v1) (
    (S_l2Copy N g_0).bind fun v2 =>
    some ((⟨v2.n, v2.bars⟩ : Grf), false)) (
    cnd (decide (k_1 < (0 : Int))) (
      (S_l2Copy N g_0).bind fun v3 =>
      some ((⟨v3.n, v3.bars⟩ : Grf), false)) (
      cnd (decide (k_1 ≥ (g_0.bars.length : Int))) (
        (S_l2Copy N g_0).bind fun v4 =>
        some ((⟨v4.n, v4.bars⟩ : Grf), false)) (
        grd (0 ≤ k_1 ∧ k_1 ≤ (g_0.bars.length : Int)) <|
        grd (((g_0.bars.take ((k_1).toNat)).drop 0).length ≤ 4294967296) <|
        grd (Rg64 (k_1 + (1 : Int))) <|
        grd (0 ≤ (k_1 + (1 : Int)) ∧ (k_1 + (1 : Int)) ≤ (g_0.bars.length : Int)) <|
        grd ((([] : List (Int × Int)) ++ ((g_0.bars.take ((k_1).toNat)).drop 0)).length + ((g_0.bars.take g_0.bars.length).drop (((k_1 + (1 : Int))).toNat)).length ≤ 4294967296) <|
        some ((⟨g_0.n, ((([] : List (Int × Int)) ++ ((g_0.bars.take ((k_1).toNat)).drop 0)) ++ ((g_0.bars.take g_0.bars.length).drop (((k_1 + (1 : Int))).toNat)))⟩ : Grf), true))))
set_option maxRecDepth 20000 in
set_option maxHeartbeats 1600000 in
theorem S_RemoveBar_w (N : Nat) (g_0 : Grf) (k_1 : Int) (r : Grf × Bool) (h : S_RemoveBar N g_0 k_1 = some r) : PCall Try.prog 97 [gD g_0, .int k_1] [(71, .pairs r.1.bars)] (.tup [.agg [.int r.1.n, .row 0 0 r.1.bars.length], .bool r.2]) := by
  unfold S_RemoveBar at h
  refine pcall_intro (TT := TT) tt Try.func97 rfl rfl Try.ntmps97 (congrArg Array.toList Try.results97) rfl rfl fun w0 => ?_
  refine vSeq ?_
  refine vRegion ?_
  refine oBox rfl rfl rfl rfl rfl rfl rfl rfl rfl ?_
  refine oAlloc tt rfl rfl rfl rfl rfl rfl rfl rfl rfl ?_
  refine oVal tt rfl rfl rfl rfl rfl trivial ?_
  refine vNil ?_
  change VC _ _ _ _
  iterate 2 refine vSeq ?_
  refine vRegion ?_
  refine oVal tt rfl rfl rfl rfl rfl trivial ?_
  obtain ⟨v1, hc1, h⟩ := bind_inv h
  refine oCall (S_IsGraph_w N g_0 v1 hc1) rfl rfl rfl rfl rfl rfl rfl rfl ⟨⟨rfl, rfl, trivial⟩, trivial⟩ ?_
  iterate 2 refine oVal tt rfl rfl rfl rfl rfl trivial ?_
  refine oSplit rfl rfl rfl (fun hb2 => ?_) (fun hb2 => ?_)
  · replace h := cnd_t hb2 h
    iterate 2 refine oNoF rfl rfl rfl rfl hb2 rfl rfl ?_
    refine oPick rfl rfl rfl rfl rfl hb2 rfl ?_
    refine oVal tt rfl rfl rfl rfl rfl trivial ?_
    iterate 5 refine oNoF rfl rfl rfl rfl rfl rfl rfl ?_
    refine oPick rfl rfl rfl rfl rfl rfl rfl ?_
    refine vNil ?_
    change VC _ _ _ _
    refine vCondT rfl rfl ?_
    refine vSeq ?_
    refine vRegion ?_
    refine oVal tt rfl rfl rfl rfl rfl trivial ?_
    obtain ⟨v2, hc3, h⟩ := bind_inv h
    refine oCall (S_l2Copy_w N g_0 v2 hc3) rfl rfl rfl rfl rfl rfl rfl rfl ⟨⟨rfl, rfl, trivial⟩, trivial⟩ ?_
    refine oStore tt rfl rfl rfl rfl rfl rfl rfl rfl rfl rfl rfl ⟨trivial, trivial, trivial⟩ ?_
    refine oVal tt rfl rfl rfl rfl rfl trivial ?_
    refine vNil ?_
    change VC _ _ _ _
    refine vRet ?_
    change ∃ _, _
    cases h
    exact ⟨[1210], _, rfl, ⟨rfl, trivial⟩, rfl, (.eq rfl), rfl⟩
  · replace h := cnd_f hb2 h
    iterate 2 refine oValG tt rfl rfl rfl rfl rfl hb2 rfl rfl rfl trivial ?_
    refine oPickF rfl rfl rfl rfl rfl hb2 rfl ?_
    refine oVal tt rfl rfl rfl rfl rfl trivial ?_
    refine oSplit rfl rfl rfl (fun hb4 => ?_) (fun hb4 => ?_)
    · replace h := cnd_t hb4 h
      iterate 5 refine oNoF rfl rfl rfl rfl hb4 rfl rfl ?_
      refine oPick rfl rfl rfl rfl rfl hb4 rfl ?_
      refine vNil ?_
      change VC _ _ _ _
      refine vCondT rfl rfl ?_
      refine vSeq ?_
      refine vRegion ?_
      refine oVal tt rfl rfl rfl rfl rfl trivial ?_
      obtain ⟨v3, hc5, h⟩ := bind_inv h
      refine oCall (S_l2Copy_w N g_0 v3 hc5) rfl rfl rfl rfl rfl rfl rfl rfl ⟨⟨rfl, rfl, trivial⟩, trivial⟩ ?_
      refine oStore tt rfl rfl rfl rfl rfl rfl rfl rfl rfl rfl rfl ⟨trivial, trivial, trivial⟩ ?_
      refine oVal tt rfl rfl rfl rfl rfl trivial ?_
      refine vNil ?_
      change VC _ _ _ _
      refine vRet ?_
      change ∃ _, _
      cases h
      exact ⟨[1210], _, rfl, ⟨rfl, trivial⟩, rfl, (.eq rfl), rfl⟩
    · replace h := cnd_f hb4 h
      iterate 5 refine oValG tt rfl rfl rfl rfl rfl hb4 rfl rfl rfl trivial ?_
      refine oPickF rfl rfl rfl rfl rfl hb4 rfl ?_
      refine vNil ?_
      change VC _ _ _ _
      refine vCond rfl (fun hb6 => ?_) (fun hb6 => ?_)
      · replace h := cnd_t hb6 h
        refine vSeq ?_
        refine vRegion ?_
        refine oVal tt rfl rfl rfl rfl rfl trivial ?_
        obtain ⟨v4, hc7, h⟩ := bind_inv h
        refine oCall (S_l2Copy_w N g_0 v4 hc7) rfl rfl rfl rfl rfl rfl rfl rfl ⟨⟨rfl, rfl, trivial⟩, trivial⟩ ?_
        refine oStore tt rfl rfl rfl rfl rfl rfl rfl rfl rfl rfl rfl ⟨trivial, trivial, trivial⟩ ?_
        refine oVal tt rfl rfl rfl rfl rfl trivial ?_
        refine vNil ?_
        change VC _ _ _ _
        refine vRet ?_
        change ∃ _, _
        cases h
        exact ⟨[1210], _, rfl, ⟨rfl, trivial⟩, rfl, (.eq rfl), rfl⟩
      · replace h := cnd_f hb6 h
        refine vSkip ?_
        change VC _ _ _ _
        refine vSeq ?_
        refine vRegionN 14 [7, 13, 1130000029] [0, 1, 0, 0, 8, 0, 56, 124, 0, 256, 0, 1024, 3840, 8188, 16383, 32767, 65535] (by kernel_rfl) (by kernel_rfl) (by kernel_rfl) (by kernel_rfl) (by kernel_rfl) rfl (by rfl) ?_
        iterate 2 refine nVal tt rfl (wNone rfl) rfl rfl rfl rfl rfl trivial ?_
        refine nEmpty tt (wNone rfl) rfl rfl rfl rfl rfl ?_
        iterate 3 refine nVal tt rfl (wNone rfl) rfl rfl rfl rfl rfl trivial ?_
        obtain ⟨hg8, h⟩ := grd_inv h
        refine nVal tt rfl (wNone rfl) rfl rfl rfl rfl rfl hg8 ?_
        obtain ⟨hg9, h⟩ := grd_inv h
        refine nAppNil tt (wNone rfl) rfl rfl rfl rfl rfl rfl rfl rfl (fun _ => rfl) rfl rfl rfl rfl rfl rfl hg9 ?_
        iterate 3 refine nVal tt rfl (wNone rfl) rfl rfl rfl rfl rfl trivial ?_
        obtain ⟨hg10, h⟩ := grd_inv h
        refine nVal tt rfl (wNone rfl) rfl rfl rfl rfl rfl hg10 ?_
        obtain ⟨hg11, h⟩ := grd_inv h
        refine nVal tt rfl (wNone rfl) rfl rfl rfl rfl rfl hg11 ?_
        obtain ⟨hg12, h⟩ := grd_inv h
        refine nAppMove tt (wNone rfl) rfl rfl rfl rfl rfl rfl rfl rfl rfl rfl rfl rfl rfl rfl rfl rfl rfl rfl rfl rfl trivial hg12 ?_
        refine nNil ?_
        change VO _ _ _ _ _
        refine oPure (wNone rfl) (pBuild bld_impl_Graph rfl rfl) rfl rfl ?_
        refine oStore tt rfl rfl rfl rfl rfl rfl rfl rfl rfl rfl rfl ⟨trivial, trivial, trivial⟩ ?_
        refine oVal tt rfl rfl rfl rfl rfl trivial ?_
        refine vNil ?_
        change VC _ _ _ _
        refine vRet ?_
        change ∃ _, _
        cases h
        exact ⟨[35], _, rfl, ⟨rfl, trivial⟩, rfl, (.eq rfl), rfl⟩
def S_l27Less (N : Nat) (p_0 : Pin) (bar_1 : Int) : Option (Pin) :=
  (S_RemoveBar N p_0.g bar_1).bind fun v1 =>
  grd (p_0.ground.length ≤ 4294967296) <|
  some (⟨⟨v1.1.n, v1.1.bars⟩, (([] : List Int) ++ p_0.ground)⟩ : Pin)
set_option maxRecDepth 20000 in
set_option maxHeartbeats 1600000 in
theorem S_l27Less_w (N : Nat) (p_0 : Pin) (bar_1 : Int) (r : Pin) (h : S_l27Less N p_0 bar_1 = some r) : PCall Try.prog 63 [pD p_0, .int bar_1] [(71, .pairs r.g.bars), (3, .ints r.ground)] (.agg [.int r.g.n, .row 0 0 r.g.bars.length, .row 1 0 r.ground.length]) := by
  unfold S_l27Less at h
  refine pcall_intro (TT := TT) tt Try.func63 rfl rfl Try.ntmps63 (congrArg Array.toList Try.results63) rfl rfl fun w0 => ?_
  refine vSeq ?_
  refine vRegion ?_
  refine oBox rfl rfl rfl rfl rfl rfl rfl rfl rfl ?_
  refine oAlloc tt rfl rfl rfl rfl rfl rfl rfl rfl rfl ?_
  refine vNil ?_
  change VC _ _ _ _
  refine vSeq ?_
  refine vRegion ?_
  iterate 3 refine oVal tt rfl rfl rfl rfl rfl trivial ?_
  obtain ⟨v1, hc1, h⟩ := bind_inv h
  refine oCall (S_RemoveBar_w N p_0.g bar_1 v1 hc1) rfl rfl rfl rfl rfl rfl rfl rfl ⟨⟨rfl, rfl, trivial⟩, rfl, trivial⟩ ?_
  iterate 3 refine oVal tt rfl rfl rfl rfl rfl trivial ?_
  refine oAlloc tt rfl rfl rfl rfl rfl rfl rfl rfl rfl ?_
  refine oStore tt rfl rfl rfl rfl rfl rfl rfl rfl rfl rfl rfl ⟨trivial, trivial, trivial⟩ ?_
  refine oVal tt rfl rfl rfl rfl rfl trivial ?_
  refine vNil ?_
  change VC _ _ _ _
  refine vSeq ?_
  refine vRegionN 5 [4] [0, 0, 0, 4, 14, 31, 63] (by kernel_rfl) (by kernel_rfl) (by kernel_rfl) (by kernel_rfl) (by kernel_rfl) rfl (by rfl) ?_
  refine nVal tt rfl (wNone rfl) rfl rfl rfl rfl rfl trivial ?_
  refine nEmpty tt (wNone rfl) rfl rfl rfl rfl rfl ?_
  iterate 2 refine nVal tt rfl (wNone rfl) rfl rfl rfl rfl rfl trivial ?_
  obtain ⟨hg2, h⟩ := grd_inv h
  refine nAppNil tt (wNone rfl) rfl rfl rfl rfl rfl rfl rfl rfl (fun _ => rfl) rfl rfl rfl rfl rfl rfl hg2 ?_
  refine nNil ?_
  change VO _ _ _ _ _
  refine oPure (wNone rfl) (pBuild bld_impl_Pinned rfl rfl) rfl rfl ?_
  refine oStore tt rfl rfl rfl rfl rfl rfl rfl rfl rfl rfl rfl ⟨trivial, trivial, trivial, trivial⟩ ?_
  refine vNil ?_
  change VC _ _ _ _
  refine vRet ?_
  change ∃ _, _
  cases h
  exact ⟨[1110, 18], _, rfl, ⟨rfl, rfl, trivial⟩, rfl, (.eq rfl), rfl⟩
def S_SafeToRemove (N : Nat) (p_0 : Pin) (bar_1 : Int) : Option (Bool) :=
  (S_IsPinned N p_0).bind fun v1 =>
  cnd v1 (
    cnd (decide (bar_1 ≥ (0 : Int))) (
      cnd (decide (bar_1 < (p_0.g.bars.length : Int))) (
        (S_l27Less N p_0 bar_1).bind fun v2 =>
        (S_PinnedRank N v2).bind fun v3 =>
        (S_PinnedRank N p_0).bind fun v4 =>
        some (v3 == v4)) (
        some false)) (
      some false)) (
    some false)
set_option maxRecDepth 20000 in
set_option maxHeartbeats 1600000 in
theorem S_SafeToRemove_w (N : Nat) (p_0 : Pin) (bar_1 : Int) (r : Bool) (h : S_SafeToRemove N p_0 bar_1 = some r) : PCall Try.prog 22 [pD p_0, .int bar_1] [] (.bool r) := by
  unfold S_SafeToRemove at h
  refine pcall_intro (TT := TT) tt Try.func22 rfl rfl Try.ntmps22 (congrArg Array.toList Try.results22) rfl rfl fun w0 => ?_
  refine vSeq ?_
  refine vRegion ?_
  refine oBox rfl rfl rfl rfl rfl rfl rfl rfl rfl ?_
  refine oVal tt rfl rfl rfl rfl rfl trivial ?_
  refine vNil ?_
  change VC _ _ _ _
  refine vSeq ?_
  refine vRegionN 20 [17] [0, 1, 3, 7, 15, 31, 63, 127, 127, 383, 895, 1919, 4095, 8191, 16383, 32767, 32767, 131071, 262143, 32767, 1048575, 2097151, 4194303, 8388607] (by kernel_rfl) (by kernel_rfl) (by kernel_rfl) (by kernel_rfl) (by kernel_rfl) rfl (by rfl) ?_
  refine nVal tt rfl (wNone rfl) rfl rfl rfl rfl rfl trivial ?_
  obtain ⟨v1, hc1, h⟩ := bind_inv h
  refine nCall (S_IsPinned_w N p_0 v1 hc1) rfl (wNone rfl) rfl rfl rfl rfl rfl rfl rfl rfl ⟨⟨rfl, rfl, rfl, trivial⟩, trivial⟩ ?_
  refine nVal tt rfl (wNone rfl) rfl rfl rfl rfl rfl trivial ?_
  refine nSplit rfl rfl rfl (fun hb2 => ?_) (fun hb2 => ?_)
  · replace h := cnd_t hb2 h
    iterate 2 refine nVal tt rfl (wSome rfl rfl rfl rfl hb2) rfl rfl rfl rfl rfl trivial ?_
    refine nPickT rfl (wNone rfl) rfl rfl rfl hb2 rfl rfl ?_
    refine nVal tt rfl (wNone rfl) rfl rfl rfl rfl rfl trivial ?_
    refine nSplit rfl rfl rfl (fun hb3 => ?_) (fun hb3 => ?_)
    · replace h := cnd_t hb3 h
      iterate 6 refine nVal tt rfl (wSome rfl rfl rfl rfl hb3) rfl rfl rfl rfl rfl trivial ?_
      refine nPickT rfl (wNone rfl) rfl rfl rfl hb3 rfl rfl ?_
      refine nVal tt rfl (wNone rfl) rfl rfl rfl rfl rfl trivial ?_
      refine nSplit rfl rfl rfl (fun hb4 => ?_) (fun hb4 => ?_)
      · replace h := cnd_t hb4 h
        iterate 2 refine nVal tt rfl (wSome rfl rfl rfl rfl hb4) rfl rfl rfl rfl rfl trivial ?_
        obtain ⟨v2, hc5, h⟩ := bind_inv h
        refine nCallR (S_l27Less_w N p_0 bar_1 v2 hc5) rfl (wSome rfl rfl rfl rfl hb4) rfl rfl rfl rfl rfl rfl (by first | rfl | kernel_rfl | (simp [nrL, nm, gdst, nmT, rowB]; done)) rfl (by first | rfl | kernel_rfl | (simp [chkE, nrL, nm, gdst, nmT, rowB, hid, ment, mentA, mentS]; done) | (simp [chkE, nrL, nm, gdst, nmT, rowB, hid, ment, mentA, mentS]; decide)) ⟨⟨rfl, rfl, rfl, trivial⟩, rfl, trivial⟩ ?_
        obtain ⟨v3, hc6, h⟩ := bind_inv h
        refine nCall (S_PinnedRank_w N v2 v3 hc6) rfl (wSome rfl rfl rfl rfl hb4) rfl rfl rfl rfl rfl rfl rfl rfl ⟨⟨rfl, (.inl ⟨rfl, rfl⟩), (.inl ⟨rfl, rfl⟩), trivial⟩, trivial⟩ ?_
        refine nVal tt rfl (wSome rfl rfl rfl rfl hb4) rfl rfl rfl rfl rfl trivial ?_
        refine nNil ?_
        change VO _ _ _ _ _
        obtain ⟨v4, hc7, h⟩ := bind_inv h
        refine oCallG (S_PinnedRank_w N p_0 v4 hc7) rfl rfl rfl rfl hb4 rfl rfl rfl rfl rfl rfl rfl ⟨⟨rfl, rfl, rfl, trivial⟩, trivial⟩ ?_
        refine oValG tt rfl rfl rfl rfl rfl hb4 rfl rfl rfl trivial ?_
        refine oPick rfl rfl rfl rfl rfl hb4 rfl ?_
        refine oVal tt rfl rfl rfl rfl rfl trivial ?_
        refine vNil ?_
        change VC _ _ _ _
        refine vRet ?_
        change ∃ _, _
        cases h
        exact ⟨[], _, rfl, trivial, rfl, (.eq rfl), rfl⟩
      · replace h := cnd_f hb4 h
        iterate 5 refine nNoT rfl rfl rfl rfl hb4 rfl rfl ?_
        refine nNil ?_
        change VO _ _ _ _ _
        iterate 2 refine oNoT rfl rfl rfl rfl hb4 rfl rfl ?_
        refine oPickF rfl rfl rfl rfl rfl hb4 rfl ?_
        refine oVal tt rfl rfl rfl rfl rfl trivial ?_
        refine vNil ?_
        change VC _ _ _ _
        refine vRet ?_
        change ∃ _, _
        cases h
        exact ⟨[], _, rfl, trivial, rfl, (.eq rfl), rfl⟩
    · replace h := cnd_f hb3 h
      iterate 6 refine nNoT rfl rfl rfl rfl hb3 rfl rfl ?_
      refine nPickF rfl (wNone rfl) rfl rfl rfl hb3 rfl rfl ?_
      refine nVal tt rfl (wNone rfl) rfl rfl rfl rfl rfl trivial ?_
      iterate 5 refine nNoT rfl rfl rfl rfl rfl rfl rfl ?_
      refine nNil ?_
      change VO _ _ _ _ _
      iterate 2 refine oNoT rfl rfl rfl rfl rfl rfl rfl ?_
      refine oPickF rfl rfl rfl rfl rfl rfl rfl ?_
      refine oVal tt rfl rfl rfl rfl rfl trivial ?_
      refine vNil ?_
      change VC _ _ _ _
      refine vRet ?_
      change ∃ _, _
      cases h
      exact ⟨[], _, rfl, trivial, rfl, (.eq rfl), rfl⟩
  · replace h := cnd_f hb2 h
    iterate 2 refine nNoT rfl rfl rfl rfl hb2 rfl rfl ?_
    refine nPickF rfl (wNone rfl) rfl rfl rfl hb2 rfl rfl ?_
    refine nVal tt rfl (wNone rfl) rfl rfl rfl rfl rfl trivial ?_
    iterate 6 refine nNoT rfl rfl rfl rfl rfl rfl rfl ?_
    refine nPickF rfl (wNone rfl) rfl rfl rfl rfl rfl rfl ?_
    refine nVal tt rfl (wNone rfl) rfl rfl rfl rfl rfl trivial ?_
    iterate 5 refine nNoT rfl rfl rfl rfl rfl rfl rfl ?_
    refine nNil ?_
    change VO _ _ _ _ _
    iterate 2 refine oNoT rfl rfl rfl rfl rfl rfl rfl ?_
    refine oPickF rfl rfl rfl rfl rfl rfl rfl ?_
    refine oVal tt rfl rfl rfl rfl rfl trivial ?_
    refine vNil ?_
    change VC _ _ _ _
    refine vRet ?_
    change ∃ _, _
    cases h
    exact ⟨[], _, rfl, trivial, rfl, (.eq rfl), rfl⟩
def S_IsImplied (N : Nat) (g_0 : Grf) (a_1 : Int) (b_2 : Int) : Option (Bool) :=
  (S_IsGraph N g_0).bind fun v1 =>
  cnd (!v1) (
    some false) (
    cnd (decide (a_1 < (0 : Int))) (
      some false) (
      cnd (decide (b_2 < (0 : Int))) (
        some false) (
        cnd (decide (a_1 ≥ g_0.n)) (
          some false) (
          cnd (decide (b_2 ≥ g_0.n)) (
            some false) (
            (S_l2Put N g_0 ((min a_1 b_2), (max a_1 b_2))).bind fun v2 =>
            cnd (a_1 == b_2) (
              some true) (
              (S_l6Rank N v2).bind fun v3 =>
              (S_l6Rank N g_0).bind fun v4 =>
              some (v3 == v4)))))))
set_option maxRecDepth 20000 in
set_option maxHeartbeats 1600000 in
theorem S_IsImplied_w (N : Nat) (g_0 : Grf) (a_1 : Int) (b_2 : Int) (r : Bool) (h : S_IsImplied N g_0 a_1 b_2 = some r) : PCall Try.prog 68 [gD g_0, .int a_1, .int b_2] [] (.bool r) := by
  unfold S_IsImplied at h
  refine pcall_intro (TT := TT) tt Try.func68 rfl rfl Try.ntmps68 (congrArg Array.toList Try.results68) rfl rfl fun w0 => ?_
  refine vSeq ?_
  refine vRegion ?_
  refine oBox rfl rfl rfl rfl rfl rfl rfl rfl rfl ?_
  refine oVal tt rfl rfl rfl rfl rfl trivial ?_
  refine vNil ?_
  change VC _ _ _ _
  iterate 2 refine vSeq ?_
  refine vRegion ?_
  refine oVal tt rfl rfl rfl rfl rfl trivial ?_
  obtain ⟨v1, hc1, h⟩ := bind_inv h
  refine oCall (S_IsGraph_w N g_0 v1 hc1) rfl rfl rfl rfl rfl rfl rfl rfl ⟨⟨rfl, rfl, trivial⟩, trivial⟩ ?_
  iterate 2 refine oVal tt rfl rfl rfl rfl rfl trivial ?_
  refine oSplit rfl rfl rfl (fun hb2 => ?_) (fun hb2 => ?_)
  · replace h := cnd_t hb2 h
    iterate 2 refine oNoF rfl rfl rfl rfl hb2 rfl rfl ?_
    refine oPick rfl rfl rfl rfl rfl hb2 rfl ?_
    refine oVal tt rfl rfl rfl rfl rfl trivial ?_
    iterate 2 refine oNoF rfl rfl rfl rfl rfl rfl rfl ?_
    refine oPick rfl rfl rfl rfl rfl rfl rfl ?_
    refine oVal tt rfl rfl rfl rfl rfl trivial ?_
    iterate 4 refine oNoF rfl rfl rfl rfl rfl rfl rfl ?_
    refine oPick rfl rfl rfl rfl rfl rfl rfl ?_
    refine oVal tt rfl rfl rfl rfl rfl trivial ?_
    iterate 4 refine oNoF rfl rfl rfl rfl rfl rfl rfl ?_
    refine oPick rfl rfl rfl rfl rfl rfl rfl ?_
    refine vNil ?_
    change VC _ _ _ _
    refine vCondT rfl rfl ?_
    refine vSeq ?_
    refine vRegion ?_
    refine oVal tt rfl rfl rfl rfl rfl trivial ?_
    refine vNil ?_
    change VC _ _ _ _
    refine vRet ?_
    change ∃ _, _
    cases h
    exact ⟨[], _, rfl, trivial, rfl, (.eq rfl), rfl⟩
  · replace h := cnd_f hb2 h
    iterate 2 refine oValG tt rfl rfl rfl rfl rfl hb2 rfl rfl rfl trivial ?_
    refine oPickF rfl rfl rfl rfl rfl hb2 rfl ?_
    refine oVal tt rfl rfl rfl rfl rfl trivial ?_
    refine oSplit rfl rfl rfl (fun hb3 => ?_) (fun hb3 => ?_)
    · replace h := cnd_t hb3 h
      iterate 2 refine oNoF rfl rfl rfl rfl hb3 rfl rfl ?_
      refine oPick rfl rfl rfl rfl rfl hb3 rfl ?_
      refine oVal tt rfl rfl rfl rfl rfl trivial ?_
      iterate 4 refine oNoF rfl rfl rfl rfl rfl rfl rfl ?_
      refine oPick rfl rfl rfl rfl rfl rfl rfl ?_
      refine oVal tt rfl rfl rfl rfl rfl trivial ?_
      iterate 4 refine oNoF rfl rfl rfl rfl rfl rfl rfl ?_
      refine oPick rfl rfl rfl rfl rfl rfl rfl ?_
      refine vNil ?_
      change VC _ _ _ _
      refine vCondT rfl rfl ?_
      refine vSeq ?_
      refine vRegion ?_
      refine oVal tt rfl rfl rfl rfl rfl trivial ?_
      refine vNil ?_
      change VC _ _ _ _
      refine vRet ?_
      change ∃ _, _
      cases h
      exact ⟨[], _, rfl, trivial, rfl, (.eq rfl), rfl⟩
    · replace h := cnd_f hb3 h
      iterate 2 refine oValG tt rfl rfl rfl rfl rfl hb3 rfl rfl rfl trivial ?_
      refine oPickF rfl rfl rfl rfl rfl hb3 rfl ?_
      refine oVal tt rfl rfl rfl rfl rfl trivial ?_
      refine oSplit rfl rfl rfl (fun hb4 => ?_) (fun hb4 => ?_)
      · replace h := cnd_t hb4 h
        iterate 4 refine oNoF rfl rfl rfl rfl hb4 rfl rfl ?_
        refine oPick rfl rfl rfl rfl rfl hb4 rfl ?_
        refine oVal tt rfl rfl rfl rfl rfl trivial ?_
        iterate 4 refine oNoF rfl rfl rfl rfl rfl rfl rfl ?_
        refine oPick rfl rfl rfl rfl rfl rfl rfl ?_
        refine vNil ?_
        change VC _ _ _ _
        refine vCondT rfl rfl ?_
        refine vSeq ?_
        refine vRegion ?_
        refine oVal tt rfl rfl rfl rfl rfl trivial ?_
        refine vNil ?_
        change VC _ _ _ _
        refine vRet ?_
        change ∃ _, _
        cases h
        exact ⟨[], _, rfl, trivial, rfl, (.eq rfl), rfl⟩
      · replace h := cnd_f hb4 h
        iterate 4 refine oValG tt rfl rfl rfl rfl rfl hb4 rfl rfl rfl trivial ?_
        refine oPickF rfl rfl rfl rfl rfl hb4 rfl ?_
        refine oVal tt rfl rfl rfl rfl rfl trivial ?_
        refine oSplit rfl rfl rfl (fun hb5 => ?_) (fun hb5 => ?_)
        · replace h := cnd_t hb5 h
          iterate 4 refine oNoF rfl rfl rfl rfl hb5 rfl rfl ?_
          refine oPick rfl rfl rfl rfl rfl hb5 rfl ?_
          refine vNil ?_
          change VC _ _ _ _
          refine vCondT rfl rfl ?_
          refine vSeq ?_
          refine vRegion ?_
          refine oVal tt rfl rfl rfl rfl rfl trivial ?_
          refine vNil ?_
          change VC _ _ _ _
          refine vRet ?_
          change ∃ _, _
          cases h
          exact ⟨[], _, rfl, trivial, rfl, (.eq rfl), rfl⟩
        · replace h := cnd_f hb5 h
          iterate 4 refine oValG tt rfl rfl rfl rfl rfl hb5 rfl rfl rfl trivial ?_
          refine oPickF rfl rfl rfl rfl rfl hb5 rfl ?_
          refine vNil ?_
          change VC _ _ _ _
          refine vCond rfl (fun hb6 => ?_) (fun hb6 => ?_)
          · replace h := cnd_t hb6 h
            refine vSeq ?_
            refine vRegion ?_
            refine oVal tt rfl rfl rfl rfl rfl trivial ?_
            refine vNil ?_
            change VC _ _ _ _
            refine vRet ?_
            change ∃ _, _
            cases h
            exact ⟨[], _, rfl, trivial, rfl, (.eq rfl), rfl⟩
          · replace h := cnd_f hb6 h
            refine vSkip ?_
            change VC _ _ _ _
            refine vSeq ?_
            refine vRegion ?_
            iterate 7 refine oVal tt rfl rfl rfl rfl rfl trivial ?_
            refine oPure (wNone rfl) (pBuild bld_impl_Bar rfl rfl) rfl rfl ?_
            obtain ⟨v2, hc7, h⟩ := bind_inv h
            refine oCall (S_l2Put_w N g_0 ((min a_1 b_2), (max a_1 b_2)) v2 hc7) rfl rfl rfl rfl rfl rfl rfl rfl ⟨⟨rfl, rfl, trivial⟩, ⟨rfl, rfl, trivial⟩, trivial⟩ ?_
            refine oAlloc tt rfl rfl rfl rfl rfl rfl rfl rfl rfl ?_
            refine oStore tt rfl rfl rfl rfl rfl rfl rfl rfl rfl rfl rfl ⟨trivial, trivial, trivial⟩ ?_
            refine vNil ?_
            change VC _ _ _ _
            refine vSeq ?_
            refine vRegionD (by kernel_rfl) (by kernel_rfl) ?_
            iterate 4 refine cVal tt rfl (wNone rfl) rfl rfl rfl trivial ?_
            refine cSplit rfl rfl rfl (fun hb8 => ?_) (fun hb8 => ?_)
            · replace h := cnd_t hb8 h
              iterate 5 refine cNoF rfl rfl rfl rfl hb8 rfl rfl ?_
              refine cPickT rfl (wNone rfl) rfl rfl rfl hb8 rfl ?_
              refine cVal tt rfl (wNone rfl) rfl rfl rfl trivial ?_
              refine cNil ?_
              change VC _ _ _ _
              refine vRet ?_
              change ∃ _, _
              cases h
              exact ⟨[], _, rfl, trivial, rfl, (.eq rfl), rfl⟩
            · replace h := cnd_f hb8 h
              refine cVal tt rfl (wSome rfl rfl rfl rfl hb8) rfl rfl rfl trivial ?_
              obtain ⟨v3, hc9, h⟩ := bind_inv h
              refine cCall (S_l6Rank_w N v2 v3 hc9) rfl (wSome rfl rfl rfl rfl hb8) rfl rfl rfl rfl rfl rfl ⟨⟨rfl, (.inl ⟨rfl, rfl⟩), trivial⟩, trivial⟩ ?_
              refine cVal tt rfl (wSome rfl rfl rfl rfl hb8) rfl rfl rfl trivial ?_
              obtain ⟨v4, hc10, h⟩ := bind_inv h
              refine cCall (S_l6Rank_w N g_0 v4 hc10) rfl (wSome rfl rfl rfl rfl hb8) rfl rfl rfl rfl rfl rfl ⟨⟨rfl, rfl, trivial⟩, trivial⟩ ?_
              refine cVal tt rfl (wSome rfl rfl rfl rfl hb8) rfl rfl rfl trivial ?_
              refine cPickF rfl (wNone rfl) rfl rfl rfl hb8 rfl ?_
              refine cVal tt rfl (wNone rfl) rfl rfl rfl trivial ?_
              refine cNil ?_
              change VC _ _ _ _
              refine vRet ?_
              change ∃ _, _
              cases h
              exact ⟨[], _, rfl, trivial, rfl, (.eq rfl), rfl⟩
def S_SteadyPoints_l1 (N : Nat) (p_0 : Pin) (k : (List Int) → Option (List Int)) : Nat → ((List Int) × Int) → Option (List Int)
  | 0, _ => none
  | n + 1, (l29, v30) =>
    cnd (decide (v30 < p_0.g.n)) (
      (S_IsPinned N p_0).bind fun v35 =>
      cnd v35 (
        (S_l20All N p_0).bind fun v36 =>
        grd (0 ≤ (0 : Int) ∧ (0 : Int) < (p_0.ground.length : Int)) <|
        (S_IsImplied N v36 (p_0.ground.getD ((0 : Int).toNat) 0) v30).bind fun v37 =>
        cnd v37 (
          grd (0 ≤ (1 : Int) ∧ (1 : Int) < (p_0.ground.length : Int)) <|
          (S_IsImplied N v36 (p_0.ground.getD ((1 : Int).toNat) 0) v30).bind fun v38 =>
          cnd v38 (
            grd (l29.length + 1 ≤ 4294967296) <|
            grd (Rg64 (v30 + (1 : Int))) <|
            S_SteadyPoints_l1 N p_0 k n ((l29 ++ ([v30] : List Int)), (v30 + (1 : Int)))) (
            grd (Rg64 (v30 + (1 : Int))) <|
            S_SteadyPoints_l1 N p_0 k n (l29, (v30 + (1 : Int))))) (
          grd (Rg64 (v30 + (1 : Int))) <|
          S_SteadyPoints_l1 N p_0 k n (l29, (v30 + (1 : Int))))) (
        k l29)) (
      k l29)
def S_SteadyPoints (N : Nat) (p_0 : Pin) : Option (List Int) :=
  S_SteadyPoints_l1 N p_0 (fun (l19 : List Int) =>
        some l19) N (([] : List Int), (0 : Int))
set_option maxRecDepth 20000 in
set_option maxHeartbeats 1600000 in
theorem S_SteadyPoints_w (N : Nat) (p_0 : Pin) (r : List Int) (h : S_SteadyPoints N p_0 = some r) : PCall Try.prog 24 [pD p_0] [(3, .ints r)] (.row 0 0 r.length) := by
  unfold S_SteadyPoints at h
  refine pcall_intro (TT := TT) tt Try.func24 rfl rfl Try.ntmps24 (congrArg Array.toList Try.results24) rfl rfl fun w0 => ?_
  refine vSeq ?_
  refine vRegion ?_
  refine oBox rfl rfl rfl rfl rfl rfl rfl rfl rfl ?_
  refine oVal tt rfl rfl rfl rfl rfl trivial ?_
  refine vNil ?_
  change VC _ _ _ _
  refine vSeq ?_
  refine vRegion ?_
  refine oEmpty tt (wNone rfl) rfl rfl rfl rfl ?_
  refine oVal tt rfl rfl rfl rfl rfl trivial ?_
  refine vNil ?_
  change VC _ _ _ _
  iterate 2 refine vSeq ?_
  refine vRegion ?_
  refine oVal tt rfl rfl rfl rfl rfl trivial ?_
  refine vNil ?_
  change VC _ _ _ _
  refine vJoin (F := fun k => S_SteadyPoints_l1 N p_0 k) h (α := List Int) (J := fun (l19 : List Int) => (⟨[(3, .row 39 0 l19.length)], [(39, some (3, .ints l19))], []⟩ : PS)) ?_ ?_
  · rintro l19 h
    show VC _ _ _ (⟨[(3, .row 39 0 l19.length)], [(39, some (3, .ints l19))], []⟩ : PS)
    refine vSeq ?_
    refine vRegion ?_
    iterate 2 refine oVal tt rfl rfl rfl rfl rfl trivial ?_
    refine vNil ?_
    change VC _ _ _ _
    refine vRet ?_
    change ∃ _, _
    cases h
    exact ⟨[39], _, rfl, ⟨rfl, trivial⟩, rfl, (.eq rfl), rfl⟩
  · intro k h
    refine vBlock ?_
    refine vNilT 3 39 3 (.ints []) rfl rfl rfl rfl ?_
    refine vLoopS (α := (List Int) × Int) (fun | (l29, v30) => (⟨[(1, .ptr 1 0), (3, .row 39 0 l29.length), (4, .int v30)], [(39, some (3, .ints l29))], [(1, some [.int p_0.g.n, .ro false (.pairs p_0.g.bars), .ro false (.ints p_0.ground)])]⟩ : PS)) (S_SteadyPoints_l1 N p_0 k) h (En.of ⟨rfl, rfl, rfl, trivial⟩ ⟨rfl, trivial⟩ ⟨rfl, trivial⟩) (fun _ => rfl) ?_
    rintro n ⟨l29, v30⟩ h
    rw [S_SteadyPoints_l1] at h
    show VC _ _ _ (⟨[(1, .ptr 1 0), (3, .row 39 0 l29.length), (4, .int v30)], [(39, some (3, .ints l29))], [(1, some [.int p_0.g.n, .ro false (.pairs p_0.g.bars), .ro false (.ints p_0.ground)])]⟩ : PS)
    iterate 2 refine vSeq ?_
    refine vRegion ?_
    iterate 6 refine oVal tt rfl rfl rfl rfl rfl trivial ?_
    refine oSplit rfl rfl rfl (fun hb1 => ?_) (fun hb1 => ?_)
    · replace h := cnd_t hb1 h
      refine oValG tt rfl rfl rfl rfl rfl hb1 rfl rfl rfl trivial ?_
      obtain ⟨v35, hc2, h⟩ := bind_inv h
      refine oCallG (S_IsPinned_w N p_0 v35 hc2) rfl rfl rfl rfl hb1 rfl rfl rfl rfl rfl rfl rfl ⟨⟨rfl, rfl, rfl, trivial⟩, trivial⟩ ?_
      refine oPick rfl rfl rfl rfl rfl hb1 rfl ?_
      refine vNil ?_
      change VC _ _ _ _
      refine vCond rfl (fun hb3 => ?_) (fun hb3 => ?_)
      · replace h := cnd_t hb3 h
        refine vSkip ?_
        change VC _ _ _ _
        refine vSeq ?_
        refine vBlock ?_
        refine vSeq ?_
        refine vRegion ?_
        refine oVal tt rfl rfl rfl rfl rfl trivial ?_
        obtain ⟨v36, hc4, h⟩ := bind_inv h
        refine oCall (S_l20All_w N p_0 v36 hc4) rfl rfl rfl rfl rfl rfl rfl rfl ⟨⟨rfl, rfl, rfl, trivial⟩, trivial⟩ ?_
        refine oAlloc tt rfl rfl rfl rfl rfl rfl rfl rfl rfl ?_
        refine oStore tt rfl rfl rfl rfl rfl rfl rfl rfl rfl rfl rfl ⟨trivial, trivial, trivial⟩ ?_
        refine vNil ?_
        change VC _ _ _ _
        refine vSeq ?_
        refine vRegionD (by kernel_rfl) (by kernel_rfl) ?_
        iterate 3 refine cVal tt rfl (wNone rfl) rfl rfl rfl trivial ?_
        obtain ⟨hg5, h⟩ := grd_inv h
        refine cVal tt rfl (wNone rfl) rfl rfl rfl hg5 ?_
        iterate 2 refine cVal tt rfl (wNone rfl) rfl rfl rfl trivial ?_
        obtain ⟨v37, hc6, h⟩ := bind_inv h
        refine cCall (S_IsImplied_w N v36 (p_0.ground.getD ((0 : Int).toNat) 0) v30 v37 hc6) rfl (wNone rfl) rfl rfl rfl rfl rfl rfl ⟨⟨rfl, (.inl ⟨rfl, rfl⟩), trivial⟩, rfl, rfl, trivial⟩ ?_
        refine cVal tt rfl (wNone rfl) rfl rfl rfl trivial ?_
        refine cSplit rfl rfl rfl (fun hb7 => ?_) (fun hb7 => ?_)
        · replace h := cnd_t hb7 h
          iterate 3 refine cVal tt rfl (wSome rfl rfl rfl rfl hb7) rfl rfl rfl trivial ?_
          obtain ⟨hg8, h⟩ := grd_inv h
          refine cVal tt rfl (wSome rfl rfl rfl rfl hb7) rfl rfl rfl hg8 ?_
          iterate 2 refine cVal tt rfl (wSome rfl rfl rfl rfl hb7) rfl rfl rfl trivial ?_
          obtain ⟨v38, hc9, h⟩ := bind_inv h
          refine cCall (S_IsImplied_w N v36 (p_0.ground.getD ((1 : Int).toNat) 0) v30 v38 hc9) rfl (wSome rfl rfl rfl rfl hb7) rfl rfl rfl rfl rfl rfl ⟨⟨rfl, (.inl ⟨rfl, rfl⟩), trivial⟩, rfl, rfl, trivial⟩ ?_
          refine cPickT rfl (wNone rfl) rfl rfl rfl hb7 rfl ?_
          refine cNil ?_
          change VC _ _ _ _
          refine vCond rfl (fun hb10 => ?_) (fun hb10 => ?_)
          · replace h := cnd_t hb10 h
            refine vRegion ?_
            iterate 2 refine oVal tt rfl rfl rfl rfl rfl trivial ?_
            refine oBuild tt rfl rfl rfl rfl rfl rfl rfl rfl rfl rfl rfl ?_
            obtain ⟨hg11, h⟩ := grd_inv h
            refine oAppend tt rfl rfl rfl rfl rfl rfl rfl rfl rfl rfl rfl rfl rfl rfl rfl rfl (Nat.le_of_eq (Nat.zero_add _)) hg11 ?_
            refine oVal tt rfl rfl rfl rfl rfl trivial ?_
            refine vNil ?_
            change VC _ _ _ _
            refine vRegion ?_
            refine oVal tt rfl rfl rfl rfl rfl trivial ?_
            obtain ⟨hg12, h⟩ := grd_inv h
            refine oVal tt rfl rfl rfl rfl rfl hg12 ?_
            refine oVal tt rfl rfl rfl rfl rfl trivial ?_
            refine vNil ?_
            change ∃ _, _
            exact ⟨((l29 ++ ([v30] : List Int)), (v30 + (1 : Int))), (En.of ⟨rfl, rfl, rfl, trivial⟩ ⟨rfl, trivial⟩ ⟨rfl, trivial⟩), h⟩
          · replace h := cnd_f hb10 h
            refine vSkip ?_
            change VC _ _ _ _
            refine vRegion ?_
            refine oVal tt rfl rfl rfl rfl rfl trivial ?_
            obtain ⟨hg13, h⟩ := grd_inv h
            refine oVal tt rfl rfl rfl rfl rfl hg13 ?_
            refine oVal tt rfl rfl rfl rfl rfl trivial ?_
            refine vNil ?_
            change ∃ _, _
            exact ⟨(l29, (v30 + (1 : Int))), (En.of ⟨rfl, rfl, rfl, trivial⟩ ⟨rfl, trivial⟩ ⟨rfl, trivial⟩), h⟩
        · replace h := cnd_f hb7 h
          iterate 7 refine cNoT rfl rfl rfl rfl hb7 rfl rfl ?_
          refine cPickF rfl (wNone rfl) rfl rfl rfl hb7 rfl ?_
          refine cNil ?_
          change VC _ _ _ _
          refine vCondF rfl rfl ?_
          refine vSkip ?_
          change VC _ _ _ _
          refine vRegion ?_
          refine oVal tt rfl rfl rfl rfl rfl trivial ?_
          obtain ⟨hg14, h⟩ := grd_inv h
          refine oVal tt rfl rfl rfl rfl rfl hg14 ?_
          refine oVal tt rfl rfl rfl rfl rfl trivial ?_
          refine vNil ?_
          change ∃ _, _
          exact ⟨(l29, (v30 + (1 : Int))), (En.of ⟨rfl, rfl, rfl, trivial⟩ ⟨rfl, trivial⟩ ⟨rfl, trivial⟩), h⟩
      · replace h := cnd_f hb3 h
        refine vExit ?_
        change ∃ _, _
        exact ⟨l29, (En.of ⟨rfl, trivial⟩ ⟨rfl, trivial⟩ trivial), h⟩
    · replace h := cnd_f hb1 h
      iterate 2 refine oNoT rfl rfl rfl rfl hb1 rfl rfl ?_
      refine oPickF rfl rfl rfl rfl rfl hb1 rfl ?_
      refine vNil ?_
      change VC _ _ _ _
      refine vCondF rfl rfl ?_
      refine vExit ?_
      change ∃ _, _
      exact ⟨l29, (En.of ⟨rfl, trivial⟩ ⟨rfl, trivial⟩ trivial), h⟩
def I_raises (N : Nat) (points_0 : Int) (bars_1 : List (Int × Int)) (x_2 : Int × Int) : Option (Bool) :=
  grd (bars_1.length ≤ 4294967296) <|
  grd ((([] : List (Int × Int)) ++ bars_1).length + 1 ≤ 4294967296) <|
  (I_planeRank N points_0 ((([] : List (Int × Int)) ++ bars_1) ++ ([(x_2.1, x_2.2)] : List (Int × Int)))).bind fun v1 =>
  (I_planeRank N points_0 bars_1).bind fun v2 =>
  some (decide (v1 > v2))
set_option maxRecDepth 20000 in
set_option maxHeartbeats 1600000 in
theorem I_raises_w (N : Nat) (points_0 : Int) (bars_1 : List (Int × Int)) (x_2 : Int × Int) (r : Bool) (h : I_raises N points_0 bars_1 x_2 = some r) : PCall Try.prog 70 [.int points_0, .ro false (.pairs bars_1), .agg [.int x_2.1, .int x_2.2]] [] (.bool r) := by
  unfold I_raises at h
  refine pcall_intro (TT := TT) tt Try.func70 rfl rfl Try.ntmps70 (congrArg Array.toList Try.results70) rfl rfl fun w0 => ?_
  refine vSeq ?_
  refine vRegion ?_
  refine oBox rfl rfl rfl rfl rfl rfl rfl rfl rfl ?_
  refine oVal tt rfl rfl rfl rfl rfl trivial ?_
  refine vNil ?_
  change VC _ _ _ _
  refine vSeq ?_
  refine vRegionN 10 [3, 5, 6, 1060000010] [0, 0, 0, 6, 0, 16, 62, 127, 0, 0, 1023, 2047, 4095] (by kernel_rfl) (by kernel_rfl) (by kernel_rfl) (by kernel_rfl) (by kernel_rfl) rfl (by rfl) ?_
  refine nVal tt rfl (wNone rfl) rfl rfl rfl rfl rfl trivial ?_
  refine nEmpty tt (wNone rfl) rfl rfl rfl rfl rfl ?_
  refine nVal tt rfl (wNone rfl) rfl rfl rfl rfl rfl trivial ?_
  obtain ⟨hg1, h⟩ := grd_inv h
  refine nAppNil tt (wNone rfl) rfl rfl rfl rfl rfl rfl rfl rfl (fun _ => rfl) rfl rfl rfl rfl rfl rfl hg1 ?_
  refine nVal tt rfl (wNone rfl) rfl rfl rfl rfl rfl trivial ?_
  refine nBuild tt (wNone rfl) rfl rfl rfl rfl rfl rfl rfl rfl rfl rfl rfl rfl ?_
  obtain ⟨hg2, h⟩ := grd_inv h
  refine nAppMove tt (wNone rfl) rfl rfl rfl rfl rfl rfl rfl rfl rfl rfl rfl rfl rfl rfl rfl rfl rfl rfl rfl rfl (Nat.le_of_eq (Nat.zero_add _)) hg2 ?_
  obtain ⟨v1, hc3, h⟩ := bind_inv h
  refine nCall (I_planeRank_w N points_0 ((([] : List (Int × Int)) ++ bars_1) ++ ([(x_2.1, x_2.2)] : List (Int × Int))) v1 hc3) rfl (wNone rfl) rfl rfl rfl rfl rfl rfl rfl rfl ⟨rfl, (.inl ⟨rfl, rfl⟩), trivial⟩ ?_
  iterate 2 refine nVal tt rfl (wNone rfl) rfl rfl rfl rfl rfl trivial ?_
  refine nNil ?_
  change VO _ _ _ _ _
  obtain ⟨v2, hc4, h⟩ := bind_inv h
  refine oCall (I_planeRank_w N points_0 bars_1 v2 hc4) rfl rfl rfl rfl rfl rfl rfl rfl ⟨rfl, rfl, trivial⟩ ?_
  iterate 2 refine oVal tt rfl rfl rfl rfl rfl trivial ?_
  refine vNil ?_
  change VC _ _ _ _
  refine vRet ?_
  change ∃ _, _
  cases h
  exact ⟨[], _, rfl, trivial, rfl, (.eq rfl), rfl⟩
end Go.Proofs.Ytkpmijmlbpdknaa

namespace Go.Proofs.Ytkpmijmlbpdknaa
open Go.RowKit
set_option linter.unusedVariables false
set_option linter.unusedSimpArgs false
def I_SteadyPoints_l2 (N : Nat) (p_0 : Pin) (v2 : List (Int × Int)) (x116 : Int) (k : Bool → Option (List Int)) : Nat → (Bool × Int) → Option (List Int)
  | 0, _ => none
  | n + 1, (steady147, x148) =>
    cnd (decide (x148 < (p_0.ground.length : Int))) (
      grd (0 ≤ x148 ∧ x148 < (p_0.ground.length : Int)) <|
      cnd steady147 (
        cnd ((p_0.ground.getD ((x148).toNat) 0) == x116) (
          grd (Rg64 (x148 + (1 : Int))) <|
          I_SteadyPoints_l2 N p_0 v2 x116 k n (true, (x148 + (1 : Int)))) (
          (I_bar N (p_0.ground.getD ((x148).toNat) 0) x116).bind fun v151 =>
          (I_raises N p_0.g.n (v2 ++ p_0.g.bars) v151).bind fun v152 =>
          grd (Rg64 (x148 + (1 : Int))) <|
          I_SteadyPoints_l2 N p_0 v2 x116 k n ((!v152), (x148 + (1 : Int))))) (
        grd (Rg64 (x148 + (1 : Int))) <|
        I_SteadyPoints_l2 N p_0 v2 x116 k n (false, (x148 + (1 : Int))))) (
      k steady147)
def I_SteadyPoints_l1 (N : Nat) (p_0 : Pin) (v2 : List (Int × Int)) (k : (List Int) → Option (List Int)) : Nat → ((List Int) × Int) → Option (List Int)
  | 0, _ => none
  | n + 1, (l115, x116) =>
    cnd (decide (x116 < p_0.g.n)) (
      I_SteadyPoints_l2 N p_0 v2 x116 (fun (steady143 : Bool) =>
            cnd steady143 (
              grd (l115.length + 1 ≤ 4294967296) <|
              grd (Rg64 (x116 + (1 : Int))) <|
              I_SteadyPoints_l1 N p_0 v2 k n ((l115 ++ ([x116] : List Int)), (x116 + (1 : Int)))) (
              grd (Rg64 (x116 + (1 : Int))) <|
              I_SteadyPoints_l1 N p_0 v2 k n (l115, (x116 + (1 : Int))))) N (true, (0 : Int))) (
      k l115)
def I_SteadyPoints (N : Nat) (p_0 : Pin) : Option (List Int) :=
  (I_IsPinned N p_0).bind fun v1 =>
  cnd (!v1) (
    some ([] : List Int)) (
    (M_Pinned_held N p_0).bind fun v2 =>
    grd (v2.length + p_0.g.bars.length ≤ 4294967296) <|
    I_SteadyPoints_l1 N p_0 v2 (fun (l77 : List Int) =>
          some l77) N (([] : List Int), (0 : Int)))
set_option maxRecDepth 20000 in
set_option maxHeartbeats 1600000 in
theorem I_SteadyPoints_w (N : Nat) (p_0 : Pin) (r : List Int) (h : I_SteadyPoints N p_0 = some r) : PCall Try.prog 25 [pD p_0] [(3, .ints r)] (.row 0 0 r.length) := by
  unfold I_SteadyPoints at h
  refine pcall_intro (TT := TT) tt Try.func25 rfl rfl Try.ntmps25 (congrArg Array.toList Try.results25) rfl rfl fun w0 => ?_
  refine vSeq ?_
  refine vRegion ?_
  refine oBox rfl rfl rfl rfl rfl rfl rfl rfl rfl ?_
  refine oVal tt rfl rfl rfl rfl rfl trivial ?_
  refine vNil ?_
  change VC _ _ _ _
  refine vSeq ?_
  refine vRegion ?_
  refine oEmpty tt (wNone rfl) rfl rfl rfl rfl ?_
  refine oVal tt rfl rfl rfl rfl rfl trivial ?_
  refine vNil ?_
  change VC _ _ _ _
  iterate 2 refine vSeq ?_
  refine vRegion ?_
  refine oVal tt rfl rfl rfl rfl rfl trivial ?_
  obtain ⟨v1, hc1, h⟩ := bind_inv h
  refine oCall (I_IsPinned_w N p_0 v1 hc1) rfl rfl rfl rfl rfl rfl rfl rfl ⟨⟨rfl, rfl, rfl, trivial⟩, trivial⟩ ?_
  refine oVal tt rfl rfl rfl rfl rfl trivial ?_
  refine vNil ?_
  change VC _ _ _ _
  refine vCond rfl (fun hb2 => ?_) (fun hb2 => ?_)
  · replace h := cnd_t hb2 h
    refine vSeq ?_
    refine vRegion ?_
    iterate 2 refine oVal tt rfl rfl rfl rfl rfl trivial ?_
    refine vNil ?_
    change VC _ _ _ _
    refine vNilT 2 9001 3 (.ints []) rfl rfl rfl rfl ?_
    refine vRet ?_
    change ∃ _, _
    cases h
    exact ⟨[9001], _, rfl, ⟨rfl, trivial⟩, rfl, (.eq rfl), rfl⟩
  · replace h := cnd_f hb2 h
    refine vSkip ?_
    change VC _ _ _ _
    refine vSeq ?_
    refine vRegionN 5 [1] [0, 1, 0, 4, 12, 31, 63] (by kernel_rfl) (by kernel_rfl) (by kernel_rfl) (by kernel_rfl) (by kernel_rfl) rfl (by rfl) ?_
    refine nVal tt rfl (wNone rfl) rfl rfl rfl rfl rfl trivial ?_
    obtain ⟨v2, hc3, h⟩ := bind_inv h
    refine nCallR (M_Pinned_held_w N p_0 v2 hc3) rfl (wNone rfl) rfl rfl rfl rfl rfl rfl (by first | rfl | kernel_rfl | (simp [nrL, nm, gdst, nmT, rowB]; done)) rfl (by first | rfl | kernel_rfl | (simp [chkE, nrL, nm, gdst, nmT, rowB, hid, ment, mentA, mentS]; done) | (simp [chkE, nrL, nm, gdst, nmT, rowB, hid, ment, mentA, mentS]; decide)) ⟨⟨rfl, rfl, rfl, trivial⟩, trivial⟩ ?_
    iterate 3 refine nVal tt rfl (wNone rfl) rfl rfl rfl rfl rfl trivial ?_
    refine nNil ?_
    change VO _ _ _ _ _
    obtain ⟨hg4, h⟩ := grd_inv h
    refine oAppend tt rfl rfl rfl rfl rfl rfl rfl rfl rfl rfl rfl rfl rfl rfl rfl rfl trivial hg4 ?_
    refine oVal tt rfl rfl rfl rfl rfl trivial ?_
    refine vNil ?_
    change VC _ _ _ _
    iterate 2 refine vSeq ?_
    refine vRegion ?_
    iterate 4 refine oVal tt rfl rfl rfl rfl rfl trivial ?_
    refine vNil ?_
    change VC _ _ _ _
    refine vJoin (F := fun k => I_SteadyPoints_l1 N p_0 v2 k) h (α := List Int) (J := fun (l77 : List Int) => (⟨[(3, .row 55 0 l77.length)], [(55, some (3, .ints l77))], []⟩ : PS)) ?_ ?_
    · rintro l77 h
      show VC _ _ _ (⟨[(3, .row 55 0 l77.length)], [(55, some (3, .ints l77))], []⟩ : PS)
      refine vSeq ?_
      refine vRegion ?_
      iterate 2 refine oVal tt rfl rfl rfl rfl rfl trivial ?_
      refine vNil ?_
      change VC _ _ _ _
      refine vRet ?_
      change ∃ _, _
      cases h
      exact ⟨[55], _, rfl, ⟨rfl, trivial⟩, rfl, (.eq rfl), rfl⟩
    · intro k h
      refine vBlock ?_
      refine vNilT 3 55 3 (.ints []) rfl rfl rfl rfl ?_
      refine vLoopS (α := (List Int) × Int) (fun | (l115, x116) => (⟨[(1, .ptr 1 0), (3, .row 55 0 l115.length), (4, .row 1150 0 ((v2 ++ p_0.g.bars).length)), (22, .int p_0.g.n), (23, .int x116)], [(55, some (3, .ints l115)), (1150, some (71, .pairs (v2 ++ p_0.g.bars)))], [(1, some [.int p_0.g.n, .ro false (.pairs p_0.g.bars), .ro false (.ints p_0.ground)])]⟩ : PS)) (I_SteadyPoints_l1 N p_0 v2 k) h (En.of ⟨rfl, rfl, rfl, rfl, rfl, trivial⟩ ⟨rfl, rfl, trivial⟩ ⟨rfl, trivial⟩) (fun _ => rfl) ?_
      rintro n ⟨l115, x116⟩ h
      rw [I_SteadyPoints_l1] at h
      show VC _ _ _ (⟨[(1, .ptr 1 0), (3, .row 55 0 l115.length), (4, .row 1150 0 ((v2 ++ p_0.g.bars).length)), (22, .int p_0.g.n), (23, .int x116)], [(55, some (3, .ints l115)), (1150, some (71, .pairs (v2 ++ p_0.g.bars)))], [(1, some [.int p_0.g.n, .ro false (.pairs p_0.g.bars), .ro false (.ints p_0.ground)])]⟩ : PS)
      refine vSeq ?_
      refine vRegion ?_
      refine oVal tt rfl rfl rfl rfl rfl trivial ?_
      refine vNil ?_
      change VC _ _ _ _
      refine vSeq ?_
      refine vCond rfl (fun hb5 => ?_) (fun hb5 => ?_)
      · replace h := cnd_t hb5 h
        refine vSkip ?_
        change VC _ _ _ _
        refine vSeq ?_
        refine vBlock ?_
        refine vSeq ?_
        refine vRegion ?_
        iterate 2 refine oVal tt rfl rfl rfl rfl rfl trivial ?_
        refine vNil ?_
        change VC _ _ _ _
        refine vSeq ?_
        refine vRegion ?_
        refine oVal tt rfl rfl rfl rfl rfl trivial ?_
        refine vNil ?_
        change VC _ _ _ _
        iterate 2 refine vSeq ?_
        refine vRegion ?_
        iterate 4 refine oVal tt rfl rfl rfl rfl rfl trivial ?_
        refine vNil ?_
        change VC _ _ _ _
        refine vJoin (F := fun k => I_SteadyPoints_l2 N p_0 v2 x116 k) h (α := Bool) (J := fun (steady143 : Bool) => (⟨[(1, .ptr 1 0), (3, .row 55 0 l115.length), (4, .row 1150 0 ((v2 ++ p_0.g.bars).length)), (5, .int x116), (6, .bool steady143), (22, .int p_0.g.n), (23, .int x116)], [(55, some (3, .ints l115)), (1150, some (71, .pairs (v2 ++ p_0.g.bars)))], [(1, some [.int p_0.g.n, .ro false (.pairs p_0.g.bars), .ro false (.ints p_0.ground)])]⟩ : PS)) ?_ ?_
        · rintro steady143 h
          show VC _ _ _ (⟨[(1, .ptr 1 0), (3, .row 55 0 l115.length), (4, .row 1150 0 ((v2 ++ p_0.g.bars).length)), (5, .int x116), (6, .bool steady143), (22, .int p_0.g.n), (23, .int x116)], [(55, some (3, .ints l115)), (1150, some (71, .pairs (v2 ++ p_0.g.bars)))], [(1, some [.int p_0.g.n, .ro false (.pairs p_0.g.bars), .ro false (.ints p_0.ground)])]⟩ : PS)
          refine vSeq ?_
          refine vRegion ?_
          refine oVal tt rfl rfl rfl rfl rfl trivial ?_
          refine vNil ?_
          change VC _ _ _ _
          refine vCond rfl (fun hb6 => ?_) (fun hb6 => ?_)
          · replace h := cnd_t hb6 h
            refine vRegion ?_
            iterate 2 refine oVal tt rfl rfl rfl rfl rfl trivial ?_
            refine oBuild tt rfl rfl rfl rfl rfl rfl rfl rfl rfl rfl rfl ?_
            obtain ⟨hg7, h⟩ := grd_inv h
            refine oAppend tt rfl rfl rfl rfl rfl rfl rfl rfl rfl rfl rfl rfl rfl rfl rfl rfl (Nat.le_of_eq (Nat.zero_add _)) hg7 ?_
            refine oVal tt rfl rfl rfl rfl rfl trivial ?_
            refine vNil ?_
            change VC _ _ _ _
            refine vRegion ?_
            obtain ⟨hg8, h⟩ := grd_inv h
            refine oVal tt rfl rfl rfl rfl rfl hg8 ?_
            refine oVal tt rfl rfl rfl rfl rfl trivial ?_
            refine vNil ?_
            change ∃ _, _
            exact ⟨((l115 ++ ([x116] : List Int)), (x116 + (1 : Int))), (En.of ⟨rfl, rfl, rfl, rfl, rfl, trivial⟩ ⟨rfl, rfl, trivial⟩ ⟨rfl, trivial⟩), h⟩
          · replace h := cnd_f hb6 h
            refine vSkip ?_
            change VC _ _ _ _
            refine vRegion ?_
            obtain ⟨hg9, h⟩ := grd_inv h
            refine oVal tt rfl rfl rfl rfl rfl hg9 ?_
            refine oVal tt rfl rfl rfl rfl rfl trivial ?_
            refine vNil ?_
            change ∃ _, _
            exact ⟨(l115, (x116 + (1 : Int))), (En.of ⟨rfl, rfl, rfl, rfl, rfl, trivial⟩ ⟨rfl, rfl, trivial⟩ ⟨rfl, trivial⟩), h⟩
        · intro k h
          refine vBlock ?_
          refine vLoopS (α := Bool × Int) (fun | (steady147, x148) => (⟨[(1, .ptr 1 0), (3, .row 55 0 l115.length), (4, .row 1150 0 ((v2 ++ p_0.g.bars).length)), (5, .int x116), (6, .bool steady147), (22, .int p_0.g.n), (23, .int x116), (27, .ro false (.ints p_0.ground)), (28, .int (p_0.ground.length : Int)), (29, .int x148)], [(55, some (3, .ints l115)), (1150, some (71, .pairs (v2 ++ p_0.g.bars)))], [(1, some [.int p_0.g.n, .ro false (.pairs p_0.g.bars), .ro false (.ints p_0.ground)])]⟩ : PS)) (I_SteadyPoints_l2 N p_0 v2 x116 k) h (En.of ⟨rfl, rfl, rfl, rfl, rfl, rfl, rfl, rfl, rfl, rfl, trivial⟩ ⟨rfl, rfl, trivial⟩ ⟨rfl, trivial⟩) (fun _ => rfl) ?_
          rintro n ⟨steady147, x148⟩ h
          rw [I_SteadyPoints_l2] at h
          show VC _ _ _ (⟨[(1, .ptr 1 0), (3, .row 55 0 l115.length), (4, .row 1150 0 ((v2 ++ p_0.g.bars).length)), (5, .int x116), (6, .bool steady147), (22, .int p_0.g.n), (23, .int x116), (27, .ro false (.ints p_0.ground)), (28, .int (p_0.ground.length : Int)), (29, .int x148)], [(55, some (3, .ints l115)), (1150, some (71, .pairs (v2 ++ p_0.g.bars)))], [(1, some [.int p_0.g.n, .ro false (.pairs p_0.g.bars), .ro false (.ints p_0.ground)])]⟩ : PS)
          refine vSeq ?_
          refine vRegion ?_
          refine oVal tt rfl rfl rfl rfl rfl trivial ?_
          refine vNil ?_
          change VC _ _ _ _
          refine vSeq ?_
          refine vCond rfl (fun hb10 => ?_) (fun hb10 => ?_)
          · replace h := cnd_t hb10 h
            refine vSkip ?_
            change VC _ _ _ _
            refine vSeq ?_
            refine vBlock ?_
            refine vSeq ?_
            refine vRegion ?_
            obtain ⟨hg11, h⟩ := grd_inv h
            refine oVal tt rfl rfl rfl rfl rfl hg11 ?_
            iterate 2 refine oVal tt rfl rfl rfl rfl rfl trivial ?_
            refine vNil ?_
            change VC _ _ _ _
            refine vRegionD (by kernel_rfl) (by kernel_rfl) ?_
            iterate 2 refine cVal tt rfl (wNone rfl) rfl rfl rfl trivial ?_
            refine cSplit rfl rfl rfl (fun hb12 => ?_) (fun hb12 => ?_)
            · replace h := cnd_t hb12 h
              iterate 4 refine cVal tt rfl (wSome rfl rfl rfl rfl hb12) rfl rfl rfl trivial ?_
              refine cSplit rfl rfl rfl (fun hb13 => ?_) (fun hb13 => ?_)
              · replace h := cnd_t hb13 h
                iterate 9 refine cNoF rfl rfl rfl rfl hb13 rfl rfl ?_
                refine cPickT rfl (wSome rfl rfl rfl rfl hb12) rfl rfl rfl hb13 rfl ?_
                refine cPickT rfl (wNone rfl) rfl rfl rfl hb12 rfl ?_
                refine cVal tt rfl (wNone rfl) rfl rfl rfl trivial ?_
                refine cNil ?_
                change VC _ _ _ _
                refine vRegion ?_
                obtain ⟨hg14, h⟩ := grd_inv h
                refine oVal tt rfl rfl rfl rfl rfl hg14 ?_
                refine oVal tt rfl rfl rfl rfl rfl trivial ?_
                refine vNil ?_
                change ∃ _, _
                exact ⟨(true, (x148 + (1 : Int))), (En.of ⟨rfl, rfl, rfl, rfl, rfl, rfl, rfl, rfl, rfl, rfl, trivial⟩ ⟨rfl, rfl, trivial⟩ ⟨rfl, trivial⟩), h⟩
              · replace h := cnd_f hb13 h
                iterate 6 refine cVal tt rfl (wSome rfl rfl rfl rfl hb13) rfl rfl rfl trivial ?_
                obtain ⟨v151, hc15, h⟩ := bind_inv h
                refine cCall (I_bar_w N (p_0.ground.getD ((x148).toNat) 0) x116 v151 hc15) rfl (wSome rfl rfl rfl rfl hb13) rfl rfl rfl rfl rfl rfl ⟨rfl, rfl, trivial⟩ ?_
                obtain ⟨v152, hc16, h⟩ := bind_inv h
                refine cCall (I_raises_w N p_0.g.n (v2 ++ p_0.g.bars) v151 v152 hc16) rfl (wSome rfl rfl rfl rfl hb13) rfl rfl rfl rfl rfl rfl ⟨rfl, (.inl ⟨rfl, rfl⟩), ⟨rfl, rfl, trivial⟩, trivial⟩ ?_
                refine cVal tt rfl (wSome rfl rfl rfl rfl hb13) rfl rfl rfl trivial ?_
                refine cPickF rfl (wSome rfl rfl rfl rfl hb12) rfl rfl rfl hb13 rfl ?_
                refine cPickT rfl (wNone rfl) rfl rfl rfl hb12 rfl ?_
                refine cVal tt rfl (wNone rfl) rfl rfl rfl trivial ?_
                refine cNil ?_
                change VC _ _ _ _
                refine vRegion ?_
                obtain ⟨hg17, h⟩ := grd_inv h
                refine oVal tt rfl rfl rfl rfl rfl hg17 ?_
                refine oVal tt rfl rfl rfl rfl rfl trivial ?_
                refine vNil ?_
                change ∃ _, _
                exact ⟨((!v152), (x148 + (1 : Int))), (En.of ⟨rfl, rfl, rfl, rfl, rfl, rfl, rfl, rfl, rfl, rfl, trivial⟩ ⟨rfl, rfl, trivial⟩ ⟨rfl, trivial⟩), h⟩
            · replace h := cnd_f hb12 h
              iterate 4 refine cNoT rfl rfl rfl rfl hb12 rfl rfl ?_
              iterate 9 refine cNoU rfl rfl rfl rfl rfl ?_
              refine cNoT rfl rfl rfl rfl hb12 rfl rfl ?_
              refine cPickF rfl (wNone rfl) rfl rfl rfl hb12 rfl ?_
              refine cVal tt rfl (wNone rfl) rfl rfl rfl trivial ?_
              refine cNil ?_
              change VC _ _ _ _
              refine vRegion ?_
              obtain ⟨hg18, h⟩ := grd_inv h
              refine oVal tt rfl rfl rfl rfl rfl hg18 ?_
              refine oVal tt rfl rfl rfl rfl rfl trivial ?_
              refine vNil ?_
              change ∃ _, _
              exact ⟨(false, (x148 + (1 : Int))), (En.of ⟨rfl, rfl, rfl, rfl, rfl, rfl, rfl, rfl, rfl, rfl, trivial⟩ ⟨rfl, rfl, trivial⟩ ⟨rfl, trivial⟩), h⟩
          · replace h := cnd_f hb10 h
            refine vExit ?_
            change ∃ _, _
            exact ⟨steady147, (En.of ⟨rfl, rfl, rfl, rfl, rfl, rfl, rfl, trivial⟩ ⟨rfl, rfl, trivial⟩ ⟨rfl, trivial⟩), h⟩
      · replace h := cnd_f hb5 h
        refine vExit ?_
        change ∃ _, _
        exact ⟨l115, (En.of ⟨rfl, trivial⟩ ⟨rfl, trivial⟩ trivial), h⟩
end Go.Proofs.Ytkpmijmlbpdknaa

namespace Go.Proofs.Ytkpmijmlbpdknaa
set_option linter.unusedVariables false
set_option linter.unusedSimpArgs false
variable {n : Nat} {N : Nat}
theorem srt_graph {g : Grf} (h1 : inB g.n 1 8 = true) (h2 : g.bars.length ≤ 24) (h3 : Srt g.bars) (h4 : ∀ e ∈ g.bars, barOkB g.n e = true) : isGraph g = true := by
  refine isGraph_true h1 h2 fun i hi => ?_
  unfold barAt
  rw [h4 _ (getD_mem hi)]
  by_cases h0 : i = 0
  · simp [h0]
  · have := List.pairwise_iff_getElem.1 h3 (i - 1) i (by omega) hi (by omega)
    have e1 : g.bars.getD (i - 1) (0, 0) = g.bars[i - 1] := by rw [List.getD_eq_getElem?_getD, List.getElem?_eq_getElem (by omega)]; rfl
    have e2 : g.bars.getD i (0, 0) = g.bars[i] := by rw [List.getD_eq_getElem?_getD, List.getElem?_eq_getElem hi]; rfl
    rw [e1, e2, this]; simp
/-- a bar that raises the rank: no tight set of a basis spans it -/
theorem raises_s (hN : 4000000 ≤ N) (hn : n ≤ 1000) {bars : List (Int × Int)} (hb : ∀ e ∈ bars, Bok n e) (hl : bars.length ≤ 900) {e : Int × Int} (he : Bok n e) {I : List (Int × Int)} (hI : Bas n bars I) : ∃ b : Bool, I_raises N n bars e = some b ∧ (b = false ↔ Tied n I e) := by
  obtain ⟨I1, a1, a2⟩ := planeRank_s (N := N) hN hn hb (by omega)
  obtain ⟨J, c1, c2⟩ := planeRank_s (N := N) hN hn (bars := bars ++ [e]) (fun x hx => by
    rcases List.mem_append.1 hx with hx | hx
    · exact hb x hx
    · simp at hx; subst hx; exact he) (by simp; omega)
  have q := bas_len hb (fun _ => Iff.rfl) hI a1
  have hm : ∀ x, x ∈ bars ++ [e] ↔ x = e ∨ x ∈ bars := fun x => by simp; exact Or.comm
  have r := rank_iff hb he hm hI c1
  refine ⟨decide ((J.length : Int) > I1.length), ?_, ?_⟩
  · unfold I_raises
    simp (disch := omega) only [Int.toNat_natCast, tk0, List.length_cons, List.length_nil, grd_pos, grd_T, grd_R, cnd_dt, cnd_df, cnd_true, cnd_false, Option.bind_some, List.nil_append]
    rw [show ((e.1, e.2) : Int × Int) = e from rfl, c2, a2]
    rfl
  · constructor
    · intro h
      have h' := of_decide_eq_false h
      by_cases ht : Tied n I e
      · exact ht
      · have := rank_free hb he hm hI c1 ht
        omega
    · intro ht
      have := r.2 ht
      exact decide_eq_false (by omega)
theorem implied_s (hN : 4000000 ≤ N) {g : Grf} (hg : isGraph g = true) (hn : g.n = n) {a b : Int} (ha : 0 ≤ a ∧ a < n) (hb : 0 ≤ b ∧ b < n) {I : List (Int × Int)} (hI : Bas n g.bars I) : ∃ r : Bool, S_IsImplied N g a b = some r ∧ (r = true ↔ a = b ∨ Tied n I (min a b, max a b)) := by
  obtain ⟨⟨q1, q2⟩, q3, _⟩ := isGraph_parts hg
  have hbk : ∀ e ∈ g.bars, Bok n e := fun e he => by
    have := isGraph_bar hg he
    exact ⟨by omega, by omega, by omega, by omega, by omega⟩
  obtain ⟨L, p1, p2, p3, _⟩ := put_s (N := N) hN (g := g) (by omega) (min a b, max a b)
  by_cases e : a = b
  · refine ⟨true, ?_, by simp [e]⟩
    unfold S_IsImplied
    simp (disch := omega) only [Int.toNat_natCast, tk0, List.length_cons, List.length_nil, grd_pos, grd_T, grd_R, cnd_dt, cnd_df, cnd_true, cnd_false, Option.bind_some, isGraphS_s N hN, hg, Bool.not_true, hn, p1, cnd_eqt e]
  · have he : Bok n (min a b, max a b) := ⟨by simp only; omega, by simp only; omega, by simp only; omega, by simp only; omega, by simp only; omega⟩
    obtain ⟨J, c1, c2⟩ := rank_s (N := N) hN (g := ⟨g.n, L⟩) hn (by omega) (fun x hx => by
      rcases (p3 x).1 hx with rfl | hx
      · exact he
      · exact hbk x hx) (by simp only; omega)
    obtain ⟨I1, d1, d2⟩ := rank_s (N := N) hN (g := g) hn (by omega) hbk (by omega)
    have q := bas_len hbk (fun _ => Iff.rfl) hI d1
    have r := rank_iff hbk he p3 hI c1
    refine ⟨(J.length : Int) == (I1.length : Int), ?_, ?_⟩
    · unfold S_IsImplied
      rw [isGraphS_s N hN, hg, Option.bind_some, Bool.not_true, cnd_false, cnd_df (by omega), cnd_df (by omega), cnd_df (by omega), cnd_df (by omega), p1, Option.bind_some, cnd_eqf e, c2, d2]
      rfl
    · rw [beq_iff_eq]
      constructor
      · intro h; exact .inr (r.1 (by omega))
      · rintro (h | h)
        · exact absurd h e
        · have := r.2 h; omega
end Go.Proofs.Ytkpmijmlbpdknaa

/-! ## Py -/
namespace Go.Proofs.Ytkpmijmlbpdknaa
set_option linter.unusedVariables false
set_option linter.unusedSimpArgs false
variable {n : Nat}
theorem Tied.mm {I : List (Int × Int)} {a b : Int} : Tied n I (min a b, max a b) ↔ Tied n I (a, b) := by
  by_cases h : a ≤ b
  · rw [Int.min_eq_left h, Int.max_eq_right h]
  · rw [Int.min_eq_right (by omega), Int.max_eq_left (by omega)]
    exact ⟨Tied.swap, Tied.swap⟩
theorem steady_iff {G : List Int} {LH I : List (Int × Int)} (hl : 2 ≤ G.length) (hG : ∀ i, i < G.length → 0 ≤ G.getD i 0 ∧ G.getD i 0 < n) (hlt : ∀ j i : Nat, i < j → j < G.length → G.getD i 0 < G.getD j 0) (hS : HeldS G LH G.length) (hI : Spr n I) (ok : ∀ e ∈ I, Bok n e) (hH : ∀ e ∈ LH, Tied n I e) {v : Int} (hv : 0 ≤ v ∧ v < n) :
    ((G.getD 0 0 = v ∨ Tied n I (G.getD 0 0, v)) ∧ (G.getD 1 0 = v ∨ Tied n I (G.getD 1 0, v))) ↔ ∀ i, i < G.length → G.getD i 0 ≠ v → Tied n I (G.getD i 0, v) := by
  constructor
  · rintro ⟨h0, h1⟩ i hi hne
    by_cases e0 : i = 0
    · subst e0; exact h0.resolve_left hne
    by_cases e1 : i = 1
    · subst e1; exact h1.resolve_left hne
    have t0 := hH _ (hS.h0 i (by omega) hi)
    have t1 := hH _ (hS.h1 i (by omega) hi)
    have t := hH _ (hS.h0 1 (by omega) (by omega))
    have l0 := hlt i 0 (by omega) hi
    have l1 := hlt i 1 (by omega) hi
    have l := hlt 1 0 (by omega) (by omega)
    rcases h0 with h0 | h0
    · rw [← h0]; exact t0.swap
    rcases h1 with h1 | h1
    · rw [← h1]; exact t1.swap
    by_cases n0 : G.getD 0 0 = v
    · rw [← n0]; exact t0.swap
    by_cases n1 : G.getD 1 0 = v
    · rw [← n1]; exact t1.swap
    exact Tied.via hI ok (hG 0 (by omega)) (hG 1 (by omega)) (hG i hi) hv (by omega) (by omega) (by omega) n0 n1 t t0 t1 h0 h1
  · intro h
    refine ⟨?_, ?_⟩
    · by_cases e : G.getD 0 0 = v
      · exact .inl e
      · exact .inr (h 0 (by omega) e)
    · by_cases e : G.getD 1 0 = v
      · exact .inl e
      · exact .inr (h 1 (by omega) e)
end Go.Proofs.Ytkpmijmlbpdknaa

/-! ## Pz -/
namespace Go.Proofs.Ytkpmijmlbpdknaa
set_option linter.unusedVariables false
set_option linter.unusedSimpArgs false
variable {n : Nat} {N : Nat}
/-- the inner loop of the program: all of the ground from i on are tied -/
theorem steadyI2_s (hN : 4000000 ≤ N) (hn : n ≤ 8) {p : Pin} {hd J : List (Int × Int)} (hpn : p.g.n = n) (hl : p.ground.length ≤ 27) (hG : ∀ i, i < p.ground.length → 0 ≤ p.ground.getD i 0 ∧ p.ground.getD i 0 < n) (hb : ∀ e ∈ hd ++ p.g.bars, Bok n e) (hlen : (hd ++ p.g.bars).length ≤ 900) (hJ : Bas n (hd ++ p.g.bars) J) {v : Int} (hv : 0 ≤ v ∧ v < n) {kk : Bool → Option (List Int)} :
    ∀ (fuel i : Nat) (s : Bool), i ≤ p.ground.length → p.ground.length < fuel + i → ∃ b : Bool, I_SteadyPoints_l2 N p hd v kk fuel (s, (i : Int)) = kk b ∧ (b = true ↔ s = true ∧ ∀ j, i ≤ j → j < p.ground.length → p.ground.getD j 0 ≠ v → Tied n J (p.ground.getD j 0, v)) := by
  intro fuel
  induction fuel with
  | zero => intro i s h1 h2; omega
  | succ fuel ih =>
    intro i s h1 h2
    rw [I_SteadyPoints_l2]
    by_cases hi : i < p.ground.length
    · have split : ∀ P : Nat → Prop, (∀ j, i ≤ j → j < p.ground.length → P j) ↔ P i ∧ ∀ j, i + 1 ≤ j → j < p.ground.length → P j := fun P =>
        ⟨fun h => ⟨h i (by omega) hi, fun j a b => h j (by omega) b⟩, fun h j a b => by
          by_cases e : j = i
          · subst e; exact h.1
          · exact h.2 j (by omega) b⟩
      cases s with
      | false =>
        obtain ⟨b, k1, k2⟩ := ih (i + 1) false (by omega) (by omega)
        refine ⟨b, ?_, by rw [k2]; simp⟩
        simp (disch := omega) only [Int.toNat_natCast, tk0, List.length_cons, List.length_nil, grd_pos, grd_T, grd_R, cnd_dt, cnd_df, cnd_true, cnd_false, Option.bind_some, succ_cast]
        exact k1
      | true =>
        by_cases e : p.ground.getD i 0 = v
        · obtain ⟨b, k1, k2⟩ := ih (i + 1) true (by omega) (by omega)
          refine ⟨b, ?_, ?_⟩
          · simp (disch := omega) only [Int.toNat_natCast, tk0, List.length_cons, List.length_nil, grd_pos, grd_T, grd_R, cnd_dt, cnd_df, cnd_true, cnd_false, Option.bind_some, cnd_eqt e, succ_cast]
            exact k1
          · rw [k2, split]
            exact ⟨fun h => ⟨rfl, fun hc => absurd e hc, h.2⟩, fun h => ⟨rfl, h.2.2⟩⟩
        · have g := hG i hi
          have he : Bok n (min (p.ground.getD i 0) v, max (p.ground.getD i 0) v) := ⟨by simp only; omega, by simp only; omega, by simp only; omega, by simp only; omega, by simp only; omega⟩
          obtain ⟨b0, r1, r2⟩ := raises_s (N := N) hN (by omega) hb hlen he hJ
          obtain ⟨b, k1, k2⟩ := ih (i + 1) (!b0) (by omega) (by omega)
          refine ⟨b, ?_, ?_⟩
          · have eb : I_bar N (p.ground.getD i 0) v = some (min (p.ground.getD i 0) v, max (p.ground.getD i 0) v) := rfl
            simp (disch := omega) only [Int.toNat_natCast, tk0, List.length_cons, List.length_nil, grd_pos, grd_T, grd_R, cnd_dt, cnd_df, cnd_true, cnd_false, Option.bind_some, cnd_eqf e, eb, hpn, r1, succ_cast]
            exact k1
          · rw [k2, split]
            have ht : b0 = false ↔ Tied n J (p.ground.getD i 0, v) := r2.trans Tied.mm
            constructor
            · rintro ⟨h1, h2⟩
              refine ⟨rfl, fun _ => ht.1 ?_, h2⟩
              cases b0 with
              | false => rfl
              | true => cases h1
            · rintro ⟨_, h1, h2⟩
              have := ht.2 (h1 e)
              subst this
              exact ⟨rfl, h2⟩
    · refine ⟨s, ?_, ?_⟩
      · simp (disch := omega) only [Int.toNat_natCast, tk0, List.length_cons, List.length_nil, grd_pos, grd_T, grd_R, cnd_dt, cnd_df, cnd_true, cnd_false, Option.bind_some]
      · exact ⟨fun h => ⟨h, fun j a b => by omega⟩, fun h => h.1⟩
end Go.Proofs.Ytkpmijmlbpdknaa

/-! ## Qa -/
namespace Go.Proofs.Ytkpmijmlbpdknaa
set_option linter.unusedVariables false
set_option linter.unusedSimpArgs false
variable {n : Nat} {N : Nat}
theorem steady1_s (hN : 4000000 ≤ N) (hn : n ≤ 8) {p : Pin} {hd : List (Int × Int)} {aS : Grf} (hp : isPinned p = true) (hbl : p.g.bars.length ≤ 3000000) (hgl : p.ground.length ≤ 3000000) (hpn : p.g.n = n) (hl : 2 ≤ p.ground.length) (hA : S_l20All N p = some aS)
    (step : ∀ v : Nat, v < n → ∃ b0 b1 b : Bool, S_IsImplied N aS (p.ground.getD 0 0) v = some b0 ∧ S_IsImplied N aS (p.ground.getD 1 0) v = some b1 ∧ (b0 && b1) = b ∧ ∀ kk, I_SteadyPoints_l2 N p hd v kk N (true, (0 : Int)) = kk b) :
    ∀ (fuel v : Nat) (l : List Int), v ≤ n → n < fuel + v → l.length ≤ v → ∃ l' : List Int, l'.length ≤ n ∧ S_SteadyPoints_l1 N p (fun x => some x) fuel (l, (v : Int)) = some l' ∧ I_SteadyPoints_l1 N p hd (fun x => some x) fuel (l, (v : Int)) = some l' := by
  intro fuel
  induction fuel with
  | zero => intro v l h1 h2; omega
  | succ fuel ih =>
    intro v l h1 h2 h3
    rw [S_SteadyPoints_l1, I_SteadyPoints_l1]
    by_cases hv : v < n
    · obtain ⟨b0, b1, b, s0, s1, s2, s3⟩ := step v hv
      have z0 : (0 : Int).toNat = 0 := rfl
      have z1 : (1 : Int).toNat = 1 := rfl
      rw [cnd_dt (by omega), cnd_dt (by omega), s3]
      cases b with
      | true =>
        obtain ⟨e0, e1⟩ : b0 = true ∧ b1 = true := by simpa using s2
        subst e0 e1
        obtain ⟨l', k0, k1, k2⟩ := ih (v + 1) (l ++ [(v : Int)]) (by omega) (by omega) (by simp; omega)
        refine ⟨l', k0, ?_, ?_⟩
        · simp (disch := omega) only [Int.toNat_natCast, tk0, List.length_cons, List.length_nil, grd_pos, grd_T, grd_R, cnd_dt, cnd_df, cnd_true, cnd_false, Option.bind_some, isPinnedS_s N hN hbl hgl, hp, hA, z0, z1, s0, s1, succ_cast]
          exact k1
        · simp (disch := omega) only [Int.toNat_natCast, tk0, List.length_cons, List.length_nil, grd_pos, grd_T, grd_R, cnd_dt, cnd_df, cnd_true, cnd_false, Option.bind_some, succ_cast]
          exact k2
      | false =>
        obtain ⟨l', k0, k1, k2⟩ := ih (v + 1) l (by omega) (by omega) (by omega)
        refine ⟨l', k0, ?_, ?_⟩
        · cases b0 with
          | false =>
            simp (disch := omega) only [Int.toNat_natCast, tk0, List.length_cons, List.length_nil, grd_pos, grd_T, grd_R, cnd_dt, cnd_df, cnd_true, cnd_false, Option.bind_some, isPinnedS_s N hN hbl hgl, hp, hA, z0, z1, s0, succ_cast]
            exact k1
          | true =>
            have e1 : b1 = false := by simpa using s2
            subst e1
            simp (disch := omega) only [Int.toNat_natCast, tk0, List.length_cons, List.length_nil, grd_pos, grd_T, grd_R, cnd_dt, cnd_df, cnd_true, cnd_false, Option.bind_some, isPinnedS_s N hN hbl hgl, hp, hA, z0, z1, s0, s1, succ_cast]
            exact k1
        · simp (disch := omega) only [Int.toNat_natCast, tk0, List.length_cons, List.length_nil, grd_pos, grd_T, grd_R, cnd_dt, cnd_df, cnd_true, cnd_false, Option.bind_some, succ_cast]
          exact k2
    · refine ⟨l, by omega, ?_, ?_⟩
      · simp (disch := omega) only [Int.toNat_natCast, tk0, List.length_cons, List.length_nil, grd_pos, grd_T, grd_R, cnd_dt, cnd_df, cnd_true, cnd_false, Option.bind_some]
      · simp (disch := omega) only [Int.toNat_natCast, tk0, List.length_cons, List.length_nil, grd_pos, grd_T, grd_R, cnd_dt, cnd_df, cnd_true, cnd_false, Option.bind_some]
end Go.Proofs.Ytkpmijmlbpdknaa

/-! ## Qb -/
namespace Go.Proofs.Ytkpmijmlbpdknaa
set_option linter.unusedVariables false
set_option linter.unusedSimpArgs false
variable {N : Nat}
theorem steady_x (hN : 4000000 ≤ N) {p : Pin} (hbl : p.g.bars.length ≤ 3000000) (hgl : p.ground.length ≤ 3000000) : ∃ l : List Int, l.length ≤ 8 ∧ S_SteadyPoints N p = some l ∧ I_SteadyPoints N p = some l := by
  cases hp : isPinned p with
  | false =>
    refine ⟨[], by simp, ?_, ?_⟩
    · unfold S_SteadyPoints
      obtain ⟨m, rfl⟩ : ∃ m, N = m + 1 := ⟨N - 1, by omega⟩
      rw [S_SteadyPoints_l1]
      by_cases h : (0 : Int) < p.g.n
      · simp (disch := omega) only [Int.toNat_natCast, tk0, List.length_cons, List.length_nil, grd_pos, grd_T, grd_R, cnd_dt, cnd_df, cnd_true, cnd_false, Option.bind_some, isPinnedS_s (m + 1) hN hbl hgl, hp]
      · simp (disch := omega) only [Int.toNat_natCast, tk0, List.length_cons, List.length_nil, grd_pos, grd_T, grd_R, cnd_dt, cnd_df, cnd_true, cnd_false, Option.bind_some]
    · unfold I_SteadyPoints
      simp (disch := omega) only [Int.toNat_natCast, tk0, List.length_cons, List.length_nil, grd_pos, grd_T, grd_R, cnd_dt, cnd_df, cnd_true, cnd_false, Option.bind_some, isPinnedI_s N hN hbl hgl, hp, Bool.not_false]
  | true =>
    obtain ⟨p1, p2, p3, p4, p5, p6, p7⟩ := isPinned_parts hp
    obtain ⟨hn1, hn2, hbl'⟩ := isPinned_n p1
    obtain ⟨n, hn⟩ := Int.eq_ofNat_of_zero_le (show 0 ≤ p.g.n by omega)
    obtain ⟨LH, LS, a1, a2, a3, a4, a5, a6, a7⟩ := allS_s (N := N) hN (p := p) (by omega) (by omega)
    obtain ⟨LI, b1, b2, b3⟩ := heldI_s (N := N) hN (p := p) (by omega) p6
    have hG : ∀ i, i < p.ground.length → 0 ≤ p.ground.getD i 0 ∧ p.ground.getD i 0 < n := fun i hi => by
      have := asc_in p6 (getD_mem (d := 0) hi)
      omega
    have hlt := asc_lt p6
    have hb : ∀ e ∈ p.g.bars, Bok n e := fun e he => by
      have := isGraph_bar p1 he
      exact ⟨by omega, by omega, by omega, by omega, by omega⟩
    have pok : ∀ i j : Nat, i < j → j < p.ground.length → Bok n (p.ground.getD i 0, p.ground.getD j 0) := fun i j g1 g2 => by
      have a := hG i (by omega)
      have b := hG j g2
      have c := hlt j i g1 g2
      exact ⟨a.1, a.2, b.1, b.2, by simp only; omega⟩
    have okLS : ∀ e ∈ LS, Bok n e := fun e he => by
      rcases (a6 e).1 he with h | h
      · obtain ⟨i, j, g1, g2, rfl⟩ := a3.mem e h; exact pok i j g1 g2
      · exact hb e h
    have okLI : ∀ e ∈ LI ++ p.g.bars, Bok n e := fun e he => by
      rcases List.mem_append.1 he with h | h
      · obtain ⟨i, j, g1, g2, rfl⟩ := (b3 e).1 h; exact pok i j g1 g2
      · exact hb e h
    have bok : ∀ e : Int × Int, e ∈ LS → barOkB p.g.n e = true := fun e he => by
      have hx : 0 ≤ e.1 ∧ e.1 < e.2 ∧ e.2 < p.g.n := by
        rcases (a6 e).1 he with h | h
        · obtain ⟨i, j, g1, g2, rfl⟩ := a3.mem e h
          have a := hG i (by omega)
          have b := hG j g2
          have c := hlt j i g1 g2
          exact ⟨a.1, c, by simp only; omega⟩
        · exact isGraph_bar p1 h
      simp [barOkB, hx.1, hx.2.1, hx.2.2]
    have hgr : isGraph ⟨p.g.n, LS⟩ = true := srt_graph (by simp [inB]; omega) (by simp only; omega) a7 bok
    obtain ⟨I, c1, c2⟩ := rank_s (N := N) hN (g := ⟨p.g.n, LS⟩) (n := n) hn (by omega) okLS (by simp only; omega)
    obtain ⟨J, e1, e2⟩ := planeRank_s (N := N) hN (n := n) (by omega) (bars := LI ++ p.g.bars) okLI (by simp; omega)
    have okI : ∀ e ∈ I, Bok n e := fun e he => okLS e (c1.mem e he)
    have okJ : ∀ e ∈ J, Bok n e := fun e he => okLI e (e1.mem e he)
    have hH : ∀ e ∈ LH, Tied n I e := fun e he => c1.spn e ((a6 e).2 (.inl he))
    have pairI : ∀ i j : Nat, i < j → j < p.ground.length → Tied n I (p.ground.getD i 0, p.ground.getD j 0) := fun i j g1 g2 => by
      refine (steady_iff p3 hG hlt a3 c1.spr okI hH (hG j g2)).1 ⟨.inr (hH _ (a3.h0 j (by omega) g2)), ?_⟩ i (by omega) (by have := hlt j i g1 g2; omega)
      by_cases e : j = 1
      · subst e; exact .inl rfl
      · exact .inr (hH _ (a3.h1 j (by omega) g2))
    have hJI : ∀ e ∈ J, Tied n I e := fun e he => by
      rcases List.mem_append.1 (e1.mem e he) with h | h
      · obtain ⟨i, j, g1, g2, rfl⟩ := (b3 e).1 h; exact pairI i j g1 g2
      · exact c1.spn e ((a6 e).2 (.inr h))
    have hIJ : ∀ e ∈ I, Tied n J e := fun e he => e1.spn e (by
      rcases (a6 e).1 (c1.mem e he) with h | h
      · exact List.mem_append.2 (.inl ((b3 e).2 (a3.mem e h)))
      · exact List.mem_append.2 (.inr h))
    have key := steady1_s (n := n) (hd := LI) (aS := ⟨p.g.n, LS⟩) hN (by omega) hp hbl hgl hn p3 a4 (fun v hv => by
      have hv' : (0 : Int) ≤ (v : Int) ∧ (v : Int) < n := by omega
      obtain ⟨r0, s0, t0⟩ := implied_s (N := N) hN (g := ⟨p.g.n, LS⟩) hgr hn (hG 0 (by omega)) hv' c1
      obtain ⟨r1, s1, t1⟩ := implied_s (N := N) hN (g := ⟨p.g.n, LS⟩) hgr hn (hG 1 (by omega)) hv' c1
      rw [Tied.mm] at t0 t1
      have si := steady_iff p3 hG hlt a3 c1.spr okI hH hv'
      refine ⟨r0, r1, r0 && r1, s0, s1, rfl, fun kk => ?_⟩
      obtain ⟨b, k1, k2⟩ := steadyI2_s (N := N) (hd := LI) hN (by omega) hn (by omega) hG okLI (by simp; omega) e1 hv' (kk := kk) N 0 true (by omega) (by omega)
      have eq : b = (r0 && r1) := by
        rw [Bool.eq_iff_iff, k2, Bool.and_eq_true, t0, t1, si]
        constructor
        · rintro ⟨_, h⟩ j hj hne
          exact Tied.of e1.spr c1.spr okJ okI hJI hIJ (by have := hG j hj; exact ⟨by omega, by omega, by omega, by omega, hne⟩) (h j (by omega) hj hne)
        · intro h
          refine ⟨rfl, fun j _ hj hne => Tied.of c1.spr e1.spr okI okJ hIJ hJI (by have := hG j hj; exact ⟨by omega, by omega, by omega, by omega, hne⟩) (h j hj hne)⟩
      rw [← eq]; exact k1) N 0 [] (by omega) (by omega) (by simp)
    obtain ⟨l, k0, k1, k2⟩ := key
    refine ⟨l, by omega, k1, ?_⟩
    unfold I_SteadyPoints
    simp (disch := omega) only [Int.toNat_natCast, tk0, List.length_cons, List.length_nil, grd_pos, grd_T, grd_R, cnd_dt, cnd_df, cnd_true, cnd_false, Option.bind_some, isPinnedI_s N hN hbl hgl, hp, Bool.not_true, b1]
    exact k2
end Go.Proofs.Ytkpmijmlbpdknaa

namespace Go.Proofs.Ytkpmijmlbpdknaa
open Go.RowKit
set_option linter.unusedVariables false
set_option linter.unusedSimpArgs false
def S_SafeBars_l1 (N : Nat) (p_0 : Pin) (k : (List Int) → Option (List Int)) : Nat → ((List Int) × Int) → Option (List Int)
  | 0, _ => none
  | n + 1, (l11, i12) =>
    cnd (decide (i12 < (p_0.g.bars.length : Int))) (
      (S_SafeToRemove N p_0 i12).bind fun v14 =>
      cnd v14 (
        grd (l11.length + 1 ≤ 4294967296) <|
        grd (Rg64 (i12 + (1 : Int))) <|
        S_SafeBars_l1 N p_0 k n ((l11 ++ ([i12] : List Int)), (i12 + (1 : Int)))) (
        grd (Rg64 (i12 + (1 : Int))) <|
        S_SafeBars_l1 N p_0 k n (l11, (i12 + (1 : Int))))) (
      k l11)
def S_SafeBars (N : Nat) (p_0 : Pin) : Option (List Int) :=
  S_SafeBars_l1 N p_0 (fun (l7 : List Int) =>
        some l7) N (([] : List Int), (0 : Int))
set_option maxRecDepth 20000 in
set_option maxHeartbeats 1600000 in
theorem S_SafeBars_w (N : Nat) (p_0 : Pin) (r : List Int) (h : S_SafeBars N p_0 = some r) : PCall Try.prog 30 [pD p_0] [(3, .ints r)] (.row 0 0 r.length) := by
  unfold S_SafeBars at h
  refine pcall_intro (TT := TT) tt Try.func30 rfl rfl Try.ntmps30 (congrArg Array.toList Try.results30) rfl rfl fun w0 => ?_
  refine vSeq ?_
  refine vRegion ?_
  refine oBox rfl rfl rfl rfl rfl rfl rfl rfl rfl ?_
  refine oVal tt rfl rfl rfl rfl rfl trivial ?_
  refine vNil ?_
  change VC _ _ _ _
  refine vSeq ?_
  refine vRegion ?_
  refine oEmpty tt (wNone rfl) rfl rfl rfl rfl ?_
  refine oVal tt rfl rfl rfl rfl rfl trivial ?_
  refine vNil ?_
  change VC _ _ _ _
  iterate 2 refine vSeq ?_
  refine vRegion ?_
  refine oVal tt rfl rfl rfl rfl rfl trivial ?_
  refine vNil ?_
  change VC _ _ _ _
  refine vJoin (F := fun k => S_SafeBars_l1 N p_0 k) h (α := List Int) (J := fun (l7 : List Int) => (⟨[(3, .row 20 0 l7.length)], [(20, some (3, .ints l7))], []⟩ : PS)) ?_ ?_
  · rintro l7 h
    show VC _ _ _ (⟨[(3, .row 20 0 l7.length)], [(20, some (3, .ints l7))], []⟩ : PS)
    refine vSeq ?_
    refine vRegion ?_
    iterate 2 refine oVal tt rfl rfl rfl rfl rfl trivial ?_
    refine vNil ?_
    change VC _ _ _ _
    refine vRet ?_
    change ∃ _, _
    cases h
    exact ⟨[20], _, rfl, ⟨rfl, trivial⟩, rfl, (.eq rfl), rfl⟩
  · intro k h
    refine vBlock ?_
    refine vNilT 3 20 3 (.ints []) rfl rfl rfl rfl ?_
    refine vLoopS (α := (List Int) × Int) (fun | (l11, i12) => (⟨[(1, .ptr 1 0), (3, .row 20 0 l11.length), (4, .int i12)], [(20, some (3, .ints l11))], [(1, some [.int p_0.g.n, .ro false (.pairs p_0.g.bars), .ro false (.ints p_0.ground)])]⟩ : PS)) (S_SafeBars_l1 N p_0 k) h (En.of ⟨rfl, rfl, rfl, trivial⟩ ⟨rfl, trivial⟩ ⟨rfl, trivial⟩) (fun _ => rfl) ?_
    rintro n ⟨l11, i12⟩ h
    rw [S_SafeBars_l1] at h
    show VC _ _ _ (⟨[(1, .ptr 1 0), (3, .row 20 0 l11.length), (4, .int i12)], [(20, some (3, .ints l11))], [(1, some [.int p_0.g.n, .ro false (.pairs p_0.g.bars), .ro false (.ints p_0.ground)])]⟩ : PS)
    iterate 2 refine vSeq ?_
    refine vRegion ?_
    iterate 6 refine oVal tt rfl rfl rfl rfl rfl trivial ?_
    refine vNil ?_
    change VC _ _ _ _
    refine vCond rfl (fun hb1 => ?_) (fun hb1 => ?_)
    · replace h := cnd_t hb1 h
      refine vSkip ?_
      change VC _ _ _ _
      refine vSeq ?_
      refine vBlock ?_
      refine vSeq ?_
      refine vRegion ?_
      iterate 2 refine oVal tt rfl rfl rfl rfl rfl trivial ?_
      obtain ⟨v14, hc2, h⟩ := bind_inv h
      refine oCall (S_SafeToRemove_w N p_0 i12 v14 hc2) rfl rfl rfl rfl rfl rfl rfl rfl ⟨⟨rfl, rfl, rfl, trivial⟩, rfl, trivial⟩ ?_
      refine vNil ?_
      change VC _ _ _ _
      refine vCond rfl (fun hb3 => ?_) (fun hb3 => ?_)
      · replace h := cnd_t hb3 h
        refine vRegion ?_
        iterate 2 refine oVal tt rfl rfl rfl rfl rfl trivial ?_
        refine oBuild tt rfl rfl rfl rfl rfl rfl rfl rfl rfl rfl rfl ?_
        obtain ⟨hg4, h⟩ := grd_inv h
        refine oAppend tt rfl rfl rfl rfl rfl rfl rfl rfl rfl rfl rfl rfl rfl rfl rfl rfl (Nat.le_of_eq (Nat.zero_add _)) hg4 ?_
        refine oVal tt rfl rfl rfl rfl rfl trivial ?_
        refine vNil ?_
        change VC _ _ _ _
        refine vRegion ?_
        refine oVal tt rfl rfl rfl rfl rfl trivial ?_
        obtain ⟨hg5, h⟩ := grd_inv h
        refine oVal tt rfl rfl rfl rfl rfl hg5 ?_
        refine oVal tt rfl rfl rfl rfl rfl trivial ?_
        refine vNil ?_
        change ∃ _, _
        exact ⟨((l11 ++ ([i12] : List Int)), (i12 + (1 : Int))), (En.of ⟨rfl, rfl, rfl, trivial⟩ ⟨rfl, trivial⟩ ⟨rfl, trivial⟩), h⟩
      · replace h := cnd_f hb3 h
        refine vSkip ?_
        change VC _ _ _ _
        refine vRegion ?_
        refine oVal tt rfl rfl rfl rfl rfl trivial ?_
        obtain ⟨hg6, h⟩ := grd_inv h
        refine oVal tt rfl rfl rfl rfl rfl hg6 ?_
        refine oVal tt rfl rfl rfl rfl rfl trivial ?_
        refine vNil ?_
        change ∃ _, _
        exact ⟨(l11, (i12 + (1 : Int))), (En.of ⟨rfl, rfl, rfl, trivial⟩ ⟨rfl, trivial⟩ ⟨rfl, trivial⟩), h⟩
    · replace h := cnd_f hb1 h
      refine vExit ?_
      change ∃ _, _
      exact ⟨l11, (En.of ⟨rfl, trivial⟩ ⟨rfl, trivial⟩ trivial), h⟩
def S_FallsWith_l1 (N : Nat) (v2 : List Int) (v4 : List Int) (k : (List Int) → Option (List Int)) : Nat → ((List Int) × Int) → Option (List Int)
  | 0, _ => none
  | n + 1, (l15, i16) =>
    cnd (decide (i16 < (v2.length : Int))) (
      grd (0 ≤ i16 ∧ i16 < (v2.length : Int)) <|
      (S_l2Has N v4 (v2.getD ((i16).toNat) 0)).bind fun v18 =>
      cnd (!v18) (
        grd (l15.length + 1 ≤ 4294967296) <|
        grd (Rg64 (i16 + (1 : Int))) <|
        S_FallsWith_l1 N v2 v4 k n ((l15 ++ ([(v2.getD ((i16).toNat) 0)] : List Int)), (i16 + (1 : Int)))) (
        grd (Rg64 (i16 + (1 : Int))) <|
        S_FallsWith_l1 N v2 v4 k n (l15, (i16 + (1 : Int))))) (
      k l15)
def S_FallsWith (N : Nat) (p_0 : Pin) (bar_1 : Int) : Option (List Int) :=
  (S_IsPinned N p_0).bind fun v1 =>
  cnd (!v1) (
    some ([] : List Int)) (
    cnd (decide (bar_1 < (0 : Int))) (
      some ([] : List Int)) (
      cnd (decide (bar_1 ≥ (p_0.g.bars.length : Int))) (
        some ([] : List Int)) (
        (S_SteadyPoints N p_0).bind fun v2 =>
        (S_l27Less N p_0 bar_1).bind fun v3 =>
        (S_SteadyPoints N v3).bind fun v4 =>
        S_FallsWith_l1 N v2 v4 (fun (l11 : List Int) =>
              some l11) N (([] : List Int), (0 : Int)))))
set_option maxRecDepth 20000 in
set_option maxHeartbeats 1600000 in
theorem S_FallsWith_w (N : Nat) (p_0 : Pin) (bar_1 : Int) (r : List Int) (h : S_FallsWith N p_0 bar_1 = some r) : PCall Try.prog 36 [pD p_0, .int bar_1] [(3, .ints r)] (.row 0 0 r.length) := by
  unfold S_FallsWith at h
  refine pcall_intro (TT := TT) tt Try.func36 rfl rfl Try.ntmps36 (congrArg Array.toList Try.results36) rfl rfl fun w0 => ?_
  refine vSeq ?_
  refine vRegion ?_
  refine oBox rfl rfl rfl rfl rfl rfl rfl rfl rfl ?_
  refine oVal tt rfl rfl rfl rfl rfl trivial ?_
  refine vNil ?_
  change VC _ _ _ _
  refine vSeq ?_
  refine vRegion ?_
  refine oEmpty tt (wNone rfl) rfl rfl rfl rfl ?_
  refine oVal tt rfl rfl rfl rfl rfl trivial ?_
  refine vNil ?_
  change VC _ _ _ _
  iterate 2 refine vSeq ?_
  refine vRegion ?_
  refine oVal tt rfl rfl rfl rfl rfl trivial ?_
  obtain ⟨v1, hc1, h⟩ := bind_inv h
  refine oCall (S_IsPinned_w N p_0 v1 hc1) rfl rfl rfl rfl rfl rfl rfl rfl ⟨⟨rfl, rfl, rfl, trivial⟩, trivial⟩ ?_
  iterate 2 refine oVal tt rfl rfl rfl rfl rfl trivial ?_
  refine oSplit rfl rfl rfl (fun hb2 => ?_) (fun hb2 => ?_)
  · replace h := cnd_t hb2 h
    iterate 2 refine oNoF rfl rfl rfl rfl hb2 rfl rfl ?_
    refine oPick rfl rfl rfl rfl rfl hb2 rfl ?_
    refine oVal tt rfl rfl rfl rfl rfl trivial ?_
    iterate 6 refine oNoF rfl rfl rfl rfl rfl rfl rfl ?_
    refine oPick rfl rfl rfl rfl rfl rfl rfl ?_
    refine vNil ?_
    change VC _ _ _ _
    refine vCondT rfl rfl ?_
    refine vSeq ?_
    refine vRegion ?_
    iterate 2 refine oVal tt rfl rfl rfl rfl rfl trivial ?_
    refine vNil ?_
    change VC _ _ _ _
    refine vNilT 4 9001 3 (.ints []) rfl rfl rfl rfl ?_
    refine vRet ?_
    change ∃ _, _
    cases h
    exact ⟨[9001], _, rfl, ⟨rfl, trivial⟩, rfl, (.eq rfl), rfl⟩
  · replace h := cnd_f hb2 h
    iterate 2 refine oValG tt rfl rfl rfl rfl rfl hb2 rfl rfl rfl trivial ?_
    refine oPickF rfl rfl rfl rfl rfl hb2 rfl ?_
    refine oVal tt rfl rfl rfl rfl rfl trivial ?_
    refine oSplit rfl rfl rfl (fun hb3 => ?_) (fun hb3 => ?_)
    · replace h := cnd_t hb3 h
      iterate 6 refine oNoF rfl rfl rfl rfl hb3 rfl rfl ?_
      refine oPick rfl rfl rfl rfl rfl hb3 rfl ?_
      refine vNil ?_
      change VC _ _ _ _
      refine vCondT rfl rfl ?_
      refine vSeq ?_
      refine vRegion ?_
      iterate 2 refine oVal tt rfl rfl rfl rfl rfl trivial ?_
      refine vNil ?_
      change VC _ _ _ _
      refine vNilT 4 9001 3 (.ints []) rfl rfl rfl rfl ?_
      refine vRet ?_
      change ∃ _, _
      cases h
      exact ⟨[9001], _, rfl, ⟨rfl, trivial⟩, rfl, (.eq rfl), rfl⟩
    · replace h := cnd_f hb3 h
      iterate 6 refine oValG tt rfl rfl rfl rfl rfl hb3 rfl rfl rfl trivial ?_
      refine oPickF rfl rfl rfl rfl rfl hb3 rfl ?_
      refine vNil ?_
      change VC _ _ _ _
      refine vCond rfl (fun hb4 => ?_) (fun hb4 => ?_)
      · replace h := cnd_t hb4 h
        refine vSeq ?_
        refine vRegion ?_
        iterate 2 refine oVal tt rfl rfl rfl rfl rfl trivial ?_
        refine vNil ?_
        change VC _ _ _ _
        refine vNilT 4 9001 3 (.ints []) rfl rfl rfl rfl ?_
        refine vRet ?_
        change ∃ _, _
        cases h
        exact ⟨[9001], _, rfl, ⟨rfl, trivial⟩, rfl, (.eq rfl), rfl⟩
      · replace h := cnd_f hb4 h
        refine vSkip ?_
        change VC _ _ _ _
        refine vSeq ?_
        refine vRegion ?_
        refine oVal tt rfl rfl rfl rfl rfl trivial ?_
        obtain ⟨v2, hc5, h⟩ := bind_inv h
        refine oCall (S_SteadyPoints_w N p_0 v2 hc5) rfl rfl rfl rfl rfl rfl rfl rfl ⟨⟨rfl, rfl, rfl, trivial⟩, trivial⟩ ?_
        refine oVal tt rfl rfl rfl rfl rfl trivial ?_
        refine vNil ?_
        change VC _ _ _ _
        refine vSeq ?_
        refine vRegion ?_
        iterate 2 refine oVal tt rfl rfl rfl rfl rfl trivial ?_
        obtain ⟨v3, hc6, h⟩ := bind_inv h
        refine oCall (S_l27Less_w N p_0 bar_1 v3 hc6) rfl rfl rfl rfl rfl rfl rfl rfl ⟨⟨rfl, rfl, rfl, trivial⟩, rfl, trivial⟩ ?_
        obtain ⟨v4, hc7, h⟩ := bind_inv h
        refine oCall (S_SteadyPoints_w N v3 v4 hc7) rfl rfl rfl rfl rfl rfl rfl rfl ⟨⟨rfl, (.inl ⟨rfl, rfl⟩), (.inl ⟨rfl, rfl⟩), trivial⟩, trivial⟩ ?_
        refine oVal tt rfl rfl rfl rfl rfl trivial ?_
        refine vNil ?_
        change VC _ _ _ _
        iterate 2 refine vSeq ?_
        refine vRegion ?_
        refine oVal tt rfl rfl rfl rfl rfl trivial ?_
        refine vNil ?_
        change VC _ _ _ _
        refine vJoin (F := fun k => S_FallsWith_l1 N v2 v4 k) h (α := List Int) (J := fun (l11 : List Int) => (⟨[(5, .row 51 0 l11.length)], [(51, some (3, .ints l11))], []⟩ : PS)) ?_ ?_
        · rintro l11 h
          show VC _ _ _ (⟨[(5, .row 51 0 l11.length)], [(51, some (3, .ints l11))], []⟩ : PS)
          refine vSeq ?_
          refine vRegion ?_
          iterate 2 refine oVal tt rfl rfl rfl rfl rfl trivial ?_
          refine vNil ?_
          change VC _ _ _ _
          refine vRet ?_
          change ∃ _, _
          cases h
          exact ⟨[51], _, rfl, ⟨rfl, trivial⟩, rfl, (.eq rfl), rfl⟩
        · intro k h
          refine vBlock ?_
          refine vNilT 5 51 3 (.ints []) rfl rfl rfl rfl ?_
          refine vLoopS (α := (List Int) × Int) (fun | (l15, i16) => (⟨[(5, .row 51 0 l15.length), (6, .row 1270 0 v2.length), (7, .row 1310 0 v4.length), (8, .int i16)], [(51, some (3, .ints l15)), (1270, some (3, .ints v2)), (1310, some (3, .ints v4))], []⟩ : PS)) (S_FallsWith_l1 N v2 v4 k) h (En.of ⟨rfl, rfl, rfl, rfl, trivial⟩ ⟨rfl, rfl, rfl, trivial⟩ trivial) (fun _ => rfl) ?_
          rintro n ⟨l15, i16⟩ h
          rw [S_FallsWith_l1] at h
          show VC _ _ _ (⟨[(5, .row 51 0 l15.length), (6, .row 1270 0 v2.length), (7, .row 1310 0 v4.length), (8, .int i16)], [(51, some (3, .ints l15)), (1270, some (3, .ints v2)), (1310, some (3, .ints v4))], []⟩ : PS)
          iterate 2 refine vSeq ?_
          refine vRegion ?_
          iterate 4 refine oVal tt rfl rfl rfl rfl rfl trivial ?_
          refine vNil ?_
          change VC _ _ _ _
          refine vCond rfl (fun hb8 => ?_) (fun hb8 => ?_)
          · replace h := cnd_t hb8 h
            refine vSkip ?_
            change VC _ _ _ _
            refine vSeq ?_
            refine vBlock ?_
            refine vSeq ?_
            refine vRegion ?_
            iterate 3 refine oVal tt rfl rfl rfl rfl rfl trivial ?_
            obtain ⟨hg9, h⟩ := grd_inv h
            iterate 2 refine oVal tt rfl rfl rfl rfl rfl hg9 ?_
            obtain ⟨v18, hc10, h⟩ := bind_inv h
            refine oCall (S_l2Has_w N v4 (v2.getD ((i16).toNat) 0) v18 hc10) rfl rfl rfl rfl rfl rfl rfl rfl ⟨(.inl ⟨rfl, rfl⟩), rfl, trivial⟩ ?_
            refine oVal tt rfl rfl rfl rfl rfl trivial ?_
            refine vNil ?_
            change VC _ _ _ _
            refine vCond rfl (fun hb11 => ?_) (fun hb11 => ?_)
            · replace h := cnd_t hb11 h
              refine vRegion ?_
              iterate 3 refine oVal tt rfl rfl rfl rfl rfl trivial ?_
              iterate 2 refine oVal tt rfl rfl rfl rfl rfl hg9 ?_
              refine oBuild tt rfl rfl rfl rfl rfl rfl rfl rfl rfl rfl rfl ?_
              obtain ⟨hg12, h⟩ := grd_inv h
              refine oAppend tt rfl rfl rfl rfl rfl rfl rfl rfl rfl rfl rfl rfl rfl rfl rfl rfl (Nat.le_of_eq (Nat.zero_add _)) hg12 ?_
              refine oVal tt rfl rfl rfl rfl rfl trivial ?_
              refine vNil ?_
              change VC _ _ _ _
              refine vRegion ?_
              refine oVal tt rfl rfl rfl rfl rfl trivial ?_
              obtain ⟨hg13, h⟩ := grd_inv h
              refine oVal tt rfl rfl rfl rfl rfl hg13 ?_
              refine oVal tt rfl rfl rfl rfl rfl trivial ?_
              refine vNil ?_
              change ∃ _, _
              exact ⟨((l15 ++ ([(v2.getD ((i16).toNat) 0)] : List Int)), (i16 + (1 : Int))), (En.of ⟨rfl, rfl, rfl, rfl, trivial⟩ ⟨rfl, rfl, rfl, trivial⟩ trivial), h⟩
            · replace h := cnd_f hb11 h
              refine vSkip ?_
              change VC _ _ _ _
              refine vRegion ?_
              refine oVal tt rfl rfl rfl rfl rfl trivial ?_
              obtain ⟨hg14, h⟩ := grd_inv h
              refine oVal tt rfl rfl rfl rfl rfl hg14 ?_
              refine oVal tt rfl rfl rfl rfl rfl trivial ?_
              refine vNil ?_
              change ∃ _, _
              exact ⟨(l15, (i16 + (1 : Int))), (En.of ⟨rfl, rfl, rfl, rfl, trivial⟩ ⟨rfl, rfl, rfl, trivial⟩ trivial), h⟩
          · replace h := cnd_f hb8 h
            refine vExit ?_
            change ∃ _, _
            exact ⟨l15, (En.of ⟨rfl, trivial⟩ ⟨rfl, trivial⟩ trivial), h⟩
def S_WorstBar_l1 (N : Nat) (p_0 : Pin) (k : (Int × Int) → Option (Int × Int)) : Nat → (Int × Int × Int) → Option (Int × Int)
  | 0, _ => none
  | n + 1, (best11, most12, i13) =>
    cnd (decide (i13 < (p_0.g.bars.length : Int))) (
      (S_FallsWith N p_0 i13).bind fun v15 =>
      cnd (decide ((v15.length : Int) > most12)) (
        grd (Rg64 (i13 + (1 : Int))) <|
        S_WorstBar_l1 N p_0 k n (i13, (v15.length : Int), (i13 + (1 : Int)))) (
        grd (Rg64 (i13 + (1 : Int))) <|
        S_WorstBar_l1 N p_0 k n (best11, most12, (i13 + (1 : Int))))) (
      k (best11, most12))
def S_WorstBar (N : Nat) (p_0 : Pin) : Option (Int × Int) :=
  S_WorstBar_l1 N p_0 (fun (x : Int × Int) =>
      match x with
      | (best7, most8) =>
        some (best7, most8)) N ((-1 : Int), (0 : Int), (0 : Int))
set_option maxRecDepth 20000 in
set_option maxHeartbeats 1600000 in
theorem S_WorstBar_w (N : Nat) (p_0 : Pin) (r : Int × Int) (h : S_WorstBar N p_0 = some r) : PCall Try.prog 32 [pD p_0] [] (.tup [.int r.1, .int r.2]) := by
  unfold S_WorstBar at h
  refine pcall_intro (TT := TT) tt Try.func32 rfl rfl Try.ntmps32 (congrArg Array.toList Try.results32) rfl rfl fun w0 => ?_
  refine vSeq ?_
  refine vRegion ?_
  refine oBox rfl rfl rfl rfl rfl rfl rfl rfl rfl ?_
  iterate 2 refine oVal tt rfl rfl rfl rfl rfl trivial ?_
  refine vNil ?_
  change VC _ _ _ _
  refine vSeq ?_
  refine vRegion ?_
  refine oVal tt rfl rfl rfl rfl rfl trivial ?_
  refine vNil ?_
  change VC _ _ _ _
  refine vSeq ?_
  refine vRegion ?_
  refine oVal tt rfl rfl rfl rfl rfl trivial ?_
  refine vNil ?_
  change VC _ _ _ _
  iterate 2 refine vSeq ?_
  refine vRegion ?_
  refine oVal tt rfl rfl rfl rfl rfl trivial ?_
  refine vNil ?_
  change VC _ _ _ _
  refine vJoin (F := fun k => S_WorstBar_l1 N p_0 k) h (α := Int × Int) (J := fun | (best7, most8) => (⟨[(4, .int best7), (5, .int most8)], [], []⟩ : PS)) ?_ ?_
  · rintro ⟨best7, most8⟩ h
    show VC _ _ _ (⟨[(4, .int best7), (5, .int most8)], [], []⟩ : PS)
    refine vSeq ?_
    refine vRegion ?_
    iterate 4 refine oVal tt rfl rfl rfl rfl rfl trivial ?_
    refine vNil ?_
    change VC _ _ _ _
    refine vRet ?_
    change ∃ _, _
    cases h
    exact ⟨[], _, rfl, trivial, rfl, (.eq rfl), rfl⟩
  · intro k h
    refine vBlock ?_
    refine vLoopS (α := Int × Int × Int) (fun | (best11, most12, i13) => (⟨[(1, .ptr 1 0), (4, .int best11), (5, .int most12), (6, .int i13)], [], [(1, some [.int p_0.g.n, .ro false (.pairs p_0.g.bars), .ro false (.ints p_0.ground)])]⟩ : PS)) (S_WorstBar_l1 N p_0 k) h (En.of ⟨rfl, rfl, rfl, rfl, trivial⟩ trivial ⟨rfl, trivial⟩) (fun _ => rfl) ?_
    rintro n ⟨best11, most12, i13⟩ h
    rw [S_WorstBar_l1] at h
    show VC _ _ _ (⟨[(1, .ptr 1 0), (4, .int best11), (5, .int most12), (6, .int i13)], [], [(1, some [.int p_0.g.n, .ro false (.pairs p_0.g.bars), .ro false (.ints p_0.ground)])]⟩ : PS)
    iterate 2 refine vSeq ?_
    refine vRegion ?_
    iterate 6 refine oVal tt rfl rfl rfl rfl rfl trivial ?_
    refine vNil ?_
    change VC _ _ _ _
    refine vCond rfl (fun hb1 => ?_) (fun hb1 => ?_)
    · replace h := cnd_t hb1 h
      refine vSkip ?_
      change VC _ _ _ _
      refine vSeq ?_
      refine vBlock ?_
      refine vSeq ?_
      refine vRegion ?_
      iterate 2 refine oVal tt rfl rfl rfl rfl rfl trivial ?_
      obtain ⟨v15, hc2, h⟩ := bind_inv h
      refine oCall (S_FallsWith_w N p_0 i13 v15 hc2) rfl rfl rfl rfl rfl rfl rfl rfl ⟨⟨rfl, rfl, rfl, trivial⟩, rfl, trivial⟩ ?_
      iterate 2 refine oVal tt rfl rfl rfl rfl rfl trivial ?_
      refine vNil ?_
      change VC _ _ _ _
      refine vSeq ?_
      refine vRegion ?_
      iterate 3 refine oVal tt rfl rfl rfl rfl rfl trivial ?_
      refine vNil ?_
      change VC _ _ _ _
      refine vCond rfl (fun hb3 => ?_) (fun hb3 => ?_)
      · replace h := cnd_t hb3 h
        refine vSeq ?_
        refine vRegion ?_
        iterate 2 refine oVal tt rfl rfl rfl rfl rfl trivial ?_
        refine vNil ?_
        change VC _ _ _ _
        refine vRegion ?_
        iterate 2 refine oVal tt rfl rfl rfl rfl rfl trivial ?_
        refine vNil ?_
        change VC _ _ _ _
        refine vRegion ?_
        refine oVal tt rfl rfl rfl rfl rfl trivial ?_
        obtain ⟨hg4, h⟩ := grd_inv h
        refine oVal tt rfl rfl rfl rfl rfl hg4 ?_
        refine oVal tt rfl rfl rfl rfl rfl trivial ?_
        refine vNil ?_
        change ∃ _, _
        exact ⟨(i13, (v15.length : Int), (i13 + (1 : Int))), (En.of ⟨rfl, rfl, rfl, rfl, trivial⟩ trivial ⟨rfl, trivial⟩), h⟩
      · replace h := cnd_f hb3 h
        refine vSkip ?_
        change VC _ _ _ _
        refine vRegion ?_
        refine oVal tt rfl rfl rfl rfl rfl trivial ?_
        obtain ⟨hg5, h⟩ := grd_inv h
        refine oVal tt rfl rfl rfl rfl rfl hg5 ?_
        refine oVal tt rfl rfl rfl rfl rfl trivial ?_
        refine vNil ?_
        change ∃ _, _
        exact ⟨(best11, most12, (i13 + (1 : Int))), (En.of ⟨rfl, rfl, rfl, rfl, trivial⟩ trivial ⟨rfl, trivial⟩), h⟩
    · replace h := cnd_f hb1 h
      refine vExit ?_
      change ∃ _, _
      exact ⟨(best11, most12), (En.of ⟨rfl, rfl, trivial⟩ trivial trivial), h⟩
def S_RemoveAll_l1 (N : Nat) (k : ((List Int) × (List (Int × Int)) × (List Int) × Int) → Option ((List Int) × Pin)) : Nat → ((List Int) × (List (Int × Int)) × (List Int) × Int × Int) → Option ((List Int) × Pin)
  | 0, _ => none
  | n + 1, (l28, l29, l30, i31, c32) =>
    cnd (decide (i31 ≥ (0 : Int))) (
      (S_SafeToRemove N (⟨⟨c32, l29⟩, l30⟩ : Pin) i31).bind fun v35 =>
      cnd v35 (
        (S_l27Less N (⟨⟨c32, l29⟩, l30⟩ : Pin) i31).bind fun v36 =>
        grd (l28.length + 1 ≤ 4294967296) <|
        grd (Rg64 (i31 - (1 : Int))) <|
        S_RemoveAll_l1 N k n ((l28 ++ ([i31] : List Int)), v36.g.bars, v36.ground, (i31 - (1 : Int)), v36.g.n)) (
        grd (Rg64 (i31 - (1 : Int))) <|
        S_RemoveAll_l1 N k n (l28, l29, l30, (i31 - (1 : Int)), c32))) (
      k (l28, l29, l30, c32))
def S_RemoveAll (N : Nat) (p_0 : Pin) : Option ((List Int) × Pin) :=
  (S_l2Copy N p_0.g).bind fun v1 =>
  grd (p_0.ground.length ≤ 4294967296) <|
  grd (Rg64 ((p_0.g.bars.length : Int) - (1 : Int))) <|
  S_RemoveAll_l1 N (fun (x : (List Int) × (List (Int × Int)) × (List Int) × Int) =>
      match x with
      | (l17, l18, l19, c20) =>
        some (l17, (⟨⟨c20, l18⟩, l19⟩ : Pin))) N (([] : List Int), v1.bars, (([] : List Int) ++ p_0.ground), ((p_0.g.bars.length : Int) - (1 : Int)), v1.n)
set_option maxRecDepth 20000 in
set_option maxHeartbeats 1600000 in
theorem S_RemoveAll_w (N : Nat) (p_0 : Pin) (r : (List Int) × Pin) (h : S_RemoveAll N p_0 = some r) : PCall Try.prog 40 [pD p_0] [(3, .ints r.1), (71, .pairs r.2.g.bars), (3, .ints r.2.ground)] (.tup [.row 0 0 r.1.length, .agg [.int r.2.g.n, .row 1 0 r.2.g.bars.length, .row 2 0 r.2.ground.length]]) := by
  unfold S_RemoveAll at h
  refine pcall_intro (TT := TT) tt Try.func40 rfl rfl Try.ntmps40 (congrArg Array.toList Try.results40) rfl rfl fun w0 => ?_
  refine vSeq ?_
  refine vRegion ?_
  refine oBox rfl rfl rfl rfl rfl rfl rfl rfl rfl ?_
  refine oVal tt rfl rfl rfl rfl rfl trivial ?_
  refine oAlloc tt rfl rfl rfl rfl rfl rfl rfl rfl rfl ?_
  refine vNil ?_
  change VC _ _ _ _
  refine vSeq ?_
  refine vRegion ?_
  refine oEmpty tt (wNone rfl) rfl rfl rfl rfl ?_
  refine oVal tt rfl rfl rfl rfl rfl trivial ?_
  refine vNil ?_
  change VC _ _ _ _
  refine vSeq ?_
  refine vRegionN 9 [2, 6, 8] [0, 1, 3, 0, 0, 16, 63, 127, 0, 511] (by kernel_rfl) (by kernel_rfl) (by kernel_rfl) (by kernel_rfl) (by kernel_rfl) rfl (by rfl) ?_
  iterate 2 refine nVal tt rfl (wNone rfl) rfl rfl rfl rfl rfl trivial ?_
  obtain ⟨v1, hc1, h⟩ := bind_inv h
  refine nCallR (S_l2Copy_w N p_0.g v1 hc1) rfl (wNone rfl) rfl rfl rfl rfl rfl rfl (by first | rfl | kernel_rfl | (simp [nrL, nm, gdst, nmT, rowB]; done)) rfl (by first | rfl | kernel_rfl | (simp [chkE, nrL, nm, gdst, nmT, rowB, hid, ment, mentA, mentS]; done) | (simp [chkE, nrL, nm, gdst, nmT, rowB, hid, ment, mentA, mentS]; decide)) ⟨⟨rfl, rfl, trivial⟩, trivial⟩ ?_
  refine nEmpty tt (wNone rfl) rfl rfl rfl rfl rfl ?_
  iterate 2 refine nVal tt rfl (wNone rfl) rfl rfl rfl rfl rfl trivial ?_
  obtain ⟨hg2, h⟩ := grd_inv h
  refine nAppNil tt (wNone rfl) rfl rfl rfl rfl rfl rfl rfl rfl (fun _ => rfl) rfl rfl rfl rfl rfl rfl hg2 ?_
  refine nPure (wNone rfl) (pBuild bld_impl_Pinned rfl rfl) rfl rfl rfl rfl ?_
  refine nAlloc tt (wNone rfl) rfl rfl rfl rfl rfl rfl rfl rfl rfl rfl ?_
  refine nNil ?_
  change VO _ _ _ _ _
  refine oStore tt rfl rfl rfl rfl rfl rfl rfl rfl rfl rfl rfl ⟨trivial, trivial, trivial, trivial⟩ ?_
  refine vNil ?_
  change VC _ _ _ _
  iterate 2 refine vSeq ?_
  refine vRegion ?_
  iterate 4 refine oVal tt rfl rfl rfl rfl rfl trivial ?_
  obtain ⟨hg3, h⟩ := grd_inv h
  refine oVal tt rfl rfl rfl rfl rfl hg3 ?_
  refine oVal tt rfl rfl rfl rfl rfl trivial ?_
  refine vNil ?_
  change VC _ _ _ _
  refine vJoin (F := fun k => S_RemoveAll_l1 N k) h (α := (List Int) × (List (Int × Int)) × (List Int) × Int) (J := fun | (l17, l18, l19, c20) => (⟨[(3, .ptr 3 0), (4, .row 34 0 l17.length), (5, .ptr 5 0)], [(34, some (3, .ints l17)), (1100, some (71, .pairs l18)), (14, some (3, .ints l19))], [(3, some [.int (0 : Int), .nil, .nil]), (5, some [.int c20, .row 1100 0 l18.length, .row 14 0 l19.length])]⟩ : PS)) ?_ ?_
  · rintro ⟨l17, l18, l19, c20⟩ h
    show VC _ _ _ (⟨[(3, .ptr 3 0), (4, .row 34 0 l17.length), (5, .ptr 5 0)], [(34, some (3, .ints l17)), (1100, some (71, .pairs l18)), (14, some (3, .ints l19))], [(3, some [.int (0 : Int), .nil, .nil]), (5, some [.int c20, .row 1100 0 l18.length, .row 14 0 l19.length])]⟩ : PS)
    refine vSeq ?_
    refine vRegionN 3 [] [0, 0, 1, 7] (by kernel_rfl) (by kernel_rfl) (by kernel_rfl) (by kernel_rfl) (by kernel_rfl) rfl (by rfl) ?_
    iterate 3 refine nVal tt rfl (wNone rfl) rfl rfl rfl rfl rfl trivial ?_
    refine nNil ?_
    change VO _ _ _ _ _
    refine oStore tt rfl rfl rfl rfl rfl rfl rfl rfl rfl rfl rfl ⟨trivial, trivial, trivial, trivial⟩ ?_
    refine vNil ?_
    change VC _ _ _ _
    refine vRet ?_
    change ∃ _, _
    cases h
    exact ⟨[34, 1100, 14], _, rfl, ⟨rfl, rfl, rfl, trivial⟩, rfl, (.eq rfl), rfl⟩
  · intro k h
    refine vBlock ?_
    refine vNilT 4 34 3 (.ints []) rfl rfl rfl rfl ?_
    refine vLoopS (α := (List Int) × (List (Int × Int)) × (List Int) × Int × Int) (fun | (l28, l29, l30, i31, c32) => (⟨[(3, .ptr 3 0), (4, .row 34 0 l28.length), (5, .ptr 5 0), (6, .int i31)], [(34, some (3, .ints l28)), (1100, some (71, .pairs l29)), (14, some (3, .ints l30))], [(3, some [.int (0 : Int), .nil, .nil]), (5, some [.int c32, .row 1100 0 l29.length, .row 14 0 l30.length])]⟩ : PS)) (S_RemoveAll_l1 N k) h (En.of ⟨rfl, rfl, rfl, rfl, trivial⟩ ⟨rfl, rfl, rfl, trivial⟩ ⟨rfl, rfl, trivial⟩) (fun _ => rfl) ?_
    rintro n ⟨l28, l29, l30, i31, c32⟩ h
    rw [S_RemoveAll_l1] at h
    show VC _ _ _ (⟨[(3, .ptr 3 0), (4, .row 34 0 l28.length), (5, .ptr 5 0), (6, .int i31)], [(34, some (3, .ints l28)), (1100, some (71, .pairs l29)), (14, some (3, .ints l30))], [(3, some [.int (0 : Int), .nil, .nil]), (5, some [.int c32, .row 1100 0 l29.length, .row 14 0 l30.length])]⟩ : PS)
    iterate 2 refine vSeq ?_
    refine vRegion ?_
    iterate 2 refine oVal tt rfl rfl rfl rfl rfl trivial ?_
    refine vNil ?_
    change VC _ _ _ _
    refine vCond rfl (fun hb4 => ?_) (fun hb4 => ?_)
    · replace h := cnd_t hb4 h
      refine vSkip ?_
      change VC _ _ _ _
      refine vSeq ?_
      refine vBlock ?_
      refine vSeq ?_
      refine vRegion ?_
      iterate 2 refine oVal tt rfl rfl rfl rfl rfl trivial ?_
      obtain ⟨v35, hc5, h⟩ := bind_inv h
      refine oCall (S_SafeToRemove_w N (⟨⟨c32, l29⟩, l30⟩ : Pin) i31 v35 hc5) rfl rfl rfl rfl rfl rfl rfl rfl ⟨⟨rfl, (.inl ⟨rfl, rfl⟩), (.inl ⟨rfl, rfl⟩), trivial⟩, rfl, trivial⟩ ?_
      refine vNil ?_
      change VC _ _ _ _
      refine vCond rfl (fun hb6 => ?_) (fun hb6 => ?_)
      · replace h := cnd_t hb6 h
        refine vSeq ?_
        refine vRegion ?_
        iterate 2 refine oVal tt rfl rfl rfl rfl rfl trivial ?_
        obtain ⟨v36, hc7, h⟩ := bind_inv h
        refine oCall (S_l27Less_w N (⟨⟨c32, l29⟩, l30⟩ : Pin) i31 v36 hc7) rfl rfl rfl rfl rfl rfl rfl rfl ⟨⟨rfl, (.inl ⟨rfl, rfl⟩), (.inl ⟨rfl, rfl⟩), trivial⟩, rfl, trivial⟩ ?_
        refine oStore tt rfl rfl rfl rfl rfl rfl rfl rfl rfl rfl rfl ⟨trivial, trivial, trivial, trivial⟩ ?_
        refine vNil ?_
        change VC _ _ _ _
        refine vRegion ?_
        iterate 2 refine oVal tt rfl rfl rfl rfl rfl trivial ?_
        refine oBuild tt rfl rfl rfl rfl rfl rfl rfl rfl rfl rfl rfl ?_
        obtain ⟨hg8, h⟩ := grd_inv h
        refine oAppend tt rfl rfl rfl rfl rfl rfl rfl rfl rfl rfl rfl rfl rfl rfl rfl rfl (Nat.le_of_eq (Nat.zero_add _)) hg8 ?_
        refine oVal tt rfl rfl rfl rfl rfl trivial ?_
        refine vNil ?_
        change VC _ _ _ _
        refine vRegion ?_
        refine oVal tt rfl rfl rfl rfl rfl trivial ?_
        obtain ⟨hg9, h⟩ := grd_inv h
        refine oVal tt rfl rfl rfl rfl rfl hg9 ?_
        refine oVal tt rfl rfl rfl rfl rfl trivial ?_
        refine vNil ?_
        change ∃ _, _
        exact ⟨((l28 ++ ([i31] : List Int)), v36.g.bars, v36.ground, (i31 - (1 : Int)), v36.g.n), (En.ren [1100, 14] [1300, 1301] rfl ⟨.inr rfl, .inr rfl, .inr rfl, .inr rfl, trivial⟩ ⟨.inr rfl, .inr rfl, .inr rfl, trivial⟩ ⟨.inr ⟨_, _, rfl, rfl, ⟨.inr rfl, .inr rfl, .inr rfl, trivial⟩⟩, .inr ⟨_, _, rfl, rfl, ⟨.inr rfl, .inr rfl, .inr rfl, trivial⟩⟩, trivial⟩), h⟩
      · replace h := cnd_f hb6 h
        refine vSkip ?_
        change VC _ _ _ _
        refine vRegion ?_
        refine oVal tt rfl rfl rfl rfl rfl trivial ?_
        obtain ⟨hg10, h⟩ := grd_inv h
        refine oVal tt rfl rfl rfl rfl rfl hg10 ?_
        refine oVal tt rfl rfl rfl rfl rfl trivial ?_
        refine vNil ?_
        change ∃ _, _
        exact ⟨(l28, l29, l30, (i31 - (1 : Int)), c32), (En.of ⟨rfl, rfl, rfl, rfl, trivial⟩ ⟨rfl, rfl, rfl, trivial⟩ ⟨rfl, rfl, trivial⟩), h⟩
    · replace h := cnd_f hb4 h
      refine vExit ?_
      change ∃ _, _
      exact ⟨(l28, l29, l30, c32), (En.of ⟨rfl, rfl, rfl, trivial⟩ ⟨rfl, rfl, rfl, trivial⟩ ⟨rfl, rfl, trivial⟩), h⟩
def S_LeastKept_l1 (N : Nat) (p_0 : Pin) (v1 : (List Int) × Pin) (k : (List Int) → Option (List Int)) : Nat → ((List Int) × Int) → Option (List Int)
  | 0, _ => none
  | n + 1, (l18, i19) =>
    cnd (decide (i19 < (p_0.g.bars.length : Int))) (
      (S_IsPinned N p_0).bind fun v22 =>
      cnd v22 (
        (S_l2Has N v1.1 i19).bind fun v23 =>
        cnd (!v23) (
          grd (l18.length + 1 ≤ 4294967296) <|
          grd (Rg64 (i19 + (1 : Int))) <|
          S_LeastKept_l1 N p_0 v1 k n ((l18 ++ ([i19] : List Int)), (i19 + (1 : Int)))) (
          grd (Rg64 (i19 + (1 : Int))) <|
          S_LeastKept_l1 N p_0 v1 k n (l18, (i19 + (1 : Int))))) (
        k l18)) (
      k l18)
def S_LeastKept (N : Nat) (p_0 : Pin) : Option (List Int) :=
  (S_RemoveAll N p_0).bind fun v1 =>
  S_LeastKept_l1 N p_0 v1 (fun (l12 : List Int) =>
        some l12) N (([] : List Int), (0 : Int))
set_option maxRecDepth 20000 in
set_option maxHeartbeats 1600000 in
theorem S_LeastKept_w (N : Nat) (p_0 : Pin) (r : List Int) (h : S_LeastKept N p_0 = some r) : PCall Try.prog 38 [pD p_0] [(3, .ints r)] (.row 0 0 r.length) := by
  unfold S_LeastKept at h
  refine pcall_intro (TT := TT) tt Try.func38 rfl rfl Try.ntmps38 (congrArg Array.toList Try.results38) rfl rfl fun w0 => ?_
  refine vSeq ?_
  refine vRegion ?_
  refine oBox rfl rfl rfl rfl rfl rfl rfl rfl rfl ?_
  refine oVal tt rfl rfl rfl rfl rfl trivial ?_
  refine vNil ?_
  change VC _ _ _ _
  refine vSeq ?_
  refine vRegion ?_
  refine oEmpty tt (wNone rfl) rfl rfl rfl rfl ?_
  refine oVal tt rfl rfl rfl rfl rfl trivial ?_
  refine vNil ?_
  change VC _ _ _ _
  refine vSeq ?_
  refine vRegion ?_
  refine oVal tt rfl rfl rfl rfl rfl trivial ?_
  obtain ⟨v1, hc1, h⟩ := bind_inv h
  refine oCall (S_RemoveAll_w N p_0 v1 hc1) rfl rfl rfl rfl rfl rfl rfl rfl ⟨⟨rfl, rfl, rfl, trivial⟩, trivial⟩ ?_
  iterate 3 refine oVal tt rfl rfl rfl rfl rfl trivial ?_
  refine oAlloc tt rfl rfl rfl rfl rfl rfl rfl rfl rfl ?_
  refine oVal tt rfl rfl rfl rfl rfl trivial ?_
  refine oStore tt rfl rfl rfl rfl rfl rfl rfl rfl rfl rfl rfl ⟨trivial, trivial, trivial, trivial⟩ ?_
  refine vNil ?_
  change VC _ _ _ _
  iterate 2 refine vSeq ?_
  refine vRegion ?_
  refine oVal tt rfl rfl rfl rfl rfl trivial ?_
  refine vNil ?_
  change VC _ _ _ _
  refine vJoin (F := fun k => S_LeastKept_l1 N p_0 v1 k) h (α := List Int) (J := fun (l12 : List Int) => (⟨[(3, .row 32 0 l12.length)], [(32, some (3, .ints l12))], []⟩ : PS)) ?_ ?_
  · rintro l12 h
    show VC _ _ _ (⟨[(3, .row 32 0 l12.length)], [(32, some (3, .ints l12))], []⟩ : PS)
    refine vSeq ?_
    refine vRegion ?_
    iterate 2 refine oVal tt rfl rfl rfl rfl rfl trivial ?_
    refine vNil ?_
    change VC _ _ _ _
    refine vRet ?_
    change ∃ _, _
    cases h
    exact ⟨[32], _, rfl, ⟨rfl, trivial⟩, rfl, (.eq rfl), rfl⟩
  · intro k h
    refine vBlock ?_
    refine vNilT 3 32 3 (.ints []) rfl rfl rfl rfl ?_
    refine vLoopS (α := (List Int) × Int) (fun | (l18, i19) => (⟨[(1, .ptr 1 0), (3, .row 32 0 l18.length), (4, .row 1100 0 v1.1.length), (6, .int i19)], [(32, some (3, .ints l18)), (1100, some (3, .ints v1.1))], [(1, some [.int p_0.g.n, .ro false (.pairs p_0.g.bars), .ro false (.ints p_0.ground)])]⟩ : PS)) (S_LeastKept_l1 N p_0 v1 k) h (En.of ⟨rfl, rfl, rfl, rfl, trivial⟩ ⟨rfl, rfl, trivial⟩ ⟨rfl, trivial⟩) (fun _ => rfl) ?_
    rintro n ⟨l18, i19⟩ h
    rw [S_LeastKept_l1] at h
    show VC _ _ _ (⟨[(1, .ptr 1 0), (3, .row 32 0 l18.length), (4, .row 1100 0 v1.1.length), (6, .int i19)], [(32, some (3, .ints l18)), (1100, some (3, .ints v1.1))], [(1, some [.int p_0.g.n, .ro false (.pairs p_0.g.bars), .ro false (.ints p_0.ground)])]⟩ : PS)
    iterate 2 refine vSeq ?_
    refine vRegion ?_
    iterate 7 refine oVal tt rfl rfl rfl rfl rfl trivial ?_
    refine oSplit rfl rfl rfl (fun hb2 => ?_) (fun hb2 => ?_)
    · replace h := cnd_t hb2 h
      refine oValG tt rfl rfl rfl rfl rfl hb2 rfl rfl rfl trivial ?_
      obtain ⟨v22, hc3, h⟩ := bind_inv h
      refine oCallG (S_IsPinned_w N p_0 v22 hc3) rfl rfl rfl rfl hb2 rfl rfl rfl rfl rfl rfl rfl ⟨⟨rfl, rfl, rfl, trivial⟩, trivial⟩ ?_
      refine oPick rfl rfl rfl rfl rfl hb2 rfl ?_
      refine vNil ?_
      change VC _ _ _ _
      refine vCond rfl (fun hb4 => ?_) (fun hb4 => ?_)
      · replace h := cnd_t hb4 h
        refine vSkip ?_
        change VC _ _ _ _
        refine vSeq ?_
        refine vBlock ?_
        refine vSeq ?_
        refine vRegion ?_
        iterate 2 refine oVal tt rfl rfl rfl rfl rfl trivial ?_
        obtain ⟨v23, hc5, h⟩ := bind_inv h
        refine oCall (S_l2Has_w N v1.1 i19 v23 hc5) rfl rfl rfl rfl rfl rfl rfl rfl ⟨(.inl ⟨rfl, rfl⟩), rfl, trivial⟩ ?_
        refine oVal tt rfl rfl rfl rfl rfl trivial ?_
        refine vNil ?_
        change VC _ _ _ _
        refine vCond rfl (fun hb6 => ?_) (fun hb6 => ?_)
        · replace h := cnd_t hb6 h
          refine vRegion ?_
          iterate 2 refine oVal tt rfl rfl rfl rfl rfl trivial ?_
          refine oBuild tt rfl rfl rfl rfl rfl rfl rfl rfl rfl rfl rfl ?_
          obtain ⟨hg7, h⟩ := grd_inv h
          refine oAppend tt rfl rfl rfl rfl rfl rfl rfl rfl rfl rfl rfl rfl rfl rfl rfl rfl (Nat.le_of_eq (Nat.zero_add _)) hg7 ?_
          refine oVal tt rfl rfl rfl rfl rfl trivial ?_
          refine vNil ?_
          change VC _ _ _ _
          refine vRegion ?_
          refine oVal tt rfl rfl rfl rfl rfl trivial ?_
          obtain ⟨hg8, h⟩ := grd_inv h
          refine oVal tt rfl rfl rfl rfl rfl hg8 ?_
          refine oVal tt rfl rfl rfl rfl rfl trivial ?_
          refine vNil ?_
          change ∃ _, _
          exact ⟨((l18 ++ ([i19] : List Int)), (i19 + (1 : Int))), (En.of ⟨rfl, rfl, rfl, rfl, trivial⟩ ⟨rfl, rfl, trivial⟩ ⟨rfl, trivial⟩), h⟩
        · replace h := cnd_f hb6 h
          refine vSkip ?_
          change VC _ _ _ _
          refine vRegion ?_
          refine oVal tt rfl rfl rfl rfl rfl trivial ?_
          obtain ⟨hg9, h⟩ := grd_inv h
          refine oVal tt rfl rfl rfl rfl rfl hg9 ?_
          refine oVal tt rfl rfl rfl rfl rfl trivial ?_
          refine vNil ?_
          change ∃ _, _
          exact ⟨(l18, (i19 + (1 : Int))), (En.of ⟨rfl, rfl, rfl, rfl, trivial⟩ ⟨rfl, rfl, trivial⟩ ⟨rfl, trivial⟩), h⟩
      · replace h := cnd_f hb4 h
        refine vExit ?_
        change ∃ _, _
        exact ⟨l18, (En.of ⟨rfl, trivial⟩ ⟨rfl, trivial⟩ trivial), h⟩
    · replace h := cnd_f hb2 h
      iterate 2 refine oNoT rfl rfl rfl rfl hb2 rfl rfl ?_
      refine oPickF rfl rfl rfl rfl rfl hb2 rfl ?_
      refine vNil ?_
      change VC _ _ _ _
      refine vCondF rfl rfl ?_
      refine vExit ?_
      change ∃ _, _
      exact ⟨l18, (En.of ⟨rfl, trivial⟩ ⟨rfl, trivial⟩ trivial), h⟩
end Go.Proofs.Ytkpmijmlbpdknaa

namespace Go.Proofs.Ytkpmijmlbpdknaa
open Go.RowKit
set_option linter.unusedVariables false
set_option linter.unusedSimpArgs false
def G_Delete_Bar (N : Nat) (s_0 : List (Int × Int)) (i_1 : Int) (j_2 : Int) : Option (List (Int × Int)) :=
  grd (0 ≤ i_1 ∧ i_1 ≤ j_2 ∧ j_2 ≤ (s_0.length : Int) ∧ (s_0.length : Int) ≤ (s_0.length : Int)) <|
  cnd (i_1 == j_2) (
    some s_0) (
    grd (0 ≤ i_1 ∧ i_1 ≤ (s_0.length : Int)) <|
    grd (0 ≤ j_2 ∧ j_2 ≤ (s_0.length : Int)) <|
    grd ((0 + ((j_2).toNat)) + (s_0.length - ((j_2).toNat)) ≤ s_0.length) <|
    grd (((i_1).toNat) + ((s_0.take ((0 + ((j_2).toNat)) + (s_0.length - ((j_2).toNat)))).drop (0 + ((j_2).toNat))).length ≤ s_0.length) <|
    grd (0 ≤ ((((i_1).toNat) + ((s_0.take ((0 + ((j_2).toNat)) + (s_0.length - ((j_2).toNat)))).drop (0 + ((j_2).toNat))).length) : Int) ∧ ((((i_1).toNat) + ((s_0.take ((0 + ((j_2).toNat)) + (s_0.length - ((j_2).toNat)))).drop (0 + ((j_2).toNat))).length) : Int) ≤ (s_0.length : Int) ∧ (s_0.length : Int) ≤ (((s_0.take ((i_1).toNat) ++ ((s_0.take ((0 + ((j_2).toNat)) + (s_0.length - ((j_2).toNat)))).drop (0 + ((j_2).toNat)))) ++ s_0.drop (((i_1).toNat) + ((s_0.take ((0 + ((j_2).toNat)) + (s_0.length - ((j_2).toNat)))).drop (0 + ((j_2).toNat))).length)).length : Int)) <|
    grd (((((((i_1).toNat) + ((s_0.take ((0 + ((j_2).toNat)) + (s_0.length - ((j_2).toNat)))).drop (0 + ((j_2).toNat))).length) : Int)).toNat) + ((((s_0.length : Int)).toNat) - ((((((i_1).toNat) + ((s_0.take ((0 + ((j_2).toNat)) + (s_0.length - ((j_2).toNat)))).drop (0 + ((j_2).toNat))).length) : Int)).toNat)) ≤ ((s_0.take ((i_1).toNat) ++ ((s_0.take ((0 + ((j_2).toNat)) + (s_0.length - ((j_2).toNat)))).drop (0 + ((j_2).toNat)))) ++ s_0.drop (((i_1).toNat) + ((s_0.take ((0 + ((j_2).toNat)) + (s_0.length - ((j_2).toNat)))).drop (0 + ((j_2).toNat))).length)).length) <|
    grd ((((i_1).toNat) + ((s_0.take ((0 + ((j_2).toNat)) + (s_0.length - ((j_2).toNat)))).drop (0 + ((j_2).toNat))).length) = (((((s_0.take ((i_1).toNat) ++ ((s_0.take ((0 + ((j_2).toNat)) + (s_0.length - ((j_2).toNat)))).drop (0 + ((j_2).toNat)))) ++ s_0.drop (((i_1).toNat) + ((s_0.take ((0 + ((j_2).toNat)) + (s_0.length - ((j_2).toNat)))).drop (0 + ((j_2).toNat))).length)).take ((((((i_1).toNat) + ((s_0.take ((0 + ((j_2).toNat)) + (s_0.length - ((j_2).toNat)))).drop (0 + ((j_2).toNat))).length) : Int)).toNat) ++ (List.replicate ((((s_0.length : Int)).toNat) - ((((((i_1).toNat) + ((s_0.take ((0 + ((j_2).toNat)) + (s_0.length - ((j_2).toNat)))).drop (0 + ((j_2).toNat))).length) : Int)).toNat)) ((0, 0) : Int × Int))) ++ ((s_0.take ((i_1).toNat) ++ ((s_0.take ((0 + ((j_2).toNat)) + (s_0.length - ((j_2).toNat)))).drop (0 + ((j_2).toNat)))) ++ s_0.drop (((i_1).toNat) + ((s_0.take ((0 + ((j_2).toNat)) + (s_0.length - ((j_2).toNat)))).drop (0 + ((j_2).toNat))).length)).drop (((((((i_1).toNat) + ((s_0.take ((0 + ((j_2).toNat)) + (s_0.length - ((j_2).toNat)))).drop (0 + ((j_2).toNat))).length) : Int)).toNat) + ((((s_0.length : Int)).toNat) - ((((((i_1).toNat) + ((s_0.take ((0 + ((j_2).toNat)) + (s_0.length - ((j_2).toNat)))).drop (0 + ((j_2).toNat))).length) : Int)).toNat)))).take (((i_1).toNat) + ((s_0.take ((0 + ((j_2).toNat)) + (s_0.length - ((j_2).toNat)))).drop (0 + ((j_2).toNat))).length)).length) <|
    some (((((s_0.take ((i_1).toNat) ++ ((s_0.take ((0 + ((j_2).toNat)) + (s_0.length - ((j_2).toNat)))).drop (0 + ((j_2).toNat)))) ++ s_0.drop (((i_1).toNat) + ((s_0.take ((0 + ((j_2).toNat)) + (s_0.length - ((j_2).toNat)))).drop (0 + ((j_2).toNat))).length)).take ((((((i_1).toNat) + ((s_0.take ((0 + ((j_2).toNat)) + (s_0.length - ((j_2).toNat)))).drop (0 + ((j_2).toNat))).length) : Int)).toNat) ++ (List.replicate ((((s_0.length : Int)).toNat) - ((((((i_1).toNat) + ((s_0.take ((0 + ((j_2).toNat)) + (s_0.length - ((j_2).toNat)))).drop (0 + ((j_2).toNat))).length) : Int)).toNat)) ((0, 0) : Int × Int))) ++ ((s_0.take ((i_1).toNat) ++ ((s_0.take ((0 + ((j_2).toNat)) + (s_0.length - ((j_2).toNat)))).drop (0 + ((j_2).toNat)))) ++ s_0.drop (((i_1).toNat) + ((s_0.take ((0 + ((j_2).toNat)) + (s_0.length - ((j_2).toNat)))).drop (0 + ((j_2).toNat))).length)).drop (((((((i_1).toNat) + ((s_0.take ((0 + ((j_2).toNat)) + (s_0.length - ((j_2).toNat)))).drop (0 + ((j_2).toNat))).length) : Int)).toNat) + ((((s_0.length : Int)).toNat) - ((((((i_1).toNat) + ((s_0.take ((0 + ((j_2).toNat)) + (s_0.length - ((j_2).toNat)))).drop (0 + ((j_2).toNat))).length) : Int)).toNat)))).take (((i_1).toNat) + ((s_0.take ((0 + ((j_2).toNat)) + (s_0.length - ((j_2).toNat)))).drop (0 + ((j_2).toNat))).length)))
set_option maxRecDepth 20000 in
set_option maxHeartbeats 1600000 in
theorem G_Delete_Bar_w (N : Nat) (s_0 : List (Int × Int)) (i_1 : Int) (j_2 : Int) (r : List (Int × Int)) (h : G_Delete_Bar N s_0 i_1 j_2 = some r) : MCall Try.prog 101 [.row 1000000 0 s_0.length, .int i_1, .int j_2] [1000000] [] [(71, .pairs s_0)] [(71, .pairs r)] [] [] (.row 1000000 0 r.length) := by
  unfold G_Delete_Bar at h
  refine mcall_intro (TT := TT) tt Try.func101 rfl rfl Try.ntmps101 (congrArg Array.toList Try.results101) rfl rfl rfl rfl rfl fun w0 O0 => ?_
  refine vSeq ?_
  refine vRegion ?_
  refine oVal tt rfl rfl rfl rfl rfl trivial ?_
  refine vNil ?_
  change VC _ _ _ _
  refine vSeq ?_
  refine vRegion ?_
  iterate 5 refine oVal tt rfl rfl rfl rfl rfl trivial ?_
  obtain ⟨hg1, h⟩ := grd_inv h
  refine oSlice3 tt rfl rfl rfl rfl rfl rfl rfl rfl rfl rfl hg1 ?_
  refine vNil ?_
  change VC _ _ _ _
  iterate 2 refine vSeq ?_
  refine vRegion ?_
  iterate 3 refine oVal tt rfl rfl rfl rfl rfl trivial ?_
  refine vNil ?_
  change VC _ _ _ _
  refine vCond rfl (fun hb2 => ?_) (fun hb2 => ?_)
  · replace h := cnd_t hb2 h
    refine vSeq ?_
    refine vRegion ?_
    iterate 2 refine oVal tt rfl rfl rfl rfl rfl trivial ?_
    refine vNil ?_
    change VC _ _ _ _
    refine vRet ?_
    change ∃ _, _
    cases h
    exact ⟨[1000000], rfl, ⟨rfl, trivial⟩, trivial, rfl⟩
  · replace h := cnd_f hb2 h
    refine vSkip ?_
    change VC _ _ _ _
    refine vSeq ?_
    refine vRegion ?_
    iterate 3 refine oVal tt rfl rfl rfl rfl rfl trivial ?_
    refine vNil ?_
    change VC _ _ _ _
    refine vSeq ?_
    refine vRegionN 6 [] [0, 0, 3, 0, 0, 24, 63, 127] (by kernel_rfl) (by kernel_rfl) (by kernel_rfl) (by kernel_rfl) (by kernel_rfl) rfl (by rfl) ?_
    iterate 2 refine nVal tt rfl (wNone rfl) rfl rfl rfl rfl rfl trivial ?_
    obtain ⟨hg3, h⟩ := grd_inv h
    refine nVal tt rfl (wNone rfl) rfl rfl rfl rfl rfl hg3 ?_
    iterate 2 refine nVal tt rfl (wNone rfl) rfl rfl rfl rfl rfl trivial ?_
    obtain ⟨hg4, h⟩ := grd_inv h
    refine nVal tt rfl (wNone rfl) rfl rfl rfl rfl rfl hg4 ?_
    refine nNil ?_
    change VO _ _ _ _ _
    obtain ⟨hg5, h⟩ := grd_inv h
    obtain ⟨hg6, h⟩ := grd_inv h
    refine oAppendIn tt rfl rfl rfl rfl rfl rfl rfl rfl rfl rfl rfl rfl rfl rfl hg5 hg6 ?_
    refine oVal tt rfl rfl rfl rfl rfl trivial ?_
    refine vNil ?_
    change VC _ _ _ _
    refine vSeq ?_
    refine vRegion ?_
    iterate 4 refine oVal tt rfl rfl rfl rfl rfl trivial ?_
    obtain ⟨hg7, h⟩ := grd_inv h
    refine oSliceC tt rfl rfl rfl rfl rfl rfl rfl rfl rfl rfl hg7 ?_
    obtain ⟨hg8, h⟩ := grd_inv h
    refine oClear tt rfl rfl rfl rfl rfl rfl rfl rfl rfl hg8 ?_
    refine vNil ?_
    change VC _ _ _ _
    refine vSeq ?_
    refine vRegion ?_
    iterate 2 refine oVal tt rfl rfl rfl rfl rfl trivial ?_
    refine vNil ?_
    change VC _ _ _ _
    obtain ⟨hg9, h⟩ := grd_inv h
    refine vTruncT 6 1000000 hg9 rfl rfl rfl rfl ?_
    refine vRet ?_
    change ∃ _, _
    cases h
    exact ⟨[1000000], rfl, ⟨rfl, trivial⟩, trivial, rfl⟩
def I_withoutBar (N : Nat) (p_0 : Pin) (e_1 : Int) : Option (Pin) :=
  (I_copyPinned N p_0).bind fun v1 =>
  grd (Rg64 (e_1 + (1 : Int))) <|
  (G_Delete_Bar N v1.g.bars e_1 (e_1 + (1 : Int))).bind fun v2 =>
  some (⟨⟨v1.g.n, v2⟩, v1.ground⟩ : Pin)
set_option maxRecDepth 20000 in
set_option maxHeartbeats 1600000 in
theorem I_withoutBar_w (N : Nat) (p_0 : Pin) (e_1 : Int) (r : Pin) (h : I_withoutBar N p_0 e_1 = some r) : PCall Try.prog 66 [pD p_0, .int e_1] [(71, .pairs r.g.bars), (3, .ints r.ground)] (.agg [.int r.g.n, .row 0 0 r.g.bars.length, .row 1 0 r.ground.length]) := by
  unfold I_withoutBar at h
  refine pcall_intro (TT := TT) tt Try.func66 rfl rfl Try.ntmps66 (congrArg Array.toList Try.results66) rfl rfl fun w0 => ?_
  refine vSeq ?_
  refine vRegion ?_
  refine oBox rfl rfl rfl rfl rfl rfl rfl rfl rfl ?_
  refine oAlloc tt rfl rfl rfl rfl rfl rfl rfl rfl rfl ?_
  refine vNil ?_
  change VC _ _ _ _
  refine vSeq ?_
  refine vRegion ?_
  refine oVal tt rfl rfl rfl rfl rfl trivial ?_
  obtain ⟨v1, hc1, h⟩ := bind_inv h
  refine oCall (I_copyPinned_w N p_0 v1 hc1) rfl rfl rfl rfl rfl rfl rfl rfl ⟨⟨rfl, rfl, rfl, trivial⟩, trivial⟩ ?_
  refine oAlloc tt rfl rfl rfl rfl rfl rfl rfl rfl rfl ?_
  refine oStore tt rfl rfl rfl rfl rfl rfl rfl rfl rfl rfl rfl ⟨trivial, trivial, trivial, trivial⟩ ?_
  refine vNil ?_
  change VC _ _ _ _
  refine vSeq ?_
  refine vRegion ?_
  iterate 5 refine oVal tt rfl rfl rfl rfl rfl trivial ?_
  obtain ⟨hg2, h⟩ := grd_inv h
  refine oVal tt rfl rfl rfl rfl rfl hg2 ?_
  obtain ⟨v2, hc3, h⟩ := bind_inv h
  refine oMCall (G_Delete_Bar_w N v1.g.bars e_1 (e_1 + (1 : Int)) v2 hc3) [1070] [] [1070] rfl rfl rfl rfl rfl rfl ⟨rfl, trivial⟩ trivial ⟨⟨rfl, rfl⟩, ⟨rfl, rfl⟩, ⟨rfl, rfl⟩, trivial⟩ ?_
  iterate 2 refine oVal tt rfl rfl rfl rfl rfl trivial ?_
  refine oStore tt rfl rfl rfl rfl rfl rfl rfl rfl rfl rfl rfl ⟨trivial, trivial⟩ ?_
  refine vNil ?_
  change VC _ _ _ _
  refine vSeq ?_
  refine vRegion ?_
  refine oVal tt rfl rfl rfl rfl rfl trivial ?_
  refine oStore tt rfl rfl rfl rfl rfl rfl rfl rfl rfl rfl rfl ⟨trivial, trivial, trivial, trivial⟩ ?_
  refine vNil ?_
  change VC _ _ _ _
  refine vRet ?_
  change ∃ _, _
  cases h
  exact ⟨[1070, 1071], _, rfl, ⟨rfl, rfl, trivial⟩, rfl, (.eq rfl), rfl⟩
def I_SafeToRemove (N : Nat) (p_0 : Pin) (bar_1 : Int) : Option (Bool) :=
  (I_IsPinned N p_0).bind fun v1 =>
  cnd v1 (
    grd (Rg64 ((p_0.g.bars.length : Int) - (1 : Int))) <|
    (I_within N bar_1 (0 : Int) ((p_0.g.bars.length : Int) - (1 : Int))).bind fun v2 =>
    cnd v2 (
      (I_withoutBar N p_0 bar_1).bind fun v3 =>
      (I_PinnedRank N v3).bind fun v4 =>
      (I_PinnedRank N p_0).bind fun v5 =>
      some (v4 == v5)) (
      some false)) (
    some false)
set_option maxRecDepth 20000 in
set_option maxHeartbeats 1600000 in
theorem I_SafeToRemove_w (N : Nat) (p_0 : Pin) (bar_1 : Int) (r : Bool) (h : I_SafeToRemove N p_0 bar_1 = some r) : PCall Try.prog 23 [pD p_0, .int bar_1] [] (.bool r) := by
  unfold I_SafeToRemove at h
  refine pcall_intro (TT := TT) tt Try.func23 rfl rfl Try.ntmps23 (congrArg Array.toList Try.results23) rfl rfl fun w0 => ?_
  refine vSeq ?_
  refine vRegion ?_
  refine oBox rfl rfl rfl rfl rfl rfl rfl rfl rfl ?_
  refine oVal tt rfl rfl rfl rfl rfl trivial ?_
  refine vNil ?_
  change VC _ _ _ _
  refine vSeq ?_
  refine vRegionN 17 [14] [0, 1, 3, 7, 7, 23, 55, 119, 247, 511, 1023, 2047, 4095, 4095, 16383, 32767, 4095, 131071, 262143, 524287, 1048575] (by kernel_rfl) (by kernel_rfl) (by kernel_rfl) (by kernel_rfl) (by kernel_rfl) rfl (by rfl) ?_
  refine nVal tt rfl (wNone rfl) rfl rfl rfl rfl rfl trivial ?_
  obtain ⟨v1, hc1, h⟩ := bind_inv h
  refine nCall (I_IsPinned_w N p_0 v1 hc1) rfl (wNone rfl) rfl rfl rfl rfl rfl rfl rfl rfl ⟨⟨rfl, rfl, rfl, trivial⟩, trivial⟩ ?_
  refine nVal tt rfl (wNone rfl) rfl rfl rfl rfl rfl trivial ?_
  refine nSplit rfl rfl rfl (fun hb2 => ?_) (fun hb2 => ?_)
  · replace h := cnd_t hb2 h
    iterate 5 refine nVal tt rfl (wSome rfl rfl rfl rfl hb2) rfl rfl rfl rfl rfl trivial ?_
    obtain ⟨hg3, h⟩ := grd_inv h
    refine nVal tt rfl (wSome rfl rfl rfl rfl hb2) rfl rfl rfl rfl rfl hg3 ?_
    obtain ⟨v2, hc4, h⟩ := bind_inv h
    refine nCall (I_within_w N bar_1 (0 : Int) ((p_0.g.bars.length : Int) - (1 : Int)) v2 hc4) rfl (wSome rfl rfl rfl rfl hb2) rfl rfl rfl rfl rfl rfl rfl rfl ⟨rfl, rfl, rfl, trivial⟩ ?_
    refine nPickT rfl (wNone rfl) rfl rfl rfl hb2 rfl rfl ?_
    refine nVal tt rfl (wNone rfl) rfl rfl rfl rfl rfl trivial ?_
    refine nSplit rfl rfl rfl (fun hb5 => ?_) (fun hb5 => ?_)
    · replace h := cnd_t hb5 h
      iterate 2 refine nVal tt rfl (wSome rfl rfl rfl rfl hb5) rfl rfl rfl rfl rfl trivial ?_
      obtain ⟨v3, hc6, h⟩ := bind_inv h
      refine nCallR (I_withoutBar_w N p_0 bar_1 v3 hc6) rfl (wSome rfl rfl rfl rfl hb5) rfl rfl rfl rfl rfl rfl (by first | rfl | kernel_rfl | (simp [nrL, nm, gdst, nmT, rowB]; done)) rfl (by first | rfl | kernel_rfl | (simp [chkE, nrL, nm, gdst, nmT, rowB, hid, ment, mentA, mentS]; done) | (simp [chkE, nrL, nm, gdst, nmT, rowB, hid, ment, mentA, mentS]; decide)) ⟨⟨rfl, rfl, rfl, trivial⟩, rfl, trivial⟩ ?_
      obtain ⟨v4, hc7, h⟩ := bind_inv h
      refine nCall (I_PinnedRank_w N v3 v4 hc7) rfl (wSome rfl rfl rfl rfl hb5) rfl rfl rfl rfl rfl rfl rfl rfl ⟨⟨rfl, (.inl ⟨rfl, rfl⟩), (.inl ⟨rfl, rfl⟩), trivial⟩, trivial⟩ ?_
      refine nVal tt rfl (wSome rfl rfl rfl rfl hb5) rfl rfl rfl rfl rfl trivial ?_
      refine nNil ?_
      change VO _ _ _ _ _
      obtain ⟨v5, hc8, h⟩ := bind_inv h
      refine oCallG (I_PinnedRank_w N p_0 v5 hc8) rfl rfl rfl rfl hb5 rfl rfl rfl rfl rfl rfl rfl ⟨⟨rfl, rfl, rfl, trivial⟩, trivial⟩ ?_
      refine oValG tt rfl rfl rfl rfl rfl hb5 rfl rfl rfl trivial ?_
      refine oPick rfl rfl rfl rfl rfl hb5 rfl ?_
      refine oVal tt rfl rfl rfl rfl rfl trivial ?_
      refine vNil ?_
      change VC _ _ _ _
      refine vRet ?_
      change ∃ _, _
      cases h
      exact ⟨[], _, rfl, trivial, rfl, (.eq rfl), rfl⟩
    · replace h := cnd_f hb5 h
      iterate 5 refine nNoT rfl rfl rfl rfl hb5 rfl rfl ?_
      refine nNil ?_
      change VO _ _ _ _ _
      iterate 2 refine oNoT rfl rfl rfl rfl hb5 rfl rfl ?_
      refine oPickF rfl rfl rfl rfl rfl hb5 rfl ?_
      refine oVal tt rfl rfl rfl rfl rfl trivial ?_
      refine vNil ?_
      change VC _ _ _ _
      refine vRet ?_
      change ∃ _, _
      cases h
      exact ⟨[], _, rfl, trivial, rfl, (.eq rfl), rfl⟩
  · replace h := cnd_f hb2 h
    iterate 7 refine nNoT rfl rfl rfl rfl hb2 rfl rfl ?_
    refine nPickF rfl (wNone rfl) rfl rfl rfl hb2 rfl rfl ?_
    refine nVal tt rfl (wNone rfl) rfl rfl rfl rfl rfl trivial ?_
    iterate 5 refine nNoT rfl rfl rfl rfl rfl rfl rfl ?_
    refine nNil ?_
    change VO _ _ _ _ _
    iterate 2 refine oNoT rfl rfl rfl rfl rfl rfl rfl ?_
    refine oPickF rfl rfl rfl rfl rfl rfl rfl ?_
    refine oVal tt rfl rfl rfl rfl rfl trivial ?_
    refine vNil ?_
    change VC _ _ _ _
    refine vRet ?_
    change ∃ _, _
    cases h
    exact ⟨[], _, rfl, trivial, rfl, (.eq rfl), rfl⟩
end Go.Proofs.Ytkpmijmlbpdknaa

namespace Go.Proofs.Ytkpmijmlbpdknaa
open Go.RowKit
set_option linter.unusedVariables false
set_option linter.unusedSimpArgs false
def I_SafeBars_l1 (N : Nat) (p_0 : Pin) (k : (List Int) → Option (List Int)) : Nat → ((List Int) × Int) → Option (List Int)
  | 0, _ => none
  | n + 1, (l11, x12) =>
    cnd (decide (x12 < (p_0.g.bars.length : Int))) (
      (I_SafeToRemove N p_0 x12).bind fun v14 =>
      cnd v14 (
        grd (l11.length + 1 ≤ 4294967296) <|
        grd (Rg64 (x12 + (1 : Int))) <|
        I_SafeBars_l1 N p_0 k n ((l11 ++ ([x12] : List Int)), (x12 + (1 : Int)))) (
        grd (Rg64 (x12 + (1 : Int))) <|
        I_SafeBars_l1 N p_0 k n (l11, (x12 + (1 : Int))))) (
      k l11)
def I_SafeBars (N : Nat) (p_0 : Pin) : Option (List Int) :=
  I_SafeBars_l1 N p_0 (fun (l7 : List Int) =>
        some l7) N (([] : List Int), (0 : Int))
set_option maxRecDepth 20000 in
set_option maxHeartbeats 1600000 in
theorem I_SafeBars_w (N : Nat) (p_0 : Pin) (r : List Int) (h : I_SafeBars N p_0 = some r) : PCall Try.prog 31 [pD p_0] [(3, .ints r)] (.row 0 0 r.length) := by
  unfold I_SafeBars at h
  refine pcall_intro (TT := TT) tt Try.func31 rfl rfl Try.ntmps31 (congrArg Array.toList Try.results31) rfl rfl fun w0 => ?_
  refine vSeq ?_
  refine vRegion ?_
  refine oBox rfl rfl rfl rfl rfl rfl rfl rfl rfl ?_
  refine oVal tt rfl rfl rfl rfl rfl trivial ?_
  refine vNil ?_
  change VC _ _ _ _
  refine vSeq ?_
  refine vRegion ?_
  refine oEmpty tt (wNone rfl) rfl rfl rfl rfl ?_
  refine oVal tt rfl rfl rfl rfl rfl trivial ?_
  refine vNil ?_
  change VC _ _ _ _
  iterate 2 refine vSeq ?_
  refine vRegion ?_
  iterate 5 refine oVal tt rfl rfl rfl rfl rfl trivial ?_
  refine vNil ?_
  change VC _ _ _ _
  refine vJoin (F := fun k => I_SafeBars_l1 N p_0 k) h (α := List Int) (J := fun (l7 : List Int) => (⟨[(3, .row 19 0 l7.length)], [(19, some (3, .ints l7))], []⟩ : PS)) ?_ ?_
  · rintro l7 h
    show VC _ _ _ (⟨[(3, .row 19 0 l7.length)], [(19, some (3, .ints l7))], []⟩ : PS)
    refine vSeq ?_
    refine vRegion ?_
    iterate 2 refine oVal tt rfl rfl rfl rfl rfl trivial ?_
    refine vNil ?_
    change VC _ _ _ _
    refine vRet ?_
    change ∃ _, _
    cases h
    exact ⟨[19], _, rfl, ⟨rfl, trivial⟩, rfl, (.eq rfl), rfl⟩
  · intro k h
    refine vBlock ?_
    refine vNilT 3 19 3 (.ints []) rfl rfl rfl rfl ?_
    refine vLoopS (α := (List Int) × Int) (fun | (l11, x12) => (⟨[(1, .ptr 1 0), (3, .row 19 0 l11.length), (9, .int (p_0.g.bars.length : Int)), (10, .int x12)], [(19, some (3, .ints l11))], [(1, some [.int p_0.g.n, .ro false (.pairs p_0.g.bars), .ro false (.ints p_0.ground)])]⟩ : PS)) (I_SafeBars_l1 N p_0 k) h (En.of ⟨rfl, rfl, rfl, rfl, trivial⟩ ⟨rfl, trivial⟩ ⟨rfl, trivial⟩) (fun _ => rfl) ?_
    rintro n ⟨l11, x12⟩ h
    rw [I_SafeBars_l1] at h
    show VC _ _ _ (⟨[(1, .ptr 1 0), (3, .row 19 0 l11.length), (9, .int (p_0.g.bars.length : Int)), (10, .int x12)], [(19, some (3, .ints l11))], [(1, some [.int p_0.g.n, .ro false (.pairs p_0.g.bars), .ro false (.ints p_0.ground)])]⟩ : PS)
    refine vSeq ?_
    refine vRegion ?_
    refine oVal tt rfl rfl rfl rfl rfl trivial ?_
    refine vNil ?_
    change VC _ _ _ _
    refine vSeq ?_
    refine vCond rfl (fun hb1 => ?_) (fun hb1 => ?_)
    · replace h := cnd_t hb1 h
      refine vSkip ?_
      change VC _ _ _ _
      refine vSeq ?_
      refine vBlock ?_
      refine vSeq ?_
      refine vRegion ?_
      iterate 2 refine oVal tt rfl rfl rfl rfl rfl trivial ?_
      refine vNil ?_
      change VC _ _ _ _
      refine vSeq ?_
      refine vRegion ?_
      iterate 2 refine oVal tt rfl rfl rfl rfl rfl trivial ?_
      obtain ⟨v14, hc2, h⟩ := bind_inv h
      refine oCall (I_SafeToRemove_w N p_0 x12 v14 hc2) rfl rfl rfl rfl rfl rfl rfl rfl ⟨⟨rfl, rfl, rfl, trivial⟩, rfl, trivial⟩ ?_
      refine vNil ?_
      change VC _ _ _ _
      refine vCond rfl (fun hb3 => ?_) (fun hb3 => ?_)
      · replace h := cnd_t hb3 h
        refine vRegion ?_
        iterate 2 refine oVal tt rfl rfl rfl rfl rfl trivial ?_
        refine oBuild tt rfl rfl rfl rfl rfl rfl rfl rfl rfl rfl rfl ?_
        obtain ⟨hg4, h⟩ := grd_inv h
        refine oAppend tt rfl rfl rfl rfl rfl rfl rfl rfl rfl rfl rfl rfl rfl rfl rfl rfl (Nat.le_of_eq (Nat.zero_add _)) hg4 ?_
        refine oVal tt rfl rfl rfl rfl rfl trivial ?_
        refine vNil ?_
        change VC _ _ _ _
        refine vRegion ?_
        obtain ⟨hg5, h⟩ := grd_inv h
        refine oVal tt rfl rfl rfl rfl rfl hg5 ?_
        refine oVal tt rfl rfl rfl rfl rfl trivial ?_
        refine vNil ?_
        change ∃ _, _
        exact ⟨((l11 ++ ([x12] : List Int)), (x12 + (1 : Int))), (En.of ⟨rfl, rfl, rfl, rfl, trivial⟩ ⟨rfl, trivial⟩ ⟨rfl, trivial⟩), h⟩
      · replace h := cnd_f hb3 h
        refine vSkip ?_
        change VC _ _ _ _
        refine vRegion ?_
        obtain ⟨hg6, h⟩ := grd_inv h
        refine oVal tt rfl rfl rfl rfl rfl hg6 ?_
        refine oVal tt rfl rfl rfl rfl rfl trivial ?_
        refine vNil ?_
        change ∃ _, _
        exact ⟨(l11, (x12 + (1 : Int))), (En.of ⟨rfl, rfl, rfl, rfl, trivial⟩ ⟨rfl, trivial⟩ ⟨rfl, trivial⟩), h⟩
    · replace h := cnd_f hb1 h
      refine vExit ?_
      change ∃ _, _
      exact ⟨l11, (En.of ⟨rfl, trivial⟩ ⟨rfl, trivial⟩ trivial), h⟩
end Go.Proofs.Ytkpmijmlbpdknaa

namespace Go.Proofs.Ytkpmijmlbpdknaa
open Go.RowKit
set_option linter.unusedVariables false
set_option linter.unusedSimpArgs false
def I_FallsWith_l1 (N : Nat) (v4 : List Int) (v5 : List Int) (k : (List Int) → Option (List Int)) : Nat → ((List Int) × Int) → Option (List Int)
  | 0, _ => none
  | n + 1, (l16, x17) =>
    cnd (decide (x17 < (v5.length : Int))) (
      grd (0 ≤ x17 ∧ x17 < (v5.length : Int)) <|
      (G_Contains_int N v4 (v5.getD ((x17).toNat) 0)).bind fun v19 =>
      cnd (!v19) (
        grd (l16.length + 1 ≤ 4294967296) <|
        grd (Rg64 (x17 + (1 : Int))) <|
        I_FallsWith_l1 N v4 v5 k n ((l16 ++ ([(v5.getD ((x17).toNat) 0)] : List Int)), (x17 + (1 : Int)))) (
        grd (Rg64 (x17 + (1 : Int))) <|
        I_FallsWith_l1 N v4 v5 k n (l16, (x17 + (1 : Int))))) (
      k l16)
def I_FallsWith (N : Nat) (p_0 : Pin) (bar_1 : Int) : Option (List Int) :=
  (I_IsPinned N p_0).bind fun v1 =>
  cnd (!v1) (
    some ([] : List Int)) (
    grd (Rg64 ((p_0.g.bars.length : Int) - (1 : Int))) <|
    (I_within N bar_1 (0 : Int) ((p_0.g.bars.length : Int) - (1 : Int))).bind fun v2 =>
    cnd (!v2) (
      some ([] : List Int)) (
      (I_withoutBar N p_0 bar_1).bind fun v3 =>
      (I_SteadyPoints N v3).bind fun v4 =>
      (I_SteadyPoints N p_0).bind fun v5 =>
      I_FallsWith_l1 N v4 v5 (fun (l12 : List Int) =>
            some l12) N (([] : List Int), (0 : Int))))
set_option maxRecDepth 20000 in
set_option maxHeartbeats 1600000 in
theorem I_FallsWith_w (N : Nat) (p_0 : Pin) (bar_1 : Int) (r : List Int) (h : I_FallsWith N p_0 bar_1 = some r) : PCall Try.prog 37 [pD p_0, .int bar_1] [(3, .ints r)] (.row 0 0 r.length) := by
  unfold I_FallsWith at h
  refine pcall_intro (TT := TT) tt Try.func37 rfl rfl Try.ntmps37 (congrArg Array.toList Try.results37) rfl rfl fun w0 => ?_
  refine vSeq ?_
  refine vRegion ?_
  refine oBox rfl rfl rfl rfl rfl rfl rfl rfl rfl ?_
  refine oVal tt rfl rfl rfl rfl rfl trivial ?_
  refine vNil ?_
  change VC _ _ _ _
  refine vSeq ?_
  refine vRegion ?_
  refine oEmpty tt (wNone rfl) rfl rfl rfl rfl ?_
  refine oVal tt rfl rfl rfl rfl rfl trivial ?_
  refine vNil ?_
  change VC _ _ _ _
  iterate 2 refine vSeq ?_
  refine vRegion ?_
  refine oVal tt rfl rfl rfl rfl rfl trivial ?_
  obtain ⟨v1, hc1, h⟩ := bind_inv h
  refine oCall (I_IsPinned_w N p_0 v1 hc1) rfl rfl rfl rfl rfl rfl rfl rfl ⟨⟨rfl, rfl, rfl, trivial⟩, trivial⟩ ?_
  iterate 2 refine oVal tt rfl rfl rfl rfl rfl trivial ?_
  refine oSplit rfl rfl rfl (fun hb2 => ?_) (fun hb2 => ?_)
  · replace h := cnd_t hb2 h
    iterate 8 refine oNoF rfl rfl rfl rfl hb2 rfl rfl ?_
    refine oPick rfl rfl rfl rfl rfl hb2 rfl ?_
    refine vNil ?_
    change VC _ _ _ _
    refine vCondT rfl rfl ?_
    refine vSeq ?_
    refine vRegion ?_
    iterate 2 refine oVal tt rfl rfl rfl rfl rfl trivial ?_
    refine vNil ?_
    change VC _ _ _ _
    refine vNilT 4 9001 3 (.ints []) rfl rfl rfl rfl ?_
    refine vRet ?_
    change ∃ _, _
    cases h
    exact ⟨[9001], _, rfl, ⟨rfl, trivial⟩, rfl, (.eq rfl), rfl⟩
  · replace h := cnd_f hb2 h
    iterate 5 refine oValG tt rfl rfl rfl rfl rfl hb2 rfl rfl rfl trivial ?_
    obtain ⟨hg3, h⟩ := grd_inv h
    refine oValG tt rfl rfl rfl rfl rfl hb2 rfl rfl rfl hg3 ?_
    obtain ⟨v2, hc4, h⟩ := bind_inv h
    refine oCallG (I_within_w N bar_1 (0 : Int) ((p_0.g.bars.length : Int) - (1 : Int)) v2 hc4) rfl rfl rfl rfl hb2 rfl rfl rfl rfl rfl rfl rfl ⟨rfl, rfl, rfl, trivial⟩ ?_
    refine oValG tt rfl rfl rfl rfl rfl hb2 rfl rfl rfl trivial ?_
    refine oPickF rfl rfl rfl rfl rfl hb2 rfl ?_
    refine vNil ?_
    change VC _ _ _ _
    refine vCond rfl (fun hb5 => ?_) (fun hb5 => ?_)
    · replace h := cnd_t hb5 h
      refine vSeq ?_
      refine vRegion ?_
      iterate 2 refine oVal tt rfl rfl rfl rfl rfl trivial ?_
      refine vNil ?_
      change VC _ _ _ _
      refine vNilT 4 9001 3 (.ints []) rfl rfl rfl rfl ?_
      refine vRet ?_
      change ∃ _, _
      cases h
      exact ⟨[9001], _, rfl, ⟨rfl, trivial⟩, rfl, (.eq rfl), rfl⟩
    · replace h := cnd_f hb5 h
      refine vSkip ?_
      change VC _ _ _ _
      refine vSeq ?_
      refine vRegion ?_
      iterate 2 refine oVal tt rfl rfl rfl rfl rfl trivial ?_
      obtain ⟨v3, hc6, h⟩ := bind_inv h
      refine oCall (I_withoutBar_w N p_0 bar_1 v3 hc6) rfl rfl rfl rfl rfl rfl rfl rfl ⟨⟨rfl, rfl, rfl, trivial⟩, rfl, trivial⟩ ?_
      obtain ⟨v4, hc7, h⟩ := bind_inv h
      refine oCall (I_SteadyPoints_w N v3 v4 hc7) rfl rfl rfl rfl rfl rfl rfl rfl ⟨⟨rfl, (.inl ⟨rfl, rfl⟩), (.inl ⟨rfl, rfl⟩), trivial⟩, trivial⟩ ?_
      refine oVal tt rfl rfl rfl rfl rfl trivial ?_
      refine vNil ?_
      change VC _ _ _ _
      iterate 2 refine vSeq ?_
      refine vRegion ?_
      refine oVal tt rfl rfl rfl rfl rfl trivial ?_
      obtain ⟨v5, hc8, h⟩ := bind_inv h
      refine oCall (I_SteadyPoints_w N p_0 v5 hc8) rfl rfl rfl rfl rfl rfl rfl rfl ⟨⟨rfl, rfl, rfl, trivial⟩, trivial⟩ ?_
      iterate 2 refine oVal tt rfl rfl rfl rfl rfl trivial ?_
      refine vNil ?_
      change VC _ _ _ _
      refine vJoin (F := fun k => I_FallsWith_l1 N v4 v5 k) h (α := List Int) (J := fun (l12 : List Int) => (⟨[(5, .row 42 0 l12.length)], [(42, some (3, .ints l12))], []⟩ : PS)) ?_ ?_
      · rintro l12 h
        show VC _ _ _ (⟨[(5, .row 42 0 l12.length)], [(42, some (3, .ints l12))], []⟩ : PS)
        refine vSeq ?_
        refine vRegion ?_
        iterate 2 refine oVal tt rfl rfl rfl rfl rfl trivial ?_
        refine vNil ?_
        change VC _ _ _ _
        refine vRet ?_
        change ∃ _, _
        cases h
        exact ⟨[42], _, rfl, ⟨rfl, trivial⟩, rfl, (.eq rfl), rfl⟩
      · intro k h
        refine vBlock ?_
        refine vNilT 5 42 3 (.ints []) rfl rfl rfl rfl ?_
        refine vLoopS (α := (List Int) × Int) (fun | (l16, x17) => (⟨[(5, .row 42 0 l16.length), (6, .row 1270 0 v4.length), (29, .row 1290 0 v5.length), (30, .int (v5.length : Int)), (31, .int x17)], [(42, some (3, .ints l16)), (1270, some (3, .ints v4)), (1290, some (3, .ints v5))], []⟩ : PS)) (I_FallsWith_l1 N v4 v5 k) h (En.of ⟨rfl, rfl, rfl, rfl, rfl, trivial⟩ ⟨rfl, rfl, rfl, trivial⟩ trivial) (fun _ => rfl) ?_
        rintro n ⟨l16, x17⟩ h
        rw [I_FallsWith_l1] at h
        show VC _ _ _ (⟨[(5, .row 42 0 l16.length), (6, .row 1270 0 v4.length), (29, .row 1290 0 v5.length), (30, .int (v5.length : Int)), (31, .int x17)], [(42, some (3, .ints l16)), (1270, some (3, .ints v4)), (1290, some (3, .ints v5))], []⟩ : PS)
        refine vSeq ?_
        refine vRegion ?_
        refine oVal tt rfl rfl rfl rfl rfl trivial ?_
        refine vNil ?_
        change VC _ _ _ _
        refine vSeq ?_
        refine vCond rfl (fun hb9 => ?_) (fun hb9 => ?_)
        · replace h := cnd_t hb9 h
          refine vSkip ?_
          change VC _ _ _ _
          refine vSeq ?_
          refine vBlock ?_
          refine vSeq ?_
          refine vRegion ?_
          obtain ⟨hg10, h⟩ := grd_inv h
          iterate 2 refine oVal tt rfl rfl rfl rfl rfl hg10 ?_
          refine oVal tt rfl rfl rfl rfl rfl trivial ?_
          refine vNil ?_
          change VC _ _ _ _
          refine vSeq ?_
          refine vRegion ?_
          iterate 2 refine oVal tt rfl rfl rfl rfl rfl trivial ?_
          obtain ⟨v19, hc11, h⟩ := bind_inv h
          refine oCall (G_Contains_int_w N v4 (v5.getD ((x17).toNat) 0) v19 hc11) rfl rfl rfl rfl rfl rfl rfl rfl ⟨(.inl ⟨rfl, rfl⟩), rfl, trivial⟩ ?_
          refine oVal tt rfl rfl rfl rfl rfl trivial ?_
          refine vNil ?_
          change VC _ _ _ _
          refine vCond rfl (fun hb12 => ?_) (fun hb12 => ?_)
          · replace h := cnd_t hb12 h
            refine vRegion ?_
            iterate 2 refine oVal tt rfl rfl rfl rfl rfl trivial ?_
            refine oBuild tt rfl rfl rfl rfl rfl rfl rfl rfl rfl rfl rfl ?_
            obtain ⟨hg13, h⟩ := grd_inv h
            refine oAppend tt rfl rfl rfl rfl rfl rfl rfl rfl rfl rfl rfl rfl rfl rfl rfl rfl (Nat.le_of_eq (Nat.zero_add _)) hg13 ?_
            refine oVal tt rfl rfl rfl rfl rfl trivial ?_
            refine vNil ?_
            change VC _ _ _ _
            refine vRegion ?_
            obtain ⟨hg14, h⟩ := grd_inv h
            refine oVal tt rfl rfl rfl rfl rfl hg14 ?_
            refine oVal tt rfl rfl rfl rfl rfl trivial ?_
            refine vNil ?_
            change ∃ _, _
            exact ⟨((l16 ++ ([(v5.getD ((x17).toNat) 0)] : List Int)), (x17 + (1 : Int))), (En.of ⟨rfl, rfl, rfl, rfl, rfl, trivial⟩ ⟨rfl, rfl, rfl, trivial⟩ trivial), h⟩
          · replace h := cnd_f hb12 h
            refine vSkip ?_
            change VC _ _ _ _
            refine vRegion ?_
            obtain ⟨hg15, h⟩ := grd_inv h
            refine oVal tt rfl rfl rfl rfl rfl hg15 ?_
            refine oVal tt rfl rfl rfl rfl rfl trivial ?_
            refine vNil ?_
            change ∃ _, _
            exact ⟨(l16, (x17 + (1 : Int))), (En.of ⟨rfl, rfl, rfl, rfl, rfl, trivial⟩ ⟨rfl, rfl, rfl, trivial⟩ trivial), h⟩
        · replace h := cnd_f hb9 h
          refine vExit ?_
          change ∃ _, _
          exact ⟨l16, (En.of ⟨rfl, trivial⟩ ⟨rfl, trivial⟩ trivial), h⟩
def I_WorstBar_l1 (N : Nat) (p_0 : Pin) (k : (Int × Int) → Option (Int × Int)) : Nat → (Int × Int × Int) → Option (Int × Int)
  | 0, _ => none
  | n + 1, (worst11, most12, x13) =>
    cnd (decide (x13 < (p_0.g.bars.length : Int))) (
      (I_FallsWith N p_0 x13).bind fun v15 =>
      cnd (decide ((v15.length : Int) > most12)) (
        grd (Rg64 (x13 + (1 : Int))) <|
        I_WorstBar_l1 N p_0 k n (x13, (v15.length : Int), (x13 + (1 : Int)))) (
        grd (Rg64 (x13 + (1 : Int))) <|
        I_WorstBar_l1 N p_0 k n (worst11, most12, (x13 + (1 : Int))))) (
      k (worst11, most12))
def I_WorstBar (N : Nat) (p_0 : Pin) : Option (Int × Int) :=
  I_WorstBar_l1 N p_0 (fun (x : Int × Int) =>
      match x with
      | (worst7, most8) =>
        some (worst7, most8)) N ((-1 : Int), (0 : Int), (0 : Int))
set_option maxRecDepth 20000 in
set_option maxHeartbeats 1600000 in
theorem I_WorstBar_w (N : Nat) (p_0 : Pin) (r : Int × Int) (h : I_WorstBar N p_0 = some r) : PCall Try.prog 33 [pD p_0] [] (.tup [.int r.1, .int r.2]) := by
  unfold I_WorstBar at h
  refine pcall_intro (TT := TT) tt Try.func33 rfl rfl Try.ntmps33 (congrArg Array.toList Try.results33) rfl rfl fun w0 => ?_
  refine vSeq ?_
  refine vRegion ?_
  refine oBox rfl rfl rfl rfl rfl rfl rfl rfl rfl ?_
  iterate 2 refine oVal tt rfl rfl rfl rfl rfl trivial ?_
  refine vNil ?_
  change VC _ _ _ _
  refine vSeq ?_
  refine vRegion ?_
  iterate 2 refine oVal tt rfl rfl rfl rfl rfl trivial ?_
  refine vNil ?_
  change VC _ _ _ _
  iterate 2 refine vSeq ?_
  refine vRegion ?_
  iterate 5 refine oVal tt rfl rfl rfl rfl rfl trivial ?_
  refine vNil ?_
  change VC _ _ _ _
  refine vJoin (F := fun k => I_WorstBar_l1 N p_0 k) h (α := Int × Int) (J := fun | (worst7, most8) => (⟨[(4, .int worst7), (5, .int most8)], [], []⟩ : PS)) ?_ ?_
  · rintro ⟨worst7, most8⟩ h
    show VC _ _ _ (⟨[(4, .int worst7), (5, .int most8)], [], []⟩ : PS)
    refine vSeq ?_
    refine vRegion ?_
    iterate 4 refine oVal tt rfl rfl rfl rfl rfl trivial ?_
    refine vNil ?_
    change VC _ _ _ _
    refine vRet ?_
    change ∃ _, _
    cases h
    exact ⟨[], _, rfl, trivial, rfl, (.eq rfl), rfl⟩
  · intro k h
    refine vBlock ?_
    refine vLoopS (α := Int × Int × Int) (fun | (worst11, most12, x13) => (⟨[(1, .ptr 1 0), (4, .int worst11), (5, .int most12), (11, .int (p_0.g.bars.length : Int)), (12, .int x13)], [], [(1, some [.int p_0.g.n, .ro false (.pairs p_0.g.bars), .ro false (.ints p_0.ground)])]⟩ : PS)) (I_WorstBar_l1 N p_0 k) h (En.of ⟨rfl, rfl, rfl, rfl, rfl, trivial⟩ trivial ⟨rfl, trivial⟩) (fun _ => rfl) ?_
    rintro n ⟨worst11, most12, x13⟩ h
    rw [I_WorstBar_l1] at h
    show VC _ _ _ (⟨[(1, .ptr 1 0), (4, .int worst11), (5, .int most12), (11, .int (p_0.g.bars.length : Int)), (12, .int x13)], [], [(1, some [.int p_0.g.n, .ro false (.pairs p_0.g.bars), .ro false (.ints p_0.ground)])]⟩ : PS)
    refine vSeq ?_
    refine vRegion ?_
    refine oVal tt rfl rfl rfl rfl rfl trivial ?_
    refine vNil ?_
    change VC _ _ _ _
    refine vSeq ?_
    refine vCond rfl (fun hb1 => ?_) (fun hb1 => ?_)
    · replace h := cnd_t hb1 h
      refine vSkip ?_
      change VC _ _ _ _
      refine vSeq ?_
      refine vBlock ?_
      refine vSeq ?_
      refine vRegion ?_
      iterate 2 refine oVal tt rfl rfl rfl rfl rfl trivial ?_
      refine vNil ?_
      change VC _ _ _ _
      refine vSeq ?_
      refine vRegion ?_
      iterate 2 refine oVal tt rfl rfl rfl rfl rfl trivial ?_
      obtain ⟨v15, hc2, h⟩ := bind_inv h
      refine oCall (I_FallsWith_w N p_0 x13 v15 hc2) rfl rfl rfl rfl rfl rfl rfl rfl ⟨⟨rfl, rfl, rfl, trivial⟩, rfl, trivial⟩ ?_
      iterate 2 refine oVal tt rfl rfl rfl rfl rfl trivial ?_
      refine vNil ?_
      change VC _ _ _ _
      refine vSeq ?_
      refine vRegion ?_
      iterate 3 refine oVal tt rfl rfl rfl rfl rfl trivial ?_
      refine vNil ?_
      change VC _ _ _ _
      refine vCond rfl (fun hb3 => ?_) (fun hb3 => ?_)
      · replace h := cnd_t hb3 h
        refine vRegion ?_
        iterate 4 refine oVal tt rfl rfl rfl rfl rfl trivial ?_
        refine vNil ?_
        change VC _ _ _ _
        refine vRegion ?_
        obtain ⟨hg4, h⟩ := grd_inv h
        refine oVal tt rfl rfl rfl rfl rfl hg4 ?_
        refine oVal tt rfl rfl rfl rfl rfl trivial ?_
        refine vNil ?_
        change ∃ _, _
        exact ⟨(x13, (v15.length : Int), (x13 + (1 : Int))), (En.of ⟨rfl, rfl, rfl, rfl, rfl, trivial⟩ trivial ⟨rfl, trivial⟩), h⟩
      · replace h := cnd_f hb3 h
        refine vSkip ?_
        change VC _ _ _ _
        refine vRegion ?_
        obtain ⟨hg5, h⟩ := grd_inv h
        refine oVal tt rfl rfl rfl rfl rfl hg5 ?_
        refine oVal tt rfl rfl rfl rfl rfl trivial ?_
        refine vNil ?_
        change ∃ _, _
        exact ⟨(worst11, most12, (x13 + (1 : Int))), (En.of ⟨rfl, rfl, rfl, rfl, rfl, trivial⟩ trivial ⟨rfl, trivial⟩), h⟩
    · replace h := cnd_f hb1 h
      refine vExit ?_
      change ∃ _, _
      exact ⟨(worst11, most12), (En.of ⟨rfl, rfl, trivial⟩ trivial trivial), h⟩
end Go.Proofs.Ytkpmijmlbpdknaa

namespace Go.Proofs.Ytkpmijmlbpdknaa
open Go.RowKit
set_option linter.unusedVariables false
set_option linter.unusedSimpArgs false
def I_RemoveAll_l1 (N : Nat) (k : ((List Int) × (List (Int × Int)) × (List Int) × Int) → Option ((List Int) × Pin)) : Nat → ((List Int) × (List (Int × Int)) × (List Int) × Int × Int) → Option ((List Int) × Pin)
  | 0, _ => none
  | n + 1, (l28, l29, l30, e31, c32) =>
    cnd (decide (e31 ≥ (0 : Int))) (
      (I_SafeToRemove N (⟨⟨c32, l29⟩, l30⟩ : Pin) e31).bind fun v35 =>
      cnd v35 (
        (I_withoutBar N (⟨⟨c32, l29⟩, l30⟩ : Pin) e31).bind fun v36 =>
        grd (l28.length + 1 ≤ 4294967296) <|
        grd (Rg64 (e31 - (1 : Int))) <|
        I_RemoveAll_l1 N k n ((l28 ++ ([e31] : List Int)), v36.g.bars, v36.ground, (e31 - (1 : Int)), v36.g.n)) (
        grd (Rg64 (e31 - (1 : Int))) <|
        I_RemoveAll_l1 N k n (l28, l29, l30, (e31 - (1 : Int)), c32))) (
      k (l28, l29, l30, c32))
def I_RemoveAll (N : Nat) (p_0 : Pin) : Option ((List Int) × Pin) :=
  (I_copyPinned N p_0).bind fun v1 =>
  grd (Rg64 ((p_0.g.bars.length : Int) - (1 : Int))) <|
  I_RemoveAll_l1 N (fun (x : (List Int) × (List (Int × Int)) × (List Int) × Int) =>
      match x with
      | (l17, l18, l19, c20) =>
        some (l17, (⟨⟨c20, l18⟩, l19⟩ : Pin))) N (([] : List Int), v1.g.bars, v1.ground, ((p_0.g.bars.length : Int) - (1 : Int)), v1.g.n)
set_option maxRecDepth 20000 in
set_option maxHeartbeats 1600000 in
theorem I_RemoveAll_w (N : Nat) (p_0 : Pin) (r : (List Int) × Pin) (h : I_RemoveAll N p_0 = some r) : PCall Try.prog 41 [pD p_0] [(3, .ints r.1), (71, .pairs r.2.g.bars), (3, .ints r.2.ground)] (.tup [.row 0 0 r.1.length, .agg [.int r.2.g.n, .row 1 0 r.2.g.bars.length, .row 2 0 r.2.ground.length]]) := by
  unfold I_RemoveAll at h
  refine pcall_intro (TT := TT) tt Try.func41 rfl rfl Try.ntmps41 (congrArg Array.toList Try.results41) rfl rfl fun w0 => ?_
  refine vSeq ?_
  refine vRegion ?_
  refine oBox rfl rfl rfl rfl rfl rfl rfl rfl rfl ?_
  refine oVal tt rfl rfl rfl rfl rfl trivial ?_
  refine oAlloc tt rfl rfl rfl rfl rfl rfl rfl rfl rfl ?_
  refine vNil ?_
  change VC _ _ _ _
  refine vSeq ?_
  refine vRegion ?_
  refine oEmpty tt (wNone rfl) rfl rfl rfl rfl ?_
  refine oVal tt rfl rfl rfl rfl rfl trivial ?_
  refine vNil ?_
  change VC _ _ _ _
  refine vSeq ?_
  refine vRegion ?_
  refine oVal tt rfl rfl rfl rfl rfl trivial ?_
  obtain ⟨v1, hc1, h⟩ := bind_inv h
  refine oCall (I_copyPinned_w N p_0 v1 hc1) rfl rfl rfl rfl rfl rfl rfl rfl ⟨⟨rfl, rfl, rfl, trivial⟩, trivial⟩ ?_
  refine oAlloc tt rfl rfl rfl rfl rfl rfl rfl rfl rfl ?_
  refine oStore tt rfl rfl rfl rfl rfl rfl rfl rfl rfl rfl rfl ⟨trivial, trivial, trivial, trivial⟩ ?_
  refine vNil ?_
  change VC _ _ _ _
  iterate 2 refine vSeq ?_
  refine vRegion ?_
  iterate 4 refine oVal tt rfl rfl rfl rfl rfl trivial ?_
  obtain ⟨hg2, h⟩ := grd_inv h
  refine oVal tt rfl rfl rfl rfl rfl hg2 ?_
  refine oVal tt rfl rfl rfl rfl rfl trivial ?_
  refine vNil ?_
  change VC _ _ _ _
  refine vJoin (F := fun k => I_RemoveAll_l1 N k) h (α := (List Int) × (List (Int × Int)) × (List Int) × Int) (J := fun | (l17, l18, l19, c20) => (⟨[(3, .ptr 3 0), (4, .row 28 0 l17.length), (5, .ptr 5 0)], [(28, some (3, .ints l17)), (1090, some (71, .pairs l18)), (1091, some (3, .ints l19))], [(3, some [.int (0 : Int), .nil, .nil]), (5, some [.int c20, .row 1090 0 l18.length, .row 1091 0 l19.length])]⟩ : PS)) ?_ ?_
  · rintro ⟨l17, l18, l19, c20⟩ h
    show VC _ _ _ (⟨[(3, .ptr 3 0), (4, .row 28 0 l17.length), (5, .ptr 5 0)], [(28, some (3, .ints l17)), (1090, some (71, .pairs l18)), (1091, some (3, .ints l19))], [(3, some [.int (0 : Int), .nil, .nil]), (5, some [.int c20, .row 1090 0 l18.length, .row 1091 0 l19.length])]⟩ : PS)
    refine vSeq ?_
    refine vRegionN 3 [] [0, 0, 1, 7] (by kernel_rfl) (by kernel_rfl) (by kernel_rfl) (by kernel_rfl) (by kernel_rfl) rfl (by rfl) ?_
    iterate 3 refine nVal tt rfl (wNone rfl) rfl rfl rfl rfl rfl trivial ?_
    refine nNil ?_
    change VO _ _ _ _ _
    refine oStore tt rfl rfl rfl rfl rfl rfl rfl rfl rfl rfl rfl ⟨trivial, trivial, trivial, trivial⟩ ?_
    refine vNil ?_
    change VC _ _ _ _
    refine vRet ?_
    change ∃ _, _
    cases h
    exact ⟨[28, 1090, 1091], _, rfl, ⟨rfl, rfl, rfl, trivial⟩, rfl, (.eq rfl), rfl⟩
  · intro k h
    refine vBlock ?_
    refine vNilT 4 28 3 (.ints []) rfl rfl rfl rfl ?_
    refine vLoopS (α := (List Int) × (List (Int × Int)) × (List Int) × Int × Int) (fun | (l28, l29, l30, e31, c32) => (⟨[(3, .ptr 3 0), (4, .row 28 0 l28.length), (5, .ptr 5 0), (6, .int e31)], [(28, some (3, .ints l28)), (1090, some (71, .pairs l29)), (1091, some (3, .ints l30))], [(3, some [.int (0 : Int), .nil, .nil]), (5, some [.int c32, .row 1090 0 l29.length, .row 1091 0 l30.length])]⟩ : PS)) (I_RemoveAll_l1 N k) h (En.of ⟨rfl, rfl, rfl, rfl, trivial⟩ ⟨rfl, rfl, rfl, trivial⟩ ⟨rfl, rfl, trivial⟩) (fun _ => rfl) ?_
    rintro n ⟨l28, l29, l30, e31, c32⟩ h
    rw [I_RemoveAll_l1] at h
    show VC _ _ _ (⟨[(3, .ptr 3 0), (4, .row 28 0 l28.length), (5, .ptr 5 0), (6, .int e31)], [(28, some (3, .ints l28)), (1090, some (71, .pairs l29)), (1091, some (3, .ints l30))], [(3, some [.int (0 : Int), .nil, .nil]), (5, some [.int c32, .row 1090 0 l29.length, .row 1091 0 l30.length])]⟩ : PS)
    iterate 2 refine vSeq ?_
    refine vRegion ?_
    iterate 2 refine oVal tt rfl rfl rfl rfl rfl trivial ?_
    refine vNil ?_
    change VC _ _ _ _
    refine vCond rfl (fun hb3 => ?_) (fun hb3 => ?_)
    · replace h := cnd_t hb3 h
      refine vSkip ?_
      change VC _ _ _ _
      refine vSeq ?_
      refine vBlock ?_
      refine vSeq ?_
      refine vRegion ?_
      iterate 2 refine oVal tt rfl rfl rfl rfl rfl trivial ?_
      obtain ⟨v35, hc4, h⟩ := bind_inv h
      refine oCall (I_SafeToRemove_w N (⟨⟨c32, l29⟩, l30⟩ : Pin) e31 v35 hc4) rfl rfl rfl rfl rfl rfl rfl rfl ⟨⟨rfl, (.inl ⟨rfl, rfl⟩), (.inl ⟨rfl, rfl⟩), trivial⟩, rfl, trivial⟩ ?_
      refine vNil ?_
      change VC _ _ _ _
      refine vCond rfl (fun hb5 => ?_) (fun hb5 => ?_)
      · replace h := cnd_t hb5 h
        refine vSeq ?_
        refine vRegion ?_
        iterate 2 refine oVal tt rfl rfl rfl rfl rfl trivial ?_
        obtain ⟨v36, hc6, h⟩ := bind_inv h
        refine oCall (I_withoutBar_w N (⟨⟨c32, l29⟩, l30⟩ : Pin) e31 v36 hc6) rfl rfl rfl rfl rfl rfl rfl rfl ⟨⟨rfl, (.inl ⟨rfl, rfl⟩), (.inl ⟨rfl, rfl⟩), trivial⟩, rfl, trivial⟩ ?_
        refine oStore tt rfl rfl rfl rfl rfl rfl rfl rfl rfl rfl rfl ⟨trivial, trivial, trivial, trivial⟩ ?_
        refine vNil ?_
        change VC _ _ _ _
        refine vRegion ?_
        iterate 2 refine oVal tt rfl rfl rfl rfl rfl trivial ?_
        refine oBuild tt rfl rfl rfl rfl rfl rfl rfl rfl rfl rfl rfl ?_
        obtain ⟨hg7, h⟩ := grd_inv h
        refine oAppend tt rfl rfl rfl rfl rfl rfl rfl rfl rfl rfl rfl rfl rfl rfl rfl rfl (Nat.le_of_eq (Nat.zero_add _)) hg7 ?_
        refine oVal tt rfl rfl rfl rfl rfl trivial ?_
        refine vNil ?_
        change VC _ _ _ _
        refine vRegion ?_
        refine oVal tt rfl rfl rfl rfl rfl trivial ?_
        obtain ⟨hg8, h⟩ := grd_inv h
        refine oVal tt rfl rfl rfl rfl rfl hg8 ?_
        refine oVal tt rfl rfl rfl rfl rfl trivial ?_
        refine vNil ?_
        change ∃ _, _
        exact ⟨((l28 ++ ([e31] : List Int)), v36.g.bars, v36.ground, (e31 - (1 : Int)), v36.g.n), (En.ren [1090, 1091] [1240, 1241] rfl ⟨.inr rfl, .inr rfl, .inr rfl, .inr rfl, trivial⟩ ⟨.inr rfl, .inr rfl, .inr rfl, trivial⟩ ⟨.inr ⟨_, _, rfl, rfl, ⟨.inr rfl, .inr rfl, .inr rfl, trivial⟩⟩, .inr ⟨_, _, rfl, rfl, ⟨.inr rfl, .inr rfl, .inr rfl, trivial⟩⟩, trivial⟩), h⟩
      · replace h := cnd_f hb5 h
        refine vSkip ?_
        change VC _ _ _ _
        refine vRegion ?_
        refine oVal tt rfl rfl rfl rfl rfl trivial ?_
        obtain ⟨hg9, h⟩ := grd_inv h
        refine oVal tt rfl rfl rfl rfl rfl hg9 ?_
        refine oVal tt rfl rfl rfl rfl rfl trivial ?_
        refine vNil ?_
        change ∃ _, _
        exact ⟨(l28, l29, l30, (e31 - (1 : Int)), c32), (En.of ⟨rfl, rfl, rfl, rfl, trivial⟩ ⟨rfl, rfl, rfl, trivial⟩ ⟨rfl, rfl, trivial⟩), h⟩
    · replace h := cnd_f hb3 h
      refine vExit ?_
      change ∃ _, _
      exact ⟨(l28, l29, l30, c32), (En.of ⟨rfl, rfl, rfl, trivial⟩ ⟨rfl, rfl, rfl, trivial⟩ ⟨rfl, rfl, trivial⟩), h⟩
def I_LeastKept_l1 (N : Nat) (p_0 : Pin) (v2 : (List Int) × Pin) (k : (List Int) → Option (List Int)) : Nat → ((List Int) × Int) → Option (List Int)
  | 0, _ => none
  | n + 1, (l13, x14) =>
    cnd (decide (x14 < (p_0.g.bars.length : Int))) (
      (G_Contains_int N v2.1 x14).bind fun v16 =>
      cnd (!v16) (
        grd (l13.length + 1 ≤ 4294967296) <|
        grd (Rg64 (x14 + (1 : Int))) <|
        I_LeastKept_l1 N p_0 v2 k n ((l13 ++ ([x14] : List Int)), (x14 + (1 : Int)))) (
        grd (Rg64 (x14 + (1 : Int))) <|
        I_LeastKept_l1 N p_0 v2 k n (l13, (x14 + (1 : Int))))) (
      k l13)
def I_LeastKept (N : Nat) (p_0 : Pin) : Option (List Int) :=
  (I_IsPinned N p_0).bind fun v1 =>
  cnd (!v1) (
    some ([] : List Int)) (
    (I_RemoveAll N p_0).bind fun v2 =>
    I_LeastKept_l1 N p_0 v2 (fun (l9 : List Int) =>
          some l9) N (([] : List Int), (0 : Int)))
set_option maxRecDepth 20000 in
set_option maxHeartbeats 1600000 in
theorem I_LeastKept_w (N : Nat) (p_0 : Pin) (r : List Int) (h : I_LeastKept N p_0 = some r) : PCall Try.prog 39 [pD p_0] [(3, .ints r)] (.row 0 0 r.length) := by
  unfold I_LeastKept at h
  refine pcall_intro (TT := TT) tt Try.func39 rfl rfl Try.ntmps39 (congrArg Array.toList Try.results39) rfl rfl fun w0 => ?_
  refine vSeq ?_
  refine vRegion ?_
  refine oBox rfl rfl rfl rfl rfl rfl rfl rfl rfl ?_
  refine oVal tt rfl rfl rfl rfl rfl trivial ?_
  refine vNil ?_
  change VC _ _ _ _
  refine vSeq ?_
  refine vRegion ?_
  refine oEmpty tt (wNone rfl) rfl rfl rfl rfl ?_
  refine oVal tt rfl rfl rfl rfl rfl trivial ?_
  refine vNil ?_
  change VC _ _ _ _
  iterate 2 refine vSeq ?_
  refine vRegion ?_
  refine oVal tt rfl rfl rfl rfl rfl trivial ?_
  obtain ⟨v1, hc1, h⟩ := bind_inv h
  refine oCall (I_IsPinned_w N p_0 v1 hc1) rfl rfl rfl rfl rfl rfl rfl rfl ⟨⟨rfl, rfl, rfl, trivial⟩, trivial⟩ ?_
  refine oVal tt rfl rfl rfl rfl rfl trivial ?_
  refine vNil ?_
  change VC _ _ _ _
  refine vCond rfl (fun hb2 => ?_) (fun hb2 => ?_)
  · replace h := cnd_t hb2 h
    refine vSeq ?_
    refine vRegion ?_
    iterate 2 refine oVal tt rfl rfl rfl rfl rfl trivial ?_
    refine vNil ?_
    change VC _ _ _ _
    refine vNilT 2 9001 3 (.ints []) rfl rfl rfl rfl ?_
    refine vRet ?_
    change ∃ _, _
    cases h
    exact ⟨[9001], _, rfl, ⟨rfl, trivial⟩, rfl, (.eq rfl), rfl⟩
  · replace h := cnd_f hb2 h
    refine vSkip ?_
    change VC _ _ _ _
    refine vSeq ?_
    refine vRegion ?_
    refine oVal tt rfl rfl rfl rfl rfl trivial ?_
    obtain ⟨v2, hc3, h⟩ := bind_inv h
    refine oCall (I_RemoveAll_w N p_0 v2 hc3) rfl rfl rfl rfl rfl rfl rfl rfl ⟨⟨rfl, rfl, rfl, trivial⟩, trivial⟩ ?_
    iterate 3 refine oVal tt rfl rfl rfl rfl rfl trivial ?_
    refine oAlloc tt rfl rfl rfl rfl rfl rfl rfl rfl rfl ?_
    refine oVal tt rfl rfl rfl rfl rfl trivial ?_
    refine oStore tt rfl rfl rfl rfl rfl rfl rfl rfl rfl rfl rfl ⟨trivial, trivial, trivial, trivial⟩ ?_
    refine vNil ?_
    change VC _ _ _ _
    iterate 2 refine vSeq ?_
    refine vRegion ?_
    iterate 5 refine oVal tt rfl rfl rfl rfl rfl trivial ?_
    refine vNil ?_
    change VC _ _ _ _
    refine vJoin (F := fun k => I_LeastKept_l1 N p_0 v2 k) h (α := List Int) (J := fun (l9 : List Int) => (⟨[(3, .row 31 0 l9.length)], [(31, some (3, .ints l9))], []⟩ : PS)) ?_ ?_
    · rintro l9 h
      show VC _ _ _ (⟨[(3, .row 31 0 l9.length)], [(31, some (3, .ints l9))], []⟩ : PS)
      refine vSeq ?_
      refine vRegion ?_
      iterate 2 refine oVal tt rfl rfl rfl rfl rfl trivial ?_
      refine vNil ?_
      change VC _ _ _ _
      refine vRet ?_
      change ∃ _, _
      cases h
      exact ⟨[31], _, rfl, ⟨rfl, trivial⟩, rfl, (.eq rfl), rfl⟩
    · intro k h
      refine vBlock ?_
      refine vNilT 3 31 3 (.ints []) rfl rfl rfl rfl ?_
      refine vLoopS (α := (List Int) × Int) (fun | (l13, x14) => (⟨[(3, .row 31 0 l13.length), (4, .row 1140 0 v2.1.length), (20, .int (p_0.g.bars.length : Int)), (21, .int x14)], [(31, some (3, .ints l13)), (1140, some (3, .ints v2.1))], []⟩ : PS)) (I_LeastKept_l1 N p_0 v2 k) h (En.of ⟨rfl, rfl, rfl, rfl, trivial⟩ ⟨rfl, rfl, trivial⟩ trivial) (fun _ => rfl) ?_
      rintro n ⟨l13, x14⟩ h
      rw [I_LeastKept_l1] at h
      show VC _ _ _ (⟨[(3, .row 31 0 l13.length), (4, .row 1140 0 v2.1.length), (20, .int (p_0.g.bars.length : Int)), (21, .int x14)], [(31, some (3, .ints l13)), (1140, some (3, .ints v2.1))], []⟩ : PS)
      refine vSeq ?_
      refine vRegion ?_
      refine oVal tt rfl rfl rfl rfl rfl trivial ?_
      refine vNil ?_
      change VC _ _ _ _
      refine vSeq ?_
      refine vCond rfl (fun hb4 => ?_) (fun hb4 => ?_)
      · replace h := cnd_t hb4 h
        refine vSkip ?_
        change VC _ _ _ _
        refine vSeq ?_
        refine vBlock ?_
        refine vSeq ?_
        refine vRegion ?_
        iterate 2 refine oVal tt rfl rfl rfl rfl rfl trivial ?_
        refine vNil ?_
        change VC _ _ _ _
        refine vSeq ?_
        refine vRegion ?_
        iterate 2 refine oVal tt rfl rfl rfl rfl rfl trivial ?_
        obtain ⟨v16, hc5, h⟩ := bind_inv h
        refine oCall (G_Contains_int_w N v2.1 x14 v16 hc5) rfl rfl rfl rfl rfl rfl rfl rfl ⟨(.inl ⟨rfl, rfl⟩), rfl, trivial⟩ ?_
        refine oVal tt rfl rfl rfl rfl rfl trivial ?_
        refine vNil ?_
        change VC _ _ _ _
        refine vCond rfl (fun hb6 => ?_) (fun hb6 => ?_)
        · replace h := cnd_t hb6 h
          refine vRegion ?_
          iterate 2 refine oVal tt rfl rfl rfl rfl rfl trivial ?_
          refine oBuild tt rfl rfl rfl rfl rfl rfl rfl rfl rfl rfl rfl ?_
          obtain ⟨hg7, h⟩ := grd_inv h
          refine oAppend tt rfl rfl rfl rfl rfl rfl rfl rfl rfl rfl rfl rfl rfl rfl rfl rfl (Nat.le_of_eq (Nat.zero_add _)) hg7 ?_
          refine oVal tt rfl rfl rfl rfl rfl trivial ?_
          refine vNil ?_
          change VC _ _ _ _
          refine vRegion ?_
          obtain ⟨hg8, h⟩ := grd_inv h
          refine oVal tt rfl rfl rfl rfl rfl hg8 ?_
          refine oVal tt rfl rfl rfl rfl rfl trivial ?_
          refine vNil ?_
          change ∃ _, _
          exact ⟨((l13 ++ ([x14] : List Int)), (x14 + (1 : Int))), (En.of ⟨rfl, rfl, rfl, rfl, trivial⟩ ⟨rfl, rfl, trivial⟩ trivial), h⟩
        · replace h := cnd_f hb6 h
          refine vSkip ?_
          change VC _ _ _ _
          refine vRegion ?_
          obtain ⟨hg9, h⟩ := grd_inv h
          refine oVal tt rfl rfl rfl rfl rfl hg9 ?_
          refine oVal tt rfl rfl rfl rfl rfl trivial ?_
          refine vNil ?_
          change ∃ _, _
          exact ⟨(l13, (x14 + (1 : Int))), (En.of ⟨rfl, rfl, rfl, rfl, trivial⟩ ⟨rfl, rfl, trivial⟩ trivial), h⟩
      · replace h := cnd_f hb4 h
        refine vExit ?_
        change ∃ _, _
        exact ⟨l13, (En.of ⟨rfl, trivial⟩ ⟨rfl, trivial⟩ trivial), h⟩
end Go.Proofs.Ytkpmijmlbpdknaa

namespace Go.Proofs.Ytkpmijmlbpdknaa
set_option linter.unusedVariables false
set_option linter.unusedSimpArgs false
variable {N : Nat}
/-- a list without its element k -/
def lessL {α : Type} (l : List α) (k : Nat) : List α := l.take k ++ l.drop (k + 1)
theorem lessL_len {α : Type} {l : List α} {k : Nat} (h : k < l.length) : (lessL l k).length + 1 = l.length := by
  simp only [lessL, List.length_append, List.length_take, List.length_drop]; omega
def lessP (p : Pin) (k : Nat) : Pin := ⟨⟨p.g.n, lessL p.g.bars k⟩, p.ground⟩
theorem delete_s {l : List (Int × Int)} (hl : l.length ≤ 3000000) {k : Nat} (hk : k < l.length) : G_Delete_Bar N l k ((k : Int) + 1) = some (lessL l k) := by
  unfold G_Delete_Bar
  have e1 : ((k : Int) + 1).toNat = k + 1 := by omega
  have e2 : ((k : Int)).toNat = k := by omega
  have e3 : ((k : Int) == (k : Int) + 1) = false := by simp; omega
  have e4 : (l.take (0 + (k + 1) + (l.length - (k + 1)))).drop (0 + (k + 1)) = l.drop (k + 1) := by
    rw [List.take_of_length_le (by omega), Nat.zero_add]
  have e5 : (l.drop (k + 1)).length = l.length - (k + 1) := List.length_drop
  have e6 : (l.take k).length = k := by rw [List.length_take]; omega
  simp only [e1, e2, e3, cnd_false]
  rw [e4]
  have hN : (((k : Int) + ((l.drop (k + 1)).length : Int))).toNat = k + (l.drop (k + 1)).length := by omega
  have hN2 : ((l.length : Int)).toNat = l.length := by omega
  simp only [hN, hN2]
  have key : (((l.take k ++ l.drop (k + 1)) ++ l.drop (k + (l.drop (k + 1)).length)).take (k + (l.drop (k + 1)).length)) = l.take k ++ l.drop (k + 1) := by
    rw [List.take_append_of_le_length (by rw [List.length_append, e6]; omega), List.take_of_length_le (by rw [List.length_append, e6]; omega)]
  rw [key]
  have key2 : ∀ X : List (Int × Int), ((l.take k ++ l.drop (k + 1)) ++ X).take (k + (l.drop (k + 1)).length) = l.take k ++ l.drop (k + 1) := fun X => by
    rw [List.take_append_of_le_length (by rw [List.length_append, e6]; omega), List.take_of_length_le (by rw [List.length_append, e6]; omega)]
  simp only [List.append_assoc] at key2 ⊢
  simp only [key2]
  rw [grd_pos (by omega), grd_pos (by omega), grd_pos (by omega), grd_pos (by omega), grd_pos (by omega), grd_pos, grd_pos, grd_pos]
  · rfl
  · rw [List.length_append, e6]
  · simp only [List.length_append, List.length_take, List.length_drop]; omega
  · simp only [List.length_append, List.length_take, List.length_drop]; omega
theorem l2Copy_s {g : Grf} (h : g.bars.length ≤ 3000000) : S_l2Copy N g = some g := by
  unfold S_l2Copy
  rw [grd_pos (by omega)]; rfl
theorem copyGraph_s {g : Grf} (h : g.bars.length ≤ 3000000) : I_copyGraph N g = some g := by
  unfold I_copyGraph
  rw [grd_pos (by omega)]; rfl
theorem copyInts_s {l : List Int} (h : l.length ≤ 3000000) : I_copyInts N l = some l := by
  unfold I_copyInts
  rw [grd_pos (by omega)]; rfl
theorem copyPinned_s {p : Pin} (h : p.g.bars.length ≤ 3000000) (h2 : p.ground.length ≤ 3000000) : I_copyPinned N p = some p := by
  unfold I_copyPinned
  rw [copyGraph_s h, Option.bind_some, copyInts_s h2]; rfl
theorem withoutBar_s {p : Pin} (h : p.g.bars.length ≤ 3000000) (h2 : p.ground.length ≤ 3000000) {k : Nat} (hk : k < p.g.bars.length) : I_withoutBar N p k = some (lessP p k) := by
  unfold I_withoutBar
  rw [copyPinned_s h h2, Option.bind_some, grd_R (by omega) (by omega), delete_s h hk]; rfl
theorem l27Less_s (hN : 4000000 ≤ N) {p : Pin} (hp : isPinned p = true) (h : p.g.bars.length ≤ 3000000) (h2 : p.ground.length ≤ 3000000) {k : Nat} (hk : k < p.g.bars.length) : S_l27Less N p k = some (lessP p k) := by
  unfold S_l27Less S_RemoveBar
  have e1 : ((k : Int) + 1).toNat = k + 1 := by omega
  have e2 : ((k : Int)).toNat = k := by omega
  have e3 : (p.g.bars.take k).length = k := by rw [List.length_take]; omega
  rw [isGraphS_s N hN, (isPinned_parts hp).1, Option.bind_some, Bool.not_true, cnd_false, cnd_df (by omega), cnd_df (by omega), e1, e2, grd_pos (by omega), grd_pos (by rw [List.drop_zero]; omega), grd_R (by omega) (by omega), grd_pos (by omega), grd_pos (by simp only [List.drop_zero, List.nil_append, List.length_drop, List.length_take]; omega), Option.bind_some, grd_pos (by omega)]
  simp only [List.drop_zero, List.nil_append, List.take_length]
  rfl
theorem lessP_bd {p : Pin} (h : p.g.bars.length ≤ 3000000) {k : Nat} : (lessP p k).g.bars.length ≤ 3000000 := by
  simp only [lessP, lessL, List.length_append, List.length_take, List.length_drop]; omega
/-- safe to remove: the same, and then the structure is valid and the bar one of its own -/
theorem safe_x (hN : 4000000 ≤ N) {p : Pin} (hb : p.g.bars.length ≤ 3000000) (hg : p.ground.length ≤ 3000000) (e : Int) : ∃ b : Bool, S_SafeToRemove N p e = some b ∧ I_SafeToRemove N p e = some b ∧ (b = true → isPinned p = true ∧ 0 ≤ e ∧ e < (p.g.bars.length : Int)) := by
  unfold S_SafeToRemove I_SafeToRemove
  rw [isPinnedS_s N hN hb hg, isPinnedI_s N hN hb hg, Option.bind_some, Option.bind_some]
  cases hp : isPinned p with
  | false => exact ⟨false, rfl, rfl, fun h => by cases h⟩
  | true =>
    rw [cnd_true, cnd_true, grd_R (by omega) (by omega), within_s, Option.bind_some]
    by_cases h0 : 0 ≤ e
    · by_cases h1 : e < (p.g.bars.length : Int)
      · obtain ⟨k, rfl⟩ : ∃ k : Nat, e = (k : Int) := ⟨e.toNat, by omega⟩
        rw [cnd_dt (by omega), cnd_dt (by omega), inB_true.2 ⟨by omega, by omega⟩, cnd_true, l27Less_s hN hp hb hg (by omega), withoutBar_s hb hg (by omega), Option.bind_some, Option.bind_some]
        obtain ⟨r, g1, g2, _⟩ := pinnedRank_x (N := N) hN (p := lessP p k) (lessP_bd hb) hg
        obtain ⟨r', g3, g4, _⟩ := pinnedRank_x (N := N) hN hb hg
        rw [g1, g2, g3, g4]
        exact ⟨r == r', rfl, rfl, fun _ => ⟨rfl, h0, h1⟩⟩
      · refine ⟨false, by rw [cnd_dt (by omega), cnd_df (by omega)], ?_, fun h => by cases h⟩
        have : inB e 0 ((p.g.bars.length : Int) - 1) = false := by
          cases hh : inB e 0 ((p.g.bars.length : Int) - 1) with
          | false => rfl
          | true => have := inB_true.1 hh; omega
        rw [this, cnd_false]
    · refine ⟨false, by rw [cnd_df (by omega)], ?_, fun h => by cases h⟩
      have : inB e 0 ((p.g.bars.length : Int) - 1) = false := by
        cases hh : inB e 0 ((p.g.bars.length : Int) - 1) with
        | false => rfl
        | true => have := inB_true.1 hh; omega
      rw [this, cnd_false]
theorem safeBars1_s (hN : 4000000 ≤ N) {p : Pin} (hb : p.g.bars.length ≤ 3000000) (hg : p.ground.length ≤ 3000000) : ∀ (fuel i : Nat) (l : List Int), i ≤ p.g.bars.length → p.g.bars.length < fuel + i → l.length ≤ i →
    ∃ l' : List Int, l'.length ≤ p.g.bars.length ∧ S_SafeBars_l1 N p (fun x => some x) fuel (l, (i : Int)) = some l' ∧ I_SafeBars_l1 N p (fun x => some x) fuel (l, (i : Int)) = some l' := by
  intro fuel
  induction fuel with
  | zero => intro i l h1 h2; omega
  | succ fuel ih =>
    intro i l h1 h2 h3
    rw [S_SafeBars_l1, I_SafeBars_l1]
    by_cases hi : i < p.g.bars.length
    · rw [cnd_dt (by omega), cnd_dt (by omega)]
      obtain ⟨b, g1, g2, _⟩ := safe_x (N := N) hN hb hg (i : Int)
      rw [g1, g2, Option.bind_some, Option.bind_some]
      cases b with
      | true =>
        rw [cnd_true, cnd_true, grd_pos (by omega), grd_R (by omega) (by omega), grd_pos (by omega), grd_R (by omega) (by omega), succ_cast]
        exact ih (i + 1) _ (by omega) (by omega) (by simp; omega)
      | false =>
        rw [cnd_false, cnd_false, grd_R (by omega) (by omega), grd_R (by omega) (by omega), succ_cast]
        exact ih (i + 1) _ (by omega) (by omega) (by omega)
    · rw [cnd_df (by omega), cnd_df (by omega)]
      exact ⟨l, by omega, rfl, rfl⟩
theorem safeBars_x (hN : 4000000 ≤ N) {p : Pin} (hb : p.g.bars.length ≤ 3000000) (hg : p.ground.length ≤ 3000000) : ∃ l : List Int, l.length ≤ p.g.bars.length ∧ S_SafeBars N p = some l ∧ I_SafeBars N p = some l :=
  safeBars1_s hN hb hg N 0 [] (by omega) (by omega) (by simp)
/-- the bars that are removed in the end -/
theorem removeAll1_s (hN : 4000000 ≤ N) {k : ((List Int) × (List (Int × Int)) × (List Int) × Int) → Option ((List Int) × Pin)} : ∀ (fuel i : Nat) (l : List Int) (q : Pin), q.g.bars.length ≤ 3000000 → q.ground.length ≤ 3000000 → i < fuel → i ≤ 3000000 → l.length + i ≤ 3000000 →
    ∃ (l' : List Int) (q' : Pin), l'.length ≤ l.length + i ∧ q'.g.bars.length ≤ q.g.bars.length ∧ q'.ground = q.ground ∧ S_RemoveAll_l1 N k fuel (l, q.g.bars, q.ground, (i : Int) - 1, q.g.n) = k (l', q'.g.bars, q'.ground, q'.g.n) ∧ I_RemoveAll_l1 N k fuel (l, q.g.bars, q.ground, (i : Int) - 1, q.g.n) = k (l', q'.g.bars, q'.ground, q'.g.n) := by
  intro fuel
  induction fuel with
  | zero => intro i l q _ _ h; omega
  | succ fuel ih =>
    intro i l q hb hg h1 h2 h3
    rw [S_RemoveAll_l1, I_RemoveAll_l1]
    by_cases hi : 0 < i
    · obtain ⟨j, rfl⟩ : ∃ j, i = j + 1 := ⟨i - 1, by omega⟩
      have ej : (((j + 1 : Nat) : Int) - 1) = (j : Int) := by omega
      rw [ej, cnd_dt (by omega), cnd_dt (by omega)]
      obtain ⟨b, g1, g2, g3⟩ := safe_x (N := N) hN (p := q) hb hg (j : Int)
      have eq0 : (⟨⟨q.g.n, q.g.bars⟩, q.ground⟩ : Pin) = q := rfl
      rw [eq0, g1, g2, Option.bind_some, Option.bind_some]
      cases b with
      | true =>
        obtain ⟨hp, h4, h5⟩ := g3 rfl
        rw [cnd_true, cnd_true, l27Less_s hN hp hb hg (by omega), withoutBar_s hb hg (by omega), Option.bind_some, Option.bind_some, grd_pos (by omega), grd_R (by omega) (by omega), grd_pos (by omega), grd_R (by omega) (by omega)]
        obtain ⟨l', q', k1, k2, k3, k4, k5⟩ := ih j (l ++ [(j : Int)]) (lessP q j) (lessP_bd hb) hg (by omega) (by omega) (by simp; omega)
        refine ⟨l', q', by simp at k1; omega, ?_, k3, k4, k5⟩
        have := lessL_len (l := q.g.bars) (k := j) (by omega)
        have e : (lessP q j).g.bars = lessL q.g.bars j := rfl
        rw [e] at k2; omega
      | false =>
        rw [cnd_false, cnd_false, grd_R (by omega) (by omega), grd_R (by omega) (by omega)]
        obtain ⟨l', q', k1, k2, k3, k4, k5⟩ := ih j l q hb hg (by omega) (by omega) (by omega)
        exact ⟨l', q', by omega, k2, k3, k4, k5⟩
    · obtain rfl : i = 0 := by omega
      rw [cnd_df (by omega), cnd_df (by omega)]
      exact ⟨l, q, by omega, Nat.le_refl _, rfl, rfl, rfl⟩
theorem removeAll_x (hN : 4000000 ≤ N) {p : Pin} (hb : p.g.bars.length ≤ 1048576) (hg : p.ground.length ≤ 1048576) : ∃ (l : List Int) (q : Pin), l.length ≤ p.g.bars.length ∧ q.g.bars.length ≤ p.g.bars.length ∧ q.ground = p.ground ∧ S_RemoveAll N p = some (l, q) ∧ I_RemoveAll N p = some (l, q) := by
  obtain ⟨l, q, k1, k2, k3, k4, k5⟩ := removeAll1_s (N := N) hN (k := fun (x : (List Int) × (List (Int × Int)) × (List Int) × Int) => match x with | (l17, l18, l19, c20) => some (l17, (⟨⟨c20, l18⟩, l19⟩ : Pin))) N p.g.bars.length [] p (by omega) (by omega) (by omega) (by omega) (by simp; omega)
  refine ⟨l, q, by simpa using k1, k2, k3, ?_, ?_⟩
  · unfold S_RemoveAll
    rw [l2Copy_s (by omega), Option.bind_some, grd_pos (by omega), grd_R (by omega) (by omega)]
    exact k4
  · unfold I_RemoveAll
    rw [copyPinned_s (by omega) (by omega), Option.bind_some, grd_R (by omega) (by omega)]
    exact k5
theorem leastKept1_s (hN : 4000000 ≤ N) {p : Pin} (hp : isPinned p = true) {v : List Int × Pin} (hv : v.1.length ≤ 3000000) (hb : p.g.bars.length ≤ 3000000) (hg : p.ground.length ≤ 3000000) : ∀ (fuel i : Nat) (l : List Int), i ≤ p.g.bars.length → p.g.bars.length < fuel + i → l.length ≤ i →
    ∃ l' : List Int, l'.length ≤ p.g.bars.length ∧ S_LeastKept_l1 N p v (fun x => some x) fuel (l, (i : Int)) = some l' ∧ I_LeastKept_l1 N p v (fun x => some x) fuel (l, (i : Int)) = some l' := by
  intro fuel
  induction fuel with
  | zero => intro i l h1 h2; omega
  | succ fuel ih =>
    intro i l h1 h2 h3
    rw [S_LeastKept_l1, I_LeastKept_l1]
    by_cases hi : i < p.g.bars.length
    · rw [cnd_dt (by omega), cnd_dt (by omega), isPinnedS_s N hN hb hg, hp, Option.bind_some, cnd_true, l2Has_s N hN hv, contains_s N hN hv, Option.bind_some, Option.bind_some]
      cases v.1.contains (i : Int) with
      | false =>
        rw [Bool.not_false, cnd_true, cnd_true, grd_pos (by omega), grd_R (by omega) (by omega), grd_pos (by omega), grd_R (by omega) (by omega), succ_cast]
        exact ih (i + 1) _ (by omega) (by omega) (by simp; omega)
      | true =>
        rw [Bool.not_true, cnd_false, cnd_false, grd_R (by omega) (by omega), grd_R (by omega) (by omega), succ_cast]
        exact ih (i + 1) _ (by omega) (by omega) (by omega)
    · rw [cnd_df (by omega), cnd_df (by omega)]
      exact ⟨l, by omega, rfl, rfl⟩
theorem leastKept_x (hN : 4000000 ≤ N) {p : Pin} (hb : p.g.bars.length ≤ 1048576) (hg : p.ground.length ≤ 1048576) : ∃ l : List Int, l.length ≤ p.g.bars.length ∧ S_LeastKept N p = some l ∧ I_LeastKept N p = some l := by
  obtain ⟨l, q, k1, k2, k3, k4, k5⟩ := removeAll_x (N := N) hN hb hg
  unfold S_LeastKept I_LeastKept
  rw [isPinnedI_s N hN (by omega) (by omega), k4, k5, Option.bind_some, Option.bind_some]
  cases hp : isPinned p with
  | false =>
    rw [Bool.not_false, cnd_true]
    obtain ⟨m, rfl⟩ : ∃ m, N = m + 1 := ⟨N - 1, by omega⟩
    refine ⟨[], by simp, ?_, rfl⟩
    rw [S_LeastKept_l1]
    by_cases h0 : 0 < p.g.bars.length
    · rw [cnd_dt (by omega), isPinnedS_s _ hN (by omega) (by omega), hp]; rfl
    · rw [cnd_df (by omega)]
  | true =>
    rw [Bool.not_true, cnd_false, Option.bind_some]
    exact leastKept1_s hN hp (v := (l, q)) (show l.length ≤ 3000000 by omega) (by omega) (by omega) N 0 [] (by omega) (by omega) (by simp)
theorem falls1_s (hN : 4000000 ≤ N) {a b : List Int} (ha : a.length ≤ 8) (hb : b.length ≤ 8) : ∀ (fuel i : Nat) (l : List Int), i ≤ b.length → b.length < fuel + i → l.length ≤ i →
    ∃ l' : List Int, l'.length ≤ 8 ∧ S_FallsWith_l1 N b a (fun x => some x) fuel (l, (i : Int)) = some l' ∧ I_FallsWith_l1 N a b (fun x => some x) fuel (l, (i : Int)) = some l' := by
  intro fuel
  induction fuel with
  | zero => intro i l h1 h2; omega
  | succ fuel ih =>
    intro i l h1 h2 h3
    rw [S_FallsWith_l1, I_FallsWith_l1]
    by_cases hi : i < b.length
    · have e2 : ((i : Int)).toNat = i := by omega
      have c1 := l2Has_s N hN (l := a) (by omega) (b.getD i 0)
      have c2 := contains_s N hN (l := a) (by omega) (b.getD i 0)
      simp (disch := omega) only [cnd_dt, grd_pos, grd_R, e2, c1, c2, Option.bind_some]
      cases a.contains (b.getD i 0) with
      | false =>
        rw [Bool.not_false, cnd_true, cnd_true, succ_cast]
        exact ih (i + 1) _ (by omega) (by omega) (by simp; omega)
      | true =>
        rw [Bool.not_true, cnd_false, cnd_false, succ_cast]
        exact ih (i + 1) _ (by omega) (by omega) (by omega)
    · rw [cnd_df (by omega), cnd_df (by omega)]
      exact ⟨l, by omega, rfl, rfl⟩
theorem falls_x (hN : 4000000 ≤ N) {p : Pin} (hb : p.g.bars.length ≤ 3000000) (hg : p.ground.length ≤ 3000000) (e : Int) : ∃ l : List Int, l.length ≤ 8 ∧ S_FallsWith N p e = some l ∧ I_FallsWith N p e = some l := by
  unfold S_FallsWith I_FallsWith
  rw [isPinnedS_s N hN hb hg, isPinnedI_s N hN hb hg, Option.bind_some, Option.bind_some]
  cases hp : isPinned p with
  | false => exact ⟨[], by simp, rfl, rfl⟩
  | true =>
    rw [Bool.not_true, cnd_false, cnd_false, grd_R (by omega) (by omega), within_s, Option.bind_some]
    by_cases h0 : 0 ≤ e
    · by_cases h1 : e < (p.g.bars.length : Int)
      · obtain ⟨k, rfl⟩ : ∃ k : Nat, e = (k : Int) := ⟨e.toNat, by omega⟩
        rw [cnd_df (by omega), cnd_df (by omega), inB_true.2 ⟨by omega, by omega⟩, Bool.not_true, cnd_false, l27Less_s hN hp hb hg (by omega), withoutBar_s hb hg (by omega), Option.bind_some]
        obtain ⟨a, a1, a2, a3⟩ := steady_x (N := N) hN (p := lessP p k) (lessP_bd hb) hg
        obtain ⟨b, b1, b2, b3⟩ := steady_x (N := N) hN hb hg
        rw [a3, b3, b2, Option.bind_some, Option.bind_some, Option.bind_some, Option.bind_some, a2, Option.bind_some]
        exact falls1_s hN a1 b1 N 0 [] (by omega) (by omega) (by simp)
      · refine ⟨[], by simp, by rw [cnd_df (by omega), cnd_dt (by omega)], ?_⟩
        have : inB e 0 ((p.g.bars.length : Int) - 1) = false := by
          cases hh : inB e 0 ((p.g.bars.length : Int) - 1) with
          | false => rfl
          | true => have := inB_true.1 hh; omega
        rw [this, Bool.not_false, cnd_true]
    · refine ⟨[], by simp, by rw [cnd_dt (by omega)], ?_⟩
      have : inB e 0 ((p.g.bars.length : Int) - 1) = false := by
        cases hh : inB e 0 ((p.g.bars.length : Int) - 1) with
        | false => rfl
        | true => have := inB_true.1 hh; omega
      rw [this, Bool.not_false, cnd_true]
theorem worst1_s (hN : 4000000 ≤ N) {p : Pin} (hb : p.g.bars.length ≤ 3000000) (hg : p.ground.length ≤ 3000000) : ∀ (fuel i : Nat) (w m : Int), i ≤ p.g.bars.length → p.g.bars.length < fuel + i →
    ∃ r : Int × Int, S_WorstBar_l1 N p (fun (x : Int × Int) => match x with | (a, b) => some (a, b)) fuel (w, m, (i : Int)) = some r ∧ I_WorstBar_l1 N p (fun (x : Int × Int) => match x with | (a, b) => some (a, b)) fuel (w, m, (i : Int)) = some r := by
  intro fuel
  induction fuel with
  | zero => intro i w m h1 h2; omega
  | succ fuel ih =>
    intro i w m h1 h2
    rw [S_WorstBar_l1, I_WorstBar_l1]
    by_cases hi : i < p.g.bars.length
    · rw [cnd_dt (by omega), cnd_dt (by omega)]
      obtain ⟨l, _, g1, g2⟩ := falls_x (N := N) hN hb hg (i : Int)
      rw [g1, g2, Option.bind_some, Option.bind_some]
      by_cases hm : (l.length : Int) > m
      · rw [cnd_dt hm, cnd_dt hm, grd_R (by omega) (by omega), grd_R (by omega) (by omega), succ_cast]
        exact ih (i + 1) _ _ (by omega) (by omega)
      · rw [cnd_df hm, cnd_df hm, grd_R (by omega) (by omega), grd_R (by omega) (by omega), succ_cast]
        exact ih (i + 1) _ _ (by omega) (by omega)
    · rw [cnd_df (by omega), cnd_df (by omega)]
      exact ⟨(w, m), rfl, rfl⟩
theorem worst_x (hN : 4000000 ≤ N) {p : Pin} (hb : p.g.bars.length ≤ 3000000) (hg : p.ground.length ≤ 3000000) : ∃ r : Int × Int, S_WorstBar N p = some r ∧ I_WorstBar N p = some r :=
  worst1_s hN hb hg N 0 (-1) 0 (by omega) (by omega)
end Go.Proofs.Ytkpmijmlbpdknaa

namespace Go.Proofs.Ytkpmijmlbpdknaa
open Go.RowKit
set_option linter.unusedVariables false
set_option linter.unusedSimpArgs false
def L_FnExactSafeToRemove (N : Nat) (aP_0 : Pin) (aBar_1 : Int) : Option (Bool) :=
  (L_szPinned N aP_0 (1048576 : Int)).bind fun v1 =>
  cnd (decide (v1 < (0 : Int))) (
    some true) (
    (L_toPinned N aP_0).bind fun v2 =>
    (S_SafeToRemove N v2 aBar_1).bind fun v3 =>
    (L_toPinned N aP_0).bind fun v4 =>
    (I_SafeToRemove N v4 aBar_1).bind fun v5 =>
    cnd (v5 != v3) (
      some false) (
      (L_toPinned N aP_0).bind fun v6 =>
      (L_eqPinned N v4 v6).bind fun v7 =>
      cnd (!v7) (
        some false) (
        some true)))
set_option maxRecDepth 20000 in
set_option maxHeartbeats 1600000 in
theorem L_FnExactSafeToRemove_w (N : Nat) (aP_0 : Pin) (aBar_1 : Int) (r : Bool) (h : L_FnExactSafeToRemove N aP_0 aBar_1 = some r) : PCall Try.prog 5 [pD aP_0, .int aBar_1] [] (.bool r) := by
  unfold L_FnExactSafeToRemove at h
  refine pcall_intro (TT := TT) tt Try.func5 rfl rfl Try.ntmps5 (congrArg Array.toList Try.results5) rfl rfl fun w0 => ?_
  refine vSeq ?_
  refine vRegion ?_
  refine oBox rfl rfl rfl rfl rfl rfl rfl rfl rfl ?_
  refine oVal tt rfl rfl rfl rfl rfl trivial ?_
  refine vNil ?_
  change VC _ _ _ _
  refine vSeq ?_
  refine vRegion ?_
  refine oVal tt rfl rfl rfl rfl rfl trivial ?_
  refine vNil ?_
  change VC _ _ _ _
  refine vSeq ?_
  refine vRegion ?_
  iterate 2 refine oVal tt rfl rfl rfl rfl rfl trivial ?_
  obtain ⟨v1, hc1, h⟩ := bind_inv h
  refine oCall (L_szPinned_w N aP_0 (1048576 : Int) v1 hc1) rfl rfl rfl rfl rfl rfl rfl rfl ⟨⟨rfl, rfl, rfl, trivial⟩, rfl, trivial⟩ ?_
  refine oVal tt rfl rfl rfl rfl rfl trivial ?_
  refine vNil ?_
  change VC _ _ _ _
  iterate 2 refine vSeq ?_
  refine vRegion ?_
  iterate 2 refine oVal tt rfl rfl rfl rfl rfl trivial ?_
  refine vNil ?_
  change VC _ _ _ _
  refine vCond rfl (fun hb2 => ?_) (fun hb2 => ?_)
  · replace h := cnd_t hb2 h
    refine vSeq ?_
    refine vRegion ?_
    refine oVal tt rfl rfl rfl rfl rfl trivial ?_
    refine vNil ?_
    change VC _ _ _ _
    refine vRet ?_
    change ∃ _, _
    cases h
    exact ⟨[], _, rfl, trivial, rfl, (.eq rfl), rfl⟩
  · replace h := cnd_f hb2 h
    refine vSkip ?_
    change VC _ _ _ _
    refine vSeq ?_
    refine vRegion ?_
    refine oVal tt rfl rfl rfl rfl rfl trivial ?_
    obtain ⟨v2, hc3, h⟩ := bind_inv h
    refine oCall (L_toPinned_w N aP_0 v2 hc3) rfl rfl rfl rfl rfl rfl rfl rfl ⟨⟨rfl, rfl, rfl, trivial⟩, trivial⟩ ?_
    refine oVal tt rfl rfl rfl rfl rfl trivial ?_
    obtain ⟨v3, hc4, h⟩ := bind_inv h
    refine oCall (S_SafeToRemove_w N v2 aBar_1 v3 hc4) rfl rfl rfl rfl rfl rfl rfl rfl ⟨⟨rfl, (.inl ⟨rfl, rfl⟩), (.inl ⟨rfl, rfl⟩), trivial⟩, rfl, trivial⟩ ?_
    refine oVal tt rfl rfl rfl rfl rfl trivial ?_
    refine vNil ?_
    change VC _ _ _ _
    refine vSeq ?_
    refine vRegion ?_
    refine oVal tt rfl rfl rfl rfl rfl trivial ?_
    obtain ⟨v4, hc5, h⟩ := bind_inv h
    refine oCall (L_toPinned_w N aP_0 v4 hc5) rfl rfl rfl rfl rfl rfl rfl rfl ⟨⟨rfl, rfl, rfl, trivial⟩, trivial⟩ ?_
    refine oAlloc tt rfl rfl rfl rfl rfl rfl rfl rfl rfl ?_
    refine oStore tt rfl rfl rfl rfl rfl rfl rfl rfl rfl rfl rfl ⟨trivial, trivial, trivial, trivial⟩ ?_
    refine vNil ?_
    change VC _ _ _ _
    refine vSeq ?_
    refine vRegion ?_
    iterate 2 refine oVal tt rfl rfl rfl rfl rfl trivial ?_
    obtain ⟨v5, hc6, h⟩ := bind_inv h
    refine oCall (I_SafeToRemove_w N v4 aBar_1 v5 hc6) rfl rfl rfl rfl rfl rfl rfl rfl ⟨⟨rfl, (.inl ⟨rfl, rfl⟩), (.inl ⟨rfl, rfl⟩), trivial⟩, rfl, trivial⟩ ?_
    refine oVal tt rfl rfl rfl rfl rfl trivial ?_
    refine vNil ?_
    change VC _ _ _ _
    iterate 2 refine vSeq ?_
    refine vRegion ?_
    iterate 2 refine oVal tt rfl rfl rfl rfl rfl trivial ?_
    refine oPure (wNone rfl) (pNeB Try.underlying4 rfl rfl rfl) rfl rfl ?_
    refine vNil ?_
    change VC _ _ _ _
    refine vCond rfl (fun hb7 => ?_) (fun hb7 => ?_)
    · replace h := cnd_t hb7 h
      refine vSeq ?_
      refine vRegion ?_
      refine oVal tt rfl rfl rfl rfl rfl trivial ?_
      refine vNil ?_
      change VC _ _ _ _
      refine vRet ?_
      change ∃ _, _
      cases h
      exact ⟨[], _, rfl, trivial, rfl, (.eq rfl), rfl⟩
    · replace h := cnd_f hb7 h
      refine vSkip ?_
      change VC _ _ _ _
      iterate 2 refine vSeq ?_
      refine vRegionN 3 [2] [0, 0, 2, 7, 15] (by kernel_rfl) (by kernel_rfl) (by kernel_rfl) (by kernel_rfl) (by kernel_rfl) rfl (by rfl) ?_
      iterate 2 refine nVal tt rfl (wNone rfl) rfl rfl rfl rfl rfl trivial ?_
      obtain ⟨v6, hc8, h⟩ := bind_inv h
      refine nCallR (L_toPinned_w N aP_0 v6 hc8) rfl (wNone rfl) rfl rfl rfl rfl rfl rfl (by first | rfl | kernel_rfl | (simp [nrL, nm, gdst, nmT, rowB]; done)) rfl (by first | rfl | kernel_rfl | (simp [chkE, nrL, nm, gdst, nmT, rowB, hid, ment, mentA, mentS]; done) | (simp [chkE, nrL, nm, gdst, nmT, rowB, hid, ment, mentA, mentS]; decide)) ⟨⟨rfl, rfl, rfl, trivial⟩, trivial⟩ ?_
      refine nNil ?_
      change VO _ _ _ _ _
      obtain ⟨v7, hc9, h⟩ := bind_inv h
      refine oCall (L_eqPinned_w N v4 v6 v7 hc9) rfl rfl rfl rfl rfl rfl rfl rfl ⟨⟨rfl, (.inl ⟨rfl, rfl⟩), (.inl ⟨rfl, rfl⟩), trivial⟩, ⟨rfl, (.inl ⟨rfl, rfl⟩), (.inl ⟨rfl, rfl⟩), trivial⟩, trivial⟩ ?_
      refine oVal tt rfl rfl rfl rfl rfl trivial ?_
      refine vNil ?_
      change VC _ _ _ _
      refine vCond rfl (fun hb10 => ?_) (fun hb10 => ?_)
      · replace h := cnd_t hb10 h
        refine vSeq ?_
        refine vRegion ?_
        refine oVal tt rfl rfl rfl rfl rfl trivial ?_
        refine vNil ?_
        change VC _ _ _ _
        refine vRet ?_
        change ∃ _, _
        cases h
        exact ⟨[], _, rfl, trivial, rfl, (.eq rfl), rfl⟩
      · replace h := cnd_f hb10 h
        refine vSkip ?_
        change VC _ _ _ _
        refine vSeq ?_
        refine vRegion ?_
        refine oVal tt rfl rfl rfl rfl rfl trivial ?_
        refine vNil ?_
        change VC _ _ _ _
        refine vRet ?_
        change ∃ _, _
        cases h
        exact ⟨[], _, rfl, trivial, rfl, (.eq rfl), rfl⟩
end Go.Proofs.Ytkpmijmlbpdknaa

namespace Go.Proofs.Ytkpmijmlbpdknaa
open Go.RowKit
set_option linter.unusedVariables false
set_option linter.unusedSimpArgs false
def L_FnExactSafeBars (N : Nat) (aP_0 : Pin) : Option (Bool) :=
  (L_szPinned N aP_0 (1048576 : Int)).bind fun v1 =>
  cnd (decide (v1 < (0 : Int))) (
    some true) (
    (L_toPinned N aP_0).bind fun v2 =>
    (S_SafeBars N v2).bind fun v3 =>
    (L_toPinned N aP_0).bind fun v4 =>
    (I_SafeBars N v4).bind fun v5 =>
    (L_eqIntS N v5 v3).bind fun v6 =>
    cnd (!v6) (
      some false) (
      (L_toPinned N aP_0).bind fun v7 =>
      (L_eqPinned N v4 v7).bind fun v8 =>
      cnd (!v8) (
        some false) (
        (L_markPinned N (⟨⟨v4.g.n, v4.g.bars⟩, v4.ground⟩ : Pin) (1 : Int)).bind fun v9 =>
        cnd (decide (v9.1 < (0 : Int))) (
          some false) (
          (L_eqIntS N v5 v3).bind fun v10 =>
          cnd (!v10) (
            some false) (
            (L_markIntS N v5 (1 : Int)).bind fun v11 =>
            grd (v5.length = v11.2.length) <|
            (L_heldIntS N v11.2 (1 : Int)).bind fun v12 =>
            cnd (decide (v12 < (0 : Int))) (
              some false) (
              cnd (v12 != v11.1) (
                some false) (
                (L_toPinned N aP_0).bind fun v13 =>
                (I_SafeBars N v13).bind fun v14 =>
                (L_eqIntS N v14 v3).bind fun v15 =>
                cnd (!v15) (
                  some false) (
                  (L_heldIntS N v11.2 (1 : Int)).bind fun v16 =>
                  cnd (decide (v16 < (0 : Int))) (
                    some false) (
                    cnd (v16 != v11.1) (
                      some false) (
                      some true))))))))))
set_option maxRecDepth 20000 in
set_option maxHeartbeats 1600000 in
theorem L_FnExactSafeBars_w (N : Nat) (aP_0 : Pin) (r : Bool) (h : L_FnExactSafeBars N aP_0 = some r) : PCall Try.prog 7 [pD aP_0] [] (.bool r) := by
  unfold L_FnExactSafeBars at h
  refine pcall_intro (TT := TT) tt Try.func7 rfl rfl Try.ntmps7 (congrArg Array.toList Try.results7) rfl rfl fun w0 => ?_
  refine vSeq ?_
  refine vRegion ?_
  refine oBox rfl rfl rfl rfl rfl rfl rfl rfl rfl ?_
  refine oVal tt rfl rfl rfl rfl rfl trivial ?_
  refine vNil ?_
  change VC _ _ _ _
  refine vSeq ?_
  refine vRegion ?_
  refine oVal tt rfl rfl rfl rfl rfl trivial ?_
  refine vNil ?_
  change VC _ _ _ _
  refine vSeq ?_
  refine vRegion ?_
  iterate 2 refine oVal tt rfl rfl rfl rfl rfl trivial ?_
  obtain ⟨v1, hc1, h⟩ := bind_inv h
  refine oCall (L_szPinned_w N aP_0 (1048576 : Int) v1 hc1) rfl rfl rfl rfl rfl rfl rfl rfl ⟨⟨rfl, rfl, rfl, trivial⟩, rfl, trivial⟩ ?_
  refine oVal tt rfl rfl rfl rfl rfl trivial ?_
  refine vNil ?_
  change VC _ _ _ _
  iterate 2 refine vSeq ?_
  refine vRegion ?_
  iterate 2 refine oVal tt rfl rfl rfl rfl rfl trivial ?_
  refine vNil ?_
  change VC _ _ _ _
  refine vCond rfl (fun hb2 => ?_) (fun hb2 => ?_)
  · replace h := cnd_t hb2 h
    refine vSeq ?_
    refine vRegion ?_
    refine oVal tt rfl rfl rfl rfl rfl trivial ?_
    refine vNil ?_
    change VC _ _ _ _
    refine vRet ?_
    change ∃ _, _
    cases h
    exact ⟨[], _, rfl, trivial, rfl, (.eq rfl), rfl⟩
  · replace h := cnd_f hb2 h
    refine vSkip ?_
    change VC _ _ _ _
    refine vSeq ?_
    refine vRegion ?_
    refine oVal tt rfl rfl rfl rfl rfl trivial ?_
    obtain ⟨v2, hc3, h⟩ := bind_inv h
    refine oCall (L_toPinned_w N aP_0 v2 hc3) rfl rfl rfl rfl rfl rfl rfl rfl ⟨⟨rfl, rfl, rfl, trivial⟩, trivial⟩ ?_
    obtain ⟨v3, hc4, h⟩ := bind_inv h
    refine oCall (S_SafeBars_w N v2 v3 hc4) rfl rfl rfl rfl rfl rfl rfl rfl ⟨⟨rfl, (.inl ⟨rfl, rfl⟩), (.inl ⟨rfl, rfl⟩), trivial⟩, trivial⟩ ?_
    refine oVal tt rfl rfl rfl rfl rfl trivial ?_
    refine vNil ?_
    change VC _ _ _ _
    refine vSeq ?_
    refine vRegion ?_
    refine oVal tt rfl rfl rfl rfl rfl trivial ?_
    obtain ⟨v4, hc5, h⟩ := bind_inv h
    refine oCall (L_toPinned_w N aP_0 v4 hc5) rfl rfl rfl rfl rfl rfl rfl rfl ⟨⟨rfl, rfl, rfl, trivial⟩, trivial⟩ ?_
    refine oAlloc tt rfl rfl rfl rfl rfl rfl rfl rfl rfl ?_
    refine oStore tt rfl rfl rfl rfl rfl rfl rfl rfl rfl rfl rfl ⟨trivial, trivial, trivial, trivial⟩ ?_
    refine vNil ?_
    change VC _ _ _ _
    refine vSeq ?_
    refine vRegion ?_
    refine oVal tt rfl rfl rfl rfl rfl trivial ?_
    obtain ⟨v5, hc6, h⟩ := bind_inv h
    refine oCall (I_SafeBars_w N v4 v5 hc6) rfl rfl rfl rfl rfl rfl rfl rfl ⟨⟨rfl, (.inl ⟨rfl, rfl⟩), (.inl ⟨rfl, rfl⟩), trivial⟩, trivial⟩ ?_
    refine oVal tt rfl rfl rfl rfl rfl trivial ?_
    refine vNil ?_
    change VC _ _ _ _
    iterate 2 refine vSeq ?_
    refine vRegion ?_
    iterate 2 refine oVal tt rfl rfl rfl rfl rfl trivial ?_
    obtain ⟨v6, hc7, h⟩ := bind_inv h
    refine oCall (L_eqIntS_w N v5 v3 v6 hc7) rfl rfl rfl rfl rfl rfl rfl rfl ⟨(.inl ⟨rfl, rfl⟩), (.inl ⟨rfl, rfl⟩), trivial⟩ ?_
    refine oVal tt rfl rfl rfl rfl rfl trivial ?_
    refine vNil ?_
    change VC _ _ _ _
    refine vCond rfl (fun hb8 => ?_) (fun hb8 => ?_)
    · replace h := cnd_t hb8 h
      refine vSeq ?_
      refine vRegion ?_
      refine oVal tt rfl rfl rfl rfl rfl trivial ?_
      refine vNil ?_
      change VC _ _ _ _
      refine vRet ?_
      change ∃ _, _
      cases h
      exact ⟨[], _, rfl, trivial, rfl, (.eq rfl), rfl⟩
    · replace h := cnd_f hb8 h
      refine vSkip ?_
      change VC _ _ _ _
      iterate 2 refine vSeq ?_
      refine vRegionN 3 [2] [0, 0, 2, 7, 15] (by kernel_rfl) (by kernel_rfl) (by kernel_rfl) (by kernel_rfl) (by kernel_rfl) rfl (by rfl) ?_
      iterate 2 refine nVal tt rfl (wNone rfl) rfl rfl rfl rfl rfl trivial ?_
      obtain ⟨v7, hc9, h⟩ := bind_inv h
      refine nCallR (L_toPinned_w N aP_0 v7 hc9) rfl (wNone rfl) rfl rfl rfl rfl rfl rfl (by first | rfl | kernel_rfl | (simp [nrL, nm, gdst, nmT, rowB]; done)) rfl (by first | rfl | kernel_rfl | (simp [chkE, nrL, nm, gdst, nmT, rowB, hid, ment, mentA, mentS]; done) | (simp [chkE, nrL, nm, gdst, nmT, rowB, hid, ment, mentA, mentS]; decide)) ⟨⟨rfl, rfl, rfl, trivial⟩, trivial⟩ ?_
      refine nNil ?_
      change VO _ _ _ _ _
      obtain ⟨v8, hc10, h⟩ := bind_inv h
      refine oCall (L_eqPinned_w N v4 v7 v8 hc10) rfl rfl rfl rfl rfl rfl rfl rfl ⟨⟨rfl, (.inl ⟨rfl, rfl⟩), (.inl ⟨rfl, rfl⟩), trivial⟩, ⟨rfl, (.inl ⟨rfl, rfl⟩), (.inl ⟨rfl, rfl⟩), trivial⟩, trivial⟩ ?_
      refine oVal tt rfl rfl rfl rfl rfl trivial ?_
      refine vNil ?_
      change VC _ _ _ _
      refine vCond rfl (fun hb11 => ?_) (fun hb11 => ?_)
      · replace h := cnd_t hb11 h
        refine vSeq ?_
        refine vRegion ?_
        refine oVal tt rfl rfl rfl rfl rfl trivial ?_
        refine vNil ?_
        change VC _ _ _ _
        refine vRet ?_
        change ∃ _, _
        cases h
        exact ⟨[], _, rfl, trivial, rfl, (.eq rfl), rfl⟩
      · replace h := cnd_f hb11 h
        refine vSkip ?_
        change VC _ _ _ _
        refine vSeq ?_
        refine vRegion ?_
        refine oVal tt rfl rfl rfl rfl rfl trivial ?_
        refine vNil ?_
        change VC _ _ _ _
        refine vSeq ?_
        refine vRegion ?_
        iterate 2 refine oVal tt rfl rfl rfl rfl rfl trivial ?_
        obtain ⟨v9, hc12, h⟩ := bind_inv h
        refine oMCall (L_markPinned_w N (⟨⟨v4.g.n, v4.g.bars⟩, v4.ground⟩ : Pin) (1 : Int) v9 hc12) [1200, 1201] [] [1200, 1201] rfl rfl rfl rfl rfl rfl ⟨rfl, rfl, trivial⟩ trivial ⟨⟨⟨rfl, rfl⟩, ⟨rfl, rfl⟩, ⟨rfl, rfl⟩, trivial⟩, ⟨rfl, rfl⟩, trivial⟩ ?_
        refine oVal tt rfl rfl rfl rfl rfl trivial ?_
        refine vNil ?_
        change VC _ _ _ _
        iterate 2 refine vSeq ?_
        refine vRegion ?_
        iterate 3 refine oVal tt rfl rfl rfl rfl rfl trivial ?_
        refine oSplit rfl rfl rfl (fun hb13 => ?_) (fun hb13 => ?_)
        · replace h := cnd_t hb13 h
          iterate 4 refine oNoF rfl rfl rfl rfl hb13 rfl rfl ?_
          refine oPick rfl rfl rfl rfl rfl hb13 rfl ?_
          refine vNil ?_
          change VC _ _ _ _
          refine vCondT rfl rfl ?_
          refine vSeq ?_
          refine vRegion ?_
          refine oVal tt rfl rfl rfl rfl rfl trivial ?_
          refine vNil ?_
          change VC _ _ _ _
          refine vRet ?_
          change ∃ _, _
          cases h
          exact ⟨[], _, rfl, trivial, rfl, (.eq rfl), rfl⟩
        · replace h := cnd_f hb13 h
          iterate 2 refine oValG tt rfl rfl rfl rfl rfl hb13 rfl rfl rfl trivial ?_
          obtain ⟨v10, hc14, h⟩ := bind_inv h
          refine oCallG (L_eqIntS_w N v5 v3 v10 hc14) rfl rfl rfl rfl hb13 rfl rfl rfl rfl rfl rfl rfl ⟨(.inl ⟨rfl, rfl⟩), (.inl ⟨rfl, rfl⟩), trivial⟩ ?_
          refine oValG tt rfl rfl rfl rfl rfl hb13 rfl rfl rfl trivial ?_
          refine oPickF rfl rfl rfl rfl rfl hb13 rfl ?_
          refine vNil ?_
          change VC _ _ _ _
          refine vCond rfl (fun hb15 => ?_) (fun hb15 => ?_)
          · replace h := cnd_t hb15 h
            refine vSeq ?_
            refine vRegion ?_
            refine oVal tt rfl rfl rfl rfl rfl trivial ?_
            refine vNil ?_
            change VC _ _ _ _
            refine vRet ?_
            change ∃ _, _
            cases h
            exact ⟨[], _, rfl, trivial, rfl, (.eq rfl), rfl⟩
          · replace h := cnd_f hb15 h
            refine vSkip ?_
            change VC _ _ _ _
            refine vSeq ?_
            refine vRegion ?_
            refine oVal tt rfl rfl rfl rfl rfl trivial ?_
            refine vNil ?_
            change VC _ _ _ _
            refine vSeq ?_
            refine vRegion ?_
            iterate 2 refine oVal tt rfl rfl rfl rfl rfl trivial ?_
            obtain ⟨v11, hc16, h⟩ := bind_inv h
            refine oMCall (L_markIntS_w N v5 (1 : Int) v11 hc16) [1220] [] [1220] rfl rfl rfl rfl rfl rfl ⟨rfl, trivial⟩ trivial ⟨⟨rfl, rfl⟩, ⟨rfl, rfl⟩, trivial⟩ ?_
            refine oVal tt rfl rfl rfl rfl rfl trivial ?_
            refine vNil ?_
            change VC _ _ _ _
            refine vSeq ?_
            refine vRegion ?_
            refine oVal tt rfl rfl rfl rfl rfl trivial ?_
            refine vNil ?_
            change VC _ _ _ _
            refine vSeq ?_
            refine vRegion ?_
            iterate 2 refine oVal tt rfl rfl rfl rfl rfl trivial ?_
            obtain ⟨hg17, h⟩ := grd_inv h
            obtain ⟨v12, hc18, h⟩ := bind_inv h
            refine oCall (L_heldIntS_w N v11.2 (1 : Int) v12 hc18) rfl rfl rfl rfl rfl rfl rfl rfl ⟨(.inl ⟨hg17, rfl⟩), rfl, trivial⟩ ?_
            refine oVal tt rfl rfl rfl rfl rfl trivial ?_
            refine vNil ?_
            change VC _ _ _ _
            iterate 2 refine vSeq ?_
            refine vRegion ?_
            iterate 2 refine oVal tt rfl rfl rfl rfl rfl trivial ?_
            refine vNil ?_
            change VC _ _ _ _
            refine vCond rfl (fun hb19 => ?_) (fun hb19 => ?_)
            · replace h := cnd_t hb19 h
              refine vSeq ?_
              refine vRegion ?_
              refine oVal tt rfl rfl rfl rfl rfl trivial ?_
              refine vNil ?_
              change VC _ _ _ _
              refine vRet ?_
              change ∃ _, _
              cases h
              exact ⟨[], _, rfl, trivial, rfl, (.eq rfl), rfl⟩
            · replace h := cnd_f hb19 h
              refine vSkip ?_
              change VC _ _ _ _
              iterate 2 refine vSeq ?_
              refine vRegion ?_
              iterate 3 refine oVal tt rfl rfl rfl rfl rfl trivial ?_
              refine vNil ?_
              change VC _ _ _ _
              refine vCond rfl (fun hb20 => ?_) (fun hb20 => ?_)
              · replace h := cnd_t hb20 h
                refine vSeq ?_
                refine vRegion ?_
                refine oVal tt rfl rfl rfl rfl rfl trivial ?_
                refine vNil ?_
                change VC _ _ _ _
                refine vRet ?_
                change ∃ _, _
                cases h
                exact ⟨[], _, rfl, trivial, rfl, (.eq rfl), rfl⟩
              · replace h := cnd_f hb20 h
                refine vSkip ?_
                change VC _ _ _ _
                refine vSeq ?_
                refine vRegion ?_
                refine oVal tt rfl rfl rfl rfl rfl trivial ?_
                obtain ⟨v13, hc21, h⟩ := bind_inv h
                refine oCall (L_toPinned_w N aP_0 v13 hc21) rfl rfl rfl rfl rfl rfl rfl rfl ⟨⟨rfl, rfl, rfl, trivial⟩, trivial⟩ ?_
                obtain ⟨v14, hc22, h⟩ := bind_inv h
                refine oCall (I_SafeBars_w N v13 v14 hc22) rfl rfl rfl rfl rfl rfl rfl rfl ⟨⟨rfl, (.inl ⟨rfl, rfl⟩), (.inl ⟨rfl, rfl⟩), trivial⟩, trivial⟩ ?_
                refine oVal tt rfl rfl rfl rfl rfl trivial ?_
                refine vNil ?_
                change VC _ _ _ _
                iterate 2 refine vSeq ?_
                refine vRegion ?_
                iterate 2 refine oVal tt rfl rfl rfl rfl rfl trivial ?_
                obtain ⟨v15, hc23, h⟩ := bind_inv h
                refine oCall (L_eqIntS_w N v14 v3 v15 hc23) rfl rfl rfl rfl rfl rfl rfl rfl ⟨(.inl ⟨rfl, rfl⟩), (.inl ⟨rfl, rfl⟩), trivial⟩ ?_
                refine oVal tt rfl rfl rfl rfl rfl trivial ?_
                refine vNil ?_
                change VC _ _ _ _
                refine vCond rfl (fun hb24 => ?_) (fun hb24 => ?_)
                · replace h := cnd_t hb24 h
                  refine vSeq ?_
                  refine vRegion ?_
                  refine oVal tt rfl rfl rfl rfl rfl trivial ?_
                  refine vNil ?_
                  change VC _ _ _ _
                  refine vRet ?_
                  change ∃ _, _
                  cases h
                  exact ⟨[], _, rfl, trivial, rfl, (.eq rfl), rfl⟩
                · replace h := cnd_f hb24 h
                  refine vSkip ?_
                  change VC _ _ _ _
                  refine vSeq ?_
                  refine vRegion ?_
                  refine oVal tt rfl rfl rfl rfl rfl trivial ?_
                  refine vNil ?_
                  change VC _ _ _ _
                  refine vSeq ?_
                  refine vRegion ?_
                  iterate 2 refine oVal tt rfl rfl rfl rfl rfl trivial ?_
                  obtain ⟨v16, hc25, h⟩ := bind_inv h
                  refine oCall (L_heldIntS_w N v11.2 (1 : Int) v16 hc25) rfl rfl rfl rfl rfl rfl rfl rfl ⟨(.inl ⟨hg17, rfl⟩), rfl, trivial⟩ ?_
                  refine oVal tt rfl rfl rfl rfl rfl trivial ?_
                  refine vNil ?_
                  change VC _ _ _ _
                  iterate 2 refine vSeq ?_
                  refine vRegion ?_
                  iterate 2 refine oVal tt rfl rfl rfl rfl rfl trivial ?_
                  refine vNil ?_
                  change VC _ _ _ _
                  refine vCond rfl (fun hb26 => ?_) (fun hb26 => ?_)
                  · replace h := cnd_t hb26 h
                    refine vSeq ?_
                    refine vRegion ?_
                    refine oVal tt rfl rfl rfl rfl rfl trivial ?_
                    refine vNil ?_
                    change VC _ _ _ _
                    refine vRet ?_
                    change ∃ _, _
                    cases h
                    exact ⟨[], _, rfl, trivial, rfl, (.eq rfl), rfl⟩
                  · replace h := cnd_f hb26 h
                    refine vSkip ?_
                    change VC _ _ _ _
                    iterate 2 refine vSeq ?_
                    refine vRegion ?_
                    iterate 3 refine oVal tt rfl rfl rfl rfl rfl trivial ?_
                    refine vNil ?_
                    change VC _ _ _ _
                    refine vCond rfl (fun hb27 => ?_) (fun hb27 => ?_)
                    · replace h := cnd_t hb27 h
                      refine vSeq ?_
                      refine vRegion ?_
                      refine oVal tt rfl rfl rfl rfl rfl trivial ?_
                      refine vNil ?_
                      change VC _ _ _ _
                      refine vRet ?_
                      change ∃ _, _
                      cases h
                      exact ⟨[], _, rfl, trivial, rfl, (.eq rfl), rfl⟩
                    · replace h := cnd_f hb27 h
                      refine vSkip ?_
                      change VC _ _ _ _
                      refine vSeq ?_
                      refine vRegion ?_
                      refine oVal tt rfl rfl rfl rfl rfl trivial ?_
                      refine vNil ?_
                      change VC _ _ _ _
                      refine vRet ?_
                      change ∃ _, _
                      cases h
                      exact ⟨[], _, rfl, trivial, rfl, (.eq rfl), rfl⟩
end Go.Proofs.Ytkpmijmlbpdknaa

namespace Go.Proofs.Ytkpmijmlbpdknaa
open Go.RowKit
set_option linter.unusedVariables false
set_option linter.unusedSimpArgs false
def L_FnExactWorstBar (N : Nat) (aP_0 : Pin) : Option (Bool) :=
  (L_szPinned N aP_0 (1048576 : Int)).bind fun v1 =>
  cnd (decide (v1 < (0 : Int))) (
    some true) (
    (L_toPinned N aP_0).bind fun v2 =>
    (S_WorstBar N v2).bind fun v3 =>
    (L_toPinned N aP_0).bind fun v4 =>
    (I_WorstBar N v4).bind fun v5 =>
    cnd (v5.1 != v3.1) (
      some false) (
      cnd (v5.2 != v3.2) (
        some false) (
        (L_toPinned N aP_0).bind fun v6 =>
        (L_eqPinned N v4 v6).bind fun v7 =>
        cnd (!v7) (
          some false) (
          some true))))
set_option maxRecDepth 20000 in
set_option maxHeartbeats 1600000 in
theorem L_FnExactWorstBar_w (N : Nat) (aP_0 : Pin) (r : Bool) (h : L_FnExactWorstBar N aP_0 = some r) : PCall Try.prog 8 [pD aP_0] [] (.bool r) := by
  unfold L_FnExactWorstBar at h
  refine pcall_intro (TT := TT) tt Try.func8 rfl rfl Try.ntmps8 (congrArg Array.toList Try.results8) rfl rfl fun w0 => ?_
  refine vSeq ?_
  refine vRegion ?_
  refine oBox rfl rfl rfl rfl rfl rfl rfl rfl rfl ?_
  refine oVal tt rfl rfl rfl rfl rfl trivial ?_
  refine vNil ?_
  change VC _ _ _ _
  refine vSeq ?_
  refine vRegion ?_
  refine oVal tt rfl rfl rfl rfl rfl trivial ?_
  refine vNil ?_
  change VC _ _ _ _
  refine vSeq ?_
  refine vRegion ?_
  iterate 2 refine oVal tt rfl rfl rfl rfl rfl trivial ?_
  obtain ⟨v1, hc1, h⟩ := bind_inv h
  refine oCall (L_szPinned_w N aP_0 (1048576 : Int) v1 hc1) rfl rfl rfl rfl rfl rfl rfl rfl ⟨⟨rfl, rfl, rfl, trivial⟩, rfl, trivial⟩ ?_
  refine oVal tt rfl rfl rfl rfl rfl trivial ?_
  refine vNil ?_
  change VC _ _ _ _
  iterate 2 refine vSeq ?_
  refine vRegion ?_
  iterate 2 refine oVal tt rfl rfl rfl rfl rfl trivial ?_
  refine vNil ?_
  change VC _ _ _ _
  refine vCond rfl (fun hb2 => ?_) (fun hb2 => ?_)
  · replace h := cnd_t hb2 h
    refine vSeq ?_
    refine vRegion ?_
    refine oVal tt rfl rfl rfl rfl rfl trivial ?_
    refine vNil ?_
    change VC _ _ _ _
    refine vRet ?_
    change ∃ _, _
    cases h
    exact ⟨[], _, rfl, trivial, rfl, (.eq rfl), rfl⟩
  · replace h := cnd_f hb2 h
    refine vSkip ?_
    change VC _ _ _ _
    refine vSeq ?_
    refine vRegion ?_
    refine oVal tt rfl rfl rfl rfl rfl trivial ?_
    obtain ⟨v2, hc3, h⟩ := bind_inv h
    refine oCall (L_toPinned_w N aP_0 v2 hc3) rfl rfl rfl rfl rfl rfl rfl rfl ⟨⟨rfl, rfl, rfl, trivial⟩, trivial⟩ ?_
    obtain ⟨v3, hc4, h⟩ := bind_inv h
    refine oCall (S_WorstBar_w N v2 v3 hc4) rfl rfl rfl rfl rfl rfl rfl rfl ⟨⟨rfl, (.inl ⟨rfl, rfl⟩), (.inl ⟨rfl, rfl⟩), trivial⟩, trivial⟩ ?_
    iterate 5 refine oVal tt rfl rfl rfl rfl rfl trivial ?_
    refine vNil ?_
    change VC _ _ _ _
    refine vSeq ?_
    refine vRegion ?_
    refine oVal tt rfl rfl rfl rfl rfl trivial ?_
    obtain ⟨v4, hc5, h⟩ := bind_inv h
    refine oCall (L_toPinned_w N aP_0 v4 hc5) rfl rfl rfl rfl rfl rfl rfl rfl ⟨⟨rfl, rfl, rfl, trivial⟩, trivial⟩ ?_
    refine oAlloc tt rfl rfl rfl rfl rfl rfl rfl rfl rfl ?_
    refine oStore tt rfl rfl rfl rfl rfl rfl rfl rfl rfl rfl rfl ⟨trivial, trivial, trivial, trivial⟩ ?_
    refine vNil ?_
    change VC _ _ _ _
    refine vSeq ?_
    refine vRegion ?_
    refine oVal tt rfl rfl rfl rfl rfl trivial ?_
    obtain ⟨v5, hc6, h⟩ := bind_inv h
    refine oCall (I_WorstBar_w N v4 v5 hc6) rfl rfl rfl rfl rfl rfl rfl rfl ⟨⟨rfl, (.inl ⟨rfl, rfl⟩), (.inl ⟨rfl, rfl⟩), trivial⟩, trivial⟩ ?_
    iterate 5 refine oVal tt rfl rfl rfl rfl rfl trivial ?_
    refine vNil ?_
    change VC _ _ _ _
    iterate 2 refine vSeq ?_
    refine vRegion ?_
    iterate 4 refine oVal tt rfl rfl rfl rfl rfl trivial ?_
    refine oSplit rfl rfl rfl (fun hb7 => ?_) (fun hb7 => ?_)
    · replace h := cnd_t hb7 h
      iterate 3 refine oNoF rfl rfl rfl rfl hb7 rfl rfl ?_
      refine oPick rfl rfl rfl rfl rfl hb7 rfl ?_
      refine vNil ?_
      change VC _ _ _ _
      refine vCondT rfl rfl ?_
      refine vSeq ?_
      refine vRegion ?_
      refine oVal tt rfl rfl rfl rfl rfl trivial ?_
      refine vNil ?_
      change VC _ _ _ _
      refine vRet ?_
      change ∃ _, _
      cases h
      exact ⟨[], _, rfl, trivial, rfl, (.eq rfl), rfl⟩
    · replace h := cnd_f hb7 h
      iterate 3 refine oValG tt rfl rfl rfl rfl rfl hb7 rfl rfl rfl trivial ?_
      refine oPickF rfl rfl rfl rfl rfl hb7 rfl ?_
      refine vNil ?_
      change VC _ _ _ _
      refine vCond rfl (fun hb8 => ?_) (fun hb8 => ?_)
      · replace h := cnd_t hb8 h
        refine vSeq ?_
        refine vRegion ?_
        refine oVal tt rfl rfl rfl rfl rfl trivial ?_
        refine vNil ?_
        change VC _ _ _ _
        refine vRet ?_
        change ∃ _, _
        cases h
        exact ⟨[], _, rfl, trivial, rfl, (.eq rfl), rfl⟩
      · replace h := cnd_f hb8 h
        refine vSkip ?_
        change VC _ _ _ _
        iterate 2 refine vSeq ?_
        refine vRegionN 3 [2] [0, 0, 2, 7, 15] (by kernel_rfl) (by kernel_rfl) (by kernel_rfl) (by kernel_rfl) (by kernel_rfl) rfl (by rfl) ?_
        iterate 2 refine nVal tt rfl (wNone rfl) rfl rfl rfl rfl rfl trivial ?_
        obtain ⟨v6, hc9, h⟩ := bind_inv h
        refine nCallR (L_toPinned_w N aP_0 v6 hc9) rfl (wNone rfl) rfl rfl rfl rfl rfl rfl (by first | rfl | kernel_rfl | (simp [nrL, nm, gdst, nmT, rowB]; done)) rfl (by first | rfl | kernel_rfl | (simp [chkE, nrL, nm, gdst, nmT, rowB, hid, ment, mentA, mentS]; done) | (simp [chkE, nrL, nm, gdst, nmT, rowB, hid, ment, mentA, mentS]; decide)) ⟨⟨rfl, rfl, rfl, trivial⟩, trivial⟩ ?_
        refine nNil ?_
        change VO _ _ _ _ _
        obtain ⟨v7, hc10, h⟩ := bind_inv h
        refine oCall (L_eqPinned_w N v4 v6 v7 hc10) rfl rfl rfl rfl rfl rfl rfl rfl ⟨⟨rfl, (.inl ⟨rfl, rfl⟩), (.inl ⟨rfl, rfl⟩), trivial⟩, ⟨rfl, (.inl ⟨rfl, rfl⟩), (.inl ⟨rfl, rfl⟩), trivial⟩, trivial⟩ ?_
        refine oVal tt rfl rfl rfl rfl rfl trivial ?_
        refine vNil ?_
        change VC _ _ _ _
        refine vCond rfl (fun hb11 => ?_) (fun hb11 => ?_)
        · replace h := cnd_t hb11 h
          refine vSeq ?_
          refine vRegion ?_
          refine oVal tt rfl rfl rfl rfl rfl trivial ?_
          refine vNil ?_
          change VC _ _ _ _
          refine vRet ?_
          change ∃ _, _
          cases h
          exact ⟨[], _, rfl, trivial, rfl, (.eq rfl), rfl⟩
        · replace h := cnd_f hb11 h
          refine vSkip ?_
          change VC _ _ _ _
          refine vSeq ?_
          refine vRegion ?_
          refine oVal tt rfl rfl rfl rfl rfl trivial ?_
          refine vNil ?_
          change VC _ _ _ _
          refine vRet ?_
          change ∃ _, _
          cases h
          exact ⟨[], _, rfl, trivial, rfl, (.eq rfl), rfl⟩
end Go.Proofs.Ytkpmijmlbpdknaa
