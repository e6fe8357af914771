/- Both ranks of a pinned framework are alike: the ranks. -/
import Derived.Test.YtkpmijmlbpdknaaPs
import Derived.Test.YtkpmijmlbpdknaaG30
import Derived.Test.YtkpmijmlbpdknaaG35
import Derived.Test.YtkpmijmlbpdknaaG36
namespace Go.Proofs.Ytkpmijmlbpdknaa
set_option linter.unusedVariables false
set_option linter.unusedSimpArgs false
variable {n : Nat} {N : Nat}
/-- the held bars of the program: all pairs of the ground -/
def HeldI (G : List Int) (L : List (Int × Int)) : Prop := ∀ e, e ∈ L ↔ ∃ i j : Nat, i < j ∧ j < G.length ∧ e = (G.getD i 0, G.getD j 0)
theorem heldI_s (hN : 4000000 ≤ N) {p : Pin} {m : Int} (hl : p.ground.length ≤ 27) (ha : asc m p.ground = true) : ∃ L, M_Pinned_held N p = some L ∧ L.length ≤ 800 ∧ HeldI p.ground L := by
  have key2 : ∀ {kk : List (Int × Int) → Option (List (Int × Int))} (i : Nat) (hi : i < p.ground.length) (fuel x : Nat) (L : List (Int × Int)), i + 1 + x ≤ p.ground.length → p.ground.length < fuel + x → L.length ≤ 28 * i + x → (∀ e, e ∈ L ↔ ∃ i' j : Nat, i' < j ∧ j < p.ground.length ∧ (i' < i ∨ i' = i ∧ j < i + 1 + x) ∧ e = (p.ground.getD i' 0, p.ground.getD j 0)) →
      ∃ L', M_Pinned_held_l2 N p (i : Int) kk fuel (L, (x : Int)) = kk L' ∧ L'.length ≤ 28 * (i + 1) ∧ ∀ e, e ∈ L' ↔ ∃ i' j : Nat, i' < j ∧ j < p.ground.length ∧ i' < i + 1 ∧ e = (p.ground.getD i' 0, p.ground.getD j 0) := by
    intro kk i hi fuel
    induction fuel with
    | zero => intro x L h1 h2; omega
    | succ fuel ih =>
      intro x L h1 h2 h3 h4
      rw [M_Pinned_held_l2]
      have e1 : (((i : Int) + 1)).toNat = i + 1 := by omega
      have e2 : ((p.ground.take p.ground.length).drop (i + 1)).length = p.ground.length - (i + 1) := by simp
      by_cases hx : i + 1 + x < p.ground.length
      · have e3 : ((p.ground.take p.ground.length).drop (i + 1)).getD x 0 = p.ground.getD (i + 1 + x) 0 := by simp [List.getD_eq_getElem?_getD]
        have hlt := asc_lt ha (i + 1 + x) i (by omega) hx
        have eb : I_bar N (p.ground.getD i 0) (p.ground.getD (i + 1 + x) 0) = some (p.ground.getD i 0, p.ground.getD (i + 1 + x) 0) := by
          unfold I_bar
          rw [Int.min_eq_left (by omega), Int.max_eq_right (by omega)]
        obtain ⟨L', k1, k2⟩ := ih (x + 1) (L ++ [(p.ground.getD i 0, p.ground.getD (i + 1 + x) 0)]) (by omega) (by omega) (by simp; omega) fun e => by
          rw [List.mem_append, h4 e, List.mem_singleton]
          constructor
          · rintro (⟨i', j, g1, g2, g3, g4⟩ | h)
            · exact ⟨i', j, g1, g2, by omega, g4⟩
            · exact ⟨i, i + 1 + x, by omega, hx, by omega, h⟩
          · rintro ⟨i', j, g1, g2, g3, g4⟩
            by_cases hc : i' < i ∨ i' = i ∧ j < i + 1 + x
            · exact .inl ⟨i', j, g1, g2, hc, g4⟩
            · right
              have h1 : i' = i := by omega
              have h2 : j = i + 1 + x := by omega
              rw [g4, h1, h2]
        refine ⟨L', ?_, k2⟩
        simp (disch := omega) only [Int.toNat_natCast, tk0, List.length_cons, List.length_nil, grd_pos, grd_T, grd_R, cnd_dt, cnd_df, cnd_true, cnd_false, Option.bind_some, e1, e2, e3, eb, succ_cast]
        exact k1
      · refine ⟨L, ?_, by omega, fun e => ?_⟩
        · simp (disch := omega) only [Int.toNat_natCast, tk0, List.length_cons, List.length_nil, grd_pos, grd_T, grd_R, cnd_dt, cnd_df, cnd_true, cnd_false, Option.bind_some, e1, e2]
        · rw [h4 e]
          constructor
          · rintro ⟨i', j, g1, g2, g3, g4⟩
            exact ⟨i', j, g1, g2, by omega, g4⟩
          · rintro ⟨i', j, g1, g2, g3, g4⟩
            exact ⟨i', j, g1, g2, by omega, g4⟩
  have key1 : ∀ {kk : List (Int × Int) → Option (List (Int × Int))} (fuel i : Nat) (L : List (Int × Int)), i ≤ p.ground.length → p.ground.length < fuel + i → L.length ≤ 28 * i → (∀ e, e ∈ L ↔ ∃ i' j : Nat, i' < j ∧ j < p.ground.length ∧ i' < i ∧ e = (p.ground.getD i' 0, p.ground.getD j 0)) →
      ∃ L', M_Pinned_held_l1 N p kk fuel (L, (i : Int)) = kk L' ∧ L'.length ≤ 800 ∧ HeldI p.ground L' := by
    intro kk fuel
    induction fuel with
    | zero => intro i L h1 h2; omega
    | succ fuel ih =>
      intro i L h1 h2 h3 h4
      rw [M_Pinned_held_l1]
      by_cases hi : i < p.ground.length
      · obtain ⟨L1, a1, a2, a3⟩ := key2 (kk := fun l100 => M_Pinned_held_l1 N p kk fuel (l100, ((i : Int) + (1 : Int)))) i hi N 0 L (by omega) (by omega) (by omega) fun e => by
          rw [h4 e]
          constructor
          · rintro ⟨i', j, g1, g2, g3, g4⟩
            exact ⟨i', j, g1, g2, by omega, g4⟩
          · rintro ⟨i', j, g1, g2, g3, g4⟩
            exact ⟨i', j, g1, g2, by omega, g4⟩
        rw [show ((0 : Nat) : Int) = 0 from rfl] at a1
        obtain ⟨L', k1, k2⟩ := ih (i + 1) L1 (by omega) (by omega) (by omega) a3
        refine ⟨L', ?_, k2⟩
        rw [cnd_dt (by omega), grd_pos (by omega), grd_R (by omega) (by omega), grd_pos (by omega)]
        refine a1.trans ?_
        rw [← k1, succ_cast]
      · have e : i = p.ground.length := by omega
        subst e
        refine ⟨L, ?_, by omega, fun e => ?_⟩
        · simp (disch := omega) only [Int.toNat_natCast, tk0, List.length_cons, List.length_nil, grd_pos, grd_T, grd_R, cnd_dt, cnd_df, cnd_true, cnd_false, Option.bind_some]
        · rw [h4 e]
          constructor
          · rintro ⟨i', j, g1, g2, g3, g4⟩
            exact ⟨i', j, g1, g2, g4⟩
          · rintro ⟨i', j, g1, g2, g4⟩
            exact ⟨i', j, g1, g2, by omega, g4⟩
  obtain ⟨L, k1, k2⟩ := key1 (kk := fun x => some x) N 0 [] (by omega) (by omega) (by simp) (fun e => by
    constructor
    · intro h; simp at h
    · rintro ⟨i', j, g1, g2, g3, g4⟩; omega)
  rw [show ((0 : Nat) : Int) = 0 from rfl] at k1
  exact ⟨L, k1, k2⟩

theorem spr_len {I : List (Int × Int)} (h : Spr n I) : I.length ≤ 2 * n := by
  have h1 : spn (fun _ => true) I = I.length := by simp [spn, inX]
  have h2 : vsz n (fun _ => true) = n := by simp [vsz]
  by_cases h0 : 0 < spn (fun _ => true) I
  · have := h _ h0
    rw [h1, h2] at this
    omega
  · omega
/-- bases of the two lists are as long -/
theorem two_ranks {G : List Int} {LH LS LI bars I J : List (Int × Int)} (hG : ∀ i, i < G.length → 0 ≤ G.getD i 0 ∧ G.getD i 0 < n) (hlt : ∀ j i : Nat, i < j → j < G.length → G.getD i 0 < G.getD j 0) (hS : HeldS G LH G.length) (hI : HeldI G LI)
    (hb : ∀ e ∈ bars, Bok n e) (hLS : ∀ e, e ∈ LS ↔ e ∈ LH ∨ e ∈ bars) (h1 : Bas n LS I) (h2 : Bas n (LI ++ bars) J) : I.length = J.length := by
  have pok : ∀ i j : Nat, i < j → j < G.length → Bok n (G.getD i 0, G.getD j 0) := fun i j g1 g2 => by
    have a := hG i (by omega)
    have b := hG j g2
    have c := hlt j i g1 g2
    exact ⟨a.1, a.2, b.1, b.2, by simp only; omega⟩
  have okI : ∀ e ∈ I, Bok n e := fun e he => by
    rcases (hLS e).1 (h1.mem e he) with h | h
    · obtain ⟨i, j, g1, g2, rfl⟩ := hS.mem e h; exact pok i j g1 g2
    · exact hb e h
  have okJ : ∀ e ∈ J, Bok n e := fun e he => by
    rcases List.mem_append.1 (h2.mem e he) with h | h
    · obtain ⟨i, j, g1, g2, rfl⟩ := (hI e).1 h; exact pok i j g1 g2
    · exact hb e h
  have le1 : I.length ≤ J.length := spr_le h2.spr h1.spr okJ fun e he => h2.spn e (List.mem_append.2 (by
    rcases (hLS e).1 (h1.mem e he) with h | h
    · exact .inl ((hI e).2 (hS.mem e h))
    · exact .inr h))
  have le2 : J.length ≤ I.length := by
    refine spr_le h1.spr h2.spr okI fun e he => ?_
    rcases List.mem_append.1 (h2.mem e he) with h | h
    · obtain ⟨i, j, g1, g2, rfl⟩ := (hI e).1 h
      have s0 : ∀ k, 1 ≤ k → k < G.length → ∃ X, Tgt n I X ∧ inX X (G.getD 0 0, G.getD k 0) = true := fun k a b => h1.spn _ ((hLS _).2 (.inl (hS.h0 k a b)))
      have s1 : ∀ k, 2 ≤ k → k < G.length → ∃ X, Tgt n I X ∧ inX X (G.getD 1 0, G.getD k 0) = true := fun k a b => h1.spn _ ((hLS _).2 (.inl (hS.h1 k a b)))
      have t : ∀ k, 2 ≤ k → k < G.length → ∃ W, Tgt n I W ∧ W (G.getD 0 0) = true ∧ W (G.getD 1 0) = true ∧ W (G.getD k 0) = true := by
        intro k a b
        obtain ⟨A, a1, a2⟩ := s0 1 (by omega) (by omega)
        obtain ⟨B, b1, b2⟩ := s0 k (by omega) b
        obtain ⟨C, c1, c2⟩ := s1 k a b
        simp only [inX, Bool.and_eq_true] at a2 b2 c2
        have l1 := hlt 1 0 (by omega) (by omega)
        have l2 := hlt k 0 (by omega) b
        have l3 := hlt k 1 (by omega) b
        exact tri h1.spr okI a1 b1 c1 (hG 0 (by omega)) (hG 1 (by omega)) (hG k b) (by omega) (by omega) (by omega) a2.1 a2.2 b2.1 b2.2 c2.1 c2.2
      by_cases e0 : i = 0
      · subst e0; exact s0 j (by omega) g2
      by_cases e1 : i = 1
      · subst e1; exact s1 j (by omega) g2
      obtain ⟨V, v1, v2, v3, v4⟩ := t i (by omega) (by omega)
      obtain ⟨W, w1, w2, w3, w4⟩ := t j (by omega) g2
      have l1 := hlt 1 0 (by omega) (by omega)
      refine ⟨vU V W, v1.union h1.spr w1 (countP_two (hG 0 (by omega)) (hG 1 (by omega)) (by omega) (by simp only [vI, v2, w2, Bool.and_self]) (by simp only [vI, v3, w3, Bool.and_self])), ?_⟩
      simp only [inX, vU, v4, w4, Bool.true_or, Bool.or_true, Bool.and_self]
    · exact h1.spn e ((hLS e).2 (.inr h))
  omega
theorem pin_ranks (hN : 4000000 ≤ N) {p : Pin} (hp : isPinned p = true) : ∃ (r s : Nat) (hS : Grf) (aS : Grf) (hI : List (Int × Int)), S_l20All N p = some aS ∧ S_l20Held N p = some hS ∧ S_l6Rank N aS = some (r : Int) ∧ S_l6Rank N hS = some (s : Int) ∧
    M_Pinned_held N p = some hI ∧ hI.length ≤ 800 ∧ I_planeRank N p.g.n (hI ++ p.g.bars) = some (r : Int) ∧ I_planeRank N p.g.n hI = some (s : Int) ∧ r ≤ 1000 ∧ s ≤ 1000 := by
  obtain ⟨p1, p2, p3, p4, p5, p6, p7⟩ := isPinned_parts hp
  obtain ⟨hn1, hn2, hbl⟩ := isPinned_n p1
  obtain ⟨n, hn⟩ := Int.eq_ofNat_of_zero_le (show 0 ≤ p.g.n by omega)
  obtain ⟨LH, LS, a1, a2, a3, a4, a5, a6, _⟩ := allS_s (N := N) hN (p := p) (by omega) (by omega)
  obtain ⟨LI, b1, b2, b3⟩ := heldI_s (N := N) hN (p := p) (by omega) p6
  have hG : ∀ i, i < p.ground.length → 0 ≤ p.ground.getD i 0 ∧ p.ground.getD i 0 < n := fun i hi => by
    have := asc_in p6 (getD_mem (d := 0) hi)
    omega
  have hlt := asc_lt p6
  have hb : ∀ e ∈ p.g.bars, Bok n e := fun e he => by
    have := isGraph_bar p1 he
    exact ⟨by omega, by omega, by omega, by omega, by omega⟩
  have pok : ∀ i j : Nat, i < j → j < p.ground.length → Bok n (p.ground.getD i 0, p.ground.getD j 0) := fun i j g1 g2 => by
    have a := hG i (by omega)
    have b := hG j g2
    have c := hlt j i g1 g2
    exact ⟨a.1, a.2, b.1, b.2, by simp only; omega⟩
  have okLH : ∀ e ∈ LH, Bok n e := fun e he => by
    obtain ⟨i, j, g1, g2, rfl⟩ := a3.mem e he; exact pok i j g1 g2
  have okLI : ∀ e ∈ LI, Bok n e := fun e he => by
    obtain ⟨i, j, g1, g2, rfl⟩ := (b3 e).1 he; exact pok i j g1 g2
  obtain ⟨I1, c1, c2⟩ := rank_s (N := N) hN (g := ⟨p.g.n, LS⟩) (n := n) hn (by omega) (fun e he => by
    rcases (a6 e).1 he with h | h
    · exact okLH e h
    · exact hb e h) (by simp only; omega)
  obtain ⟨I2, d1, d2⟩ := rank_s (N := N) hN (g := ⟨p.g.n, LH⟩) (n := n) hn (by omega) okLH (by simp only; omega)
  obtain ⟨J1, e1, e2⟩ := planeRank_s (N := N) hN (n := n) (by omega) (bars := LI ++ p.g.bars) (fun e he => by
    rcases List.mem_append.1 he with h | h
    · exact okLI e h
    · exact hb e h) (by simp; omega)
  obtain ⟨J2, f1, f2⟩ := planeRank_s (N := N) hN (n := n) (by omega) (bars := LI) okLI (by omega)
  have q1 := two_ranks hG hlt a3 b3 hb a6 c1 e1
  have q2 := two_ranks (bars := []) hG hlt a3 b3 (by simp) (by simp) d1 (by simpa using f1)
  refine ⟨I1.length, I2.length, _, _, LI, a4, a1, c2, d2, b1, b2, ?_, ?_, ?_, ?_⟩
  · rw [hn, e2, q1]
  · rw [hn, f2, q2]
  · have := spr_len c1.spr
    omega
  · have := spr_len d1.spr
    omega
/-- the rank, the same from both sides -/
theorem pinnedRank_x (hN : 4000000 ≤ N) {p : Pin} (hb : p.g.bars.length ≤ 3000000) (hg : p.ground.length ≤ 3000000) : ∃ r : Int, S_PinnedRank N p = some r ∧ I_PinnedRank N p = some r ∧ -1001 ≤ r ∧ r ≤ 1001 := by
  cases hp : isPinned p with
  | false =>
    refine ⟨-1, ?_, ?_, by omega, by omega⟩
    · unfold S_PinnedRank
      simp (disch := omega) only [Int.toNat_natCast, tk0, List.length_cons, List.length_nil, grd_pos, grd_T, grd_R, cnd_dt, cnd_df, cnd_true, cnd_false, Option.bind_some, isPinnedS_s N hN hb hg, hp, Bool.not_false]
    · unfold I_PinnedRank
      simp (disch := omega) only [Int.toNat_natCast, tk0, List.length_cons, List.length_nil, grd_pos, grd_T, grd_R, cnd_dt, cnd_df, cnd_true, cnd_false, Option.bind_some, isPinnedI_s N hN hb hg, hp, Bool.not_false]
  | true =>
    obtain ⟨r, s, hS, aS, hI, h1, h2, h3, h4, h5, h6, h7, h8, h9, h10⟩ := pin_ranks hN hp
    obtain ⟨b1, b2, b3, b4⟩ := isPinned_bd hp
    refine ⟨(r : Int) - s, ?_, ?_, by omega, by omega⟩
    · unfold S_PinnedRank
      simp (disch := omega) only [Int.toNat_natCast, tk0, List.length_cons, List.length_nil, grd_pos, grd_T, grd_R, cnd_dt, cnd_df, cnd_true, cnd_false, Option.bind_some, isPinnedS_s N hN hb hg, hp, Bool.not_true, h1, h2, h3, h4]
    · unfold I_PinnedRank
      simp (disch := omega) only [Int.toNat_natCast, tk0, List.length_cons, List.length_nil, grd_pos, grd_T, grd_R, cnd_dt, cnd_df, cnd_true, cnd_false, Option.bind_some, isPinnedI_s N hN hb hg, hp, Bool.not_true, h5, h7, h8]
theorem pinnedFreedom_x (hN : 4000000 ≤ N) {p : Pin} (hb : p.g.bars.length ≤ 3000000) (hg : p.ground.length ≤ 3000000) : ∃ r : Int, S_PinnedFreedom N p = some r ∧ I_PinnedFreedom N p = some r := by
  obtain ⟨r, h1, h2, h3, h4⟩ := pinnedRank_x (N := N) hN hb hg
  cases hp : isPinned p with
  | false =>
    refine ⟨-1, ?_, ?_⟩
    · unfold S_PinnedFreedom
      simp (disch := omega) only [Int.toNat_natCast, tk0, List.length_cons, List.length_nil, grd_pos, grd_T, grd_R, cnd_dt, cnd_df, cnd_true, cnd_false, Option.bind_some, isPinnedS_s N hN hb hg, hp, Bool.not_false]
    · unfold I_PinnedFreedom
      simp (disch := omega) only [Int.toNat_natCast, tk0, List.length_cons, List.length_nil, grd_pos, grd_T, grd_R, cnd_dt, cnd_df, cnd_true, cnd_false, Option.bind_some, isPinnedI_s N hN hb hg, hp, Bool.not_false]
  | true =>
    obtain ⟨b1, b2, b3, b4⟩ := isPinned_bd hp
    have hl : (innerPts p).length ≤ 8 := by
      unfold innerPts
      rw [hp, cnd_true, inner_outside]
      have := outside_len p.ground p.g.n.toNat
      omega
    refine ⟨2 * ((innerPts p).length : Int) - r, ?_, ?_⟩
    · unfold S_PinnedFreedom
      simp (disch := omega) only [Int.toNat_natCast, tk0, List.length_cons, List.length_nil, grd_pos, grd_T, grd_R, cnd_dt, cnd_df, cnd_true, cnd_false, Option.bind_some, isPinnedS_s N hN hb hg, hp, Bool.not_true, innerS_s N hN hb hg, h1]
    · unfold I_PinnedFreedom
      simp (disch := omega) only [Int.toNat_natCast, tk0, List.length_cons, List.length_nil, grd_pos, grd_T, grd_R, cnd_dt, cnd_df, cnd_true, cnd_false, Option.bind_some, isPinnedI_s N hN hb hg, hp, Bool.not_true, innerI_s N hN hb hg, h2]
theorem repairCost_x (hN : 4000000 ≤ N) {p : Pin} (hb : p.g.bars.length ≤ 3000000) (hg : p.ground.length ≤ 3000000) : ∃ r : Int, S_RepairCost N p = some r ∧ I_RepairCost N p = some r := by
  obtain ⟨r, h1, h2⟩ := pinnedFreedom_x (N := N) hN hb hg
  exact ⟨r, by unfold S_RepairCost; rw [h1]; rfl, by unfold I_RepairCost; rw [h2]; rfl⟩
end Go.Proofs.Ytkpmijmlbpdknaa
