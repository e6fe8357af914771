/- Texts without a program, put together by merge.py: Px Py Pz Qa Qb. -/
import Derived.Test.YtkpmijmlbpdknaaPv
import Derived.Test.YtkpmijmlbpdknaaG30
import Derived.Test.YtkpmijmlbpdknaaG34
import Derived.Test.YtkpmijmlbpdknaaG35
import Derived.Test.YtkpmijmlbpdknaaG40
import Derived.Test.YtkpmijmlbpdknaaG41
/-! ## Px -/
namespace Go.Proofs.Ytkpmijmlbpdknaa
set_option linter.unusedVariables false
set_option linter.unusedSimpArgs false
variable {n : Nat} {N : Nat}
theorem srt_graph {g : Grf} (h1 : inB g.n 1 8 = true) (h2 : g.bars.length ≤ 24) (h3 : Srt g.bars) (h4 : ∀ e ∈ g.bars, barOkB g.n e = true) : isGraph g = true := by
  refine isGraph_true h1 h2 fun i hi => ?_
  unfold barAt
  rw [h4 _ (getD_mem hi)]
  by_cases h0 : i = 0
  · simp [h0]
  · have := List.pairwise_iff_getElem.1 h3 (i - 1) i (by omega) hi (by omega)
    have e1 : g.bars.getD (i - 1) (0, 0) = g.bars[i - 1] := by rw [List.getD_eq_getElem?_getD, List.getElem?_eq_getElem (by omega)]; rfl
    have e2 : g.bars.getD i (0, 0) = g.bars[i] := by rw [List.getD_eq_getElem?_getD, List.getElem?_eq_getElem hi]; rfl
    rw [e1, e2, this]; simp
/-- a bar that raises the rank: no tight set of a basis spans it -/
theorem raises_s (hN : 4000000 ≤ N) (hn : n ≤ 1000) {bars : List (Int × Int)} (hb : ∀ e ∈ bars, Bok n e) (hl : bars.length ≤ 900) {e : Int × Int} (he : Bok n e) {I : List (Int × Int)} (hI : Bas n bars I) : ∃ b : Bool, I_raises N n bars e = some b ∧ (b = false ↔ Tied n I e) := by
  obtain ⟨I1, a1, a2⟩ := planeRank_s (N := N) hN hn hb (by omega)
  obtain ⟨J, c1, c2⟩ := planeRank_s (N := N) hN hn (bars := bars ++ [e]) (fun x hx => by
    rcases List.mem_append.1 hx with hx | hx
    · exact hb x hx
    · simp at hx; subst hx; exact he) (by simp; omega)
  have q := bas_len hb (fun _ => Iff.rfl) hI a1
  have hm : ∀ x, x ∈ bars ++ [e] ↔ x = e ∨ x ∈ bars := fun x => by simp; exact Or.comm
  have r := rank_iff hb he hm hI c1
  refine ⟨decide ((J.length : Int) > I1.length), ?_, ?_⟩
  · unfold I_raises
    simp (disch := omega) only [Int.toNat_natCast, tk0, List.length_cons, List.length_nil, grd_pos, grd_T, grd_R, cnd_dt, cnd_df, cnd_true, cnd_false, Option.bind_some, List.nil_append]
    rw [show ((e.1, e.2) : Int × Int) = e from rfl, c2, a2]
    rfl
  · constructor
    · intro h
      have h' := of_decide_eq_false h
      by_cases ht : Tied n I e
      · exact ht
      · have := rank_free hb he hm hI c1 ht
        omega
    · intro ht
      have := r.2 ht
      exact decide_eq_false (by omega)
theorem implied_s (hN : 4000000 ≤ N) {g : Grf} (hg : isGraph g = true) (hn : g.n = n) {a b : Int} (ha : 0 ≤ a ∧ a < n) (hb : 0 ≤ b ∧ b < n) {I : List (Int × Int)} (hI : Bas n g.bars I) : ∃ r : Bool, S_IsImplied N g a b = some r ∧ (r = true ↔ a = b ∨ Tied n I (min a b, max a b)) := by
  obtain ⟨⟨q1, q2⟩, q3, _⟩ := isGraph_parts hg
  have hbk : ∀ e ∈ g.bars, Bok n e := fun e he => by
    have := isGraph_bar hg he
    exact ⟨by omega, by omega, by omega, by omega, by omega⟩
  obtain ⟨L, p1, p2, p3, _⟩ := put_s (N := N) hN (g := g) (by omega) (min a b, max a b)
  by_cases e : a = b
  · refine ⟨true, ?_, by simp [e]⟩
    unfold S_IsImplied
    simp (disch := omega) only [Int.toNat_natCast, tk0, List.length_cons, List.length_nil, grd_pos, grd_T, grd_R, cnd_dt, cnd_df, cnd_true, cnd_false, Option.bind_some, isGraphS_s N hN, hg, Bool.not_true, hn, p1, cnd_eqt e]
  · have he : Bok n (min a b, max a b) := ⟨by simp only; omega, by simp only; omega, by simp only; omega, by simp only; omega, by simp only; omega⟩
    obtain ⟨J, c1, c2⟩ := rank_s (N := N) hN (g := ⟨g.n, L⟩) hn (by omega) (fun x hx => by
      rcases (p3 x).1 hx with rfl | hx
      · exact he
      · exact hbk x hx) (by simp only; omega)
    obtain ⟨I1, d1, d2⟩ := rank_s (N := N) hN (g := g) hn (by omega) hbk (by omega)
    have q := bas_len hbk (fun _ => Iff.rfl) hI d1
    have r := rank_iff hbk he p3 hI c1
    refine ⟨(J.length : Int) == (I1.length : Int), ?_, ?_⟩
    · unfold S_IsImplied
      rw [isGraphS_s N hN, hg, Option.bind_some, Bool.not_true, cnd_false, cnd_df (by omega), cnd_df (by omega), cnd_df (by omega), cnd_df (by omega), p1, Option.bind_some, cnd_eqf e, c2, d2]
      rfl
    · rw [beq_iff_eq]
      constructor
      · intro h; exact .inr (r.1 (by omega))
      · rintro (h | h)
        · exact absurd h e
        · have := r.2 h; omega
end Go.Proofs.Ytkpmijmlbpdknaa

/-! ## Py -/
namespace Go.Proofs.Ytkpmijmlbpdknaa
set_option linter.unusedVariables false
set_option linter.unusedSimpArgs false
variable {n : Nat}
theorem Tied.mm {I : List (Int × Int)} {a b : Int} : Tied n I (min a b, max a b) ↔ Tied n I (a, b) := by
  by_cases h : a ≤ b
  · rw [Int.min_eq_left h, Int.max_eq_right h]
  · rw [Int.min_eq_right (by omega), Int.max_eq_left (by omega)]
    exact ⟨Tied.swap, Tied.swap⟩
theorem steady_iff {G : List Int} {LH I : List (Int × Int)} (hl : 2 ≤ G.length) (hG : ∀ i, i < G.length → 0 ≤ G.getD i 0 ∧ G.getD i 0 < n) (hlt : ∀ j i : Nat, i < j → j < G.length → G.getD i 0 < G.getD j 0) (hS : HeldS G LH G.length) (hI : Spr n I) (ok : ∀ e ∈ I, Bok n e) (hH : ∀ e ∈ LH, Tied n I e) {v : Int} (hv : 0 ≤ v ∧ v < n) :
    ((G.getD 0 0 = v ∨ Tied n I (G.getD 0 0, v)) ∧ (G.getD 1 0 = v ∨ Tied n I (G.getD 1 0, v))) ↔ ∀ i, i < G.length → G.getD i 0 ≠ v → Tied n I (G.getD i 0, v) := by
  constructor
  · rintro ⟨h0, h1⟩ i hi hne
    by_cases e0 : i = 0
    · subst e0; exact h0.resolve_left hne
    by_cases e1 : i = 1
    · subst e1; exact h1.resolve_left hne
    have t0 := hH _ (hS.h0 i (by omega) hi)
    have t1 := hH _ (hS.h1 i (by omega) hi)
    have t := hH _ (hS.h0 1 (by omega) (by omega))
    have l0 := hlt i 0 (by omega) hi
    have l1 := hlt i 1 (by omega) hi
    have l := hlt 1 0 (by omega) (by omega)
    rcases h0 with h0 | h0
    · rw [← h0]; exact t0.swap
    rcases h1 with h1 | h1
    · rw [← h1]; exact t1.swap
    by_cases n0 : G.getD 0 0 = v
    · rw [← n0]; exact t0.swap
    by_cases n1 : G.getD 1 0 = v
    · rw [← n1]; exact t1.swap
    exact Tied.via hI ok (hG 0 (by omega)) (hG 1 (by omega)) (hG i hi) hv (by omega) (by omega) (by omega) n0 n1 t t0 t1 h0 h1
  · intro h
    refine ⟨?_, ?_⟩
    · by_cases e : G.getD 0 0 = v
      · exact .inl e
      · exact .inr (h 0 (by omega) e)
    · by_cases e : G.getD 1 0 = v
      · exact .inl e
      · exact .inr (h 1 (by omega) e)
end Go.Proofs.Ytkpmijmlbpdknaa

/-! ## Pz -/
namespace Go.Proofs.Ytkpmijmlbpdknaa
set_option linter.unusedVariables false
set_option linter.unusedSimpArgs false
variable {n : Nat} {N : Nat}
/-- the inner loop of the program: all of the ground from i on are tied -/
theorem steadyI2_s (hN : 4000000 ≤ N) (hn : n ≤ 8) {p : Pin} {hd J : List (Int × Int)} (hpn : p.g.n = n) (hl : p.ground.length ≤ 27) (hG : ∀ i, i < p.ground.length → 0 ≤ p.ground.getD i 0 ∧ p.ground.getD i 0 < n) (hb : ∀ e ∈ hd ++ p.g.bars, Bok n e) (hlen : (hd ++ p.g.bars).length ≤ 900) (hJ : Bas n (hd ++ p.g.bars) J) {v : Int} (hv : 0 ≤ v ∧ v < n) {kk : Bool → Option (List Int)} :
    ∀ (fuel i : Nat) (s : Bool), i ≤ p.ground.length → p.ground.length < fuel + i → ∃ b : Bool, I_SteadyPoints_l2 N p hd v kk fuel (s, (i : Int)) = kk b ∧ (b = true ↔ s = true ∧ ∀ j, i ≤ j → j < p.ground.length → p.ground.getD j 0 ≠ v → Tied n J (p.ground.getD j 0, v)) := by
  intro fuel
  induction fuel with
  | zero => intro i s h1 h2; omega
  | succ fuel ih =>
    intro i s h1 h2
    rw [I_SteadyPoints_l2]
    by_cases hi : i < p.ground.length
    · have split : ∀ P : Nat → Prop, (∀ j, i ≤ j → j < p.ground.length → P j) ↔ P i ∧ ∀ j, i + 1 ≤ j → j < p.ground.length → P j := fun P =>
        ⟨fun h => ⟨h i (by omega) hi, fun j a b => h j (by omega) b⟩, fun h j a b => by
          by_cases e : j = i
          · subst e; exact h.1
          · exact h.2 j (by omega) b⟩
      cases s with
      | false =>
        obtain ⟨b, k1, k2⟩ := ih (i + 1) false (by omega) (by omega)
        refine ⟨b, ?_, by rw [k2]; simp⟩
        simp (disch := omega) only [Int.toNat_natCast, tk0, List.length_cons, List.length_nil, grd_pos, grd_T, grd_R, cnd_dt, cnd_df, cnd_true, cnd_false, Option.bind_some, succ_cast]
        exact k1
      | true =>
        by_cases e : p.ground.getD i 0 = v
        · obtain ⟨b, k1, k2⟩ := ih (i + 1) true (by omega) (by omega)
          refine ⟨b, ?_, ?_⟩
          · simp (disch := omega) only [Int.toNat_natCast, tk0, List.length_cons, List.length_nil, grd_pos, grd_T, grd_R, cnd_dt, cnd_df, cnd_true, cnd_false, Option.bind_some, cnd_eqt e, succ_cast]
            exact k1
          · rw [k2, split]
            exact ⟨fun h => ⟨rfl, fun hc => absurd e hc, h.2⟩, fun h => ⟨rfl, h.2.2⟩⟩
        · have g := hG i hi
          have he : Bok n (min (p.ground.getD i 0) v, max (p.ground.getD i 0) v) := ⟨by simp only; omega, by simp only; omega, by simp only; omega, by simp only; omega, by simp only; omega⟩
          obtain ⟨b0, r1, r2⟩ := raises_s (N := N) hN (by omega) hb hlen he hJ
          obtain ⟨b, k1, k2⟩ := ih (i + 1) (!b0) (by omega) (by omega)
          refine ⟨b, ?_, ?_⟩
          · have eb : I_bar N (p.ground.getD i 0) v = some (min (p.ground.getD i 0) v, max (p.ground.getD i 0) v) := rfl
            simp (disch := omega) only [Int.toNat_natCast, tk0, List.length_cons, List.length_nil, grd_pos, grd_T, grd_R, cnd_dt, cnd_df, cnd_true, cnd_false, Option.bind_some, cnd_eqf e, eb, hpn, r1, succ_cast]
            exact k1
          · rw [k2, split]
            have ht : b0 = false ↔ Tied n J (p.ground.getD i 0, v) := r2.trans Tied.mm
            constructor
            · rintro ⟨h1, h2⟩
              refine ⟨rfl, fun _ => ht.1 ?_, h2⟩
              cases b0 with
              | false => rfl
              | true => cases h1
            · rintro ⟨_, h1, h2⟩
              have := ht.2 (h1 e)
              subst this
              exact ⟨rfl, h2⟩
    · refine ⟨s, ?_, ?_⟩
      · simp (disch := omega) only [Int.toNat_natCast, tk0, List.length_cons, List.length_nil, grd_pos, grd_T, grd_R, cnd_dt, cnd_df, cnd_true, cnd_false, Option.bind_some]
      · exact ⟨fun h => ⟨h, fun j a b => by omega⟩, fun h => h.1⟩
end Go.Proofs.Ytkpmijmlbpdknaa

/-! ## Qa -/
namespace Go.Proofs.Ytkpmijmlbpdknaa
set_option linter.unusedVariables false
set_option linter.unusedSimpArgs false
variable {n : Nat} {N : Nat}
theorem steady1_s (hN : 4000000 ≤ N) (hn : n ≤ 8) {p : Pin} {hd : List (Int × Int)} {aS : Grf} (hp : isPinned p = true) (hbl : p.g.bars.length ≤ 3000000) (hgl : p.ground.length ≤ 3000000) (hpn : p.g.n = n) (hl : 2 ≤ p.ground.length) (hA : S_l20All N p = some aS)
    (step : ∀ v : Nat, v < n → ∃ b0 b1 b : Bool, S_IsImplied N aS (p.ground.getD 0 0) v = some b0 ∧ S_IsImplied N aS (p.ground.getD 1 0) v = some b1 ∧ (b0 && b1) = b ∧ ∀ kk, I_SteadyPoints_l2 N p hd v kk N (true, (0 : Int)) = kk b) :
    ∀ (fuel v : Nat) (l : List Int), v ≤ n → n < fuel + v → l.length ≤ v → ∃ l' : List Int, l'.length ≤ n ∧ S_SteadyPoints_l1 N p (fun x => some x) fuel (l, (v : Int)) = some l' ∧ I_SteadyPoints_l1 N p hd (fun x => some x) fuel (l, (v : Int)) = some l' := by
  intro fuel
  induction fuel with
  | zero => intro v l h1 h2; omega
  | succ fuel ih =>
    intro v l h1 h2 h3
    rw [S_SteadyPoints_l1, I_SteadyPoints_l1]
    by_cases hv : v < n
    · obtain ⟨b0, b1, b, s0, s1, s2, s3⟩ := step v hv
      have z0 : (0 : Int).toNat = 0 := rfl
      have z1 : (1 : Int).toNat = 1 := rfl
      rw [cnd_dt (by omega), cnd_dt (by omega), s3]
      cases b with
      | true =>
        obtain ⟨e0, e1⟩ : b0 = true ∧ b1 = true := by simpa using s2
        subst e0 e1
        obtain ⟨l', k0, k1, k2⟩ := ih (v + 1) (l ++ [(v : Int)]) (by omega) (by omega) (by simp; omega)
        refine ⟨l', k0, ?_, ?_⟩
        · simp (disch := omega) only [Int.toNat_natCast, tk0, List.length_cons, List.length_nil, grd_pos, grd_T, grd_R, cnd_dt, cnd_df, cnd_true, cnd_false, Option.bind_some, isPinnedS_s N hN hbl hgl, hp, hA, z0, z1, s0, s1, succ_cast]
          exact k1
        · simp (disch := omega) only [Int.toNat_natCast, tk0, List.length_cons, List.length_nil, grd_pos, grd_T, grd_R, cnd_dt, cnd_df, cnd_true, cnd_false, Option.bind_some, succ_cast]
          exact k2
      | false =>
        obtain ⟨l', k0, k1, k2⟩ := ih (v + 1) l (by omega) (by omega) (by omega)
        refine ⟨l', k0, ?_, ?_⟩
        · cases b0 with
          | false =>
            simp (disch := omega) only [Int.toNat_natCast, tk0, List.length_cons, List.length_nil, grd_pos, grd_T, grd_R, cnd_dt, cnd_df, cnd_true, cnd_false, Option.bind_some, isPinnedS_s N hN hbl hgl, hp, hA, z0, z1, s0, succ_cast]
            exact k1
          | true =>
            have e1 : b1 = false := by simpa using s2
            subst e1
            simp (disch := omega) only [Int.toNat_natCast, tk0, List.length_cons, List.length_nil, grd_pos, grd_T, grd_R, cnd_dt, cnd_df, cnd_true, cnd_false, Option.bind_some, isPinnedS_s N hN hbl hgl, hp, hA, z0, z1, s0, s1, succ_cast]
            exact k1
        · simp (disch := omega) only [Int.toNat_natCast, tk0, List.length_cons, List.length_nil, grd_pos, grd_T, grd_R, cnd_dt, cnd_df, cnd_true, cnd_false, Option.bind_some, succ_cast]
          exact k2
    · refine ⟨l, by omega, ?_, ?_⟩
      · simp (disch := omega) only [Int.toNat_natCast, tk0, List.length_cons, List.length_nil, grd_pos, grd_T, grd_R, cnd_dt, cnd_df, cnd_true, cnd_false, Option.bind_some]
      · simp (disch := omega) only [Int.toNat_natCast, tk0, List.length_cons, List.length_nil, grd_pos, grd_T, grd_R, cnd_dt, cnd_df, cnd_true, cnd_false, Option.bind_some]
end Go.Proofs.Ytkpmijmlbpdknaa

/-! ## Qb -/
namespace Go.Proofs.Ytkpmijmlbpdknaa
set_option linter.unusedVariables false
set_option linter.unusedSimpArgs false
variable {N : Nat}
theorem steady_x (hN : 4000000 ≤ N) {p : Pin} (hbl : p.g.bars.length ≤ 3000000) (hgl : p.ground.length ≤ 3000000) : ∃ l : List Int, l.length ≤ 8 ∧ S_SteadyPoints N p = some l ∧ I_SteadyPoints N p = some l := by
  cases hp : isPinned p with
  | false =>
    refine ⟨[], by simp, ?_, ?_⟩
    · unfold S_SteadyPoints
      obtain ⟨m, rfl⟩ : ∃ m, N = m + 1 := ⟨N - 1, by omega⟩
      rw [S_SteadyPoints_l1]
      by_cases h : (0 : Int) < p.g.n
      · simp (disch := omega) only [Int.toNat_natCast, tk0, List.length_cons, List.length_nil, grd_pos, grd_T, grd_R, cnd_dt, cnd_df, cnd_true, cnd_false, Option.bind_some, isPinnedS_s (m + 1) hN hbl hgl, hp]
      · simp (disch := omega) only [Int.toNat_natCast, tk0, List.length_cons, List.length_nil, grd_pos, grd_T, grd_R, cnd_dt, cnd_df, cnd_true, cnd_false, Option.bind_some]
    · unfold I_SteadyPoints
      simp (disch := omega) only [Int.toNat_natCast, tk0, List.length_cons, List.length_nil, grd_pos, grd_T, grd_R, cnd_dt, cnd_df, cnd_true, cnd_false, Option.bind_some, isPinnedI_s N hN hbl hgl, hp, Bool.not_false]
  | true =>
    obtain ⟨p1, p2, p3, p4, p5, p6, p7⟩ := isPinned_parts hp
    obtain ⟨hn1, hn2, hbl'⟩ := isPinned_n p1
    obtain ⟨n, hn⟩ := Int.eq_ofNat_of_zero_le (show 0 ≤ p.g.n by omega)
    obtain ⟨LH, LS, a1, a2, a3, a4, a5, a6, a7⟩ := allS_s (N := N) hN (p := p) (by omega) (by omega)
    obtain ⟨LI, b1, b2, b3⟩ := heldI_s (N := N) hN (p := p) (by omega) p6
    have hG : ∀ i, i < p.ground.length → 0 ≤ p.ground.getD i 0 ∧ p.ground.getD i 0 < n := fun i hi => by
      have := asc_in p6 (getD_mem (d := 0) hi)
      omega
    have hlt := asc_lt p6
    have hb : ∀ e ∈ p.g.bars, Bok n e := fun e he => by
      have := isGraph_bar p1 he
      exact ⟨by omega, by omega, by omega, by omega, by omega⟩
    have pok : ∀ i j : Nat, i < j → j < p.ground.length → Bok n (p.ground.getD i 0, p.ground.getD j 0) := fun i j g1 g2 => by
      have a := hG i (by omega)
      have b := hG j g2
      have c := hlt j i g1 g2
      exact ⟨a.1, a.2, b.1, b.2, by simp only; omega⟩
    have okLS : ∀ e ∈ LS, Bok n e := fun e he => by
      rcases (a6 e).1 he with h | h
      · obtain ⟨i, j, g1, g2, rfl⟩ := a3.mem e h; exact pok i j g1 g2
      · exact hb e h
    have okLI : ∀ e ∈ LI ++ p.g.bars, Bok n e := fun e he => by
      rcases List.mem_append.1 he with h | h
      · obtain ⟨i, j, g1, g2, rfl⟩ := (b3 e).1 h; exact pok i j g1 g2
      · exact hb e h
    have bok : ∀ e : Int × Int, e ∈ LS → barOkB p.g.n e = true := fun e he => by
      have hx : 0 ≤ e.1 ∧ e.1 < e.2 ∧ e.2 < p.g.n := by
        rcases (a6 e).1 he with h | h
        · obtain ⟨i, j, g1, g2, rfl⟩ := a3.mem e h
          have a := hG i (by omega)
          have b := hG j g2
          have c := hlt j i g1 g2
          exact ⟨a.1, c, by simp only; omega⟩
        · exact isGraph_bar p1 h
      simp [barOkB, hx.1, hx.2.1, hx.2.2]
    have hgr : isGraph ⟨p.g.n, LS⟩ = true := srt_graph (by simp [inB]; omega) (by simp only; omega) a7 bok
    obtain ⟨I, c1, c2⟩ := rank_s (N := N) hN (g := ⟨p.g.n, LS⟩) (n := n) hn (by omega) okLS (by simp only; omega)
    obtain ⟨J, e1, e2⟩ := planeRank_s (N := N) hN (n := n) (by omega) (bars := LI ++ p.g.bars) okLI (by simp; omega)
    have okI : ∀ e ∈ I, Bok n e := fun e he => okLS e (c1.mem e he)
    have okJ : ∀ e ∈ J, Bok n e := fun e he => okLI e (e1.mem e he)
    have hH : ∀ e ∈ LH, Tied n I e := fun e he => c1.spn e ((a6 e).2 (.inl he))
    have pairI : ∀ i j : Nat, i < j → j < p.ground.length → Tied n I (p.ground.getD i 0, p.ground.getD j 0) := fun i j g1 g2 => by
      refine (steady_iff p3 hG hlt a3 c1.spr okI hH (hG j g2)).1 ⟨.inr (hH _ (a3.h0 j (by omega) g2)), ?_⟩ i (by omega) (by have := hlt j i g1 g2; omega)
      by_cases e : j = 1
      · subst e; exact .inl rfl
      · exact .inr (hH _ (a3.h1 j (by omega) g2))
    have hJI : ∀ e ∈ J, Tied n I e := fun e he => by
      rcases List.mem_append.1 (e1.mem e he) with h | h
      · obtain ⟨i, j, g1, g2, rfl⟩ := (b3 e).1 h; exact pairI i j g1 g2
      · exact c1.spn e ((a6 e).2 (.inr h))
    have hIJ : ∀ e ∈ I, Tied n J e := fun e he => e1.spn e (by
      rcases (a6 e).1 (c1.mem e he) with h | h
      · exact List.mem_append.2 (.inl ((b3 e).2 (a3.mem e h)))
      · exact List.mem_append.2 (.inr h))
    have key := steady1_s (n := n) (hd := LI) (aS := ⟨p.g.n, LS⟩) hN (by omega) hp hbl hgl hn p3 a4 (fun v hv => by
      have hv' : (0 : Int) ≤ (v : Int) ∧ (v : Int) < n := by omega
      obtain ⟨r0, s0, t0⟩ := implied_s (N := N) hN (g := ⟨p.g.n, LS⟩) hgr hn (hG 0 (by omega)) hv' c1
      obtain ⟨r1, s1, t1⟩ := implied_s (N := N) hN (g := ⟨p.g.n, LS⟩) hgr hn (hG 1 (by omega)) hv' c1
      rw [Tied.mm] at t0 t1
      have si := steady_iff p3 hG hlt a3 c1.spr okI hH hv'
      refine ⟨r0, r1, r0 && r1, s0, s1, rfl, fun kk => ?_⟩
      obtain ⟨b, k1, k2⟩ := steadyI2_s (N := N) (hd := LI) hN (by omega) hn (by omega) hG okLI (by simp; omega) e1 hv' (kk := kk) N 0 true (by omega) (by omega)
      have eq : b = (r0 && r1) := by
        rw [Bool.eq_iff_iff, k2, Bool.and_eq_true, t0, t1, si]
        constructor
        · rintro ⟨_, h⟩ j hj hne
          exact Tied.of e1.spr c1.spr okJ okI hJI hIJ (by have := hG j hj; exact ⟨by omega, by omega, by omega, by omega, hne⟩) (h j (by omega) hj hne)
        · intro h
          refine ⟨rfl, fun j _ hj hne => Tied.of c1.spr e1.spr okI okJ hIJ hJI (by have := hG j hj; exact ⟨by omega, by omega, by omega, by omega, hne⟩) (h j hj hne)⟩
      rw [← eq]; exact k1) N 0 [] (by omega) (by omega) (by simp)
    obtain ⟨l, k0, k1, k2⟩ := key
    refine ⟨l, by omega, k1, ?_⟩
    unfold I_SteadyPoints
    simp (disch := omega) only [Int.toNat_natCast, tk0, List.length_cons, List.length_nil, grd_pos, grd_T, grd_R, cnd_dt, cnd_df, cnd_true, cnd_false, Option.bind_some, isPinnedI_s N hN hbl hgl, hp, Bool.not_true, b1]
    exact k2
end Go.Proofs.Ytkpmijmlbpdknaa
