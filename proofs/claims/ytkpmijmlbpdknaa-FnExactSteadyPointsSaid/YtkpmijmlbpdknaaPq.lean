/- The spec's rank is the length of a basis; tight triangles. -/
import Derived.Test.YtkpmijmlbpdknaaPp
import Derived.Test.YtkpmijmlbpdknaaPd
import Derived.Test.YtkpmijmlbpdknaaG35
namespace Go.Proofs.Ytkpmijmlbpdknaa
set_option linter.unusedVariables false
set_option linter.unusedSimpArgs false
variable {n : Nat} {N : Nat}
/-- three tight sets in a ring: a tight set with all corners -/
theorem tri {L : List (Int × Int)} (hL : Spr n L) (hok : ∀ e ∈ L, Bok n e) {A B C : VS} (hA : Tgt n L A) (hB : Tgt n L B) (hC : Tgt n L C) {x y z : Int} (hx : 0 ≤ x ∧ x < n) (hy : 0 ≤ y ∧ y < n) (hz : 0 ≤ z ∧ z < n) (hxy : x ≠ y) (hxz : x ≠ z) (hyz : y ≠ z)
    (ax : A x = true) (ay : A y = true) (bx : B x = true) (bz : B z = true) (cy : C y = true) (cz : C z = true) : ∃ W, Tgt n L W ∧ W x = true ∧ W y = true ∧ W z = true := by
  by_cases h1 : 2 ≤ vsz n (vI A B)
  · exact ⟨vU A B, hA.union hL hB h1, by simp [vU, ax], by simp [vU, ay], by simp [vU, bz]⟩
  by_cases h2 : 2 ≤ vsz n (vI A C)
  · exact ⟨vU A C, hA.union hL hC h2, by simp [vU, ax], by simp [vU, ay], by simp [vU, cz]⟩
  by_cases h3 : 2 ≤ vsz n (vI B C)
  · exact ⟨vU B C, hB.union hL hC h3, by simp [vU, bx], by simp [vU, cy], by simp [vU, bz]⟩
  have s1 : Small n A B := by unfold Small; omega
  have s2 : Small n A C := by unfold Small; omega
  have s3 : Small n B C := by unfold Small; omega
  have sums : ∀ L' : List (Int × Int), (∀ e ∈ L', Bok n e) → spn A L' + spn B L' + spn C L' ≤ spn (vU (vU A B) C) L' := by
    intro L'
    induction L' with
    | nil => intro _; simp [spn]
    | cons e L' ih =>
      intro h
      have ih := ih fun e he => h e (by simp [he])
      have b := h e (by simp)
      have t1 := spn_two s1 b
      have t2 := spn_two s2 b
      have t3 := spn_two s3 b
      rw [spn_cons, spn_cons, spn_cons, spn_cons]
      have up : (inX A e || inX B e || inX C e) = true → inX (vU (vU A B) C) e = true := by
        simp only [inX, vU, Bool.or_eq_true, Bool.and_eq_true]
        rintro ((⟨g1, g2⟩ | ⟨g1, g2⟩) | ⟨g1, g2⟩)
        · exact ⟨.inl (.inl g1), .inl (.inl g2)⟩
        · exact ⟨.inl (.inr g1), .inl (.inr g2)⟩
        · exact ⟨.inr g1, .inr g2⟩
      revert t1 t2 t3 up
      generalize inX A e = p
      generalize inX B e = q
      generalize inX C e = r
      generalize inX (vU (vU A B) C) e = w
      intro t1 t2 t3 up
      cases p <;> cases q <;> cases r <;> simp at t1 t2 t3 up ⊢ <;> first | omega | (subst up; simp; omega)
  have a1 := sums L hok
  have c1 := vsz_UI n A B
  have c2 := vsz_UI n (vU A B) C
  have d1 : 1 ≤ vsz n (vI A B) := by
    obtain ⟨x', rfl⟩ := Int.eq_ofNat_of_zero_le hx.1
    exact List.countP_pos_iff.2 ⟨x', by simp; omega, by simp [vI, ax, bx]⟩
  have d2 : 2 ≤ vsz n (vI (vU A B) C) := countP_two hy hz hyz (by simp [vI, vU, ay, cy]) (by simp [vI, vU, bz, cz])
  have e1 := hA.eq hL
  have e2 := hB.eq hL
  have e3 := hC.eq hL
  refine ⟨vU (vU A B) C, ⟨?_, by omega⟩, by simp [vU, ax], by simp [vU, ay], by simp [vU, bz]⟩
  exact countP_two hx hy hxy (by simp [vU, ax]) (by simp [vU, ay])

/-! ### the game's outcome -/
/-- a game after the first i bars -/
structure Gm (n : Nat) (bars : List (Int × Int)) (p : Pbl) (i : Nat) : Prop where
  pg : PG n bars p
  spr : Spr n (p.placed.map (brI bars))
  sp : ∀ j, j < i → ∃ X, Tgt n (p.placed.map (brI bars)) X ∧ inX X (bars.getD j (0, 0)) = true
theorem Gm.skip {bars : List (Int × Int)} {p : Pbl} {i : Nat} (h : Gm n bars p i) (hX : ∃ X, Tgt n (p.placed.map (brI bars)) X ∧ inX X (bars.getD i (0, 0)) = true) : Gm n bars p (i + 1) := ⟨h.pg, h.spr, fun j hj => by
  by_cases e : j = i
  · subst e; exact hX
  · exact h.sp j (by omega)⟩
theorem Gm.put {bars : List (Int × Int)} {p p' : Pbl} {i : Nat} (h : Gm n bars p i) (hi : i < bars.length) (hb : Bok n (bars.getD i (0, 0))) (hp : p'.placed = p.placed) (hg : PG n bars p') {t : Int} (ht : t = (bars.getD i (0, 0)).1 ∨ t = (bars.getD i (0, 0)).2) (hf : 1 ≤ p'.free.getD t.toNat 0) (h4 : 4 ≤ p'.free.getD (bars.getD i (0, 0)).1.toNat 0 + p'.free.getD (bars.getD i (0, 0)).2.toNat 0) :
    Gm n bars ⟨p'.free.set t.toNat (p'.free.getD t.toNat 0 - 1), p'.tails ++ [t], p'.placed ++ [(i : Int)]⟩ (i + 1) := by
  have hE : ((p'.placed ++ [(i : Int)]).map (brI bars)) = p.placed.map (brI bars) ++ [bars.getD i (0, 0)] := by rw [hp]; simp
  have hg' := hg.inv
  rw [hp] at hg'
  have hs : Spr n (p.placed.map (brI bars) ++ [bars.getD i (0, 0)]) := hg'.acc h.spr (a := (bars.getD i (0, 0)).1) (b := (bars.getD i (0, 0)).2) hb h4
  refine ⟨⟨?_, fun x hx => ?_⟩, ?_, fun j hj => ?_⟩
  · show PInv n ((p'.placed ++ [(i : Int)]).map (brI bars)) _ _
    rw [hE]
    exact hg'.put (a := (bars.getD i (0, 0)).1) (b := (bars.getD i (0, 0)).2) hb ht hf
  · rcases List.mem_append.1 hx with hx | hx
    · exact hg.pl x hx
    · simp at hx; subst hx; exact ⟨by omega, by omega⟩
  · show Spr n ((p'.placed ++ [(i : Int)]).map (brI bars))
    rw [hE]; exact hs
  · show ∃ X, Tgt n ((p'.placed ++ [(i : Int)]).map (brI bars)) X ∧ _
    rw [hE]
    by_cases e : j = i
    · subst e
      exact ⟨_, tgt_bar (by simp) hb, by simp [inX, v2]⟩
    · obtain ⟨X, g1, g2⟩ := h.sp j (by omega)
      exact ⟨X, g1.grow (by rw [spn_append]; omega), g2⟩
theorem Gm.bas {bars : List (Int × Int)} {p : Pbl} (h : Gm n bars p bars.length) : Bas n bars (p.placed.map (brI bars)) := by
  refine ⟨fun e he => ?_, h.spr, fun e he => ?_⟩
  · obtain ⟨i, hi, rfl⟩ := List.mem_map.1 he
    have := h.pg.pl i hi
    exact getD_mem (by omega)
  · obtain ⟨j, hj, e'⟩ := List.mem_iff_getElem.1 he
    have := h.sp j hj
    rwa [List.getD_eq_getElem?_getD, List.getElem?_eq_getElem hj, Option.getD_some, e'] at this
theorem Gm.start (bars : List (Int × Int)) : Gm n bars ⟨List.replicate n 2, [], []⟩ 0 := by
  refine ⟨⟨⟨by simp, by simp, by simp, by simp, fun v hv => ?_, fun v hv => ?_⟩, by simp⟩, fun X h => by simp [spn] at h, fun j h => by omega⟩
  · simp [List.getD_eq_getElem?_getD, List.getElem?_replicate, hv]
  · simp [List.getD_eq_getElem?_getD, List.getElem?_replicate, hv]
variable {g : Grf} (hN : 4000000 ≤ N) (hn : n ≤ 1000) (hg : g.n = n)
include hN hn hg in
theorem rank1_s {kk : Int → Option Int} (hb : ∀ e ∈ g.bars, Bok n e) (hl : g.bars.length ≤ 1000) : ∀ (fuel i : Nat) (p : Pbl), i ≤ g.bars.length → g.bars.length < fuel + i → Gm n g.bars p i →
    ∃ I, Bas n g.bars I ∧ S_l6Rank_l1 N g kk fuel (p.free, p.tails, p.placed, (p.placed.length : Int), (i : Int), p.free.length) = kk (I.length : Int) := by
  intro fuel
  induction fuel with
  | zero => intro i p h1 h2; omega
  | succ fuel ih =>
    intro i p h1 h2 h
    rw [S_l6Rank_l1]
    by_cases hi : i < g.bars.length
    · have hbi := hb _ (getD_mem (d := (0, 0)) hi)
      have r1 := hbi.1
      have r2 := hbi.2.1
      have r3 := hbi.2.2.1
      have r4 := hbi.2.2.2.1
      have e : (⟨p.free, p.tails, p.placed⟩ : Pbl) = p := rfl
      obtain ⟨p', g1, g2, ⟨g3, g4⟩ | ⟨g3, g4⟩⟩ := gather_s hN hn hg (a := (g.bars.getD i (0, 0)).1) (b := (g.bars.getD i (0, 0)).2) hbi h.pg
      · have le1 := g2.inv.le2 (v := (g.bars.getD i (0, 0)).2.toNat) (by omega)
        have le2 := g2.inv.le2 (v := (g.bars.getD i (0, 0)).1.toNat) (by omega)
        have hput := h.put hi hbi g1 g2 (.inl rfl) (by omega) g4
        obtain ⟨I, k1, k2⟩ := ih (i + 1) _ (by omega) (by omega) hput
        refine ⟨I, k1, ?_⟩
        have fl := g2.inv.fl
        have tl := g2.inv.tl
        simp only [List.length_map] at tl
        have t2 := g2.inv.tlen
        have pl : p.placed.length ≤ 2 * n := by rw [← g1, ← tl]; exact t2
        simp (disch := omega) only [Int.toNat_natCast, tk0, List.length_cons, List.length_nil, grd_pos, grd_T, grd_R, cnd_dt, cnd_df, cnd_true, cnd_false, Option.bind_some, e, g3, Bool.not_true, g1, succ_cast]
        simp only [List.length_set, List.length_append, List.length_cons, List.length_nil] at k2
        rw [g1] at k2
        exact k2
      · obtain ⟨I, k1, k2⟩ := ih (i + 1) p (by omega) (by omega) (h.skip g4)
        refine ⟨I, k1, ?_⟩
        simp (disch := omega) only [Int.toNat_natCast, tk0, List.length_cons, List.length_nil, grd_pos, grd_T, grd_R, cnd_dt, cnd_df, cnd_true, cnd_false, Option.bind_some, e, g3, Bool.not_false, succ_cast]
        exact k2
    · have e : i = g.bars.length := by omega
      subst e
      refine ⟨_, h.bas, ?_⟩
      simp (disch := omega) only [Int.toNat_natCast, tk0, List.length_cons, List.length_nil, grd_pos, grd_T, grd_R, cnd_dt, cnd_df, cnd_true, cnd_false, Option.bind_some, List.length_map]
theorem pebbles_s (hN : 4000000 ≤ N) (hn : 1 ≤ n ∧ n ≤ 8) : S_NewPebbles N ⟨(n : Int), []⟩ 2 = some (⟨List.replicate n 2, [], []⟩, true) := by
  unfold S_NewPebbles
  have h1 : isGraph ⟨(n : Int), []⟩ = true := isGraph_true (by simp [inB]; omega) (by simp) (fun i hi => by simp at hi)
  have h2 : inB (2 : Int) 1 3 = true := by decide
  simp (disch := omega) only [Int.toNat_natCast, tk0, List.length_cons, List.length_nil, grd_pos, grd_T, grd_R, cnd_dt, cnd_df, cnd_true, cnd_false, Option.bind_some, isGraphS_s N hN, h1, l1In_s N, h2, Bool.not_true]
  refine (fold (len := n) (st := fun i => List.replicate i (2 : Int)) (by omega) ?_ ?_)
  · intro m i hi
    rw [S_NewPebbles_l1]
    simp (disch := omega) only [Int.toNat_natCast, tk0, List.length_cons, List.length_nil, grd_pos, grd_T, grd_R, cnd_dt, cnd_df, cnd_true, cnd_false, Option.bind_some, List.length_replicate, succ_cast]
    rw [List.replicate_succ']
  · intro m
    rw [S_NewPebbles_l1]
    simp (disch := omega) only [Int.toNat_natCast, tk0, List.length_cons, List.length_nil, grd_pos, grd_T, grd_R, cnd_dt, cnd_df, cnd_true, cnd_false, Option.bind_some]
include hN hg in
theorem rank_s (hn : 1 ≤ n ∧ n ≤ 8) (hb : ∀ e ∈ g.bars, Bok n e) (hl : g.bars.length ≤ 1000) : ∃ I, Bas n g.bars I ∧ S_l6Rank N g = some (I.length : Int) := by
  obtain ⟨I, h1, h2⟩ := rank1_s hN (by omega) hg (kk := fun x => some x) hb hl N 0 ⟨List.replicate n 2, [], []⟩ (by omega) (by omega) (Gm.start g.bars)
  refine ⟨I, h1, ?_⟩
  unfold S_l6Rank
  rw [hg, pebbles_s hN hn]
  simp only [Option.bind_some]
  exact h2
end Go.Proofs.Ytkpmijmlbpdknaa
