/- What one more bar does to the rank. -/
import Derived.Test.YtkpmijmlbpdknaaPt
namespace Go.Proofs.Ytkpmijmlbpdknaa
set_option linter.unusedVariables false
set_option linter.unusedSimpArgs false
variable {n : Nat}
/-- some tight set of the basis spans the bar -/
def Tied (n : Nat) (I : List (Int × Int)) (e : Int × Int) : Prop := ∃ X, Tgt n I X ∧ inX X e = true
theorem spr_add {I : List (Int × Int)} (hI : Spr n I) {e : Int × Int} (hb : Bok n e) (h : ¬ Tied n I e) : Spr n (I ++ [e]) := by
  intro X hX
  rw [spn_append] at hX ⊢
  have e1 : spn X [e] = if inX X e = true then 1 else 0 := by rw [spn_cons]; simp [spn]
  rw [e1] at hX ⊢
  by_cases hin : inX X e = true
  · rw [if_pos hin]
    have h2 : 2 ≤ vsz n X := by
      obtain ⟨h1, h2, h3, h4, h5⟩ := hb
      simp only [inX, Bool.and_eq_true] at hin
      exact countP_two ⟨h1, h2⟩ ⟨h3, h4⟩ h5 hin.1 hin.2
    by_cases h0 : 0 < spn X I
    · have := hI X h0
      have hn : ¬ Tgt n I X := fun ht => h ⟨X, ht, hin⟩
      have : ¬ (2 * vsz n X ≤ spn X I + 3) := fun hc => hn ⟨h2, hc⟩
      omega
    · omega
  · rw [if_neg hin] at hX ⊢
    have := hI X (by omega)
    omega
/-- bases of lists with the same bars are as long -/
theorem bas_len {L L' I J : List (Int × Int)} (hb : ∀ e ∈ L, Bok n e) (hm : ∀ e, e ∈ L' ↔ e ∈ L) (hI : Bas n L I) (hJ : Bas n L' J) : I.length = J.length := by
  have h1 : J.length ≤ I.length := spr_le hI.spr hJ.spr (fun e he => hb e (hI.mem e he)) fun e he => hI.spn e ((hm e).1 (hJ.mem e he))
  have h2 : I.length ≤ J.length := spr_le hJ.spr hI.spr (fun e he => hb e ((hm e).1 (hJ.mem e he))) fun e he => hJ.spn e ((hm e).2 (hI.mem e he))
  omega
theorem rank_tied {L L' I J : List (Int × Int)} {e : Int × Int} (hb : ∀ x ∈ L, Bok n x) (he : Bok n e) (hm : ∀ x, x ∈ L' ↔ x = e ∨ x ∈ L) (hI : Bas n L I) (hJ : Bas n L' J) (h : Tied n I e) : J.length = I.length := by
  have hI' : Bas n L' I := ⟨fun x hx => (hm x).2 (.inr (hI.mem x hx)), hI.spr, fun x hx => by
    rcases (hm x).1 hx with rfl | hx
    · exact h
    · exact hI.spn x hx⟩
  exact (bas_len (L := L') (fun x hx => by
    rcases (hm x).1 hx with rfl | hx
    · exact he
    · exact hb x hx) (fun x => Iff.rfl) hI' hJ).symm
theorem rank_free {L L' I J : List (Int × Int)} {e : Int × Int} (hb : ∀ x ∈ L, Bok n x) (he : Bok n e) (hm : ∀ x, x ∈ L' ↔ x = e ∨ x ∈ L) (hI : Bas n L I) (hJ : Bas n L' J) (h : ¬ Tied n I e) : J.length = I.length + 1 := by
  have hI' : Bas n L' (I ++ [e]) := ⟨fun x hx => by
    rcases List.mem_append.1 hx with hx | hx
    · exact (hm x).2 (.inr (hI.mem x hx))
    · simp at hx; exact (hm x).2 (.inl hx), spr_add hI.spr he h, fun x hx => by
    rcases (hm x).1 hx with rfl | hx
    · exact ⟨_, tgt_bar (by simp) he, by simp [inX, v2]⟩
    · obtain ⟨X, g1, g2⟩ := hI.spn x hx
      exact ⟨X, g1.grow (by rw [spn_append]; omega), g2⟩⟩
  have := bas_len (L := L') (fun x hx => by
    rcases (hm x).1 hx with rfl | hx
    · exact he
    · exact hb x hx) (fun x => Iff.rfl) hI' hJ
  simp at this
  omega
/-- one more bar leaves the rank iff a tight set spans it -/
theorem rank_iff {L L' I J : List (Int × Int)} {e : Int × Int} (hb : ∀ x ∈ L, Bok n x) (he : Bok n e) (hm : ∀ x, x ∈ L' ↔ x = e ∨ x ∈ L) (hI : Bas n L I) (hJ : Bas n L' J) : J.length = I.length ↔ Tied n I e := by
  by_cases h : Tied n I e
  · exact ⟨fun _ => h, fun _ => rank_tied hb he hm hI hJ h⟩
  · have := rank_free hb he hm hI hJ h
    exact ⟨fun h => by omega, fun h' => absurd h' h⟩
/-- what one basis ties every other ties that spans it -/
theorem Tied.of {I J : List (Int × Int)} (hI : Spr n I) (hJ : Spr n J) (okI : ∀ e ∈ I, Bok n e) (okJ : ∀ e ∈ J, Bok n e) (h1 : ∀ e ∈ I, Tied n J e) (h2 : ∀ e ∈ J, Tied n I e) {e : Int × Int} (he : Bok n e) (h : Tied n I e) : Tied n J e := by
  by_cases hc : Tied n J e
  · exact hc
  · exfalso
    have hs := spr_add hJ he hc
    have := spr_le hI hs okI fun x hx => by
      rcases List.mem_append.1 hx with hx | hx
      · exact h2 x hx
      · simp at hx; subst hx; exact h
    have h3 := spr_le hJ hI okJ h1
    simp at this
    omega
theorem Tied.swap {I : List (Int × Int)} {a b : Int} (h : Tied n I (a, b)) : Tied n I (b, a) := by
  obtain ⟨X, h1, h2⟩ := h
  refine ⟨X, h1, ?_⟩
  simp only [inX, Bool.and_eq_true] at h2 ⊢
  exact ⟨h2.2, h2.1⟩
/-- three points: two ties make the third -/
theorem Tied.tri {I : List (Int × Int)} (hI : Spr n I) (ok : ∀ e ∈ I, Bok n e) {x y z : Int} (hx : 0 ≤ x ∧ x < n) (hy : 0 ≤ y ∧ y < n) (hz : 0 ≤ z ∧ z < n) (hxy : x ≠ y) (hxz : x ≠ z) (hyz : y ≠ z) (a : Tied n I (x, y)) (b : Tied n I (x, z)) (c : Tied n I (y, z)) : ∃ W, Tgt n I W ∧ W x = true ∧ W y = true ∧ W z = true := by
  obtain ⟨A, a1, a2⟩ := a
  obtain ⟨B, b1, b2⟩ := b
  obtain ⟨C, c1, c2⟩ := c
  simp only [inX, Bool.and_eq_true] at a2 b2 c2
  exact Ytkpmijmlbpdknaa.tri hI ok a1 b1 c1 hx hy hz hxy hxz hyz a2.1 a2.2 b2.1 b2.2 c2.1 c2.2
/-- two points that are each tied to the same two are tied -/
theorem Tied.via {I : List (Int × Int)} (hI : Spr n I) (ok : ∀ e ∈ I, Bok n e) {x y z w : Int} (hx : 0 ≤ x ∧ x < n) (hy : 0 ≤ y ∧ y < n) (hz : 0 ≤ z ∧ z < n) (hw : 0 ≤ w ∧ w < n) (hxy : x ≠ y) (hxz : x ≠ z) (hyz : y ≠ z) (hxw : x ≠ w) (hyw : y ≠ w)
    (a : Tied n I (x, y)) (b : Tied n I (x, z)) (c : Tied n I (y, z)) (d : Tied n I (x, w)) (f : Tied n I (y, w)) : Tied n I (z, w) := by
  obtain ⟨V, v1, v2, v3, v4⟩ := Tied.tri hI ok hx hy hz hxy hxz hyz a b c
  obtain ⟨W, w1, w2, w3, w4⟩ := Tied.tri hI ok hx hy hw hxy hxw hyw a d f
  refine ⟨vU V W, v1.union hI w1 (countP_two hx hy hxy (by simp only [vI, v2, w2, Bool.and_self]) (by simp only [vI, v3, w3, Bool.and_self])), ?_⟩
  simp only [inX, vU, v4, w4, Bool.true_or, Bool.or_true, Bool.and_self]
end Go.Proofs.Ytkpmijmlbpdknaa
