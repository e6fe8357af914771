/- Sparse sets of bars in the plane: any two greedy choices have the same size. No program in sight. -/
import Derived.Test.YtkpmijmlbpdknaaPa
namespace Go.Proofs.Ytkpmijmlbpdknaa
set_option linter.unusedVariables false
set_option linter.unusedSimpArgs false

abbrev VS := Int → Bool
/-- how many points below n a set has -/
def vsz (n : Nat) (X : VS) : Nat := (List.range n).countP fun (i : Nat) => X (i : Int)
def inX (X : VS) (e : Int × Int) : Bool := X e.1 && X e.2
/-- how many bars a set spans -/
def spn (X : VS) (L : List (Int × Int)) : Nat := L.countP (inX X)
def vU (X Y : VS) : VS := fun v => X v || Y v
def vI (X Y : VS) : VS := fun v => X v && Y v
def Spr (n : Nat) (L : List (Int × Int)) : Prop := ∀ X, 0 < spn X L → spn X L + 3 ≤ 2 * vsz n X
/-- a bar between two points -/
def Bok (n : Nat) (e : Int × Int) : Prop := 0 ≤ e.1 ∧ e.1 < n ∧ 0 ≤ e.2 ∧ e.2 < n ∧ e.1 ≠ e.2
def Tgt (n : Nat) (L : List (Int × Int)) (X : VS) : Prop := 2 ≤ vsz n X ∧ 2 * vsz n X ≤ spn X L + 3

theorem countP_or_and {α : Type} (p q : α → Bool) : ∀ l : List α, l.countP (fun x => p x || q x) + l.countP (fun x => p x && q x) = l.countP p + l.countP q
  | [] => rfl
  | x :: l => by
    have ih := countP_or_and p q l
    simp only [List.countP_cons]
    cases p x <;> cases q x <;> simp <;> omega
theorem vsz_UI (n : Nat) (X Y : VS) : vsz n (vU X Y) + vsz n (vI X Y) = vsz n X + vsz n Y := countP_or_and (fun i : Nat => X (i : Int)) (fun i : Nat => Y (i : Int)) _
theorem spn_cons (X : VS) (e : Int × Int) (L : List (Int × Int)) : spn X (e :: L) = spn X L + if inX X e then 1 else 0 := by simp [spn, List.countP_cons]
theorem spn_UI (X Y : VS) : ∀ L, spn X L + spn Y L ≤ spn (vU X Y) L + spn (vI X Y) L
  | [] => Nat.le_refl _
  | e :: L => by
    have ih := spn_UI X Y L
    rw [spn_cons, spn_cons, spn_cons, spn_cons]
    revert ih
    generalize spn X L = a
    generalize spn Y L = b
    generalize spn (vU X Y) L = c
    generalize spn (vI X Y) L = d
    intro ih
    have key : ∀ x y z w : Bool, (a + if (x && y) = true then 1 else 0) + (b + if (z && w) = true then 1 else 0) ≤ (c + if ((x || z) && (y || w)) = true then 1 else 0) + (d + if ((x && z) && (y && w)) = true then 1 else 0) := by
      intro x y z w
      cases x <;> cases y <;> cases z <;> cases w <;> simp <;> omega
    exact key (X e.1) (X e.2) (Y e.1) (Y e.2)
theorem spn_append (X : VS) (L L' : List (Int × Int)) : spn X (L ++ L') = spn X L + spn X L' := by simp [spn, List.countP_append]
theorem Tgt.eq {n : Nat} {L : List (Int × Int)} {X : VS} (hL : Spr n L) (h : Tgt n L X) : spn X L + 3 = 2 * vsz n X := by
  have h1 := h.1
  have h2 := h.2
  have := hL X (by omega)
  omega
theorem Tgt.union {n : Nat} {L : List (Int × Int)} {X Y : VS} (hL : Spr n L) (hX : Tgt n L X) (hY : Tgt n L Y) (h : 2 ≤ vsz n (vI X Y)) : Tgt n L (vU X Y) := by
  have a1 := vsz_UI n X Y
  have a2 := spn_UI X Y L
  have a3 := hX.eq hL
  have a4 := hY.eq hL
  have a5 : spn (vI X Y) L + 3 ≤ 2 * vsz n (vI X Y) := by
    by_cases h0 : 0 < spn (vI X Y) L
    · exact hL _ h0
    · omega
  have a6 := hX.1
  have a7 := hY.1
  refine ⟨?_, by omega⟩
  have : vsz n (vI X Y) ≤ vsz n X := List.countP_mono_left fun i _ h => by simp only [vI, Bool.and_eq_true] at h; exact h.1
  omega
/-- tight sets stay tight -/
theorem Tgt.grow {n : Nat} {L L' : List (Int × Int)} {X : VS} (h : Tgt n L X) (hs : spn X L ≤ spn X L') : Tgt n L' X := ⟨h.1, by have := h.2; omega⟩

theorem countP_two {n : Nat} {X : VS} {a b : Int} (ha : 0 ≤ a ∧ a < n) (hb : 0 ≤ b ∧ b < n) (hab : a ≠ b) (hXa : X a = true) (hXb : X b = true) : 2 ≤ vsz n X := by
  have key : ∀ (a b : Nat), a < b → b < n → X a = true → X b = true → 2 ≤ vsz n X := by
    intro a b h1 h2 h3 h4
    have e : List.range n = List.range b ++ b :: (List.range (n - b - 1)).map (· + (b + 1)) := by
      have := List.range_add (n := b + 1) (m := n - b - 1)
      rw [show b + 1 + (n - b - 1) = n from by omega, List.range_succ, List.append_assoc] at this
      rw [this]
      simp [Nat.add_comm]
    unfold vsz
    rw [e, List.countP_append, List.countP_cons]
    have : 0 < (List.range b).countP fun i : Nat => X (i : Int) := List.countP_pos_iff.2 ⟨a, by simpa using h1, h3⟩
    simp [h4]; omega
  obtain ⟨a', rfl⟩ := Int.eq_ofNat_of_zero_le ha.1
  obtain ⟨b', rfl⟩ := Int.eq_ofNat_of_zero_le hb.1
  rcases Nat.lt_or_gt_of_ne (fun h : a' = b' => hab (by rw [h])) with h | h
  · exact key a' b' h (by omega) hXa hXb
  · exact key b' a' h (by omega) hXb hXa
/-- the set of two points -/
def v2 (a b : Int) : VS := fun v => v == a || v == b
theorem vsz_v2 {n : Nat} {a b : Int} (ha : 0 ≤ a ∧ a < n) (hb : 0 ≤ b ∧ b < n) (hab : a ≠ b) : vsz n (v2 a b) = 2 := by
  have h1 : 2 ≤ vsz n (v2 a b) := countP_two ha hb hab (by simp [v2]) (by simp [v2])
  have one : ∀ (a : Int) (m : Nat), (List.range m).countP (fun i : Nat => ((i : Int) == a)) ≤ 1 := by
    intro a m
    have : (List.range m).countP (fun i : Nat => ((i : Int) == a)) ≤ (List.range m).count a.toNat := by
      rw [List.count]
      refine List.countP_mono_left fun i _ h => ?_
      have : (i : Int) = a := by simpa using h
      simp [← this]
    have h2 := List.nodup_range.count (a := a.toNat) (l := List.range m)
    rw [h2] at this
    split at this <;> omega
  have h2 := countP_or_and (fun i : Nat => ((i : Int) == a)) (fun i : Nat => ((i : Int) == b)) (List.range n)
  have h3 := one a n
  have h4 := one b n
  simp only [vsz, v2] at h1 ⊢
  omega
/-- a bar of a sparse list is tight -/
theorem tgt_bar {n : Nat} {L : List (Int × Int)} {e : Int × Int} (he : e ∈ L) (hb : Bok n e) : Tgt n L (v2 e.1 e.2) := by
  obtain ⟨h1, h2, h3, h4, h5⟩ := hb
  have := vsz_v2 (n := n) ⟨h1, h2⟩ ⟨h3, h4⟩ h5
  refine ⟨by omega, ?_⟩
  have : 0 < spn (v2 e.1 e.2) L := List.countP_pos_iff.2 ⟨e, he, by simp [inX, v2]⟩
  omega

/-! ### families of tight sets that meet in one point at most -/
def Small (n : Nat) (X Y : VS) : Prop := vsz n (vI X Y) ≤ 1
theorem vI_comm (X Y : VS) : vI X Y = vI Y X := by funext v; simp [vI, Bool.and_comm]
theorem spn_two {n : Nat} {X Y : VS} (h : Small n X Y) {e : Int × Int} (hb : Bok n e) : (inX X e && inX Y e) = false := by
  cases h1 : inX X e <;> cases h2 : inX Y e <;> try rfl
  exfalso
  simp only [inX, Bool.and_eq_true] at h1 h2
  obtain ⟨g1, g2, g3, g4, g5⟩ := hb
  have := countP_two (n := n) (X := vI X Y) ⟨g1, g2⟩ ⟨g3, g4⟩ g5 (by simp [vI, h1.1, h2.1]) (by simp [vI, h1.2, h2.2])
  unfold Small at h; omega
structure Fam (n : Nat) (L : List (Int × Int)) (F : List VS) : Prop where
  tgt : ∀ X ∈ F, Tgt n L X
  sml : F.Pairwise (Small n)
theorem fam_add {n : Nat} {L : List (Int × Int)} (hL : Spr n L) : ∀ (k : Nat) (F : List VS) (X : VS), F.length = k → Fam n L F → Tgt n L X →
    ∃ F', Fam n L F' ∧ (∃ Y ∈ F', ∀ e, inX X e = true → inX Y e = true) ∧ ∀ Z ∈ F, ∃ Y ∈ F', ∀ e, inX Z e = true → inX Y e = true := by
  intro k
  induction k with
  | zero =>
    intro F X hk hF hX
    have : F = [] := List.eq_nil_of_length_eq_zero hk
    subst this
    exact ⟨[X], ⟨by simpa using hX, by simp⟩, ⟨X, by simp, fun e he => he⟩, by simp⟩
  | succ k ih =>
    intro F X hk hF hX
    by_cases hbig : ∃ Y ∈ F, 2 ≤ vsz n (vI X Y)
    · obtain ⟨Y, hY, h2⟩ := hbig
      obtain ⟨l1, l2, rfl⟩ := List.append_of_mem hY
      have hF' : Fam n L (l1 ++ l2) := by
        refine ⟨fun Z hZ => hF.tgt Z (by simp at hZ ⊢; rcases hZ with h | h <;> simp [h]), ?_⟩
        exact hF.sml.sublist (by simp)
      obtain ⟨F', g1, ⟨W, hW, g2⟩, g3⟩ := ih (l1 ++ l2) (vU X Y) (by simp at hk ⊢; omega) hF' (hX.union hL (hF.tgt Y hY) h2)
      refine ⟨F', g1, ⟨W, hW, fun e he => g2 e ?_⟩, fun Z hZ => ?_⟩
      · simp only [inX, vU, Bool.and_eq_true, Bool.or_eq_true] at he ⊢
        exact ⟨.inl he.1, .inl he.2⟩
      · have hc : Z = Y ∨ Z ∈ l1 ++ l2 := by
          simp at hZ ⊢
          rcases hZ with h | h | h
          · exact .inr (.inl h)
          · exact .inl h
          · exact .inr (.inr h)
        rcases hc with rfl | hc
        · refine ⟨W, hW, fun e he => g2 e ?_⟩
          simp only [inX, vU, Bool.and_eq_true, Bool.or_eq_true] at he ⊢
          exact ⟨.inr he.1, .inr he.2⟩
        · exact g3 Z hc
    · refine ⟨X :: F, ⟨fun Z hZ => ?_, List.pairwise_cons.2 ⟨fun Z hZ => ?_, hF.sml⟩⟩, ⟨X, by simp, fun e he => he⟩, fun Z hZ => ⟨Z, by simp [hZ], fun e he => he⟩⟩
      · rcases List.mem_cons.1 hZ with rfl | h
        · exact hX
        · exact hF.tgt Z h
      · unfold Small
        by_cases h : vsz n (vI X Z) ≤ 1
        · exact h
        · exact absurd ⟨Z, hZ, by omega⟩ hbig
/-- all that I's tight sets span is spanned by a family -/
theorem fam_all {n : Nat} {I : List (Int × Int)} (hI : Spr n I) : ∀ J : List (Int × Int), (∀ e ∈ J, ∃ X, Tgt n I X ∧ inX X e = true) → ∃ F, Fam n I F ∧ ∀ e ∈ J, ∃ Y ∈ F, inX Y e = true
  | [], _ => ⟨[], ⟨by simp, by simp⟩, by simp⟩
  | e :: J, h => by
    obtain ⟨F, h1, h2⟩ := fam_all hI J fun x hx => h x (by simp [hx])
    obtain ⟨X, hX, he⟩ := h e (by simp)
    obtain ⟨F', g1, ⟨Y, hY, g2⟩, g3⟩ := fam_add hI F.length F X rfl h1 hX
    refine ⟨F', g1, fun x hx => ?_⟩
    rcases List.mem_cons.1 hx with rfl | hx
    · exact ⟨Y, hY, g2 _ he⟩
    · obtain ⟨Z, hZ, h3⟩ := h2 x hx
      obtain ⟨W, hW, h4⟩ := g3 Z hZ
      exact ⟨W, hW, h4 x h3⟩
def sumS (F : List VS) (L : List (Int × Int)) : Nat := (F.map fun X => spn X L).sum
theorem sumS_cons (X : VS) (F : List VS) (L : List (Int × Int)) : sumS (X :: F) L = spn X L + sumS F L := by simp [sumS]
/-- J's bars lie in some set each -/
theorem cover_le {F : List VS} : ∀ {J : List (Int × Int)}, (∀ e ∈ J, ∃ Y ∈ F, inX Y e = true) → J.length ≤ sumS F J
  | [], _ => by simp
  | e :: J, h => by
    have ih := cover_le (F := F) (J := J) fun x hx => h x (by simp [hx])
    have key : ∀ F : List VS, sumS F (e :: J) = sumS F J + F.countP fun Y => inX Y e := by
      intro F
      induction F with
      | nil => simp [sumS]
      | cons X F ihF => rw [sumS_cons, sumS_cons, ihF, spn_cons, List.countP_cons]; split <;> omega
    rw [key]
    obtain ⟨Y, hY, he⟩ := h e (by simp)
    have : 0 < F.countP fun Y => inX Y e := List.countP_pos_iff.2 ⟨Y, hY, he⟩
    simp; omega
/-- I's bars lie in one set at most -/
theorem fam_le {n : Nat} {F : List VS} (hF : F.Pairwise (Small n)) : ∀ {I : List (Int × Int)}, (∀ e ∈ I, Bok n e) → sumS F I ≤ I.length
  | [], _ => by
    have : ∀ F : List VS, sumS F [] = 0 := fun F => by induction F with | nil => rfl | cons X F ih => rw [sumS_cons, ih]; rfl
    rw [this]; simp
  | e :: I, h => by
    have ih := fam_le hF (I := I) fun x hx => h x (by simp [hx])
    have key : ∀ F : List VS, sumS F (e :: I) = sumS F I + F.countP fun Y => inX Y e := by
      intro F
      induction F with
      | nil => simp [sumS]
      | cons X F ihF => rw [sumS_cons, sumS_cons, ihF, spn_cons, List.countP_cons]; split <;> omega
    have one : ∀ F : List VS, F.Pairwise (Small n) → (F.countP fun Y => inX Y e) ≤ 1 := by
      intro F
      induction F with
      | nil => simp
      | cons X F ihF =>
        intro hp
        obtain ⟨h1, h2⟩ := List.pairwise_cons.1 hp
        rw [List.countP_cons]
        by_cases hx : inX X e = true
        · have : (F.countP fun Y => inX Y e) = 0 := List.countP_eq_zero.2 fun Y hY hy => by
            have := spn_two (h1 Y hY) (h e (by simp))
            rw [hx, hy] at this; cases this
          rw [if_pos hx]; omega
        · rw [if_neg hx]; exact ihF h2
    rw [key]
    have := one F hF
    simp; omega
/-- what is sparse and spanned by I's tight sets is no longer than I -/
theorem spr_le {n : Nat} {I J : List (Int × Int)} (hI : Spr n I) (hJ : Spr n J) (hb : ∀ e ∈ I, Bok n e) (h : ∀ e ∈ J, ∃ X, Tgt n I X ∧ inX X e = true) : J.length ≤ I.length := by
  obtain ⟨F, h1, h2⟩ := fam_all hI J h
  refine Nat.le_trans (cover_le h2) (Nat.le_trans ?_ (fam_le h1.sml hb))
  have key : ∀ F : List VS, (∀ X ∈ F, Tgt n I X) → sumS F J ≤ sumS F I := by
    intro F
    induction F with
    | nil => intro _; simp [sumS]
    | cons X F ih =>
      intro hF
      have := ih fun Z hZ => hF Z (by simp [hZ])
      have a1 := (hF X (by simp)).eq hI
      have a2 : spn X J ≤ spn X I := by
        by_cases h0 : 0 < spn X J
        · have := hJ X h0; omega
        · omega
      rw [sumS_cons, sumS_cons]; omega
  exact key F h1.tgt
/-- a basis of L -/
structure Bas (n : Nat) (L I : List (Int × Int)) : Prop where
  mem : ∀ e ∈ I, e ∈ L
  spr : Spr n I
  spn : ∀ e ∈ L, ∃ X, Tgt n I X ∧ inX X e = true
/-- all bases of what spans the same are as long -/
theorem Bas.len {n : Nat} {L L' I J : List (Int × Int)} (hL : ∀ e ∈ L, Bok n e) (hI : Bas n L I) (hJ : Bas n L' J) (hm : ∀ e ∈ J, e ∈ L) : J.length ≤ I.length :=
  spr_le hI.spr hJ.spr (fun e he => hL e (hI.mem e he)) fun e he => hI.spn e (hm e he)
/-- tight sets swallow the tight sets of what they span -/
theorem spr_nil (n : Nat) : Spr n [] := fun X h => by simp [Ytkpmijmlbpdknaa.spn] at h
end Go.Proofs.Ytkpmijmlbpdknaa
