/- Texts without a program, put together by merge.py: Pm Pn Po. -/
import Derived.Test.YtkpmijmlbpdknaaPa
/-! ## Pm -/
namespace Go.Proofs.Ytkpmijmlbpdknaa
set_option linter.unusedVariables false
set_option linter.unusedSimpArgs false

abbrev VS := Int → Bool
/-- how many points below n a set has -/
def vsz (n : Nat) (X : VS) : Nat := (List.range n).countP fun (i : Nat) => X (i : Int)
def inX (X : VS) (e : Int × Int) : Bool := X e.1 && X e.2
/-- how many bars a set spans -/
def spn (X : VS) (L : List (Int × Int)) : Nat := L.countP (inX X)
def vU (X Y : VS) : VS := fun v => X v || Y v
def vI (X Y : VS) : VS := fun v => X v && Y v
def Spr (n : Nat) (L : List (Int × Int)) : Prop := ∀ X, 0 < spn X L → spn X L + 3 ≤ 2 * vsz n X
/-- a bar between two points -/
def Bok (n : Nat) (e : Int × Int) : Prop := 0 ≤ e.1 ∧ e.1 < n ∧ 0 ≤ e.2 ∧ e.2 < n ∧ e.1 ≠ e.2
def Tgt (n : Nat) (L : List (Int × Int)) (X : VS) : Prop := 2 ≤ vsz n X ∧ 2 * vsz n X ≤ spn X L + 3

theorem countP_or_and {α : Type} (p q : α → Bool) : ∀ l : List α, l.countP (fun x => p x || q x) + l.countP (fun x => p x && q x) = l.countP p + l.countP q
  | [] => rfl
  | x :: l => by
    have ih := countP_or_and p q l
    simp only [List.countP_cons]
    cases p x <;> cases q x <;> simp <;> omega
theorem vsz_UI (n : Nat) (X Y : VS) : vsz n (vU X Y) + vsz n (vI X Y) = vsz n X + vsz n Y := countP_or_and (fun i : Nat => X (i : Int)) (fun i : Nat => Y (i : Int)) _
theorem spn_cons (X : VS) (e : Int × Int) (L : List (Int × Int)) : spn X (e :: L) = spn X L + if inX X e then 1 else 0 := by simp [spn, List.countP_cons]
theorem spn_UI (X Y : VS) : ∀ L, spn X L + spn Y L ≤ spn (vU X Y) L + spn (vI X Y) L
  | [] => Nat.le_refl _
  | e :: L => by
    have ih := spn_UI X Y L
    rw [spn_cons, spn_cons, spn_cons, spn_cons]
    revert ih
    generalize spn X L = a
    generalize spn Y L = b
    generalize spn (vU X Y) L = c
    generalize spn (vI X Y) L = d
    intro ih
    have key : ∀ x y z w : Bool, (a + if (x && y) = true then 1 else 0) + (b + if (z && w) = true then 1 else 0) ≤ (c + if ((x || z) && (y || w)) = true then 1 else 0) + (d + if ((x && z) && (y && w)) = true then 1 else 0) := by
      intro x y z w
      cases x <;> cases y <;> cases z <;> cases w <;> simp <;> omega
    exact key (X e.1) (X e.2) (Y e.1) (Y e.2)
theorem spn_append (X : VS) (L L' : List (Int × Int)) : spn X (L ++ L') = spn X L + spn X L' := by simp [spn, List.countP_append]
theorem Tgt.eq {n : Nat} {L : List (Int × Int)} {X : VS} (hL : Spr n L) (h : Tgt n L X) : spn X L + 3 = 2 * vsz n X := by
  have h1 := h.1
  have h2 := h.2
  have := hL X (by omega)
  omega
theorem Tgt.union {n : Nat} {L : List (Int × Int)} {X Y : VS} (hL : Spr n L) (hX : Tgt n L X) (hY : Tgt n L Y) (h : 2 ≤ vsz n (vI X Y)) : Tgt n L (vU X Y) := by
  have a1 := vsz_UI n X Y
  have a2 := spn_UI X Y L
  have a3 := hX.eq hL
  have a4 := hY.eq hL
  have a5 : spn (vI X Y) L + 3 ≤ 2 * vsz n (vI X Y) := by
    by_cases h0 : 0 < spn (vI X Y) L
    · exact hL _ h0
    · omega
  have a6 := hX.1
  have a7 := hY.1
  refine ⟨?_, by omega⟩
  have : vsz n (vI X Y) ≤ vsz n X := List.countP_mono_left fun i _ h => by simp only [vI, Bool.and_eq_true] at h; exact h.1
  omega
/-- tight sets stay tight -/
theorem Tgt.grow {n : Nat} {L L' : List (Int × Int)} {X : VS} (h : Tgt n L X) (hs : spn X L ≤ spn X L') : Tgt n L' X := ⟨h.1, by have := h.2; omega⟩

theorem countP_two {n : Nat} {X : VS} {a b : Int} (ha : 0 ≤ a ∧ a < n) (hb : 0 ≤ b ∧ b < n) (hab : a ≠ b) (hXa : X a = true) (hXb : X b = true) : 2 ≤ vsz n X := by
  have key : ∀ (a b : Nat), a < b → b < n → X a = true → X b = true → 2 ≤ vsz n X := by
    intro a b h1 h2 h3 h4
    have e : List.range n = List.range b ++ b :: (List.range (n - b - 1)).map (· + (b + 1)) := by
      have := List.range_add (n := b + 1) (m := n - b - 1)
      rw [show b + 1 + (n - b - 1) = n from by omega, List.range_succ, List.append_assoc] at this
      rw [this]
      simp [Nat.add_comm]
    unfold vsz
    rw [e, List.countP_append, List.countP_cons]
    have : 0 < (List.range b).countP fun i : Nat => X (i : Int) := List.countP_pos_iff.2 ⟨a, by simpa using h1, h3⟩
    simp [h4]; omega
  obtain ⟨a', rfl⟩ := Int.eq_ofNat_of_zero_le ha.1
  obtain ⟨b', rfl⟩ := Int.eq_ofNat_of_zero_le hb.1
  rcases Nat.lt_or_gt_of_ne (fun h : a' = b' => hab (by rw [h])) with h | h
  · exact key a' b' h (by omega) hXa hXb
  · exact key b' a' h (by omega) hXb hXa
/-- the set of two points -/
def v2 (a b : Int) : VS := fun v => v == a || v == b
theorem vsz_v2 {n : Nat} {a b : Int} (ha : 0 ≤ a ∧ a < n) (hb : 0 ≤ b ∧ b < n) (hab : a ≠ b) : vsz n (v2 a b) = 2 := by
  have h1 : 2 ≤ vsz n (v2 a b) := countP_two ha hb hab (by simp [v2]) (by simp [v2])
  have one : ∀ (a : Int) (m : Nat), (List.range m).countP (fun i : Nat => ((i : Int) == a)) ≤ 1 := by
    intro a m
    have : (List.range m).countP (fun i : Nat => ((i : Int) == a)) ≤ (List.range m).count a.toNat := by
      rw [List.count]
      refine List.countP_mono_left fun i _ h => ?_
      have : (i : Int) = a := by simpa using h
      simp [← this]
    have h2 := List.nodup_range.count (a := a.toNat) (l := List.range m)
    rw [h2] at this
    split at this <;> omega
  have h2 := countP_or_and (fun i : Nat => ((i : Int) == a)) (fun i : Nat => ((i : Int) == b)) (List.range n)
  have h3 := one a n
  have h4 := one b n
  simp only [vsz, v2] at h1 ⊢
  omega
/-- a bar of a sparse list is tight -/
theorem tgt_bar {n : Nat} {L : List (Int × Int)} {e : Int × Int} (he : e ∈ L) (hb : Bok n e) : Tgt n L (v2 e.1 e.2) := by
  obtain ⟨h1, h2, h3, h4, h5⟩ := hb
  have := vsz_v2 (n := n) ⟨h1, h2⟩ ⟨h3, h4⟩ h5
  refine ⟨by omega, ?_⟩
  have : 0 < spn (v2 e.1 e.2) L := List.countP_pos_iff.2 ⟨e, he, by simp [inX, v2]⟩
  omega

/-! ### families of tight sets that meet in one point at most -/
def Small (n : Nat) (X Y : VS) : Prop := vsz n (vI X Y) ≤ 1
theorem vI_comm (X Y : VS) : vI X Y = vI Y X := by funext v; simp [vI, Bool.and_comm]
theorem spn_two {n : Nat} {X Y : VS} (h : Small n X Y) {e : Int × Int} (hb : Bok n e) : (inX X e && inX Y e) = false := by
  cases h1 : inX X e <;> cases h2 : inX Y e <;> try rfl
  exfalso
  simp only [inX, Bool.and_eq_true] at h1 h2
  obtain ⟨g1, g2, g3, g4, g5⟩ := hb
  have := countP_two (n := n) (X := vI X Y) ⟨g1, g2⟩ ⟨g3, g4⟩ g5 (by simp [vI, h1.1, h2.1]) (by simp [vI, h1.2, h2.2])
  unfold Small at h; omega
structure Fam (n : Nat) (L : List (Int × Int)) (F : List VS) : Prop where
  tgt : ∀ X ∈ F, Tgt n L X
  sml : F.Pairwise (Small n)
theorem fam_add {n : Nat} {L : List (Int × Int)} (hL : Spr n L) : ∀ (k : Nat) (F : List VS) (X : VS), F.length = k → Fam n L F → Tgt n L X →
    ∃ F', Fam n L F' ∧ (∃ Y ∈ F', ∀ e, inX X e = true → inX Y e = true) ∧ ∀ Z ∈ F, ∃ Y ∈ F', ∀ e, inX Z e = true → inX Y e = true := by
  intro k
  induction k with
  | zero =>
    intro F X hk hF hX
    have : F = [] := List.eq_nil_of_length_eq_zero hk
    subst this
    exact ⟨[X], ⟨by simpa using hX, by simp⟩, ⟨X, by simp, fun e he => he⟩, by simp⟩
  | succ k ih =>
    intro F X hk hF hX
    by_cases hbig : ∃ Y ∈ F, 2 ≤ vsz n (vI X Y)
    · obtain ⟨Y, hY, h2⟩ := hbig
      obtain ⟨l1, l2, rfl⟩ := List.append_of_mem hY
      have hF' : Fam n L (l1 ++ l2) := by
        refine ⟨fun Z hZ => hF.tgt Z (by simp at hZ ⊢; rcases hZ with h | h <;> simp [h]), ?_⟩
        exact hF.sml.sublist (by simp)
      obtain ⟨F', g1, ⟨W, hW, g2⟩, g3⟩ := ih (l1 ++ l2) (vU X Y) (by simp at hk ⊢; omega) hF' (hX.union hL (hF.tgt Y hY) h2)
      refine ⟨F', g1, ⟨W, hW, fun e he => g2 e ?_⟩, fun Z hZ => ?_⟩
      · simp only [inX, vU, Bool.and_eq_true, Bool.or_eq_true] at he ⊢
        exact ⟨.inl he.1, .inl he.2⟩
      · have hc : Z = Y ∨ Z ∈ l1 ++ l2 := by
          simp at hZ ⊢
          rcases hZ with h | h | h
          · exact .inr (.inl h)
          · exact .inl h
          · exact .inr (.inr h)
        rcases hc with rfl | hc
        · refine ⟨W, hW, fun e he => g2 e ?_⟩
          simp only [inX, vU, Bool.and_eq_true, Bool.or_eq_true] at he ⊢
          exact ⟨.inr he.1, .inr he.2⟩
        · exact g3 Z hc
    · refine ⟨X :: F, ⟨fun Z hZ => ?_, List.pairwise_cons.2 ⟨fun Z hZ => ?_, hF.sml⟩⟩, ⟨X, by simp, fun e he => he⟩, fun Z hZ => ⟨Z, by simp [hZ], fun e he => he⟩⟩
      · rcases List.mem_cons.1 hZ with rfl | h
        · exact hX
        · exact hF.tgt Z h
      · unfold Small
        by_cases h : vsz n (vI X Z) ≤ 1
        · exact h
        · exact absurd ⟨Z, hZ, by omega⟩ hbig
/-- all that I's tight sets span is spanned by a family -/
theorem fam_all {n : Nat} {I : List (Int × Int)} (hI : Spr n I) : ∀ J : List (Int × Int), (∀ e ∈ J, ∃ X, Tgt n I X ∧ inX X e = true) → ∃ F, Fam n I F ∧ ∀ e ∈ J, ∃ Y ∈ F, inX Y e = true
  | [], _ => ⟨[], ⟨by simp, by simp⟩, by simp⟩
  | e :: J, h => by
    obtain ⟨F, h1, h2⟩ := fam_all hI J fun x hx => h x (by simp [hx])
    obtain ⟨X, hX, he⟩ := h e (by simp)
    obtain ⟨F', g1, ⟨Y, hY, g2⟩, g3⟩ := fam_add hI F.length F X rfl h1 hX
    refine ⟨F', g1, fun x hx => ?_⟩
    rcases List.mem_cons.1 hx with rfl | hx
    · exact ⟨Y, hY, g2 _ he⟩
    · obtain ⟨Z, hZ, h3⟩ := h2 x hx
      obtain ⟨W, hW, h4⟩ := g3 Z hZ
      exact ⟨W, hW, h4 x h3⟩
def sumS (F : List VS) (L : List (Int × Int)) : Nat := (F.map fun X => spn X L).sum
theorem sumS_cons (X : VS) (F : List VS) (L : List (Int × Int)) : sumS (X :: F) L = spn X L + sumS F L := by simp [sumS]
/-- J's bars lie in some set each -/
theorem cover_le {F : List VS} : ∀ {J : List (Int × Int)}, (∀ e ∈ J, ∃ Y ∈ F, inX Y e = true) → J.length ≤ sumS F J
  | [], _ => by simp
  | e :: J, h => by
    have ih := cover_le (F := F) (J := J) fun x hx => h x (by simp [hx])
    have key : ∀ F : List VS, sumS F (e :: J) = sumS F J + F.countP fun Y => inX Y e := by
      intro F
      induction F with
      | nil => simp [sumS]
      | cons X F ihF => rw [sumS_cons, sumS_cons, ihF, spn_cons, List.countP_cons]; split <;> omega
    rw [key]
    obtain ⟨Y, hY, he⟩ := h e (by simp)
    have : 0 < F.countP fun Y => inX Y e := List.countP_pos_iff.2 ⟨Y, hY, he⟩
    simp; omega
/-- I's bars lie in one set at most -/
theorem fam_le {n : Nat} {F : List VS} (hF : F.Pairwise (Small n)) : ∀ {I : List (Int × Int)}, (∀ e ∈ I, Bok n e) → sumS F I ≤ I.length
  | [], _ => by
    have : ∀ F : List VS, sumS F [] = 0 := fun F => by induction F with | nil => rfl | cons X F ih => rw [sumS_cons, ih]; rfl
    rw [this]; simp
  | e :: I, h => by
    have ih := fam_le hF (I := I) fun x hx => h x (by simp [hx])
    have key : ∀ F : List VS, sumS F (e :: I) = sumS F I + F.countP fun Y => inX Y e := by
      intro F
      induction F with
      | nil => simp [sumS]
      | cons X F ihF => rw [sumS_cons, sumS_cons, ihF, spn_cons, List.countP_cons]; split <;> omega
    have one : ∀ F : List VS, F.Pairwise (Small n) → (F.countP fun Y => inX Y e) ≤ 1 := by
      intro F
      induction F with
      | nil => simp
      | cons X F ihF =>
        intro hp
        obtain ⟨h1, h2⟩ := List.pairwise_cons.1 hp
        rw [List.countP_cons]
        by_cases hx : inX X e = true
        · have : (F.countP fun Y => inX Y e) = 0 := List.countP_eq_zero.2 fun Y hY hy => by
            have := spn_two (h1 Y hY) (h e (by simp))
            rw [hx, hy] at this; cases this
          rw [if_pos hx]; omega
        · rw [if_neg hx]; exact ihF h2
    rw [key]
    have := one F hF
    simp; omega
/-- what is sparse and spanned by I's tight sets is no longer than I -/
theorem spr_le {n : Nat} {I J : List (Int × Int)} (hI : Spr n I) (hJ : Spr n J) (hb : ∀ e ∈ I, Bok n e) (h : ∀ e ∈ J, ∃ X, Tgt n I X ∧ inX X e = true) : J.length ≤ I.length := by
  obtain ⟨F, h1, h2⟩ := fam_all hI J h
  refine Nat.le_trans (cover_le h2) (Nat.le_trans ?_ (fam_le h1.sml hb))
  have key : ∀ F : List VS, (∀ X ∈ F, Tgt n I X) → sumS F J ≤ sumS F I := by
    intro F
    induction F with
    | nil => intro _; simp [sumS]
    | cons X F ih =>
      intro hF
      have := ih fun Z hZ => hF Z (by simp [hZ])
      have a1 := (hF X (by simp)).eq hI
      have a2 : spn X J ≤ spn X I := by
        by_cases h0 : 0 < spn X J
        · have := hJ X h0; omega
        · omega
      rw [sumS_cons, sumS_cons]; omega
  exact key F h1.tgt
/-- a basis of L -/
structure Bas (n : Nat) (L I : List (Int × Int)) : Prop where
  mem : ∀ e ∈ I, e ∈ L
  spr : Spr n I
  spn : ∀ e ∈ L, ∃ X, Tgt n I X ∧ inX X e = true
/-- all bases of what spans the same are as long -/
theorem Bas.len {n : Nat} {L L' I J : List (Int × Int)} (hL : ∀ e ∈ L, Bok n e) (hI : Bas n L I) (hJ : Bas n L' J) (hm : ∀ e ∈ J, e ∈ L) : J.length ≤ I.length :=
  spr_le hI.spr hJ.spr (fun e he => hL e (hI.mem e he)) fun e he => hI.spn e (hm e he)
/-- tight sets swallow the tight sets of what they span -/
theorem spr_nil (n : Nat) : Spr n [] := fun X h => by simp [Ytkpmijmlbpdknaa.spn] at h
end Go.Proofs.Ytkpmijmlbpdknaa

/-! ## Pn -/
namespace Go.Proofs.Ytkpmijmlbpdknaa
set_option linter.unusedVariables false
set_option linter.unusedSimpArgs false

def oth (e : Int × Int) (v : Int) : Int := e.1 + e.2 - v
/-- what the points of a set have free -/
def fsum (X : VS) (f : List Int) : Nat → Int
  | 0 => 0
  | m + 1 => fsum X f m + (if X (m : Int) = true then f.getD m 0 else 0)
theorem vsz_succ (m : Nat) (X : VS) : vsz (m + 1) X = vsz m X + (if X (m : Int) = true then 1 else 0) := by
  simp [vsz, List.range_succ, List.countP_append, List.countP_cons]
def pB (X : VS) (m : Nat) (t : Int) : Bool := X t && decide (0 ≤ t) && decide (t < (m : Int))
theorem cnt_succ (X : VS) (m : Nat) : ∀ T : List Int, T.countP (pB X (m + 1)) = T.countP (pB X m) + (if X (m : Int) = true then T.count (m : Int) else 0)
  | [] => by simp
  | t :: T => by
    have ih := cnt_succ X m T
    rw [List.countP_cons, List.countP_cons, List.count_cons, ih]
    by_cases h : t = (m : Int)
    · subst h
      have e1 : pB X (m + 1) (m : Int) = X (m : Int) := by
        have : decide ((m : Int) < ((m + 1 : Nat) : Int)) = true := decide_eq_true (by omega)
        have h0 : decide (0 ≤ (m : Int)) = true := decide_eq_true (by omega)
        unfold pB; rw [this, h0]; simp
      have e2 : pB X m (m : Int) = false := by
        have : decide ((m : Int) < (m : Int)) = false := decide_eq_false (by omega)
        unfold pB; rw [this]; simp
      rw [e1, e2]
      cases X (m : Int) <;> simp <;> omega
    · have e1 : pB X (m + 1) t = pB X m t := by
        have : decide (t < ((m + 1 : Nat) : Int)) = decide (t < (m : Int)) := decide_eq_decide.2 (by omega)
        unfold pB; rw [this]
      have e2 : (t == (m : Int)) = false := by simpa using h
      rw [e1, e2]
      cases X (m : Int) <;> simp <;> omega
theorem fsum_eq {n : Nat} {X : VS} {f T : List Int} (h : ∀ v : Nat, v < n → f.getD v 0 + (T.count (v : Int) : Int) = 2) : ∀ m, m ≤ n → fsum X f m + (T.countP (pB X m) : Int) = 2 * (vsz m X : Int)
  | 0, _ => by
    have : T.countP (pB X 0) = 0 := List.countP_eq_zero.2 fun t _ ht => by simp only [pB, Bool.and_eq_true, decide_eq_true_eq] at ht; omega
    rw [this]; simp [fsum, vsz]
  | m + 1, hm => by
    have ih := fsum_eq (X := X) h m (by omega)
    have := h m (by omega)
    rw [fsum, cnt_succ, vsz_succ]
    split <;> push_cast <;> omega
theorem spn_tails (X : VS) : ∀ {E : List (Int × Int)} {T : List Int}, T.length = E.length → (∀ i, i < E.length → T.getD i 0 = (E.getD i (0, 0)).1 ∨ T.getD i 0 = (E.getD i (0, 0)).2) → spn X E ≤ T.countP X
  | [], _, _, _ => by simp [spn]
  | e :: E, [], h, _ => by simp at h
  | e :: E, t :: T, h, he => by
    have ih := spn_tails X (E := E) (T := T) (by simpa using h) fun i hi => by simpa using he (i + 1) (by simpa using hi)
    have h0 := he 0 (by simp)
    simp at h0
    rw [spn_cons, List.countP_cons]
    by_cases hx : inX X e = true
    · have : X t = true := by
        simp only [inX, Bool.and_eq_true] at hx
        rcases h0 with rfl | rfl
        · exact hx.1
        · exact hx.2
      rw [if_pos hx, if_pos this]; omega
    · rw [if_neg hx]; omega
theorem tails_spn (R : VS) : ∀ {E : List (Int × Int)} {T : List Int}, T.length = E.length → (∀ i, i < E.length → R (T.getD i 0) = true → inX R (E.getD i (0, 0)) = true) → T.countP R ≤ spn R E
  | [], T, h, _ => by
    have : T = [] := List.eq_nil_of_length_eq_zero (by simpa using h)
    subst this; simp [spn]
  | e :: E, [], h, _ => by simp at h
  | e :: E, t :: T, h, he => by
    have ih := tails_spn R (E := E) (T := T) (by simpa using h) fun i hi => by simpa using he (i + 1) (by simpa using hi)
    have h0 := he 0 (by simp)
    simp at h0
    rw [spn_cons, List.countP_cons]
    by_cases hx : R t = true
    · rw [if_pos hx, if_pos (h0 hx)]; omega
    · rw [if_neg hx]; omega
theorem fsum_ge {n : Nat} {X : VS} {f : List Int} {a b : Nat} (hab : a ≠ b) (ha : X (a : Int) = true) (hb : X (b : Int) = true) (nn : ∀ v : Nat, v < n → 0 ≤ f.getD v 0) : ∀ m, m ≤ n → (if a < m then f.getD a 0 else 0) + (if b < m then f.getD b 0 else 0) ≤ fsum X f m
  | 0, _ => by simp [fsum]
  | m + 1, hm => by
    have ih := fsum_ge hab ha hb nn m (by omega)
    have h0 := nn m (by omega)
    rw [fsum]
    by_cases h1 : a = m
    · subst h1
      rw [if_pos ha]
      revert ih
      repeat' split
      all_goals (intro ih; omega)
    · by_cases h2 : b = m
      · subst h2
        rw [if_pos hb]
        revert ih
        repeat' split
        all_goals (intro ih; omega)
      · revert ih
        repeat' split
        all_goals (intro ih; omega)
theorem fsum_le {n : Nat} {X : VS} {f : List Int} {a b : Nat} (hab : a ≠ b) (nn : ∀ v : Nat, v < n → 0 ≤ f.getD v 0) (hz : ∀ v : Nat, v < n → X (v : Int) = true → v ≠ a → v ≠ b → f.getD v 0 = 0) : ∀ m, m ≤ n → fsum X f m ≤ (if a < m then f.getD a 0 else 0) + (if b < m then f.getD b 0 else 0)
  | 0, _ => by simp [fsum]
  | m + 1, hm => by
    have ih := fsum_le hab nn hz m (by omega)
    have h0 := nn m (by omega)
    have hz := hz m (by omega)
    rw [fsum]
    by_cases h1 : a = m
    · subst h1
      revert ih
      repeat' split
      all_goals (intro ih; omega)
    · by_cases h2 : b = m
      · subst h2
        revert ih
        repeat' split
        all_goals (intro ih; omega)
      · by_cases hx : X (m : Int) = true
        · have := hz hx (fun e => h1 e.symm) (fun e => h2 e.symm)
          rw [if_pos hx, this]
          revert ih
          repeat' split
          all_goals (intro ih; omega)
        · rw [if_neg hx]
          revert ih
          repeat' split
          all_goals (intro ih; omega)

structure PInv (n : Nat) (E : List (Int × Int)) (f T : List Int) : Prop where
  fl : f.length = n
  tl : T.length = E.length
  ok : ∀ e ∈ E, Bok n e
  en : ∀ i, i < E.length → T.getD i 0 = (E.getD i (0, 0)).1 ∨ T.getD i 0 = (E.getD i (0, 0)).2
  nn : ∀ v : Nat, v < n → 0 ≤ f.getD v 0
  sm : ∀ v : Nat, v < n → f.getD v 0 + (T.count (v : Int) : Int) = 2
variable {n : Nat} {E : List (Int × Int)} {f T : List Int}
theorem getD_mem {α : Type} {l : List α} {i : Nat} {d : α} (h : i < l.length) : l.getD i d ∈ l := by
  rw [List.getD_eq_getElem?_getD, List.getElem?_eq_getElem h]; exact List.getElem_mem h
theorem PInv.tail (h : PInv n E f T) {i : Nat} (hi : i < E.length) : 0 ≤ T.getD i 0 ∧ T.getD i 0 < n := by
  obtain ⟨h1, h2, h3, h4, h5⟩ := h.ok _ (getD_mem (d := (0, 0)) hi)
  rcases h.en i hi with e | e <;> rw [e] <;> omega
theorem PInv.sum (h : PInv n E f T) (X : VS) : fsum X f n + (T.countP X : Int) = 2 * (vsz n X : Int) := by
  rw [← fsum_eq (X := X) h.sm n (Nat.le_refl _)]
  have : T.countP (pB X n) = T.countP X := List.countP_congr fun t ht => by
    obtain ⟨i, hi, e⟩ := List.mem_iff_getElem.1 ht
    have := h.tail (i := i) (h.tl ▸ hi)
    rw [List.getD_eq_getElem?_getD, List.getElem?_eq_getElem hi] at this
    simp only [Option.getD_some] at this
    rw [e] at this
    have e1 : decide (0 ≤ t) = true := decide_eq_true this.1
    have e2 : decide (t < (n : Int)) = true := decide_eq_true this.2
    unfold pB; rw [e1, e2]; simp
  rw [this]
theorem PInv.le2 (h : PInv n E f T) {v : Nat} (hv : v < n) : f.getD v 0 ≤ 2 := by have := h.sm v hv; omega
/-- a bar between points that have four free keeps the list sparse -/
theorem PInv.acc (h : PInv n E f T) (hE : Spr n E) {a b : Int} (hb : Bok n (a, b)) (h4 : 4 ≤ f.getD a.toNat 0 + f.getD b.toNat 0) : Spr n (E ++ [(a, b)]) := by
  obtain ⟨h1, h2, h3, h5, h6⟩ := hb
  simp only at h1 h2 h3 h5 h6
  obtain ⟨a, rfl⟩ := Int.eq_ofNat_of_zero_le h1
  obtain ⟨b, rfl⟩ := Int.eq_ofNat_of_zero_le h3
  intro X hX
  rw [spn_append] at hX ⊢
  have e1 : spn X [((a : Int), (b : Int))] = if inX X ((a : Int), (b : Int)) = true then 1 else 0 := by rw [spn_cons]; simp [spn]
  rw [e1] at hX ⊢
  by_cases hin : inX X ((a : Int), (b : Int)) = true
  · rw [if_pos hin]
    simp only [inX, Bool.and_eq_true] at hin
    have g1 := fsum_ge (n := n) (f := f) (fun e => h6 (by rw [e])) hin.1 hin.2 h.nn n (Nat.le_refl _)
    rw [if_pos (by omega), if_pos (by omega)] at g1
    have g2 := h.sum X
    have g3 := spn_tails X h.tl h.en
    simp only [Int.toNat_natCast] at h4
    have : (spn X E : Int) ≤ T.countP X := by exact_mod_cast g3
    omega
  · rw [if_neg hin] at hX ⊢
    have := hE X (by omega)
    omega
theorem getD_app {α : Type} (l : List α) (x d : α) (i : Nat) : (l ++ [x]).getD i d = if i < l.length then l.getD i d else if i = l.length then x else d := by
  simp only [List.getD_eq_getElem?_getD, List.getElem?_append]
  split
  · rfl
  · by_cases h : i = l.length
    · subst h; simp
    · rw [if_neg h]
      have : ([x] : List α)[i - l.length]? = none := by simp; omega
      rw [this]; rfl
theorem getD_set {α : Type} (l : List α) (i j : Nat) (x d : α) : (l.set i x).getD j d = if i = j ∧ j < l.length then x else l.getD j d := by
  simp only [List.getD_eq_getElem?_getD, List.getElem?_set]
  by_cases h : i = j
  · subst h
    by_cases h2 : i < l.length
    · simp [h2]
    · simp [h2]
  · simp [h]
theorem PInv.put (h : PInv n E f T) {a b t : Int} (hb : Bok n (a, b)) (ht : t = a ∨ t = b) (hf : 1 ≤ f.getD t.toNat 0) : PInv n (E ++ [(a, b)]) (f.set t.toNat (f.getD t.toNat 0 - 1)) (T ++ [t]) := by
  obtain ⟨h1, h2, h3, h5, h6⟩ := id hb
  simp only at h1 h2 h3 h5 h6
  have ht0 : 0 ≤ t ∧ t < n := by rcases ht with rfl | rfl <;> omega
  obtain ⟨t, rfl⟩ := Int.eq_ofNat_of_zero_le ht0.1
  simp only [Int.toNat_natCast] at hf ⊢
  refine ⟨by simp [h.fl], by simp [h.tl], fun e he => ?_, fun i hi => ?_, fun v hv => ?_, fun v hv => ?_⟩
  · rcases List.mem_append.1 he with he | he
    · exact h.ok e he
    · simp at he; subst he; exact hb
  · simp at hi
    rw [getD_app, getD_app, h.tl]
    by_cases hl : i < E.length
    · rw [if_pos hl, if_pos hl]; exact h.en i hl
    · rw [if_neg hl, if_neg hl, if_pos (by omega), if_pos (by omega)]; exact ht
  · rw [getD_set]
    have := h.nn v hv
    split
    · omega
    · exact this
  · rw [getD_set, List.count_append]
    have := h.sm v hv
    have hl := h.fl
    by_cases e : t = v
    · subst e
      have hc : List.count (t : Int) [(t : Int)] = 1 := by simp
      rw [if_pos ⟨rfl, by omega⟩, hc]
      push_cast
      omega
    · have hc : List.count (v : Int) [(t : Int)] = 0 := List.count_eq_zero.2 fun hm => by simp at hm; omega
      rw [if_neg (fun h => e h.1), hc]
      push_cast
      omega
/-- a closed set with three free at most is tight -/
theorem PInv.rej (h : PInv n E f T) {R : VS} {a b : Int} (hb : Bok n (a, b)) (hcl : ∀ i, i < E.length → R (T.getD i 0) = true → inX R (E.getD i (0, 0)) = true) (ha : R a = true) (hb' : R b = true)
    (hz : ∀ v : Nat, v < n → R (v : Int) = true → (v : Int) ≠ a → (v : Int) ≠ b → f.getD v 0 = 0) (h3 : f.getD a.toNat 0 + f.getD b.toNat 0 ≤ 3) : Tgt n E R := by
  obtain ⟨g1, g2, g3, g4, g5⟩ := id hb
  simp only at g1 g2 g3 g4 g5
  refine ⟨countP_two ⟨g1, g2⟩ ⟨g3, g4⟩ g5 ha hb', ?_⟩
  obtain ⟨a, rfl⟩ := Int.eq_ofNat_of_zero_le g1
  obtain ⟨b, rfl⟩ := Int.eq_ofNat_of_zero_le g3
  have a1 := fsum_le (n := n) (X := R) (f := f) (a := a) (b := b) (fun e => g5 (by rw [e])) h.nn (fun v hv hx h1 h2 => hz v hv hx (by omega) (by omega)) n (Nat.le_refl _)
  rw [if_pos (by omega), if_pos (by omega)] at a1
  have a2 := h.sum R
  have a3 := tails_spn R h.tl hcl
  simp only [Int.toNat_natCast] at h3
  have : (T.countP R : Int) ≤ spn R E := by exact_mod_cast a3
  omega
end Go.Proofs.Ytkpmijmlbpdknaa

/-! ## Po -/
namespace Go.Proofs.Ytkpmijmlbpdknaa
set_option linter.unusedVariables false
set_option linter.unusedSimpArgs false
variable {n : Nat} {E : List (Int × Int)} {f T : List Int} {a b : Int} {q : List Int} {fr : Int → Int} {k m : Nat}

/-- what the search has found so far: q the points in the order of their finding, fr by which bar -/
structure BI (n : Nat) (E : List (Int × Int)) (T : List Int) (a : Int) (q : List Int) (fr : Int → Int) : Prop where
  hd : q.getD 0 0 = a
  pos : 0 < q.length
  nd : q.Nodup
  rg : ∀ v ∈ q, 0 ≤ v ∧ v < n
  st : ∀ j, 0 < j → j < q.length → ∃ j' i : Nat, j' < j ∧ i < E.length ∧ fr (q.getD j 0) = i ∧ T.getD i 0 = q.getD j' 0 ∧ oth (E.getD i (0, 0)) (T.getD i 0) = q.getD j 0
def BZ (f : List Int) (a b : Int) (q : List Int) : Prop := ∀ v ∈ q, v ≠ a → v ≠ b → f.getD v.toNat 0 = 0
def Done (E : List (Int × Int)) (T q : List Int) (k m : Nat) : Prop := (∀ j i : Nat, j < k → i < E.length → T.getD i 0 = q.getD j 0 → oth (E.getD i (0, 0)) (q.getD j 0) ∈ q) ∧ ∀ i : Nat, i < m → i < E.length → T.getD i 0 = q.getD k 0 → oth (E.getD i (0, 0)) (q.getD k 0) ∈ q
theorem BI.start (ha : 0 ≤ a ∧ a < n) : BI n E T a [a] fr := ⟨rfl, by simp, by simp, by simpa using ha, fun j h1 h2 => by simp at h2; omega⟩
theorem Done.start : Done E T q 0 0 := ⟨fun j i h => by omega, fun i h => by omega⟩
theorem nodup_le : ∀ {n : Nat} {q : List Int}, q.Nodup → (∀ v ∈ q, 0 ≤ v ∧ v < n) → q.length ≤ n
  | 0, q, _, hr => by
    cases q with
    | nil => simp
    | cons x q => have := hr x (by simp); omega
  | n + 1, q, hn, hr => by
    by_cases hm : (n : Int) ∈ q
    · have ih := nodup_le (n := n) (hn.erase (n : Int)) fun v hv => by
        have := (hn.mem_erase_iff).1 hv
        have h2 := hr v this.2
        have := this.1
        omega
      rw [List.length_erase_of_mem hm] at ih
      omega
    · have ih := nodup_le (n := n) hn fun v hv => by
        have h2 := hr v hv
        have : v ≠ (n : Int) := fun e => hm (e ▸ hv)
        omega
      omega
theorem BI.len (h : BI n E T a q fr) : q.length ≤ n := nodup_le h.nd h.rg
theorem getD_appl {α : Type} {l : List α} {x d : α} {i : Nat} (h : i < l.length) : (l ++ [x]).getD i d = l.getD i d := by rw [getD_app, if_pos h]
/-- a new point -/
theorem BI.push (h : BI n E T a q fr) {k i : Nat} {v : Int} (hk : k < q.length) (hi : i < E.length) (ht : T.getD i 0 = q.getD k 0) (hv : oth (E.getD i (0, 0)) (q.getD k 0) = v) (hr : 0 ≤ v ∧ v < n) (hn : v ∉ q) {fr' : Int → Int} (h1 : fr' v = i) (h2 : ∀ w ∈ q, fr' w = fr w) : BI n E T a (q ++ [v]) fr' := by
  refine ⟨by rw [getD_appl h.pos]; exact h.hd, by simp, List.nodup_append.2 ⟨h.nd, by simp, fun x hx y hy e => hn ?_⟩, fun w hw => ?_, fun j hj hl => ?_⟩
  · simp at hy; subst hy; subst e; exact hx
  · rcases List.mem_append.1 hw with hw | hw
    · exact h.rg w hw
    · simp at hw; subst hw; exact hr
  · by_cases e : j = q.length
    · subst e
      refine ⟨k, i, hk, hi, ?_, ?_, ?_⟩
      · rw [getD_app]; simp [h1]
      · rw [getD_appl hk]; exact ht
      · rw [ht, hv, getD_app]; simp
    · have hj' : j < q.length := by simp at hl; omega
      obtain ⟨j', i', g1, g2, g3, g4, g5⟩ := h.st j hj hj'
      have hm : q.getD j 0 ∈ q := getD_mem hj'
      exact ⟨j', i', g1, g2, by rw [getD_appl hj', h2 _ hm]; exact g3, by rw [getD_appl (by omega)]; exact g4, by rw [getD_appl hj']; exact g5⟩
theorem BZ.push (h : BZ f a b q) {v : Int} (hv : v = b ∨ f.getD v.toNat 0 = 0) : BZ f a b (q ++ [v]) := fun w hw h1 h2 => by
  rcases List.mem_append.1 hw with hw | hw
  · exact h w hw h1 h2
  · simp at hw; subst hw; exact hv.resolve_left h2
theorem Done.push (h : Done E T q k m) {v : Int} (hk : k < q.length) : Done E T (q ++ [v]) k m := ⟨fun j i hj hi ht => by
  rw [getD_appl (by omega)] at ht ⊢
  exact List.mem_append.2 (.inl (h.1 j i hj hi ht)), fun i hm hi ht => by
  rw [getD_appl hk] at ht ⊢
  exact List.mem_append.2 (.inl (h.2 i hm hi ht))⟩
theorem Done.step (h : Done E T q k m) (hm : m < E.length → T.getD m 0 = q.getD k 0 → oth (E.getD m (0, 0)) (q.getD k 0) ∈ q) : Done E T q k (m + 1) := ⟨h.1, fun i hi hl ht => by
  by_cases e : i = m
  · subst e; exact hm hl ht
  · exact h.2 i (by omega) hl ht⟩
theorem Done.next (h : Done E T q k E.length) : Done E T q (k + 1) 0 := ⟨fun j i hj hi ht => by
  by_cases e : j = k
  · subst e; exact h.2 i hi hi ht
  · exact h.1 j i (by omega) hi ht, fun i h => by omega⟩
/-- what a search that failed leaves -/
def Shut (n : Nat) (E : List (Int × Int)) (f T : List Int) (a b : Int) : Prop := ∃ R : VS, R a = true ∧ (∀ i, i < E.length → R (T.getD i 0) = true → R (oth (E.getD i (0, 0)) (T.getD i 0)) = true) ∧ ∀ v : Nat, v < n → R (v : Int) = true → (v : Int) ≠ a → (v : Int) ≠ b → f.getD v 0 = 0
theorem BI.shut (h : BI n E T a q fr) (hz : BZ f a b q) (hd : Done E T q k 0) (hk : q.length ≤ k) : Shut n E f T a b := by
  refine ⟨fun v => q.contains v, ?_, fun i hi hR => ?_, fun v hv hR h1 h2 => ?_⟩
  · have : q.getD 0 0 ∈ q := getD_mem h.pos
    rw [h.hd] at this
    simpa using this
  · have hR : T.getD i 0 ∈ q := by simpa using hR
    obtain ⟨j, hj, e⟩ := List.mem_iff_getElem.1 hR
    have e' : q.getD j 0 = T.getD i 0 := by rw [List.getD_eq_getElem?_getD, List.getElem?_eq_getElem hj]; exact e
    have := hd.1 j i (by omega) hi e'.symm
    rw [e'] at this
    simpa using this
  · have := hz v (by simpa using hR) h1 h2
    simpa using this
/-- two searches that failed: a tight set -/
theorem Shut.tgt (hp : PInv n E f T) (hb : Bok n (a, b)) (h1 : Shut n E f T a b) (h2 : Shut n E f T b a) (h3 : f.getD a.toNat 0 + f.getD b.toNat 0 ≤ 3) : ∃ X, Tgt n E X ∧ inX X (a, b) = true := by
  obtain ⟨R, r1, r2, r3⟩ := h1
  obtain ⟨S, s1, s2, s3⟩ := h2
  have both : ∀ (R : VS) i, i < E.length → R (T.getD i 0) = true → R (oth (E.getD i (0, 0)) (T.getD i 0)) = true → inX R (E.getD i (0, 0)) = true := by
    intro R i hi g1 g2
    simp only [inX, Bool.and_eq_true]
    rcases hp.en i hi with e | e
    · rw [e] at g1 g2
      simp only [oth] at g2
      exact ⟨g1, by rwa [show (E.getD i (0, 0)).1 + (E.getD i (0, 0)).2 - (E.getD i (0, 0)).1 = (E.getD i (0, 0)).2 from by omega] at g2⟩
    · rw [e] at g1 g2
      simp only [oth] at g2
      exact ⟨by rwa [show (E.getD i (0, 0)).1 + (E.getD i (0, 0)).2 - (E.getD i (0, 0)).2 = (E.getD i (0, 0)).1 from by omega] at g2, g1⟩
  refine ⟨vU R S, hp.rej hb (fun i hi hR => ?_) (by simp [vU, r1]) (by simp [vU, s1]) (fun v hv hR g1 g2 => ?_) h3, by simp [inX, vU, r1, s1]⟩
  · simp only [vU, Bool.or_eq_true] at hR
    rcases hR with hR | hR
    · have := both R i hi hR (r2 i hi hR)
      simp only [inX, vU, Bool.and_eq_true, Bool.or_eq_true] at this ⊢
      exact ⟨.inl this.1, .inl this.2⟩
    · have := both S i hi hR (s2 i hi hR)
      simp only [inX, vU, Bool.and_eq_true, Bool.or_eq_true] at this ⊢
      exact ⟨.inr this.1, .inr this.2⟩
  · simp only [vU, Bool.or_eq_true] at hR
    rcases hR with hR | hR
    · exact r3 v hv hR g1 g2
    · exact s3 v hv hR g2 g1

/-! ### turning the path -/
structure Mv (E : List (Int × Int)) (T T' : List Int) (u at' : Int) : Prop where
  len : T'.length = T.length
  en : ∀ i, i < E.length → T'.getD i 0 = (E.getD i (0, 0)).1 ∨ T'.getD i 0 = (E.getD i (0, 0)).2
  cnt : ∀ v : Int, (T'.count v : Int) + (if v = at' then 1 else 0) = T.count v + (if v = u then 1 else 0)
theorem count_set' {l : List Int} {i : Nat} (h : i < l.length) (x v : Int) : ((l.set i x).count v : Int) = l.count v - (if l.getD i 0 = v then 1 else 0) + (if x = v then 1 else 0) := by
  induction l generalizing i with
  | nil => simp at h
  | cons y l ih =>
    cases i with
    | zero => simp [List.count_cons]; split <;> split <;> omega
    | succ i =>
      have := ih (i := i) (by simpa using h)
      simp only [List.set_cons_succ, List.count_cons, List.getD_cons_succ]
      push_cast
      omega
/-- one step back -/
theorem BI.back (h : BI n E T a q fr) (hp : PInv n E f T) {u : Int} {j : Nat} (hj : 0 < j) (hl : j < q.length) {T' : List Int} (hm : Mv E T T' u (q.getD j 0)) (hun : ∀ j', 0 < j' → j' ≤ j → T'.getD (fr (q.getD j' 0)).toNat 0 = T.getD (fr (q.getD j' 0)).toNat 0) :
    ∃ j' i : Nat, j' < j ∧ i < E.length ∧ fr (q.getD j 0) = i ∧ oth (E.getD i (0, 0)) (q.getD j 0) = q.getD j' 0 ∧ T'.getD i 0 = q.getD j' 0 ∧ Mv E T (T'.set i (q.getD j 0)) u (q.getD j' 0) ∧ ∀ j'', 0 < j'' → j'' ≤ j' → (T'.set i (q.getD j 0)).getD (fr (q.getD j'' 0)).toNat 0 = T.getD (fr (q.getD j'' 0)).toNat 0 := by
  obtain ⟨j', i, g1, g2, g3, g4, g5⟩ := h.st j hj hl
  have e1 := hun j hj (Nat.le_refl _)
  rw [g3, Int.toNat_natCast, g4] at e1
  have e2 : oth (E.getD i (0, 0)) (q.getD j 0) = q.getD j' 0 := by rw [← g5, ← g4]; simp only [oth]; omega
  have hiT : i < T'.length := by rw [hm.len, hp.tl]; exact g2
  refine ⟨j', i, g1, g2, g3, e2, e1, ⟨by simp [hm.len], fun i' hi' => ?_, fun v => ?_⟩, fun j'' h1 h2 => ?_⟩
  · rw [getD_set]
    by_cases e : i = i' ∧ i' < T'.length
    · rw [if_pos e, ← e.1]
      rcases hp.en i g2 with t | t
      · right; rw [← g5, t]; simp only [oth]; omega
      · left; rw [← g5, t]; simp only [oth]; omega
    · rw [if_neg e]; exact hm.en i' hi'
  · have c1 := hm.cnt v
    rw [count_set' hiT, e1]
    revert c1
    generalize (T'.count v : Int) = x
    generalize (T.count v : Int) = y
    intro c1
    have s1 : (if q.getD j' 0 = v then (1 : Int) else 0) = if v = q.getD j' 0 then 1 else 0 := by split <;> split <;> simp_all
    have s2 : (if q.getD j 0 = v then (1 : Int) else 0) = if v = q.getD j 0 then 1 else 0 := by split <;> split <;> simp_all
    rw [s1, s2]
    omega
  · obtain ⟨j3, i3, k1, k2, k3, k4, k5⟩ := h.st j'' h1 (by omega)
    have hne : i ≠ i3 := by
      rintro rfl
      have : q.getD j'' 0 = q.getD j 0 := by rw [← k5, ← g5]
      have hj'' : j'' < q.length := by omega
      rw [List.getD_eq_getElem?_getD, List.getD_eq_getElem?_getD, List.getElem?_eq_getElem hj'', List.getElem?_eq_getElem hl] at this
      have := (List.getElem_inj h.nd).1 this
      omega
    rw [k3, Int.toNat_natCast, getD_set, if_neg (fun e => hne e.1)]
    have := hun j'' h1 (by omega)
    rwa [k3, Int.toNat_natCast] at this
theorem Mv.start (hp : PInv n E f T) (u : Int) : Mv E T T u u := ⟨rfl, hp.en, fun v => rfl⟩
/-- a pebble has come to a -/
structure Won (n : Nat) (E : List (Int × Int)) (f f' T' : List Int) (a b : Int) : Prop where
  inv : PInv n E f' T'
  up : f'.getD a.toNat 0 = f.getD a.toNat 0 + 1
  keep : f'.getD b.toNat 0 = f.getD b.toNat 0
def fMove (f : List Int) (u a : Int) : List Int := (f.set u.toNat (f.getD u.toNat 0 - 1)).set a.toNat ((f.set u.toNat (f.getD u.toNat 0 - 1)).getD a.toNat 0 + 1)
theorem Mv.won (hp : PInv n E f T) {u : Int} {T' : List Int} (hm : Mv E T T' u a) (ha : 0 ≤ a ∧ a < n) (hu : 0 ≤ u ∧ u < n) (hb : 0 ≤ b ∧ b < n) (hua : u ≠ a) (hub : u ≠ b) (hab : a ≠ b) (hf : 1 ≤ f.getD u.toNat 0) : Won n E f (fMove f u a) T' a b := by
  obtain ⟨a, rfl⟩ := Int.eq_ofNat_of_zero_le ha.1
  obtain ⟨u, rfl⟩ := Int.eq_ofNat_of_zero_le hu.1
  obtain ⟨b, rfl⟩ := Int.eq_ofNat_of_zero_le hb.1
  have hl := hp.fl
  have key : ∀ v : Nat, v < n → (fMove f u a).getD v 0 = f.getD v 0 - (if v = u then 1 else 0) + (if v = a then 1 else 0) := by
    intro v hv
    simp only [fMove, Int.toNat_natCast] at hf ⊢
    rw [getD_set, getD_set, getD_set]
    simp only [List.length_set]
    have hua' : u ≠ a := fun e => hua (by rw [e])
    by_cases h1 : v = a
    · subst h1
      have e1 : (if v = u then (1 : Int) else 0) = 0 := if_neg fun e => hua' e.symm
      rw [e1, if_pos ⟨rfl, by omega⟩, if_neg (fun h => hua' h.1), if_pos rfl]
      omega
    · have e1 : (if v = a then (1 : Int) else 0) = 0 := if_neg h1
      rw [e1, if_neg (fun h => h1 h.1.symm)]
      by_cases h2 : v = u
      · subst h2
        rw [if_pos ⟨rfl, by omega⟩, if_pos rfl]; omega
      · rw [if_neg (fun h => h2 h.1.symm), if_neg h2]; omega
  refine ⟨⟨by simp [fMove, hl], hm.len.trans hp.tl, hp.ok, hm.en, fun v hv => ?_, fun v hv => ?_⟩, ?_, ?_⟩
  · rw [key v hv]
    have := hp.nn v hv
    simp only [Int.toNat_natCast] at hf
    by_cases h1 : v = u
    · subst h1; split <;> split <;> omega
    · rw [if_neg h1]; split <;> omega
  · rw [key v hv]
    have c := hm.cnt (v : Int)
    have s := hp.sm v hv
    have s1 : (if (v : Int) = (a : Int) then (1 : Int) else 0) = if v = a then 1 else 0 := by split <;> split <;> omega
    have s2 : (if (v : Int) = (u : Int) then (1 : Int) else 0) = if v = u then 1 else 0 := by split <;> split <;> omega
    rw [s1, s2] at c
    omega
  · simp only [Int.toNat_natCast]
    rw [key a (by omega), if_neg (by omega), if_pos rfl]; omega
  · simp only [Int.toNat_natCast]
    rw [key b (by omega), if_neg (by omega), if_neg (by omega)]; omega
end Go.Proofs.Ytkpmijmlbpdknaa
