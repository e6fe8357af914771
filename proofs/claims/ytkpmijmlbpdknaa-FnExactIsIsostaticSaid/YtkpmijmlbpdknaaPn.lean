/- The pebble game: its invariants. No program in sight. -/
import Derived.Test.YtkpmijmlbpdknaaPm
namespace Go.Proofs.Ytkpmijmlbpdknaa
set_option linter.unusedVariables false
set_option linter.unusedSimpArgs false

def oth (e : Int × Int) (v : Int) : Int := e.1 + e.2 - v
/-- what the points of a set have free -/
def fsum (X : VS) (f : List Int) : Nat → Int
  | 0 => 0
  | m + 1 => fsum X f m + (if X (m : Int) = true then f.getD m 0 else 0)
theorem vsz_succ (m : Nat) (X : VS) : vsz (m + 1) X = vsz m X + (if X (m : Int) = true then 1 else 0) := by
  simp [vsz, List.range_succ, List.countP_append, List.countP_cons]
def pB (X : VS) (m : Nat) (t : Int) : Bool := X t && decide (0 ≤ t) && decide (t < (m : Int))
theorem cnt_succ (X : VS) (m : Nat) : ∀ T : List Int, T.countP (pB X (m + 1)) = T.countP (pB X m) + (if X (m : Int) = true then T.count (m : Int) else 0)
  | [] => by simp
  | t :: T => by
    have ih := cnt_succ X m T
    rw [List.countP_cons, List.countP_cons, List.count_cons, ih]
    by_cases h : t = (m : Int)
    · subst h
      have e1 : pB X (m + 1) (m : Int) = X (m : Int) := by
        have : decide ((m : Int) < ((m + 1 : Nat) : Int)) = true := decide_eq_true (by omega)
        have h0 : decide (0 ≤ (m : Int)) = true := decide_eq_true (by omega)
        unfold pB; rw [this, h0]; simp
      have e2 : pB X m (m : Int) = false := by
        have : decide ((m : Int) < (m : Int)) = false := decide_eq_false (by omega)
        unfold pB; rw [this]; simp
      rw [e1, e2]
      cases X (m : Int) <;> simp <;> omega
    · have e1 : pB X (m + 1) t = pB X m t := by
        have : decide (t < ((m + 1 : Nat) : Int)) = decide (t < (m : Int)) := decide_eq_decide.2 (by omega)
        unfold pB; rw [this]
      have e2 : (t == (m : Int)) = false := by simpa using h
      rw [e1, e2]
      cases X (m : Int) <;> simp <;> omega
theorem fsum_eq {n : Nat} {X : VS} {f T : List Int} (h : ∀ v : Nat, v < n → f.getD v 0 + (T.count (v : Int) : Int) = 2) : ∀ m, m ≤ n → fsum X f m + (T.countP (pB X m) : Int) = 2 * (vsz m X : Int)
  | 0, _ => by
    have : T.countP (pB X 0) = 0 := List.countP_eq_zero.2 fun t _ ht => by simp only [pB, Bool.and_eq_true, decide_eq_true_eq] at ht; omega
    rw [this]; simp [fsum, vsz]
  | m + 1, hm => by
    have ih := fsum_eq (X := X) h m (by omega)
    have := h m (by omega)
    rw [fsum, cnt_succ, vsz_succ]
    split <;> push_cast <;> omega
theorem spn_tails (X : VS) : ∀ {E : List (Int × Int)} {T : List Int}, T.length = E.length → (∀ i, i < E.length → T.getD i 0 = (E.getD i (0, 0)).1 ∨ T.getD i 0 = (E.getD i (0, 0)).2) → spn X E ≤ T.countP X
  | [], _, _, _ => by simp [spn]
  | e :: E, [], h, _ => by simp at h
  | e :: E, t :: T, h, he => by
    have ih := spn_tails X (E := E) (T := T) (by simpa using h) fun i hi => by simpa using he (i + 1) (by simpa using hi)
    have h0 := he 0 (by simp)
    simp at h0
    rw [spn_cons, List.countP_cons]
    by_cases hx : inX X e = true
    · have : X t = true := by
        simp only [inX, Bool.and_eq_true] at hx
        rcases h0 with rfl | rfl
        · exact hx.1
        · exact hx.2
      rw [if_pos hx, if_pos this]; omega
    · rw [if_neg hx]; omega
theorem tails_spn (R : VS) : ∀ {E : List (Int × Int)} {T : List Int}, T.length = E.length → (∀ i, i < E.length → R (T.getD i 0) = true → inX R (E.getD i (0, 0)) = true) → T.countP R ≤ spn R E
  | [], T, h, _ => by
    have : T = [] := List.eq_nil_of_length_eq_zero (by simpa using h)
    subst this; simp [spn]
  | e :: E, [], h, _ => by simp at h
  | e :: E, t :: T, h, he => by
    have ih := tails_spn R (E := E) (T := T) (by simpa using h) fun i hi => by simpa using he (i + 1) (by simpa using hi)
    have h0 := he 0 (by simp)
    simp at h0
    rw [spn_cons, List.countP_cons]
    by_cases hx : R t = true
    · rw [if_pos hx, if_pos (h0 hx)]; omega
    · rw [if_neg hx]; omega
theorem fsum_ge {n : Nat} {X : VS} {f : List Int} {a b : Nat} (hab : a ≠ b) (ha : X (a : Int) = true) (hb : X (b : Int) = true) (nn : ∀ v : Nat, v < n → 0 ≤ f.getD v 0) : ∀ m, m ≤ n → (if a < m then f.getD a 0 else 0) + (if b < m then f.getD b 0 else 0) ≤ fsum X f m
  | 0, _ => by simp [fsum]
  | m + 1, hm => by
    have ih := fsum_ge hab ha hb nn m (by omega)
    have h0 := nn m (by omega)
    rw [fsum]
    by_cases h1 : a = m
    · subst h1
      rw [if_pos ha]
      revert ih
      repeat' split
      all_goals (intro ih; omega)
    · by_cases h2 : b = m
      · subst h2
        rw [if_pos hb]
        revert ih
        repeat' split
        all_goals (intro ih; omega)
      · revert ih
        repeat' split
        all_goals (intro ih; omega)
theorem fsum_le {n : Nat} {X : VS} {f : List Int} {a b : Nat} (hab : a ≠ b) (nn : ∀ v : Nat, v < n → 0 ≤ f.getD v 0) (hz : ∀ v : Nat, v < n → X (v : Int) = true → v ≠ a → v ≠ b → f.getD v 0 = 0) : ∀ m, m ≤ n → fsum X f m ≤ (if a < m then f.getD a 0 else 0) + (if b < m then f.getD b 0 else 0)
  | 0, _ => by simp [fsum]
  | m + 1, hm => by
    have ih := fsum_le hab nn hz m (by omega)
    have h0 := nn m (by omega)
    have hz := hz m (by omega)
    rw [fsum]
    by_cases h1 : a = m
    · subst h1
      revert ih
      repeat' split
      all_goals (intro ih; omega)
    · by_cases h2 : b = m
      · subst h2
        revert ih
        repeat' split
        all_goals (intro ih; omega)
      · by_cases hx : X (m : Int) = true
        · have := hz hx (fun e => h1 e.symm) (fun e => h2 e.symm)
          rw [if_pos hx, this]
          revert ih
          repeat' split
          all_goals (intro ih; omega)
        · rw [if_neg hx]
          revert ih
          repeat' split
          all_goals (intro ih; omega)

structure PInv (n : Nat) (E : List (Int × Int)) (f T : List Int) : Prop where
  fl : f.length = n
  tl : T.length = E.length
  ok : ∀ e ∈ E, Bok n e
  en : ∀ i, i < E.length → T.getD i 0 = (E.getD i (0, 0)).1 ∨ T.getD i 0 = (E.getD i (0, 0)).2
  nn : ∀ v : Nat, v < n → 0 ≤ f.getD v 0
  sm : ∀ v : Nat, v < n → f.getD v 0 + (T.count (v : Int) : Int) = 2
variable {n : Nat} {E : List (Int × Int)} {f T : List Int}
theorem getD_mem {α : Type} {l : List α} {i : Nat} {d : α} (h : i < l.length) : l.getD i d ∈ l := by
  rw [List.getD_eq_getElem?_getD, List.getElem?_eq_getElem h]; exact List.getElem_mem h
theorem PInv.tail (h : PInv n E f T) {i : Nat} (hi : i < E.length) : 0 ≤ T.getD i 0 ∧ T.getD i 0 < n := by
  obtain ⟨h1, h2, h3, h4, h5⟩ := h.ok _ (getD_mem (d := (0, 0)) hi)
  rcases h.en i hi with e | e <;> rw [e] <;> omega
theorem PInv.sum (h : PInv n E f T) (X : VS) : fsum X f n + (T.countP X : Int) = 2 * (vsz n X : Int) := by
  rw [← fsum_eq (X := X) h.sm n (Nat.le_refl _)]
  have : T.countP (pB X n) = T.countP X := List.countP_congr fun t ht => by
    obtain ⟨i, hi, e⟩ := List.mem_iff_getElem.1 ht
    have := h.tail (i := i) (h.tl ▸ hi)
    rw [List.getD_eq_getElem?_getD, List.getElem?_eq_getElem hi] at this
    simp only [Option.getD_some] at this
    rw [e] at this
    have e1 : decide (0 ≤ t) = true := decide_eq_true this.1
    have e2 : decide (t < (n : Int)) = true := decide_eq_true this.2
    unfold pB; rw [e1, e2]; simp
  rw [this]
theorem PInv.le2 (h : PInv n E f T) {v : Nat} (hv : v < n) : f.getD v 0 ≤ 2 := by have := h.sm v hv; omega
/-- a bar between points that have four free keeps the list sparse -/
theorem PInv.acc (h : PInv n E f T) (hE : Spr n E) {a b : Int} (hb : Bok n (a, b)) (h4 : 4 ≤ f.getD a.toNat 0 + f.getD b.toNat 0) : Spr n (E ++ [(a, b)]) := by
  obtain ⟨h1, h2, h3, h5, h6⟩ := hb
  simp only at h1 h2 h3 h5 h6
  obtain ⟨a, rfl⟩ := Int.eq_ofNat_of_zero_le h1
  obtain ⟨b, rfl⟩ := Int.eq_ofNat_of_zero_le h3
  intro X hX
  rw [spn_append] at hX ⊢
  have e1 : spn X [((a : Int), (b : Int))] = if inX X ((a : Int), (b : Int)) = true then 1 else 0 := by rw [spn_cons]; simp [spn]
  rw [e1] at hX ⊢
  by_cases hin : inX X ((a : Int), (b : Int)) = true
  · rw [if_pos hin]
    simp only [inX, Bool.and_eq_true] at hin
    have g1 := fsum_ge (n := n) (f := f) (fun e => h6 (by rw [e])) hin.1 hin.2 h.nn n (Nat.le_refl _)
    rw [if_pos (by omega), if_pos (by omega)] at g1
    have g2 := h.sum X
    have g3 := spn_tails X h.tl h.en
    simp only [Int.toNat_natCast] at h4
    have : (spn X E : Int) ≤ T.countP X := by exact_mod_cast g3
    omega
  · rw [if_neg hin] at hX ⊢
    have := hE X (by omega)
    omega
theorem getD_app {α : Type} (l : List α) (x d : α) (i : Nat) : (l ++ [x]).getD i d = if i < l.length then l.getD i d else if i = l.length then x else d := by
  simp only [List.getD_eq_getElem?_getD, List.getElem?_append]
  split
  · rfl
  · by_cases h : i = l.length
    · subst h; simp
    · rw [if_neg h]
      have : ([x] : List α)[i - l.length]? = none := by simp; omega
      rw [this]; rfl
theorem getD_set {α : Type} (l : List α) (i j : Nat) (x d : α) : (l.set i x).getD j d = if i = j ∧ j < l.length then x else l.getD j d := by
  simp only [List.getD_eq_getElem?_getD, List.getElem?_set]
  by_cases h : i = j
  · subst h
    by_cases h2 : i < l.length
    · simp [h2]
    · simp [h2]
  · simp [h]
theorem PInv.put (h : PInv n E f T) {a b t : Int} (hb : Bok n (a, b)) (ht : t = a ∨ t = b) (hf : 1 ≤ f.getD t.toNat 0) : PInv n (E ++ [(a, b)]) (f.set t.toNat (f.getD t.toNat 0 - 1)) (T ++ [t]) := by
  obtain ⟨h1, h2, h3, h5, h6⟩ := id hb
  simp only at h1 h2 h3 h5 h6
  have ht0 : 0 ≤ t ∧ t < n := by rcases ht with rfl | rfl <;> omega
  obtain ⟨t, rfl⟩ := Int.eq_ofNat_of_zero_le ht0.1
  simp only [Int.toNat_natCast] at hf ⊢
  refine ⟨by simp [h.fl], by simp [h.tl], fun e he => ?_, fun i hi => ?_, fun v hv => ?_, fun v hv => ?_⟩
  · rcases List.mem_append.1 he with he | he
    · exact h.ok e he
    · simp at he; subst he; exact hb
  · simp at hi
    rw [getD_app, getD_app, h.tl]
    by_cases hl : i < E.length
    · rw [if_pos hl, if_pos hl]; exact h.en i hl
    · rw [if_neg hl, if_neg hl, if_pos (by omega), if_pos (by omega)]; exact ht
  · rw [getD_set]
    have := h.nn v hv
    split
    · omega
    · exact this
  · rw [getD_set, List.count_append]
    have := h.sm v hv
    have hl := h.fl
    by_cases e : t = v
    · subst e
      have hc : List.count (t : Int) [(t : Int)] = 1 := by simp
      rw [if_pos ⟨rfl, by omega⟩, hc]
      push_cast
      omega
    · have hc : List.count (v : Int) [(t : Int)] = 0 := List.count_eq_zero.2 fun hm => by simp at hm; omega
      rw [if_neg (fun h => e h.1), hc]
      push_cast
      omega
/-- a closed set with three free at most is tight -/
theorem PInv.rej (h : PInv n E f T) {R : VS} {a b : Int} (hb : Bok n (a, b)) (hcl : ∀ i, i < E.length → R (T.getD i 0) = true → inX R (E.getD i (0, 0)) = true) (ha : R a = true) (hb' : R b = true)
    (hz : ∀ v : Nat, v < n → R (v : Int) = true → (v : Int) ≠ a → (v : Int) ≠ b → f.getD v 0 = 0) (h3 : f.getD a.toNat 0 + f.getD b.toNat 0 ≤ 3) : Tgt n E R := by
  obtain ⟨g1, g2, g3, g4, g5⟩ := id hb
  simp only at g1 g2 g3 g4 g5
  refine ⟨countP_two ⟨g1, g2⟩ ⟨g3, g4⟩ g5 ha hb', ?_⟩
  obtain ⟨a, rfl⟩ := Int.eq_ofNat_of_zero_le g1
  obtain ⟨b, rfl⟩ := Int.eq_ofNat_of_zero_le g3
  have a1 := fsum_le (n := n) (X := R) (f := f) (a := a) (b := b) (fun e => g5 (by rw [e])) h.nn (fun v hv hx h1 h2 => hz v hv hx (by omega) (by omega)) n (Nat.le_refl _)
  rw [if_pos (by omega), if_pos (by omega)] at a1
  have a2 := h.sum R
  have a3 := tails_spn R h.tl hcl
  simp only [Int.toNat_natCast] at h3
  have : (T.countP R : Int) ≤ spn R E := by exact_mod_cast a3
  omega
end Go.Proofs.Ytkpmijmlbpdknaa
