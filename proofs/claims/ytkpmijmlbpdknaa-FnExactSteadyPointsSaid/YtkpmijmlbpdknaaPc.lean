/- Loops of plain texts: searches and foldings. -/
import Derived.Test.YtkpmijmlbpdknaaPa
namespace Go.Proofs.Ytkpmijmlbpdknaa
set_option linter.unusedVariables false
set_option linter.unusedSimpArgs false
variable {R σ : Type}
/-- a search: goes on while ok -/
theorem srchA {F : Nat → Int → Option R} {len : Nat} {ok : Nat → Bool} {bad fin : Option R}
    (hs : ∀ n i : Nat, i < len → (∀ j, j < i → ok j = true) → F (n + 1) (i : Int) = cnd (ok i) (F n ((i + 1 : Nat) : Int)) bad) (hf : ∀ n : Nat, (∀ j, j < len → ok j = true) → F (n + 1) (len : Int) = fin) :
    ∀ n i : Nat, i ≤ len → len < n + i → (∀ j, j < i → ok j = true) → F n (i : Int) = cnd ((List.range len).all ok) fin bad := by
  intro n
  induction n with
  | zero => intro i h1 h2; omega
  | succ n ih =>
    intro i h1 h2 h3
    by_cases hi : i < len
    · rw [hs n i hi h3]
      cases ho : ok i with
      | true =>
        exact ih (i + 1) (by omega) (by omega) fun j hj => by
          rcases Nat.lt_or_ge j i with h | h
          · exact h3 j h
          · rw [show j = i by omega]; exact ho
      | false =>
        have : (List.range len).all ok = false := by
          rw [List.all_eq_false]; exact ⟨i, by simpa using hi, by simp [ho]⟩
        rw [this]; rfl
    · obtain rfl : i = len := by omega
      rw [hf n h3]
      have : (List.range i).all ok = true := by
        rw [List.all_eq_true]; intro j hj; exact h3 j (by simpa using hj)
      rw [this]; rfl
theorem srch {F : Nat → Int → Option R} {N len : Nat} {ok : Nat → Bool} {bad fin : Option R} (hN : len < N)
    (hs : ∀ n i : Nat, i < len → (∀ j, j < i → ok j = true) → F (n + 1) (i : Int) = cnd (ok i) (F n ((i + 1 : Nat) : Int)) bad) (hf : ∀ n : Nat, (∀ j, j < len → ok j = true) → F (n + 1) (len : Int) = fin) :
    F N (0 : Int) = cnd ((List.range len).all ok) fin bad :=
  srchA hs hf N 0 (by omega) (by omega) (by omega)
/-- a search that begins at 1 -/
theorem srch1 {F : Nat → Int → Option R} {N len : Nat} {ok : Nat → Bool} {bad fin : Option R} (hN : len + 1 < N) (h0 : ok 0 = true)
    (hs : ∀ n i : Nat, 0 < i → i < len → F (n + 1) (i : Int) = cnd (ok i) (F n ((i + 1 : Nat) : Int)) bad) (hf : ∀ n i : Nat, len ≤ i → F (n + 1) (i : Int) = fin) :
    F N (1 : Int) = cnd ((List.range len).all ok) fin bad := by
  have key : ∀ n i : Nat, 0 < i → i ≤ len + 1 → len + 1 < n + i → (∀ j, j < i → j < len → ok j = true) → F n (i : Int) = cnd ((List.range len).all ok) fin bad := by
    intro n
    induction n with
    | zero => intro i h1 h2 h3 h4; omega
    | succ n ih =>
      intro i h1 h4 h2 h3
      by_cases hi : i < len
      · rw [hs n i h1 hi]
        cases ho : ok i with
        | true =>
          exact ih (i + 1) (by omega) (by omega) (by omega) fun j hj hl => by
            rcases Nat.lt_or_ge j i with h | h
            · exact h3 j h hl
            · rw [show j = i by omega]; exact ho
        | false =>
          have : (List.range len).all ok = false := by
            rw [List.all_eq_false]; exact ⟨i, by simpa using hi, by simp [ho]⟩
          rw [this]; rfl
      · rw [hf n i (by omega)]
        have : (List.range len).all ok = true := by
          rw [List.all_eq_true]; intro j hj; exact h3 j (by have := List.mem_range.1 hj; omega) (by simpa using hj)
        rw [this]; rfl
  exact key N 1 (by omega) (by omega) (by omega) fun j hj _ => by rw [show j = 0 by omega]; exact h0
/-- a folding whose states are known -/
theorem foldA {F : Nat → σ × Int → Option R} {len : Nat} {st : Nat → σ} {fin : Option R} (hs : ∀ n i : Nat, i < len → F (n + 1) (st i, (i : Int)) = F n (st (i + 1), ((i + 1 : Nat) : Int))) (hf : ∀ n : Nat, F (n + 1) (st len, (len : Int)) = fin) :
    ∀ n i : Nat, i ≤ len → len < n + i → F n (st i, (i : Int)) = fin := by
  intro n
  induction n with
  | zero => intro i h1 h2; omega
  | succ n ih =>
    intro i h1 h2
    by_cases hi : i < len
    · rw [hs n i hi]; exact ih (i + 1) (by omega) (by omega)
    · obtain rfl : i = len := by omega
      exact hf n
theorem fold {F : Nat → σ × Int → Option R} {N len : Nat} {st : Nat → σ} {fin : Option R} (hN : len < N) (hs : ∀ n i : Nat, i < len → F (n + 1) (st i, (i : Int)) = F n (st (i + 1), ((i + 1 : Nat) : Int))) (hf : ∀ n : Nat, F (n + 1) (st len, (len : Int)) = fin) :
    F N (st 0, (0 : Int)) = fin := foldA hs hf N 0 (by omega) (by omega)
theorem cnd_cond {α : Type} (b : Bool) (x y : α) : cnd b x y = bif b then x else y := by cases b <;> rfl
theorem cnd_flip {α : Type} (b : Bool) (x y : α) : cnd b x y = cnd (!b) y x := by cases b <;> rfl
/-- two ways of the same choice -/
theorem cnd_congr {α : Type} {a b : Bool} (h : a = b) (x y : α) : cnd a x y = cnd b x y := by rw [h]
theorem cnd_congr' {α : Type} {a b : Bool} (h : a = !b) (x y : α) : cnd a x y = cnd b y x := by subst h; cases b <;> rfl
theorem succ_cast (i : Nat) : ((i : Int) + 1) = ((i + 1 : Nat) : Int) := rfl
theorem range_all_not_contains (l : List Int) (x : Int) : ((List.range l.length).all fun i => !(l.getD i 0 == x)) = !l.contains x := by
  rw [Bool.eq_iff_iff, List.all_eq_true]
  simp only [List.mem_range, Bool.not_eq_true', beq_eq_false_iff_ne, List.contains_eq_mem, decide_eq_false_iff_not]
  constructor
  · intro h hx
    obtain ⟨i, hi, he⟩ := List.mem_iff_getElem.1 hx
    exact h i hi (by simp [List.getD_eq_getElem?_getD, hi, he])
  · intro h i hi he
    exact h (List.mem_iff_getElem.2 ⟨i, hi, by simpa [List.getD_eq_getElem?_getD, hi] using he⟩)
end Go.Proofs.Ytkpmijmlbpdknaa
