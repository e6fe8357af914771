/- Plain lemmas for plain texts. -/
import Derived.Test.YtkpmijmlbpdknaaShb
namespace Go.Proofs.Ytkpmijmlbpdknaa
set_option linter.unusedVariables false
set_option linter.unusedSimpArgs false
section
variable {α β : Type}
theorem grd_R {x : Int} (h1 : -9223372036854775808 ≤ x) (h2 : x ≤ 9223372036854775807) (y : Option α) : grd (Rg64 x) y = y := grd_pos ⟨h1, h2⟩ y
theorem grd_T [inst : Decidable True] (x : Option α) : grd True x = x := grd_pos trivial x
theorem cnd_dt {p : Prop} [Decidable p] (h : p) (x y : α) : cnd (decide p) x y = x := by rw [decide_eq_true h]; rfl
theorem cnd_df {p : Prop} [Decidable p] (h : ¬ p) (x y : α) : cnd (decide p) x y = y := by rw [decide_eq_false h]; rfl
theorem cnd_eqt {a b : Int} (h : a = b) (x y : α) : cnd (a == b) x y = x := by simp [h]
theorem cnd_eqf {a b : Int} (h : ¬ a = b) (x y : α) : cnd (a == b) x y = y := by rw [show (a == b) = false by simpa using h]; rfl
theorem cnd_net {a b : Int} (h : ¬ a = b) (x y : α) : cnd (a != b) x y = x := by rw [show (a != b) = true by simpa using h]; rfl
theorem cnd_nef {a b : Int} (h : a = b) (x y : α) : cnd (a != b) x y = y := by simp [h]
theorem cnd_not (b : Bool) (x y : α) : cnd (!b) x y = cnd b y x := by cases b <;> rfl
theorem cnd_or (a b : Bool) (x y : α) : cnd a x (cnd b x y) = cnd (a || b) x y := by cases a <;> rfl
theorem cnd_and (a b : Bool) (x y : α) : cnd a (cnd b x y) y = cnd (a && b) x y := by cases a <;> rfl
theorem cnd_same (b : Bool) (x : α) : cnd b x x = x := by cases b <;> rfl
theorem cnd_some (b : Bool) (x y : α) : cnd b (some x) (some y) = some (cnd b x y) := by cases b <;> rfl
theorem cnd_bool (b : Bool) : cnd b true false = b := by cases b <;> rfl
theorem cnd_bool' (b : Bool) : cnd b false true = !b := by cases b <;> rfl
theorem tk0 (l : List α) : (l.take (0 + l.length)).drop 0 = l := by simp
theorem jn_def (k : α) (f : α → β) : jn k f = f k := rfl

/-- the first i of a list, then z -/
def cpy (a : List α) (z : α) (i : Nat) : List α := a.take i ++ List.replicate (a.length - i) z
theorem cpy_len (a : List α) (z : α) (i : Nat) : (cpy a z i).length = a.length := by simp [cpy]; omega
theorem cpy_zero (a : List α) (z : α) : List.replicate a.length z = cpy a z 0 := by simp [cpy]
theorem cpy_full (a : List α) (z : α) : cpy a z a.length = a := by simp [cpy]
theorem cpy_set (a : List α) (z y : α) (i : Nat) (h : i < a.length) (hy : a.getD i y = a.getD i y) : (cpy a z i).set i (a.getD i y) = cpy a z (i + 1) := by
  unfold cpy
  apply List.ext_getElem
  · simp; omega
  · intro j h1 h2
    simp at h1 h2
    rw [List.getElem_set]
    split
    · rename_i e; subst e
      rw [List.getElem_append_left (by simp; omega)]
      simp [List.getD_eq_getElem?_getD, h]
    · rcases Nat.lt_or_ge j i with hj | hj
      · rw [List.getElem_append_left (by simp; omega), List.getElem_append_left (by simp; omega)]; simp
      · rw [List.getElem_append_right (by simp; omega), List.getElem_append_right (by simp; omega)]; simp
end
/-- a pair put cell by cell -/
theorem set_pair (l : List (Int × Int)) (i : Nat) (x y : Int) (h : i < l.length) : (l.set i (x, (l.getD i (0, 0)).2)).set i (((l.set i (x, (l.getD i (0, 0)).2)).getD i (0, 0)).1, y) = l.set i (x, y) := by
  rw [List.set_set]
  congr 2
  simp [List.getD_eq_getElem?_getD, h]
/-! ### lengths of what is read -/
def lensS : D → Prop
  | .ro _ q => q.len ≤ 9223372036854775807
  | _ => True
def lensAll : List D → Prop
  | [] => True
  | d :: l => lensS d ∧ lensAll l
def lensP : D → Prop
  | .agg l => lensAll l
  | d => lensS d
theorem VR.lensS {M : Mp} {A : Bool → Nat → Prop} {w : World} {d : D} {v : Value} (h : VR M A w d v) : lensS d := by
  cases h <;> first | trivial | assumption
theorem lensAll_of {l : List D} (h : ∀ d ∈ l, lensS d) : lensAll l := by
  induction l with
  | nil => trivial
  | cons d l ih => exact ⟨h d (by simp), ih fun x hx => h x (by simp [hx])⟩
theorem VR.lens {M : Mp} {A : Bool → Nat → Prop} {w : World} {d : D} {v : Value} (h : VR M A w d v) : lensP d := by
  cases d with
  | agg l =>
    obtain ⟨us, rfl, hl, hv⟩ := h.agg_inv
    refine lensAll_of fun d hd => ?_
    obtain ⟨i, hi⟩ := List.getElem?_of_mem hd
    exact (hv i d hi).lensS
  | _ => exact h.lensS
end Go.Proofs.Ytkpmijmlbpdknaa
