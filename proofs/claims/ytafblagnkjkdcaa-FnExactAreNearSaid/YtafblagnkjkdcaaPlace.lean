/- Contracts of the small functions on places. -/
import Derived.Test.YtafblagnkjkdcaaNum
namespace Go.Proofs.Ytafblagnkjkdcaa
open Go.RowKit
set_option linter.unusedSimpArgs false
set_option linter.unusedVariables false

def onB (x y : Int) : Bool := inB x 0 4 && inB y 0 4
theorem onB_bd {x y : Int} (h : onB x y = true) : 0 ≤ x ∧ x ≤ 4 ∧ 0 ≤ y ∧ y ≤ 4 := by
  simp [onB, inB] at h; omega

theorem isPlace_c (x y : Int) (w : World) :
    Calls Try.prog 36 #[.agg #[.int .i64 x, .int .i64 y]] w fun e w' => e = .returned (.bool (onB x y)) ∧ Below w.heap.size w w' := by
  cases hx : inB x 0 4
  all_goals
    have Hx := Lib.hid hx
    go_enter Try.func36, Try.ntmps36
    go_wp2_with (go_at_call 37; refine (within_c _ _ _ _).mono ?_; rintro e w' ⟨rfl, rfl⟩)
    go_ret
    exact ⟨ret_bool (by simp [onB, Hx.out]), (Below.refl _ _).alloc (Nat.le_refl _) _⟩
theorem l10On_c (x y : Int) (w : World) :
    Calls Try.prog 42 #[.agg #[.int .i64 x, .int .i64 y]] w fun e w' => e = .returned (.bool (onB x y)) ∧ Below w.heap.size w w' := by
  cases hx : inB x 0 4
  all_goals
    have Hx := Lib.hid hx
    go_enter Try.func42, Try.ntmps42
    go_wp2_with (go_at_call 44; refine (l1In_c _ _ _ _).mono ?_; rintro e w' ⟨rfl, rfl⟩)
    go_ret
    exact ⟨ret_bool (by simp [onB, Hx.out]), (Below.refl _ _).alloc (Nat.le_refl _) _⟩
/-- Pairs of numbers are equal (hidden from the walk). -/
def peqB (x y u v : Int) : Bool := x == u && y == v
theorem peqB_true {x y u v : Int} (h : peqB x y u v = true) : (x, y) = (u, v) := by simpa [peqB] using h
theorem peqB_false {x y u v : Int} (h : peqB x y u v = false) : (x, y) ≠ (u, v) := by
  intro h'; simp at h'; simp [peqB, h'.1, h'.2] at h
theorem peqB_eq (p q : Int × Int) : peqB p.1 p.2 q.1 q.2 = (p == q) := by
  cases h : peqB p.1 p.2 q.1 q.2
  · symm; rw [beq_eq_false_iff_ne]; exact peqB_false h
  · symm; rw [beq_iff_eq]; exact peqB_true h
theorem eqPlace_c (x y u v : Int) (w : World) :
    Calls Try.prog 38 #[.agg #[.int .i64 x, .int .i64 y], .agg #[.int .i64 u, .int .i64 v]] w fun e w' => e = .returned (.bool (peqB x y u v)) ∧ Below w.heap.size w w' := by
  go_enter Try.func38, Try.ntmps38
  go_wp2
  all_goals
    go_ret
    exact ⟨ret_bool (by simp_all [peqB]), (by repeat (first | exact Below.refl _ _ | assumption | refine Below.alloc ?_ (by first | omega | (simp; done) | (simp; omega)) _ | refine Below.setCell ?_ (by first | omega | (simp; done) | (simp; omega)) _ | refine Below.drew ?_ | refine Below.trans ?_ (Below.mono (by assumption) (by first | omega | (simp; done) | (simp; omega)))))⟩
def nearB (x y u v : Int) : Bool := onB x y && onB u v && inB (x - u) (-1) 1 && inB (y - v) (-1) 1
theorem l25Step_c (x y u v : Int) (w : World) :
    Calls Try.prog 34 #[.agg #[.int .i64 x, .int .i64 y], .agg #[.int .i64 u, .int .i64 v]] w fun e w' => e = .returned (.bool (nearB x y u v)) ∧ Below w.heap.size w w' := by
  have hcase : onB x y = false ∨ (onB x y = true ∧ onB u v = false) ∨ (onB x y = true ∧ onB u v = true ∧ inB (x - u) (-1) 1 = false) ∨ (onB x y = true ∧ onB u v = true ∧ inB (x - u) (-1) 1 = true) := by
    cases onB x y <;> cases onB u v <;> cases inB (x - u) (-1) 1 <;> simp
  have hbd : (onB x y = true → 0 ≤ x ∧ x ≤ 4 ∧ 0 ≤ y ∧ y ≤ 4) ∧ (onB u v = true → 0 ≤ u ∧ u ≤ 4 ∧ 0 ≤ v ∧ v ≤ 4) := ⟨onB_bd, onB_bd⟩
  rcases hcase with h1 | ⟨h1, h2⟩ | ⟨h1, h2, h3⟩ | ⟨h1, h2, h3⟩
  all_goals
    simp only [*, Bool.false_eq_true, false_implies, true_implies, forall_const] at hbd
    go_enter Try.func34, Try.ntmps34
    go_wp2_with (first | (go_at_call 42; refine (l10On_c _ _ _).mono ?_; rintro e w1 ⟨rfl, hb1⟩; obtain ⟨hb1c, hb1f⟩ := bcell hb1; have hb1z0 : w.heap.size < w1.heap.size := (by have := hb1.size; (try simp at this); omega); have hb1z1 : w.heap.size + 1 < w1.heap.size := (by have := hb1.size; (try simp at this); omega)) | (go_at_call 44; refine (l1In_c _ _ _ _).mono ?_; rintro e w3 ⟨rfl, rfl⟩))
    go_ret
    exact ⟨ret_bool (by simp [nearB, *]), (by repeat (first | exact Below.refl _ _ | assumption | refine Below.alloc ?_ (by first | omega | (simp; done) | (simp; omega)) _ | refine Below.setCell ?_ (by first | omega | (simp; done) | (simp; omega)) _ | refine Below.drew ?_ | refine Below.trans ?_ (Below.mono (by assumption) (by first | omega | (simp; done) | (simp; omega)))))⟩
end Go.Proofs.Ytafblagnkjkdcaa
