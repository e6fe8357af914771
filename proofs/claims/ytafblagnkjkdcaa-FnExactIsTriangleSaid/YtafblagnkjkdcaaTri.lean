/- Contracts of IsTriangle. -/
import Derived.Test.YtafblagnkjkdcaaNum
import Derived.Test.YtafblagnkjkdcaaOpen
namespace Go.Proofs.Ytafblagnkjkdcaa
open Go.RowKit
set_option linter.unusedSimpArgs false
set_option linter.unusedVariables false
def triB (a b c : Int) : Bool := squaresB [a, b, c] && decide (0 ≤ heronV a b c)

set_option maxHeartbeats 400000 in
theorem isTriangleI_c (a b c : Int) (w : World) :
    Calls Try.prog 12 #[.int .i64 a, .int .i64 b, .int .i64 c] w fun e w' => e = .returned (.bool (triB a b c)) ∧ Below w.heap.size w w' := by
  have HI := Lib.hid (IntsAt_lit w 3 [a, b, c] (by simp [maxLen]))
  cases hs : squaresB [a, b, c]
  all_goals
    go_enter Try.func12, Try.ntmps12
    go_wp2_with (first | (go_at_call 33; refine (areSquares_c _ _ _ _ HI.out).mono ?_; rintro e w1 ⟨rfl, rfl⟩) | (go_at_call 10; refine (heronI_c _ _ _ _).mono ?_; rintro e w2 ⟨rfl, hb2⟩))
    go_ret
    exact ⟨ret_bool (by simp [triB, hs]), (by repeat (first | exact Below.refl _ _ | assumption | refine Below.alloc ?_ (by first | omega | (simp; done) | (simp; omega)) _ | refine Below.setCell ?_ (by first | omega | (simp; done) | (simp; omega)) _ | refine Below.drew ?_ | refine Below.trans ?_ (Below.mono (by assumption) (by first | omega | (simp; done) | (simp; omega)))))⟩
set_option maxHeartbeats 400000 in
theorem isTriangleS_c (a b c : Int) (w : World) :
    Calls Try.prog 11 #[.int .i64 a, .int .i64 b, .int .i64 c] w fun e w' => e = .returned (.bool (triB a b c)) ∧ Below w.heap.size w w' := by
  have HI := Lib.hid (IntsAt_lit w 3 [a, b, c] (by simp [maxLen]))
  cases hs : squaresB [a, b, c]
  all_goals
    go_enter Try.func11, Try.ntmps11
    go_wp2_with (first | (go_at_call 32; refine (l22Fine_c _ _ _ HI.out).mono ?_; rintro e w1 ⟨rfl, rfl⟩) | (go_at_call 9; refine (heronS_c _ _ _ _).mono ?_; rintro e w2 ⟨rfl, hb2⟩))
    go_ret
    exact ⟨ret_bool (by simp [triB, hs]), (by repeat (first | exact Below.refl _ _ | assumption | refine Below.alloc ?_ (by first | omega | (simp; done) | (simp; omega)) _ | refine Below.setCell ?_ (by first | omega | (simp; done) | (simp; omega)) _ | refine Below.drew ?_ | refine Below.trans ?_ (Below.mono (by assumption) (by first | omega | (simp; done) | (simp; omega)))))⟩
theorem fnExactIsTriangle_w (w : World) (a : Int) (ra : R64 a) (b : Int) (rb : R64 b) (c : Int) (rc : R64 c) :
    Calls Try.prog 4 #[.int .i64 a, .int .i64 b, .int .i64 c] w fun e w' => e = .returned (.bool true) ∧ Below w.heap.size w w' := by
  have hne : (triB a b c != triB a b c) = false := by simp
  go_enter Try.func4, Try.ntmps4
  go_wp2_with fail
  refine (isTriangleS_c _ _ _ _).mono ?_
  rintro e w1 ⟨rfl, hb1⟩
  go_wp2_with fail
  refine (isTriangleI_c _ _ _ _).mono ?_
  rintro e w2 ⟨rfl, hb2⟩
  go_wp2
  go_ret
  exact ⟨rfl, (bt hb1 hb2)⟩
end Go.Proofs.Ytafblagnkjkdcaa
