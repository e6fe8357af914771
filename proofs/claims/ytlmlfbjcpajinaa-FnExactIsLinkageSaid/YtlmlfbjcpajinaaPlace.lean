/- Contracts of the small functions on places. -/
import Derived.Test.YtlmlfbjcpajinaaConv
namespace Go.Proofs.Ytlmlfbjcpajinaa
open Go.RowKit
set_option linter.unusedSimpArgs false
set_option linter.unusedVariables false

def onB (x y : Int) : Bool := inB x 0 4 && inB y 0 4
theorem onB_bd {x y : Int} (h : onB x y = true) : 0 ≤ x ∧ x ≤ 4 ∧ 0 ≤ y ∧ y ≤ 4 := by
  simp [onB, inB] at h; omega

theorem isPlace_c (x y : Int) (w : World) :
    Calls Try.prog 107 #[.agg #[.int .i64 x, .int .i64 y]] w fun e w' => e = .returned (.bool (onB x y)) ∧ Below w.heap.size w w' := by
  cases hx : inB x 0 4
  all_goals
    have Hx := Lib.hid hx
    go_enter Try.func107, Try.ntmps107
    go_wp2_with (go_at_call 103; refine (within_c _ _ _ _).mono ?_; rintro e w' ⟨rfl, rfl⟩)
    go_ret
    exact ⟨ret_bool (by simp [onB, Hx.out]), (Below.refl _ _).alloc (Nat.le_refl _) _⟩

end Go.Proofs.Ytlmlfbjcpajinaa
