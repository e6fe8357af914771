/- Linkages: plain. -/
import Derived.Test.YtlmlfbjcpajinaaFrmP
namespace Go.Proofs.Ytlmlfbjcpajinaa
open Go.RowKit
set_option linter.unusedSimpArgs false
set_option linter.unusedVariables false
def isLink (l : Lnk) : Bool := isFrame l.f && decide (0 < l.ground.length) && decide (l.f.g.n - (l.ground.length : Int) ≤ 2) && asc l.f.g.n l.ground
theorem isFrame_len {f : Frm} (h : isFrame f = true) : (f.places.length : Int) = f.g.n ∧ 1 ≤ f.g.n ∧ f.g.n ≤ 6 := by
  simp only [isFrame, Bool.and_eq_true, decide_eq_true_eq] at h
  have := (isGraph_parts h.1.1.1.1.1).1
  exact ⟨h.1.1.2, this.1, h.1.1.1.1.2⟩
/-- the spec's way -/
def isLinkS (l : Lnk) : Bool := asc l.f.places.length l.ground && (isFrame l.f && inB ((l.f.places.length : Int) - (l.ground.length : Int)) 0 2 && decide (0 < l.ground.length))
theorem isLinkS_eq (l : Lnk) : isLinkS l = isLink l := by
  unfold isLinkS isLink
  cases hf : isFrame l.f
  · simp
  · obtain ⟨h1, h2, h3⟩ := isFrame_len hf
    rw [h1]
    cases ha : asc l.f.g.n l.ground
    · simp
    · have := asc_len ha (by omega)
      simp only [Bool.true_and, Bool.and_true]
      rw [Bool.eq_iff_iff]
      simp only [Bool.and_eq_true, decide_eq_true_eq, inB]
      omega
end Go.Proofs.Ytlmlfbjcpajinaa
