/- Frameworks: plain. -/
import Derived.Test.YtlmlfbjcpajinaaPinP
import Derived.Test.YtlmlfbjcpajinaaPlace
namespace Go.Proofs.Ytlmlfbjcpajinaa
open Go.RowKit
set_option linter.unusedSimpArgs false
set_option linter.unusedVariables false

/-- bar i of l is no repeat, and its ends lie apart -/
def frmAt (l pl : List (Int × Int)) (i : Nat) : Bool :=
  !(decide (0 < i) && (l.getD (i - 1) (0, 0) == l.getD i (0, 0))) && !(pl.getD (l.getD i (0, 0)).1.toNat (0, 0) == pl.getD (l.getD i (0, 0)).2.toNat (0, 0))
def frmBars (l pl : List (Int × Int)) : Bool := (List.range l.length).all (frmAt l pl)
theorem frmBars_true {l pl : List (Int × Int)} (h : ∀ i, i < l.length → frmAt l pl i = true) : frmBars l pl = true := by
  simp only [frmBars, List.all_eq_true, List.mem_range]; exact h
theorem frmBars_bad {l pl : List (Int × Int)} (i : Nat) (hi : i < l.length) (h : frmAt l pl i = false) : frmBars l pl = false := by
  simp only [frmBars, List.all_eq_false]; exact ⟨i, by simpa using hi, by simp [h]⟩
def allOn (pl : List (Int × Int)) : Bool := pl.all fun p => onB p.1 p.2
theorem allOn_true {pl : List (Int × Int)} (h : ∀ i (hi : i < pl.length), onB pl[i].1 pl[i].2 = true) : allOn pl = true := by
  simp only [allOn, List.all_eq_true]
  intro p hp
  obtain ⟨i, hi, rfl⟩ := List.getElem_of_mem hp
  exact h i hi
theorem allOn_bad {pl : List (Int × Int)} (i : Nat) (hi : i < pl.length) (h : onB pl[i].1 pl[i].2 = false) : allOn pl = false := by
  simp only [allOn, List.all_eq_false]; exact ⟨pl[i], List.getElem_mem hi, by simp [h]⟩
def isFrame (f : Frm) : Bool := isGraph f.g && decide (f.g.n ≤ 6) && decide (f.g.bars.length ≤ 15) && decide ((f.places.length : Int) = f.g.n) && allOn f.places && frmBars f.g.bars f.places
end Go.Proofs.Ytlmlfbjcpajinaa
