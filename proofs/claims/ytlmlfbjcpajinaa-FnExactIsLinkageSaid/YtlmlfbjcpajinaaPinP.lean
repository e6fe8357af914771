/- Ascending numbers below n, pinned graphs: plain. -/
import Derived.Test.YtlmlfbjcpajinaaGraphP
namespace Go.Proofs.Ytlmlfbjcpajinaa
open Go.RowKit
set_option linter.unusedSimpArgs false
set_option linter.unusedVariables false

/-- place i of l is in 0 .. n-1 and above the one ahead of it -/
def ascAt (n : Int) (l : List Int) (i : Nat) : Bool := inB (l.getD i 0) 0 (n - 1) && (decide (i = 0) || decide (l.getD (i - 1) 0 < l.getD i 0))
def asc (n : Int) (l : List Int) : Bool := (List.range l.length).all (ascAt n l)
theorem asc_true {n : Int} {l : List Int} (h : ∀ i, i < l.length → ascAt n l i = true) : asc n l = true := by
  simp only [asc, List.all_eq_true, List.mem_range]; exact h
theorem asc_bad {n : Int} {l : List Int} (i : Nat) (hi : i < l.length) (h : ascAt n l i = false) : asc n l = false := by
  simp only [asc, List.all_eq_false]; exact ⟨i, by simpa using hi, by simp [h]⟩
theorem asc_at {n : Int} {l : List Int} (h : asc n l = true) {i : Nat} (hi : i < l.length) : ascAt n l i = true := by
  simp only [asc, List.all_eq_true, List.mem_range] at h; exact h i hi
theorem asc_in {n : Int} {l : List Int} (h : asc n l = true) {x : Int} (hx : x ∈ l) : 0 ≤ x ∧ x < n := by
  obtain ⟨i, hi, rfl⟩ := List.getElem_of_mem hx
  have := asc_at h hi
  simp [ascAt, inB, hi] at this; omega
theorem asc_ge {n : Int} {l : List Int} (h : asc n l = true) : ∀ i (hi : i < l.length), (i : Int) ≤ l[i]
  | 0, hi => (asc_in h (List.getElem_mem hi)).1
  | i + 1, hi => by
    have ih := asc_ge h i (by omega)
    have := asc_at h hi
    simp [ascAt, hi, show i < l.length from by omega] at this; omega
theorem asc_len {n : Int} {l : List Int} (h : asc n l = true) (hn : 0 ≤ n) : (l.length : Int) ≤ n := by
  cases hl : l.length with
  | zero => omega
  | succ k =>
    have h1 := asc_ge h k (by omega)
    have h2 := asc_in h (List.getElem_mem (show k < l.length by omega))
    omega
/-- no bar with both ends in gr -/
def bothIn (gr : List Int) (p : Int × Int) : Bool := gr.contains p.1 && gr.contains p.2
def noneIn (gr : List Int) (l : List (Int × Int)) : Bool := l.all fun p => !bothIn gr p
theorem noneIn_true {gr : List Int} {l : List (Int × Int)} (h : ∀ i (hi : i < l.length), bothIn gr l[i] = false) : noneIn gr l = true := by
  simp only [noneIn, List.all_eq_true]
  intro p hp
  obtain ⟨i, hi, rfl⟩ := List.getElem_of_mem hp
  simp [h i hi]
theorem noneIn_bad {gr : List Int} {l : List (Int × Int)} (i : Nat) (hi : i < l.length) (h : bothIn gr l[i] = true) : noneIn gr l = false := by
  simp only [noneIn, List.all_eq_false]; exact ⟨l[i], List.getElem_mem hi, by simp [h]⟩
theorem noneIn_at {gr : List Int} {l : List (Int × Int)} (h : noneIn gr l = true) {p : Int × Int} (hp : p ∈ l) : bothIn gr p = false := by
  simp only [noneIn, List.all_eq_true] at h; simpa using h p hp
def isPinned (p : Pin) : Bool :=
  isGraph p.g && !hasDbl p.g.bars && decide (2 ≤ p.ground.length) && decide (p.g.bars.length ≤ 15) && decide (p.g.bars.length + 2 * p.ground.length ≤ 27) && asc p.g.n p.ground && noneIn p.ground p.g.bars
theorem isPinned_parts {p : Pin} (h : isPinned p = true) : isGraph p.g = true ∧ hasDbl p.g.bars = false ∧ 2 ≤ p.ground.length ∧ p.g.bars.length ≤ 15 ∧ p.g.bars.length + 2 * p.ground.length ≤ 27 ∧ asc p.g.n p.ground = true ∧ noneIn p.ground p.g.bars = true := by
  simp only [isPinned, Bool.and_eq_true, decide_eq_true_eq, Bool.not_eq_true'] at h
  exact ⟨h.1.1.1.1.1.1, h.1.1.1.1.1.2, h.1.1.1.1.2, h.1.1.1.2, h.1.1.2, h.1.2, h.2⟩
/-- the points that are not grounded, in order -/
def inner (p : Pin) : List Int := ((List.range p.g.n.toNat).map fun (i : Nat) => (i : Int)).filter fun x => !p.ground.contains x
end Go.Proofs.Ytlmlfbjcpajinaa
