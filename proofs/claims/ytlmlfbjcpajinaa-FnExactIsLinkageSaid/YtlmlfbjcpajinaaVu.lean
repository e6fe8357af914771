/- Further rules: guards told apart, lengths. No program in sight. -/
import Derived.Test.YtlmlfbjcpajinaaVr
namespace Go.Proofs.Ytlmlfbjcpajinaa
open Go.RowKit Go.Deep
set_option linter.unusedSimpArgs false
set_option linter.unusedVariables false
section
variable {C : Cx} {ops : Array Oper} {K : PS → Prop} {o : Oper} {rest : List Oper} {s s' : PS} {TT : List (Nat × Ty)} {tm : List (Nat × D)} {rw' : List (Nat × Option (TypeId × Sq))} {bx : List (Nat × Option (List D))} {Q : Exit → PS → Prop}
theorem oNoT {j y : Nat} {b : Bool} (hg : o.guard = some (j, true)) (hgd : gdst ops j = some y) (hy : Nat.blt y C.n = true) (hs : (PS.t ⟨tm, rw', bx⟩ y) = .bool b) (hb : b = false) {t : Nat} (hd : o.dst = some t) (hn : Nat.blt t C.n = true)
    (h : VO C ops K rest ⟨(t, .tup []) :: tm, rw', bx⟩) : VO C ops K (o :: rest) ⟨tm, rw', bx⟩ := oNo hg hgd hy hs hb hd hn h
theorem oNoF {j y : Nat} {b : Bool} (hg : o.guard = some (j, false)) (hgd : gdst ops j = some y) (hy : Nat.blt y C.n = true) (hs : (PS.t ⟨tm, rw', bx⟩ y) = .bool b) (hb : b = true) {t : Nat} (hd : o.dst = some t) (hn : Nat.blt t C.n = true)
    (h : VO C ops K rest ⟨(t, .tup []) :: tm, rw', bx⟩) : VO C ops K (o :: rest) ⟨tm, rw', bx⟩ := oNo hg hgd hy hs hb hd hn h
theorem cNoT {j y : Nat} {b : Bool} (hg : o.guard = some (j, true)) (hgd : gdst ops j = some y) (hy : Nat.blt y C.n = true) (hs : (PS.t ⟨tm, rw', bx⟩ y) = .bool b) (hb : b = false) {t : Nat} (hd : o.dst = some t) (hn : Nat.blt t C.n = true)
    (h : QC C ops K rest ⟨(t, .tup []) :: tm, rw', bx⟩) : QC C ops K (o :: rest) ⟨tm, rw', bx⟩ := cNo hg hgd hy hs hb hd hn h
theorem cNoF {j y : Nat} {b : Bool} (hg : o.guard = some (j, false)) (hgd : gdst ops j = some y) (hy : Nat.blt y C.n = true) (hs : (PS.t ⟨tm, rw', bx⟩ y) = .bool b) (hb : b = true) {t : Nat} (hd : o.dst = some t) (hn : Nat.blt t C.n = true)
    (h : QC C ops K rest ⟨(t, .tup []) :: tm, rw', bx⟩) : QC C ops K (o :: rest) ⟨tm, rw', bx⟩ := cNo hg hgd hy hs hb hd hn h
theorem oSplit {j y : Nat} {want b : Bool} (hg : o.guard = some (j, want)) (hgd : gdst ops j = some y) (hs : (PS.t ⟨tm, rw', bx⟩ y) = .bool b) (h1 : b = true → VO C ops K (o :: rest) ⟨tm, rw', bx⟩) (h2 : b = false → VO C ops K (o :: rest) ⟨tm, rw', bx⟩) : VO C ops K (o :: rest) ⟨tm, rw', bx⟩ := by
  cases b
  · exact h2 rfl
  · exact h1 rfl
theorem cSplit {j y : Nat} {want b : Bool} (hg : o.guard = some (j, want)) (hgd : gdst ops j = some y) (hs : (PS.t ⟨tm, rw', bx⟩ y) = .bool b) (h1 : b = true → QC C ops K (o :: rest) ⟨tm, rw', bx⟩) (h2 : b = false → QC C ops K (o :: rest) ⟨tm, rw', bx⟩) : QC C ops K (o :: rest) ⟨tm, rw', bx⟩ := by
  cases b
  · exact h2 rfl
  · exact h1 rfl
/-- a slice that is there is not longer than an int counts -/
theorem vLen {c : Code} {t : Nat} {f : Bool} {q : Sq} (ht : s.t t = .ro f q) (h : q.len ≤ 9223372036854775807 → VC C c Q s) : VC C c Q s := ⟨fun M a w hr => by
  have h1 := hr.tmp t
  rw [ht] at h1
  have : q.len ≤ 9223372036854775807 := by
    generalize a.tmps.getD t undef = v at h1
    cases h1 with | ro _ _ ao cap b o u hn => simpa [maxLen] using hn
  exact (h this).out M a w hr⟩
/-- the same of a part of a struct -/
theorem vLenA {c : Code} {t i : Nat} {f : Bool} {q : Sq} {l : List D} (ht : s.t t = .agg l) (hi : l[i]? = some (.ro f q)) (h : q.len ≤ 9223372036854775807 → VC C c Q s) : VC C c Q s := ⟨fun M a w hr => by
  have h1 := hr.tmp t
  rw [ht] at h1
  have : q.len ≤ 9223372036854775807 := by
    obtain ⟨us, _, _, h2⟩ := h1.agg_inv
    have h3 := h2 i _ hi
    generalize us.getD i undef = v at h3
    cases h3 with | ro _ _ ao cap b o u hn => simpa [maxLen] using hn
  exact (h this).out M a w hr⟩
end
end Go.Proofs.Ytlmlfbjcpajinaa
