/- Equality of truth values. No program in sight. -/
import Derived.Test.YtlmlfbjcpajinaaVxc
import Derived.Laws.StructEq
namespace Go.Proofs.Ytlmlfbjcpajinaa
open Go.RowKit Go.Deep
set_option linter.unusedSimpArgs false
set_option linter.unusedVariables false
section
variable {C : Cx} {ops : Array Oper} {K : PS → Prop} {o : Oper} {rest : List Oper} {s : PS} {tm : List (Nat × D)} {rw' : List (Nat × Option (TypeId × Sq))} {bx : List (Nat × Option (List D))}
theorem sEqB {op : BinOp} {t u : TypeId} {x y : Operand} {a b r : Bool} (hu : C.P.underlying t = some .bool) (hop : o.op = .binOp op t x y u) (hx : s.ev x = .bool a) (hy : s.ev y = .bool b) (ho : dstOk C.n o.dst = true) (hr : (op = .eql ∧ r = (a == b)) ∨ (op = .neq ∧ r = (a != b))) (h : K (s.put o.dst (.bool r))) : Step C o s K :=
  sRun (fun M ac w hr' => by
    have h1 := hr'.ev x
    have h2 := hr'.ev y
    rw [hx] at h1
    rw [hy] at h2
    have e1 := h1.bool_inv
    have e2 := h2.bool_inv
    have he := run_equalIn_bool w (P := C.P) 9999 t a b hu
    rcases hr with ⟨rfl, rfl⟩ | ⟨rfl, rfl⟩
    · exact ⟨.bool (a == b), by simp only [execOp, hop, e1, e2]; simp [eqGuard, binOp, Op.equal, Op.maxDepth, he, go_sem], .bool _⟩
    · exact ⟨.bool (a != b), by simp only [execOp, hop, e1, e2]; simp [eqGuard, binOp, Op.equal, Op.maxDepth, he, go_sem, bne], .bool _⟩) ho h
theorem oNeB {t u : TypeId} {x y : Operand} {a b : Bool} (hu : C.P.underlying t = some .bool) (hg : o.guard = none) (hop : o.op = .binOp .neq t x y u) (hx : (PS.ev ⟨tm, rw', bx⟩ x) = .bool a) (hy : (PS.ev ⟨tm, rw', bx⟩ y) = .bool b) {d : Nat} (hd : o.dst = some d) (hn : Nat.blt d C.n = true)
    (h : VO C ops K rest ⟨(d, .bool (a != b)) :: tm, rw', bx⟩) : VO C ops K (o :: rest) ⟨tm, rw', bx⟩ := vOp hg (sEqB hu hop hx hy (by rw [hd]; exact hn) (.inr ⟨rfl, rfl⟩) (by rw [hd]; exact h))
theorem oEqB {t u : TypeId} {x y : Operand} {a b : Bool} (hu : C.P.underlying t = some .bool) (hg : o.guard = none) (hop : o.op = .binOp .eql t x y u) (hx : (PS.ev ⟨tm, rw', bx⟩ x) = .bool a) (hy : (PS.ev ⟨tm, rw', bx⟩ y) = .bool b) {d : Nat} (hd : o.dst = some d) (hn : Nat.blt d C.n = true)
    (h : VO C ops K rest ⟨(d, .bool (a == b)) :: tm, rw', bx⟩) : VO C ops K (o :: rest) ⟨tm, rw', bx⟩ := vOp hg (sEqB hu hop hx hy (by rw [hd]; exact hn) (.inl ⟨rfl, rfl⟩) (by rw [hd]; exact h))
end
end Go.Proofs.Ytlmlfbjcpajinaa
