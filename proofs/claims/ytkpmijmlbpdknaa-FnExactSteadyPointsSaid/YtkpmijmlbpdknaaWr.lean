/- Arithmetic that may go round. No program in sight. -/
import Derived.Test.YtkpmijmlbpdknaaM5
namespace Go.Proofs.Ytkpmijmlbpdknaa
open Go.RowKit Go.Deep
set_option linter.unusedSimpArgs false
set_option linter.unusedVariables false
/-- arithmetic that may go round -/
def w64 (x : Int) : Int := IntKind.i64.wrap x
theorem w64_id {x : Int} (h1 : -9223372036854775808 ≤ x) (h2 : x ≤ 9223372036854775807) : w64 x = x := R64_wrap ⟨h1, h2⟩
theorem arW_out {C : Cx} {o : Oper} {s : PS} {op : BinOp} {t u : TypeId} {x y : Operand} {a b r : Int} (hop : o.op = .binOp op t x y u) (hx : s.ev x = .int a) (hy : s.ev y = .int b) (hr : (op = .add ∧ r = w64 (a + b)) ∨ (op = .sub ∧ r = w64 (a - b)) ∨ (op = .mul ∧ r = w64 (a * b))) : Pur C o s (.int r) :=
  ⟨fun s1 hs M ac w hr' => by
    have h1 := hr'.ev x
    have h2 := hr'.ev y
    rw [hs x (by rw [hop]; simp [Op.operands]), hx] at h1
    rw [hs y (by rw [hop]; simp [Op.operands]), hy] at h2
    have e1 := h1.int_inv
    have e2 := h2.int_inv
    rcases hr with ⟨rfl, rfl⟩ | ⟨rfl, rfl⟩ | ⟨rfl, rfl⟩
    · refine ⟨_, ?_, .int _⟩
      simp only [execOp, hop, e1, e2]; simp [eqGuard, binOp, Op.intArith, go_sem] <;> rfl
    · refine ⟨_, ?_, .int _⟩
      simp only [execOp, hop, e1, e2]; simp [eqGuard, binOp, Op.intArith, go_sem] <;> rfl
    · refine ⟨_, ?_, .int _⟩
      simp only [execOp, hop, e1, e2]; simp [eqGuard, binOp, Op.intArith, go_sem] <;> rfl⟩
theorem pAddW {C : Cx} {o : Oper} {s : PS} {t u : TypeId} {x y : Operand} {a b : Int} (hop : o.op = .binOp .add t x y u) (hx : s.ev x = .int a) (hy : s.ev y = .int b) : Pur C o s (.int (w64 (a + b))) := arW_out hop hx hy (.inl ⟨rfl, rfl⟩)
theorem pSubW {C : Cx} {o : Oper} {s : PS} {t u : TypeId} {x y : Operand} {a b : Int} (hop : o.op = .binOp .sub t x y u) (hx : s.ev x = .int a) (hy : s.ev y = .int b) : Pur C o s (.int (w64 (a - b))) := arW_out hop hx hy (.inr (.inl ⟨rfl, rfl⟩))
theorem pMulW {C : Cx} {o : Oper} {s : PS} {t u : TypeId} {x y : Operand} {a b : Int} (hop : o.op = .binOp .mul t x y u) (hx : s.ev x = .int a) (hy : s.ev y = .int b) : Pur C o s (.int (w64 (a * b))) := arW_out hop hx hy (.inr (.inr ⟨rfl, rfl⟩))
end Go.Proofs.Ytkpmijmlbpdknaa
