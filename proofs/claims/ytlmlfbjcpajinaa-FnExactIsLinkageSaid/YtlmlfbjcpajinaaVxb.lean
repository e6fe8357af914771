/- The rules inside a region that draws its order, in general. No program in sight. -/
import Derived.Test.YtlmlfbjcpajinaaVxa
namespace Go.Proofs.Ytlmlfbjcpajinaa
open Go.RowKit Go.Deep
set_option linter.unusedSimpArgs false
set_option linter.unusedVariables false

theorem ment_hit {H : Nat → Bool} {d : D} (h : ment H H d = false) {r : Nat} : (ment noB (fun y => Nat.beq r y) d = true → H r = false) ∧ (ment (fun y => Nat.beq r y) noB d = true → H r = false) := by
  refine ⟨fun hm => ?_, fun hm => ?_⟩
  · cases hr : H r with
    | false => rfl
    | true =>
      rw [ment_le (b' := H) (r' := H) (fun x hx => by cases hx) (fun x hx => by rw [← Nat.eq_of_beq_eq_true hx]; exact hr) d h] at hm; cases hm
  · cases hr : H r with
    | false => rfl
    | true =>
      rw [ment_le (b' := H) (r' := H) (fun x hx => by rw [← Nat.eq_of_beq_eq_true hx]; exact hr) (fun x hx => by cases hx) d h] at hm; cases hm
section
variable {s s1 : PS}
/-- the rows and boxes that a datum names are the same -/
structure Same (s s1 : PS) (d : D) : Prop where
  r : ∀ r, ment noB (fun y => Nat.beq r y) d = true → s1.r r = s.r r
  b : ∀ r, ment (fun y => Nat.beq r y) noB d = true → s1.b r = s.b r
theorem Same.row {r o m : Nat} (h : Same s s1 (.row r o m)) : s1.r r = s.r r := h.r r (by simp [ment, mentA, mentS, Nat.beq_refl])
theorem Same.eptr {r o : Nat} {i : Int} (h : Same s s1 (.eptr r i o)) : s1.r r = s.r r := h.r r (by simp [ment, mentA, mentS, Nat.beq_refl])
theorem Same.ptr {r o : Nat} (h : Same s s1 (.ptr r o)) : s1.b r = s.b r := h.b r (by simp [ment, mentA, mentS, Nat.beq_refl])
theorem ptrCells_congrN {d : D} (h : Same s s1 d) : ptrCells s1 d = ptrCells s d := by
  cases d <;> simp only [ptrCells]
  · rw [h.ptr]
  · rw [h.eptr]
/-- the operands whose rows and boxes an operation looks into -/
def opsL : Op → List Operand
  | .load _ x => [x] | .fieldAddr _ x _ => [x] | .indexAddr _ x _ => [x] | .slice _ x _ _ _ => [x] | .call c => c.args.toList | _ => []
theorem evalV_congrN {TT : List (Nat × Ty)} {op : Op} (he : ∀ x ∈ op.operands, s1.ev x = s.ev x) (hs : ∀ x ∈ opsL op, Same s s1 (s.ev x)) : evalV TT s1 op = evalV TT s op := by
  cases op <;> simp only [Op.operands] at he <;> simp only [opsL] at hs <;> try rfl
  case move x => simp only [evalV]; rw [he x (by simp)]
  case assign x => simp only [evalV]; rw [he x (by simp)]
  case pick c x y => simp only [evalV]; rw [he c (by simp), he x (by simp), he y (by simp)]
  case load t x => simp only [evalV]; rw [he x (by simp), ptrCells_congrN (hs x (by simp))]
  case binOp op t x y u => simp only [evalV]; rw [he x (by simp), he y (by simp)]
  case unOp op t x => cases op <;> simp only [evalV] <;> rw [he x (by simp)]
  case slice t x lo hi mx =>
    cases mx with
    | some m => rfl
    | none =>
      have h1 : optI s1 lo = optI s lo := by cases lo with | none => rfl | some y => simp only [optI]; rw [he y (by simp)]
      have h2 : optI s1 hi = optI s hi := by cases hi with | none => rfl | some y => simp only [optI]; rw [he y (by simp)]
      have h3 := hs x (by simp)
      simp only [evalV, h1, h2]
      rw [he x (by simp)]
      generalize s.ev x = d at h3
      cases d <;> first | rfl | simp only [h3.row] | (rename_i r off n; cases off <;> first | rfl | simp only [h3.row])
  case fieldAddr t x f =>
    have h3 := hs x (by simp)
    simp only [evalV]
    rw [he x (by simp)]
    generalize s.ev x = d at h3
    cases d <;> first | rfl | simp only [h3.ptr] | simp only [h3.eptr]
  case indexAddr t x y =>
    have h3 := hs x (by simp)
    simp only [evalV]
    rw [he x (by simp), he y (by simp)]
    generalize s.ev x = d at h3
    generalize s.ev y = e
    cases d
    case row r off n => cases off <;> cases e <;> first | rfl | simp only [h3.row]
    all_goals (cases e <;> rfl)
  case extract x i => simp only [evalV]; rw [he x (by simp)]
  case call c =>
    obtain ⟨callee, args, ts⟩ := c
    simp only [evalV]
    have ha : ∀ x ∈ args.toList, s1.ev x = s.ev x := fun x hx => he x (by simp only [Call.operands]; exact Array.mem_append.2 (.inr (by simpa using hx)))
    have hb : ∀ x ∈ args.toList, Same s s1 (s.ev x) := hs
    generalize args.toList = l at ha hb
    split
    · rename_i x t _
      have h3 := hb x (by simp)
      rw [ha x (by simp)]
      generalize s.ev x = d at h3
      cases d <;> first | rfl | simp only [h3.row] | (rename_i r off n; cases off <;> first | rfl | simp only [h3.row])
    · rw [ha _ (by simp), ha _ (by simp)]
    · rw [ha _ (by simp), ha _ (by simp)]
    · rfl
theorem fitS_congrN {d d' : D} (h : ∀ r o m, d = .row r o m → s1.r r = s.r r) : fitS s1 d d' = fitS s d d' := by
  cases d with
  | row r off m => cases off <;> cases d' <;> simp only [fitS] <;> rw [h _ _ _ rfl]
  | _ => cases d' <;> rfl
theorem fitL_congrN : ∀ (l l' : List D), (∀ d ∈ l, ∀ r o m, d = .row r o m → s1.r r = s.r r) → fitL s1 l l' = fitL s l l'
  | [], [], _ => rfl
  | x :: l, y :: l', h => by simp only [fitL]; rw [fitS_congrN (h x (by simp)), fitL_congrN l l' fun d hd => h d (by simp [hd])]
  | [], _ :: _, _ => rfl
  | _ :: _, [], _ => rfl
theorem fit_congrN {d d' : D} (h : Same s s1 d) : fit s1 d d' = fit s d d' := by
  cases d with
  | agg l =>
    cases d' with
    | agg m =>
      refine fitL_congrN l m fun d hd r o m hr => h.r r ?_
      subst hr
      simp only [ment, mentA, List.any_eq_true]
      exact ⟨_, hd, by simp [mentS, Nat.beq_refl]⟩
    | _ => rfl
  | row r o m => cases d' <;> (simp only [fit]; exact fitS_congrN fun r' o' m' hr => by cases hr; exact h.row)
  | _ => cases d' <;> (simp only [fit]; exact fitS_congrN fun r' o' m' hr => by cases hr)
theorem fits_congrN : ∀ (xs : List Operand) (ds : List D), (∀ x ∈ xs, s1.ev x = s.ev x) → (∀ x ∈ xs, Same s s1 (s.ev x)) → fits s1 xs ds = fits s xs ds
  | [], [], _, _ => rfl
  | x :: xs, d :: ds, h, h2 => by simp only [fits]; rw [h x (by simp), fit_congrN (h2 x (by simp)), fits_congrN xs ds (fun y hy => h y (by simp [hy])) (fun y hy => h2 y (by simp [hy]))]
  | [], _ :: _, _, _ => rfl
  | _ :: _, [], _, _ => rfl
theorem partsD_congrN : ∀ (l : List (Nat × Operand)) (i : Nat), (∀ p ∈ l, s1.ev p.2 = s.ev p.2) → partsD s1 i l = partsD s i l
  | [], _, _ => rfl
  | (j, x) :: l, i, h => by simp only [partsD]; rw [h (j, x) (by simp), partsD_congrN l (i + 1) fun p hp => h p (by simp [hp])]
end
end Go.Proofs.Ytlmlfbjcpajinaa
