/- The rules for operations and regions. No program in sight. -/
import Derived.Test.YtlmlfbjcpajinaaVh
import Derived.Orders
namespace Go.Proofs.Ytlmlfbjcpajinaa
open Go.RowKit Go.Deep
set_option linter.unusedSimpArgs false
set_option linter.unusedVariables false

structure Step (C : Cx) (o : Oper) (s : PS) (K : PS → Prop) : Prop where
  out : ∀ M a w Q (K' : Act → World → Prop), Rel C.w0 C.O0 C.n M s a w → (∀ M' s' a' w', K s' → Rel C.w0 C.O0 C.n M' s' a' w' → K' a' w') → o.wp C.P a w K' Q
structure VO (C : Cx) (ops : Array Oper) (K : PS → Prop) (l : List Oper) (s : PS) : Prop where
  out : ∀ M a w Q, Rel C.w0 C.O0 C.n M s a w → (∀ M' s' a' w', K s' → Rel C.w0 C.O0 C.n M' s' a' w' → Q .normal a' w') → wpList C.P ops Q l a w

section
variable {C : Cx} {ops : Array Oper} {K : PS → Prop} {o : Oper} {rest : List Oper} {s s' : PS} {TT : List (Nat × Ty)}
theorem vNil (h : K s) : VO C ops K [] s := ⟨fun M a w Q hr hq => wpList_nil (hq M s a w h hr)⟩
theorem vOp (hg : o.guard = none) (h : Step C o s (VO C ops K rest)) : VO C ops K (o :: rest) s := ⟨fun M a w Q hr hq =>
  wpList_plain hg fun K' hK => h.out M a w Q K' hr fun M' s' a' w' hv hr' => hK a' w' (hv.out M' a' w' Q hr' hq)⟩
theorem vWeakO (hl : Le s s') (h : VO C ops K rest s') : VO C ops K rest s := ⟨fun M a w Q hr hq => by
  obtain ⟨M', hr'⟩ := hr.le hl
  exact h.out M' a w Q hr' hq⟩
theorem vRegion {id : Nat} {l : List Oper} {Q : Exit → PS → Prop} (h : VO C l.toArray (Q .normal) l s) : VC C (.region id l.toArray false) Q s := ⟨fun M a w hr =>
  wp_region_lit (h.out M a w _ hr fun M' s' a' w' hk hr' => ⟨s', M', hk, hr'⟩)⟩
/-- the slot that tells a guard -/
def gdst (ops : Array Oper) (j : Nat) : Option Nat := match ops.toList[j]? with | some o => o.dst | none => none
theorem yield_of {M : Mp} {a : Act} {w : World} (hr : Rel C.w0 C.O0 C.n M s a w) {j t : Nat} {b : Bool} (hd : gdst ops j = some t) (hs : s.t t = .bool b) (ht : Nat.blt t C.n = true) : yielded ops a.tmps j = some b := by
  have h1 := hr.tmp t
  rw [hs] at h1
  have h2 := h1.bool_inv
  have h3 : t < a.tmps.size := by rw [hr.sz]; rw [Nat.blt_eq] at ht; exact ht
  have h4 : a.tmps[t]? = some (.bool b) := by simp [h3] at h2; simp [h3, h2]
  have h5 : (ops[j]?).bind (·.dst) = some t := by
    unfold gdst at hd
    rw [Array.getElem?_toList] at hd
    cases h : ops[j]? with
    | none => rw [h] at hd; cases hd
    | some o => rw [h] at hd; exact hd
  simp [yielded, h5, h4]
theorem vOpG {j t : Nat} {want b : Bool} (hg : o.guard = some (j, want)) (hd : gdst ops j = some t) (ht : Nat.blt t C.n = true) (hs : s.t t = .bool b) (hb : b = want) (h : Step C o s (VO C ops K rest)) : VO C ops K (o :: rest) s := ⟨fun M a w Q hr hq =>
  wpList_step fun K' hK => by
    have : Region.wanted o (yielded ops a.tmps) = true := by simp [Region.wanted, hg, yield_of hr hd hs ht, hb]
    rw [if_pos this]
    exact h.out M a w Q K' hr fun M' s' a' w' hv hr' => hK a' w' (hv.out M' a' w' Q hr' hq)⟩
/-- passed over -/
theorem vNo {j t : Nat} {want b : Bool} (hg : o.guard = some (j, want)) (hd : gdst ops j = some t) (ht : Nat.blt t C.n = true) (hs : s.t t = .bool b) (hb : b = !want) (ho : dstOk C.n o.dst = true) (h : VO C ops K rest (s.put o.dst (.tup []))) : VO C ops K (o :: rest) s := ⟨fun M a w Q hr hq =>
  wpList_step fun K' hK => by
    have : ¬ Region.wanted o (yielded ops a.tmps) = true := by simp [Region.wanted, hg, yield_of hr hd hs ht, hb]
    rw [if_neg this]
    exact hK _ _ (h.out M _ w Q (hr.put ho (.tup [] #[] rfl (by simp))) hq)⟩
/-- passed over, for the guard was -/
theorem vNoU {j t : Nat} {want : Bool} (hg : o.guard = some (j, want)) (hd : gdst ops j = some t) (hs : s.t t = .tup []) (ho : dstOk C.n o.dst = true) (h : VO C ops K rest (s.put o.dst (.tup []))) : VO C ops K (o :: rest) s := ⟨fun M a w Q hr hq =>
  wpList_step fun K' hK => by
    have h1 := hr.tmp t
    rw [hs] at h1
    obtain ⟨us, h2, h3, _⟩ := h1.tup_inv
    have h5 : (ops[j]?).bind (·.dst) = some t := by
      unfold gdst at hd
      rw [Array.getElem?_toList] at hd
      cases h : ops[j]? with
      | none => rw [h] at hd; cases hd
      | some o => rw [h] at hd; exact hd
    have hy : yielded ops a.tmps j = none := by
      simp only [yielded, h5, Option.bind_some]
      cases h6 : a.tmps[t]? with
      | none => rfl
      | some v =>
        have : v = .tuple us := by simpa [h6] using h2
        subst this; rfl
    have : ¬ Region.wanted o (yielded ops a.tmps) = true := by simp [Region.wanted, hg, hy]
    rw [if_neg this]
    exact hK _ _ (h.out M _ w Q (hr.put ho (.tup [] #[] rfl (by simp))) hq)⟩

theorem sVal (hT : TTOK C.P TT) {ob : Prop} {d : D} (hv : evalV TT s o.op = some (ob, d)) (ho : dstOk C.n o.dst = true) (hob : ob) (h : K (s.put o.dst d)) : Step C o s K := ⟨fun M a w Q K' hr hk => by
  obtain ⟨v, h1, h2⟩ := val_ok hT hr hv hob
  unfold Oper.wp
  rw [h1]
  exact hk M _ _ _ h (hr.put ho h2)⟩
/-- an operation that yields a value and leaves the world -/
theorem sRun {d : D} (hv : ∀ M a w, Rel C.w0 C.O0 C.n M s a w → ∃ v, (execOp a.eval o).run C.P w = .ok (.value v) w ∧ VR M (Ow (Fs C.w0 C.O0) M) w d v) (ho : dstOk C.n o.dst = true) (h : K (s.put o.dst d)) : Step C o s K := ⟨fun M a w Q K' hr hk => by
  obtain ⟨v, h1, h2⟩ := hv M a w hr
  unfold Oper.wp
  rw [h1]
  exact hk M _ _ _ h (hr.put ho h2)⟩
theorem sPick {c x y : Operand} {b : Bool} (hop : o.op = .pick c x y) (hc : s.ev c = .bool b) (ho : dstOk C.n o.dst = true) {d : D} (hb : (b = true ∧ d = s.ev x) ∨ (b = false ∧ d = s.ev y)) (h : K (s.put o.dst d)) : Step C o s K :=
  sRun (fun M a w hr => by
    have h1 := hr.ev c
    rw [hc] at h1
    have h2 := h1.bool_inv
    rcases hb with ⟨rfl, rfl⟩ | ⟨rfl, rfl⟩
    · exact ⟨a.eval x, by simp only [execOp, hop, h2]; simp [asBool, go_sem], hr.ev x⟩
    · exact ⟨a.eval y, by simp only [execOp, hop, h2]; simp [asBool, go_sem], hr.ev y⟩) ho h
theorem sPickT {c x y : Operand} {b : Bool} (hop : o.op = .pick c x y) (hc : s.ev c = .bool b) (hb : b = true) (ho : dstOk C.n o.dst = true) (h : K (s.put o.dst (s.ev x))) : Step C o s K := sPick hop hc ho (.inl ⟨hb, rfl⟩) h
theorem sPickF {c x y : Operand} {b : Bool} (hop : o.op = .pick c x y) (hc : s.ev c = .bool b) (hb : b = false) (ho : dstOk C.n o.dst = true) (h : K (s.put o.dst (s.ev y))) : Step C o s K := sPick hop hc ho (.inr ⟨hb, rfl⟩) h

abbrev noB : Nat → Bool := fun _ => false
/-- a box made -/
theorem sBox {t : TypeId} {x : Operand} {b : Nat} {d : D} (hop : o.op = .box t x) (hd : o.dst = some b) (hx : s.ev x = d) (hfl : d.flat = true) (hn : Nat.blt b C.n = true) (hf : Fresh s (fun y => Nat.beq y b) noB)
    (hm : (d.cells.all fun d => !mentS (fun y => Nat.beq y b) noB d) = true) (h : K ((s.addBox b d.cells).put (some b) (.ptr b 0))) : Step C o s K := ⟨fun M a w Q K' hr hk => by
  have h1 := hr.ev x
  rw [hx] at h1
  obtain ⟨c1, c2, c3⟩ := h1.cells hfl
  obtain ⟨M', h2, h3⟩ := hr.newBox (e := t) hf c1 c2 (fun d hd => by have := (List.all_eq_true.1 hm) d hd; simpa using this)
  have hrun : (execOp a.eval o).run C.P w = .ok (.value (.pointer (some ⟨w.heap.size, 0, none⟩))) (w.alloc (.cells (a.eval x).cells t)) := by
    simp only [execOp, hop, Instr.box, newVar, newRow]
    rfl
  unfold Oper.wp
  rw [hrun]
  refine hk M' _ _ _ h ?_
  rw [hd]
  exact h2.put hn (.ptr _ _ _ rfl fun k hk => by rw [h3] at hk; cases hk; rfl)⟩
def zeroD : Ty → D
  | .st _ zs => .agg (zs.map ofV)
  | .sl _ _ _ => .nil
  | .sc z => ofV z
theorem sAlloc (hT : TTOK C.P TT) {t : TypeId} {b : Nat} {y : Ty} (hop : o.op = .alloc t) (hd : o.dst = some b) (hy : look TT t = some y) (hn : Nat.blt b C.n = true) (hf : Fresh s (fun y => Nat.beq y b) noB)
    (hfl : (zeroD y).flat = true) (hm : ((zeroD y).cells.all fun d => !mentS (fun y => Nat.beq y b) noB d) = true) (h : K ((s.addBox b (zeroD y).cells).put (some b) (.ptr b 0))) : Step C o s K := ⟨fun M a w Q K' hr hk => by
  have hz : ∃ z, (zeroValue t).run C.P w = .ok z w ∧ VR M (Ow (Fs C.w0 C.O0) M) w (zeroD y) z := by
    have := hT t y hy
    cases y with
    | st offs zs =>
      obtain ⟨_, ⟨i, hi, hs, hz⟩, h1⟩ := this
      refine ⟨.agg zs.toArray, by simp [zeroValue, typeInfo, hi, hz, go_sem], .agg _ _ (by simp) fun j d hd => ?_⟩
      simp at hd
      obtain ⟨z, hz, rfl⟩ := hd
      have : zs.toArray.getD j undef = z := by simp [hz]
      rw [this]; exact VR.ofV z
    | sl e k by' =>
      obtain ⟨_, ⟨i, hi, hs, hz⟩, _⟩ := this
      exact ⟨_, by simp [zeroValue, typeInfo, hi, hz, go_sem], .nil⟩
    | sc z =>
      obtain ⟨_, ⟨i, hi, hs, hz⟩, _⟩ := this
      exact ⟨z, by simp [zeroValue, typeInfo, hi, hz, go_sem], VR.ofV z⟩
  obtain ⟨z, hz1, hz2⟩ := hz
  obtain ⟨c1, c2, c3⟩ := hz2.cells hfl
  obtain ⟨M', h2, h3⟩ := hr.newBox (e := t) hf c1 c2 (fun d hd => by have := (List.all_eq_true.1 hm) d hd; simpa using this)
  have hrun : (execOp a.eval o).run C.P w = .ok (.value (.pointer (some ⟨w.heap.size, 0, none⟩))) (w.alloc (.cells z.cells t)) := by
    simp only [execOp, hop, Instr.alloc, newVar, newRow, Sem.run_bind, hz1, Result.andThen_ok]
    rfl
  unfold Oper.wp
  rw [hrun]
  refine hk M' _ _ _ h ?_
  rw [hd]
  exact h2.put hn (.ptr _ _ _ rfl fun k hk => by rw [h3] at hk; cases hk; rfl)⟩

def tySize : Ty → Nat
  | .st _ zs => zs.length
  | _ => 1
theorem ty_sizeOf {P : Program} {t : TypeId} {y : Ty} (h : TyOK P t y) (w : World) : (sizeOf t).run P w = .ok (tySize y) w := by
  cases y with
  | st offs zs => obtain ⟨_, ⟨i, hi, hs, _⟩, _⟩ := h; simp [sizeOf, typeInfo, hi, hs, go_sem, tySize]
  | sl e k b => obtain ⟨_, ⟨i, hi, hs, _⟩, _⟩ := h; simp [sizeOf, typeInfo, hi, hs, go_sem, tySize]
  | sc z => obtain ⟨_, ⟨i, hi, hs, _⟩, _⟩ := h; simp [sizeOf, typeInfo, hi, hs, go_sem, tySize]
def Live (s : PS) : D → Prop
  | .ptr b _ => (s.b b).isSome = true
  | .eptr r i _ => ∃ e q, s.r r = some (e, q) ∧ 0 ≤ i ∧ i < q.len
  | _ => False
/-- a store into a box or a row of the call's own -/
theorem sStore (hT : TTOK C.P TT) {t : TypeId} {p x : Operand} {y : Ty} {dp d : D} {ob : Prop} (hop : o.op = .store t p x) (hd : o.dst = none) (hy : look TT t = some y) (hp : s.ev p = dp) (hx : s.ev x = d) (hfl : d.flat = true)
    (hsz : Nat.beq d.cells.length (tySize y) = true) (hw : wrL s dp 0 d.cells = some (ob, s')) (hlive : Live s dp) (hob : ob) (h : K s') : Step C o s K := ⟨fun M a w Q K' hr hk => by
  have h1 := hr.ev x
  rw [hx] at h1
  obtain ⟨c1, c2, c3⟩ := h1.cells hfl
  have h2 := hr.ev p
  rw [hp] at h2
  have hpt : ∃ k oo, a.eval p = .pointer (some ⟨k, oo, none⟩) ∧ PtrAt M dp k oo := by
    cases dp <;> simp only [Live] at hlive
    case ptr b off =>
      cases hb : s.b b with
      | none => rw [hb] at hlive; cases hlive
      | some cs =>
        obtain ⟨k, cur, e, g1, _⟩ := hr.box b cs hb
        generalize a.eval p = v at h2 ⊢
        cases h2 with
        | ptr _ _ _ _ g2 => exact ⟨k, off, g2 k g1, g1, rfl⟩
    case eptr r i off =>
      obtain ⟨e, q, hr', h3, h4⟩ := hlive
      rcases hr.row r e q hr' with ⟨_, h0⟩ | ⟨g, cap, cur, g1, _⟩
      · omega
      · generalize a.eval p = v at h2 ⊢
        cases h2 with
        | eptr _ _ _ _ g2 => exact ⟨g, _, g2 g cap q.sz g1, _, _, g1, rfl⟩
  obtain ⟨k, oo, hpv, hpa⟩ := hpt
  obtain ⟨w', hrun, hr'⟩ := wrL_ok (P := C.P) d.cells (a.eval x).cells.toList 0 s w ob s' dp k oo hr hpa (by simpa using c1) (fun i d' hd' => by simpa using c2 i d' hd') hw hob
  have hrun' : (execOp a.eval o).run C.P w = .ok .skip w' := by
    simp only [execOp, hop, Instr.storeAt, Instr.sureAddr, storeVar, hpv, Sem.run_bind, ty_sizeOf (hT t y hy), Result.andThen_ok]
    have : (a.eval x).cells.size = tySize y := by rw [← c1]; exact Nat.eq_of_beq_eq_true hsz
    generalize (a.eval x).cells = vx at this hrun ⊢
    simp [go_sem, this, hrun]
  unfold Oper.wp
  rw [hrun']
  have : (a.put o.dst undef) = a := by rw [hd]; rfl
  show K' (a.put o.dst undef) w'
  rw [this]
  exact hk M _ _ _ h hr'⟩
end
end Go.Proofs.Ytlmlfbjcpajinaa
