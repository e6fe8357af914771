/- Regions that draw their order, whose operations only reckon, read and call: they may be gone through in the order of the text. No program in sight. -/
import Derived.Test.YtlmlfbjcpajinaaVo
import Derived.Orders
namespace Go.Proofs.Ytlmlfbjcpajinaa
open Go.RowKit Go.Deep
set_option linter.unusedSimpArgs false
set_option linter.unusedVariables false

def odst (ops : Array Oper) (j : Nat) : Option Tmp := (ops[j]?).bind (·.dst)
def putS (ops : Array Oper) (s : PS) (ds : Nat → D) (L : Nat → Bool) : Nat → PS
  | 0 => s
  | k + 1 => if L k then (putS ops s ds L k).put (odst ops k) (ds k) else putS ops s ds L k
theorem PS.row_put (s : PS) (o : Option Nat) (d : D) : (s.put o d).row = s.row := by cases o <;> rfl
theorem PS.box_put (s : PS) (o : Option Nat) (d : D) : (s.put o d).box = s.box := by cases o <;> rfl
section
variable {ops : Array Oper} {s : PS} {ds : Nat → D}
theorem putS_row (L : Nat → Bool) : ∀ k, (putS ops s ds L k).row = s.row ∧ (putS ops s ds L k).box = s.box
  | 0 => ⟨rfl, rfl⟩
  | k + 1 => by
    have ih := putS_row L k
    simp only [putS]
    split
    · rw [PS.row_put, PS.box_put]; exact ih
    · exact ih
theorem putS_congr {L L' : Nat → Bool} : ∀ {k : Nat}, (∀ j, j < k → L j = L' j) → putS ops s ds L k = putS ops s ds L' k
  | 0, _ => rfl
  | k + 1, h => by
    simp only [putS]
    rw [h k (Nat.lt_succ_self k), putS_congr (k := k) fun j hj => h j (Nat.lt_succ_of_lt hj)]
theorem putS_on {L L' : Nat → Bool} {i : Nat} : ∀ {k : Nat}, i < k → L i = false → (∀ j, L' j = (L j || j == i)) →
    (∀ j, i < j → j < k → L j = true → ∀ d, odst ops i = some d → odst ops j ≠ some d) → ∀ x, (putS ops s ds L' k).t x = ((putS ops s ds L k).put (odst ops i) (ds i)).t x
  | 0, h, _, _, _ => absurd h (Nat.not_lt_zero _)
  | k + 1, hik, hL, hL', hd => fun x => by
    simp only [putS]
    by_cases hi : i = k
    · subst hi
      rw [hL', hL]
      simp only [beq_self_eq_true, Bool.false_or, if_true, Bool.false_eq_true, if_false]
      rw [putS_congr (L := L') (L' := L) fun j hj => by rw [hL']; simp; omega]
    · have hlt : i < k := by omega
      have ih := putS_on hlt hL hL' fun j h1 h2 => hd j h1 (Nat.lt_succ_of_lt h2)
      have hne : (k == i) = false := by simp; omega
      rw [hL', hne, Bool.or_false]
      cases hk : L k with
      | false => simpa using ih x
      | true =>
        simp only [if_true]
        have h1 := hd k hlt (Nat.lt_succ_self k) hk
        rw [PS.t_put, ih x, PS.t_put, PS.t_put, PS.t_put]
        by_cases ha : odst ops k = some x
        · rw [if_pos ha, if_neg (fun hb => h1 x hb ha), if_pos ha]
        · rw [if_neg ha, if_neg ha]

/-- each later operation waits for an earlier one, or is apart from it; and waits for earlier ones alone -/
def pairV (md : Region.Mode) (ops : Array Oper) : Bool :=
  (List.range ops.size).all fun j => match ops[j]? with
    | none => true
    | some oj => oj.after.all (fun e => !Region.binds md e || decide (e.on < j)) &&
      (List.range j).all fun i => match ops[i]? with
        | none => true
        | some oi => oj.after.any (fun e => Region.binds md e && e.on == i) || oi.apart ops oj
theorem pairV_spec {md : Region.Mode} (h : pairV md ops = true) {i j : Nat} {oi oj : Oper} (hij : i < j) (hi : ops[i]? = some oi) (hj : ops[j]? = some oj)
    (hno : ∀ e ∈ oj.after, Region.binds md e = true → e.on ≠ i) : oi.apart ops oj = true := by
  simp only [pairV, List.all_eq_true, List.mem_range] at h
  have h1 := h j (Array.getElem?_eq_some_iff.1 hj).1
  simp only [hj, Bool.and_eq_true, List.all_eq_true, List.mem_range] at h1
  have h2 := h1.2 i hij
  simp only [hi, Bool.or_eq_true] at h2
  rcases h2 with h2 | h2
  · obtain ⟨k, hk, h3⟩ := Array.any_eq_true.1 h2
    simp only [Bool.and_eq_true, beq_iff_eq] at h3
    exact absurd h3.2 (hno _ (Array.getElem_mem hk) h3.1)
  · exact h2
theorem pairV_edge {md : Region.Mode} (h : pairV md ops = true) {j : Nat} {oj : Oper} (hj : ops[j]? = some oj) {e : _} (he : e ∈ oj.after) (hb : Region.binds md e = true) : e.on < j := by
  simp only [pairV, List.all_eq_true, List.mem_range] at h
  have h1 := h j (Array.getElem?_eq_some_iff.1 hj).1
  simp only [hj, Bool.and_eq_true] at h1
  have h2 := Array.all_eq_true_iff_forall_mem.1 h1.1 e he
  simpa [hb] using h2
end

theorem Rel.sameT {w0 : World} {O0 : Nat → Prop} {n : Nat} {M : Mp} {s s' : PS} {a : Act} {w : World} (h : Rel w0 O0 n M s a w) (ht : ∀ x, s'.t x = s.t x) (hr : s'.row = s.row) (hb : s'.box = s.box) : Rel w0 O0 n M s' a w := by
  have hr' : ∀ r, s'.r r = s.r r := fun r => by simp [PS.r, hr]
  have hb' : ∀ r, s'.b r = s.b r := fun r => by simp [PS.b, hb]
  exact ⟨h.fr, h.dfr, h.sz, fun t => by rw [ht]; exact h.tmp t, fun b cs hx => h.box b cs (by rwa [hb'] at hx), fun b hx => h.boxn b (by rwa [hb'] at hx), fun r e q hx => h.row r e q (by rwa [hr'] at hx),
    fun r hx => h.rown r (by rwa [hr'] at hx), h.low, h.inj1, h.inj2, h.inj3⟩

section
variable {C : Cx} {ops : Array Oper} {o : Oper} {s : PS} {K : PS → Prop} {TT : List (Nat × Ty)}
/-- s1 says of what o looks at what s says -/
structure Agree (ops : Array Oper) (o : Oper) (s s1 : PS) : Prop where
  row : s1.row = s.row
  box : s1.box = s.box
  t : ∀ x ∈ o.looksAt ops, s1.t x = s.t x
theorem Agree.ev {s1 : PS} (h : Agree ops o s s1) (x : Operand) (hx : x ∈ o.op.operands) : s1.ev x = s.ev x := by
  cases x with
  | tmp t => exact h.t t (List.mem_append_left _ (List.mem_filterMap.2 ⟨.tmp t, by simpa using hx, rfl⟩))
  | _ => rfl
theorem Agree.r {s1 : PS} (h : Agree ops o s s1) (r : Nat) : s1.r r = s.r r := by simp [PS.r, h.row]
theorem Agree.b {s1 : PS} (h : Agree ops o s s1) (r : Nat) : s1.b r = s.b r := by simp [PS.b, h.box]

/-- the operation yields d (d = .tup [] where it is passed over) and leaves memory of the call's own -/
structure QV (C : Cx) (ops : Array Oper) (o : Oper) (s : PS) (d : D) : Prop where
  out : ∀ s1 M a w, Agree ops o s s1 → Rel C.w0 C.O0 C.n M s1 a w →
    (Region.wanted o (yielded ops a.tmps) = true ∧ Step C o s1 (fun s' => s' = s1.put o.dst d)) ∨
    (Region.wanted o (yielded ops a.tmps) = false ∧ d = .tup [] ∧ dstOk C.n o.dst = true)
/-- The chain in the order of the text. -/
def QC (C : Cx) (ops : Array Oper) (K : PS → Prop) : List Oper → PS → Prop
  | [], s => K s
  | o :: rest, s => ∃ d, QV C ops o s d ∧ QC C ops K rest (s.put o.dst d)

theorem qc_values : ∀ (l : List Oper) (k : Nat) (s0 : PS) (us : Nat → D), (∀ j : Nat, l[j]? = ops[k + j]?) → QC C ops K l (putS ops s0 us (fun _ => true) k) →
    ∃ ds : Nat → D, (∀ j, j < k → ds j = us j) ∧ (∀ j o, k ≤ j → ops[j]? = some o → QV C ops o (putS ops s0 ds (fun _ => true) j) (ds j)) ∧ K (putS ops s0 ds (fun _ => true) (k + l.length))
  | [], k, s0, us, hl, h => ⟨us, fun _ _ => rfl, fun j o hj ho => by
      have := hl (j - k); simp [show k + (j - k) = j from by omega, ho] at this, h⟩
  | o :: rest, k, s0, us, hl, h => by
    obtain ⟨v, hy, hr⟩ := h
    have ho : ops[k]? = some o := by simpa using (hl 0).symm
    let us' : Nat → D := fun j => if j = k then v else us j
    have hsame : ∀ m, m ≤ k → putS ops s0 us' (fun _ => true) m = putS ops s0 us (fun _ => true) m := by
      intro m
      induction m with
      | zero => intro _; rfl
      | succ m ih => intro hm; simp only [putS, if_true]; rw [ih (by omega)]; simp only [us', show m ≠ k from by omega, if_false]
    have hnext : putS ops s0 us' (fun _ => true) (k + 1) = (putS ops s0 us (fun _ => true) k).put o.dst v := by
      simp only [putS, if_true]; rw [hsame k (Nat.le_refl _)]; simp [us', odst, ho]
    obtain ⟨vs, h1, h2, h3⟩ := qc_values rest (k + 1) s0 us' (fun j => by have := hl (j + 1); simpa [Nat.add_assoc, Nat.add_comm 1 j] using this) (by rw [hnext]; exact hr)
    have hvs : ∀ m, m ≤ k + 1 → putS ops s0 vs (fun _ => true) m = putS ops s0 us' (fun _ => true) m := by
      intro m
      induction m with
      | zero => intro _; rfl
      | succ m ih => intro hm; simp only [putS, if_true]; rw [ih (by omega), h1 m (by omega)]
    refine ⟨vs, fun j hj => ?_, fun j o' hj ho' => ?_, ?_⟩
    · rw [h1 j (by omega)]; simp only [us', show j ≠ k from by omega, if_false]
    · rcases Nat.lt_or_ge k j with hlt | hge
      · exact h2 j o' hlt ho'
      · have hjk : j = k := by omega
        subst hjk
        rw [ho] at ho'; cases ho'
        rw [hvs j (by omega), hsame j (Nat.le_refl _), h1 j (by omega)]
        simpa [us'] using hy
    · rw [List.length_cons, show k + (rest.length + 1) = k + 1 + rest.length from by omega]
      exact h3

theorem listedV_out {listed : Array Bool} (hs : listed.size = ops.size) {j : Nat} (h : listed.getD j true = false) : j < ops.size := by
  rcases Nat.lt_or_ge j listed.size with h' | h'
  · omega
  · simp [Array.getElem?_eq_none h'] at h
theorem cntV_on {L L' : Nat → Bool} {i : Nat} (hL : L i = false) (h : ∀ j, L' j = (L j || j == i)) : ∀ {n : Nat}, i < n → (List.range n).countP (fun j => !L' j) + 1 ≤ (List.range n).countP (fun j => !L j)
  | 0, hi => absurd hi (Nat.not_lt_zero _)
  | n + 1, hi => by
    rw [List.range_succ, List.countP_append, List.countP_append]
    simp only [List.countP_cons, List.countP_nil, Nat.zero_add]
    by_cases hin : i = n
    · subst hin
      have e : (List.range i).countP (fun j => !L' j) = (List.range i).countP (fun j => !L j) := by
        apply List.countP_congr
        intro j hj
        have : j < i := by simpa using hj
        rw [h]; simp; omega
      rw [e, h, hL]; simp
    · have ih := cntV_on hL h (n := n) (by omega)
      have : L' n = L n := by rw [h]; simp; omega
      rw [this]; omega

theorem wpAny_of_chain {Qe : Exit → Act → World → Prop} {md : Region.Mode} (hp : pairV md ops = true) (s0 : PS) (ds : Nat → D)
    (hy : ∀ j o, ops[j]? = some o → QV C ops o (putS ops s0 ds (fun _ => true) j) (ds j)) (hq : ∀ M a w, Rel C.w0 C.O0 C.n M (putS ops s0 ds (fun _ => true) ops.size) a w → Qe .normal a w) :
    ∀ (fuel : Nat) (listed : Array Bool) (M : Mp) (a : Act) (w : World), listed.size = ops.size → (List.range ops.size).countP (fun j => !listed.getD j true) ≤ fuel →
      (∀ j oj, ops[j]? = some oj → listed.getD j true = true → ∀ e ∈ oj.after, Region.binds md e = true → listed.getD e.on true = true) → Rel C.w0 C.O0 C.n M (putS ops s0 ds (fun j => listed.getD j true) ops.size) a w →
      wpAny C.P md ops Qe fuel listed a w := by
  have done : ∀ (listed : Array Bool) M a w, (∀ j, j < ops.size → listed.getD j true = true) → Rel C.w0 C.O0 C.n M (putS ops s0 ds (fun j => listed.getD j true) ops.size) a w → Qe .normal a w := fun listed M a w hall hS => by
    rw [putS_congr (L' := fun _ => true) fun j hj => hall j hj] at hS; exact hq M a w hS
  intro fuel
  induction fuel with
  | zero =>
    intro listed M a w hsz hcnt hcl hS
    have hall : ∀ j, j < ops.size → listed.getD j true = true := fun j hj => by
      have := List.countP_eq_zero.1 (Nat.le_zero.1 hcnt) j (by simpa using hj)
      simpa using this
    refine ⟨?_, done listed M a w hall hS⟩
    apply List.eq_nil_iff_forall_not_mem.2
    intro i hi
    obtain ⟨h0, _⟩ := mem_ready.1 hi
    have := hall i (listedV_out hsz h0)
    rw [this] at h0; cases h0
  | succ fuel ih =>
    intro listed M a w hsz hcnt hcl hS
    refine ⟨fun hr => ?_, fun i hi => ?_⟩
    · refine done listed M a w (fun j hj => ?_) hS
      induction j using Nat.strongRecOn with
      | _ j ihj =>
        cases hun : listed.getD j true with
        | true => rfl
        | false =>
          exfalso
          have hmem : j ∈ Region.ready md ops listed := by
            refine mem_ready.2 ⟨hun, ops[j], Array.getElem?_eq_getElem hj, fun e he hb => ?_⟩
            have hlt := pairV_edge hp (Array.getElem?_eq_getElem hj) he hb
            have hl := ihj e.on hlt (by omega)
            have hin : e.on < listed.size := by omega
            simp [hin] at hl ⊢
            exact hl
          rw [hr] at hmem; cases hmem
    · obtain ⟨hun, o, ho, hdeps⟩ := mem_ready.1 hi
      have hin := listedV_out hsz hun
      have hsame : ∀ j, listed.getD j false = true → listed.getD j true = true := fun j h => by
        rcases Nat.lt_or_ge j listed.size with h' | h'
        · simp [h'] at h ⊢; exact h
        · simp [Array.getElem?_eq_none h'] at h
      have hnot : ∀ j, listed.getD j true = false → ∀ e ∈ o.after, Region.binds md e = true → e.on ≠ j := fun j hj e he hb heq => by
        have := hsame _ (hdeps e he hb); rw [heq] at this; rw [this] at hj; cases hj
      have hnot2 : ∀ m j oj, listed.getD m true = false → ops[j]? = some oj → listed.getD j true = true → ∀ e ∈ oj.after, Region.binds md e = true → e.on ≠ m := fun m j oj hm hoj hj e he hb heq => by
        have := hcl j oj hoj hj e he hb; rw [heq] at this; rw [this] at hm; cases hm
      have hget : ∀ j, j < ops.size → ∃ oj, ops[j]? = some oj := fun j hj => ⟨ops[j], Array.getElem?_eq_getElem hj⟩
      have hdst : ∀ m j, m < j → j < ops.size → listed.getD m true = false → listed.getD j true = true → ∀ d, odst ops m = some d → odst ops j ≠ some d := fun m j hmj hj hm hlj d hd => by
        obtain ⟨om, hom⟩ := hget m (by omega)
        obtain ⟨oj, hoj⟩ := hget j hj
        have hap := Oper.apart_spec (pairV_spec hp hmj hom hoj (hnot2 m j oj hm hoj hlj))
        simp only [odst, hom, hoj, Option.bind_some] at hd ⊢
        exact hap.2.1 d hd
      let X : Nat → Nat → Bool := fun m j => listed.getD j true || decide (j < m)
      have stepA : ∀ m, m ≤ i → ∀ x ∈ o.looksAt ops, (putS ops s0 ds (X m) i).t x = (putS ops s0 ds (fun j => listed.getD j true) i).t x := by
        intro m
        induction m with
        | zero => intro _ x _; rw [putS_congr (L := X 0) (L' := fun j => listed.getD j true) fun j hj => by simp [X]]
        | succ m ihm =>
          intro hm x hx
          have ih1 := ihm (by omega) x hx
          cases hl : listed.getD m true with
          | true =>
            rw [putS_congr (L := X (m + 1)) (L' := X m) fun j hj => by
              by_cases hjm : j = m
              · subst hjm; simp only [X, hl, Bool.true_or]
              · simp only [X]; congr 1; simp; omega]
            exact ih1
          | false =>
            obtain ⟨om, hom⟩ := hget m (by omega)
            have hap := Oper.apart_spec (pairV_spec hp (show m < i by omega) hom ho (hnot m hl))
            have hon := putS_on (ops := ops) (s := s0) (ds := ds) (L := X m) (L' := X (m + 1)) (i := m) (k := i) (by omega) (by simp only [X, hl]; simp) (fun j => by
                simp only [X]
                by_cases hjm : j = m
                · subst hjm; simp
                · have : (j == m) = false := by simpa using hjm
                  rw [this, Bool.or_false]; congr 1; simp; omega) (fun j h1 h2 h3 => by
              have h3' : listed.getD j true = true := by
                simp only [X, Bool.or_eq_true, decide_eq_true_eq] at h3
                rcases h3 with h3 | h3
                · exact h3
                · omega
              exact hdst m j h1 (by omega) hl h3') x
            rw [hon, PS.t_put, if_neg (fun hd => hap.1 x (by simpa [odst, hom] using hd) hx)]
            exact ih1
      have stepB : ∀ k, i ≤ k → k ≤ ops.size → ∀ x ∈ o.looksAt ops, (putS ops s0 ds (fun j => listed.getD j true) k).t x = (putS ops s0 ds (fun j => listed.getD j true) i).t x := by
        intro k
        induction k with
        | zero => intro h _ x _; have : i = 0 := by omega
                  subst this; rfl
        | succ k ihk =>
          intro h1 h2 x hx
          rcases Nat.lt_or_ge k i with hki | hki
          · have : i = k + 1 := by omega
            subst this; rfl
          · have ih1 := ihk hki (by omega) x hx
            simp only [putS]
            by_cases hl : listed.getD k true = true
            case neg => rw [if_neg hl]; exact ih1
            case pos =>
              rw [if_pos hl]
              have hne : i < k := by
                rcases Nat.lt_or_ge i k with h | h
                · exact h
                · have : i = k := by omega
                  subst this; rw [hun] at hl; cases hl
              obtain ⟨ok, hok⟩ := hget k (by omega)
              have hap := Oper.apart_spec (pairV_spec hp hne ho hok (hnot2 i k ok hun hok hl))
              rw [PS.t_put, if_neg (fun hd => hap.2.2 x (by simpa [odst, hok] using hd) hx)]
              exact ih1
      have hall : putS ops s0 ds (X i) i = putS ops s0 ds (fun _ => true) i := putS_congr fun j hj => by simp [X, hj]
      have hag : Agree ops o (putS ops s0 ds (fun _ => true) i) (putS ops s0 ds (fun j => listed.getD j true) ops.size) := by
        refine ⟨by rw [(putS_row _ _).1, (putS_row _ _).1], by rw [(putS_row _ _).2, (putS_row _ _).2], fun x hx => ?_⟩
        rw [stepB ops.size (by omega) (Nat.le_refl _) x hx, ← stepA i (Nat.le_refl _) x hx, hall]
      have hL' : ∀ j, (listed.setIfInBounds i true).getD j true = (listed.getD j true || j == i) := fun j => by
        by_cases hji : j = i
        · subst hji
          have : j < (listed.setIfInBounds j true).size := by simp; omega
          simp [show j < listed.size from by omega]
        · rw [getD_set_ne true (Ne.symm hji)]; have : (j == i) = false := by simpa using hji
          rw [this, Bool.or_false]
      have hnext : ∀ M' a' w', Rel C.w0 C.O0 C.n M' ((putS ops s0 ds (fun j => listed.getD j true) ops.size).put o.dst (ds i)) a' w' → wpAny C.P md ops Qe fuel (listed.setIfInBounds i true) a' w' := fun M' a' w' hR => by
        refine ih _ M' a' w' (by simpa using hsz) ?_ ?_ ?_
        · have := cntV_on (L := fun j => listed.getD j true) (L' := fun j => (listed.setIfInBounds i true).getD j true) hun hL' hin
          omega
        · intro j oj hoj hlj e he hb
          rw [hL'] at hlj ⊢
          simp only [Bool.or_eq_true, beq_iff_eq] at hlj ⊢
          rcases hlj with hlj | rfl
          · exact .inl (hcl j oj hoj hlj e he hb)
          · rw [ho] at hoj; cases hoj
            exact .inl (hsame _ (hdeps e he hb))
        · refine hR.sameT (fun x => ?_) (by rw [(putS_row _ _).1, PS.row_put, (putS_row _ _).1]) (by rw [(putS_row _ _).2, PS.box_put, (putS_row _ _).2])
          rw [putS_on (ops := ops) (s := s0) (ds := ds) (L := fun j => listed.getD j true) hin hun hL' (fun j h1 h2 h3 => hdst i j h1 h2 hun h3) x]
          simp [odst, ho]
      unfold wpOp
      simp only [ho]
      rcases (hy i o ho).out _ M a w hag hS with ⟨h1, h2⟩ | ⟨h1, h2, h3⟩
      · rw [if_pos h1]
        exact .inl (h2.out M a w Qe _ hS fun M' s' a' w' he hR => hnext M' a' w' (by rw [← he]; exact hR))
      · rw [if_neg (by rw [h1]; simp)]
        refine hnext M _ w ?_
        rw [h2]
        exact hS.put h3 (.tup [] #[] rfl (by simp))

/-- **A region that draws its order may be gone through in the order of its text.** -/
theorem vRegionD {id : Nat} {l : List Oper} {Q : Exit → PS → Prop} (hm : C.P.follows .mixedOrders = true) (hp : pairV .any l.toArray = true) (h : QC C l.toArray (Q .normal) l s) : VC C (.region id l.toArray true) Q s := by
  refine ⟨fun M a w hr => wp_region_any hm ?_⟩
  obtain ⟨ds, _, h2, h3⟩ := qc_values (C := C) (ops := l.toArray) l 0 s (fun _ => .dead) (fun j => by simp) (by simpa [putS] using h)
  have hr' : Rel C.w0 C.O0 C.n M s a { w with drawn := w.drawn + 1 } := by
    have hA : ∀ f b, b < w.heap.size → Ow (Fs C.w0 C.O0) M f b → Ow (Fs C.w0 C.O0) M f b ∧ b < ({ w with drawn := w.drawn + 1 } : World).heap.size ∧ ({ w with drawn := w.drawn + 1 } : World).heap[b]? = w.heap[b]? := fun f b h1 h2 => ⟨h2, h1, rfl⟩
    have mono : ∀ {d v}, VR M (Ow (Fs C.w0 C.O0) M) w d v → VR M (Ow (Fs C.w0 C.O0) M) { w with drawn := w.drawn + 1 } d v := fun hv => hv.mono hA (fun _ _ h => h) (fun _ _ h => h)
    exact ⟨⟨hr.fr.os, hr.fr.tape, hr.fr.output, hr.fr.size, hr.fr.block⟩, hr.dfr, hr.sz, fun t => mono (hr.tmp t), fun b cs hb => by
        obtain ⟨k, cur, e, g1, g2, g3, g4⟩ := hr.box b cs hb
        exact ⟨k, cur, e, g1, g2, g3, fun j d hd => mono (g4 j d hd)⟩, hr.boxn, fun r e q hx => by
        rcases hr.row r e q hx with ⟨g1, g2⟩ | ⟨g, cap, cur, g1, g2, g3, g4, g5, g6⟩
        · exact .inl ⟨g1, g2⟩
        · exact .inr ⟨g, cap, cur, g1, g2, g3, g4, g5, fun i j d hi hd => mono (g6 i j d hi hd)⟩, hr.rown, hr.low, hr.inj1, hr.inj2, hr.inj3⟩
  refine wpAny_of_chain (C := C) (md := .any) hp s ds (fun j o ho => h2 j o (Nat.zero_le _) ho) (fun M a w hR => ⟨_, M, by simpa using h3, hR⟩) l.toArray.size _ M a _ (by simp)
    (Nat.le_trans (List.countP_le_length) (by simp)) (fun j oj hoj hl => by
      have := (Array.getElem?_eq_some_iff.1 hoj).1
      simp only [List.size_toArray] at this
      simp [this] at hl) ?_
  rw [putS_congr (L' := fun _ => false) fun j hj => by simp only [List.size_toArray] at hj; simp [hj]]
  have h0 : ∀ k, putS l.toArray s ds (fun _ => false) k = s := by
    intro k; induction k with
    | zero => rfl
    | succ k ih => simp [putS, ih]
  rw [h0]
  exact hr'
end
end Go.Proofs.Ytlmlfbjcpajinaa
