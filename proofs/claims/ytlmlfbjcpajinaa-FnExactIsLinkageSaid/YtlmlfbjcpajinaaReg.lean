/- A region that draws its order, walked once in the order of its text: every operation yields its value in every world that meets S, and S holds behind it. No program in sight. -/
import Derived.Test.YtlmlfbjcpajinaaHeap
import Derived.Orders
namespace Go.Proofs.Ytlmlfbjcpajinaa
open Go.RowKit
set_option linter.unusedSimpArgs false
set_option linter.unusedVariables false
section
variable {P : Program} {ops : Array Oper} {Q : Exit → Act → World → Prop} {S : World → Prop}

/-- Run in a world that meets S the operation yields v, and S holds behind it. -/
def RunS (P : Program) (S : World → Prop) (o : Oper) (v : Value) (a : Act) : Prop :=
  ∀ w, S w → match (execOp a.eval o).run P w with
    | .ok (.value u) w' => u = v ∧ S w'
    | .ok .skip w' => v = undef ∧ S w'
    | .ok (.enter f args) w' => Calls P f args w' (fun e w'' => e = .returned v ∧ S w'')
    | _ => False

def YieldS (P : Program) (ops : Array Oper) (S : World → Prop) (o : Oper) (v : Value) (a : Act) : Prop :=
  (Region.wanted o (yielded ops a.tmps) = true ∧ RunS P S o v a) ∨ (Region.wanted o (yielded ops a.tmps) = false ∧ v = undef)

theorem YieldS.wpOp {i : Nat} {o : Oper} {v : Value} {a : Act} (hi : ops[i]? = some o) (hy : YieldS P ops S o v a) {K : Act → World → Prop} {w : World} (hS : S w)
    (h : ∀ w', S w' → K (a.put o.dst v) w') : wpOp P ops Q i K a w := by
  unfold Go.wpOp
  simp only [hi]
  rcases hy with ⟨hw, hv⟩ | ⟨hw, rfl⟩
  · simp only [hw, if_true]
    left
    have := hv w hS
    unfold Oper.wp
    generalize (execOp a.eval o).run P w = r at this
    cases r with
    | ok n w' =>
      cases n <;> simp only at this
      case value u => obtain ⟨rfl, hs⟩ := this; exact h _ hs
      case skip => obtain ⟨rfl, hs⟩ := this; exact h _ hs
      case enter f args =>
        refine Calls.mono this fun e w'' he => ?_
        obtain ⟨rfl, hs⟩ := he
        exact h _ hs
    | halt x w' => simp only at this
  · simp only [hw, Bool.false_eq_true, if_false]
    exact h _ hS

theorem YieldS.of_same {o : Oper} {v : Value} {a a' : Act} (hy : YieldS P ops S o v a) (he : execOp a'.eval o = execOp a.eval o)
    (hw : Region.wanted o (yielded ops a'.tmps) = Region.wanted o (yielded ops a.tmps)) : YieldS P ops S o v a' := by
  unfold YieldS RunS at *
  rw [he, hw]
  exact hy

def dstOf (ops : Array Oper) (j : Nat) : Option Tmp := (ops[j]?).bind (·.dst)
/-- The state in which just the operations of L below k have come up. -/
def putTo (ops : Array Oper) (a : Act) (vs : Nat → Value) (L : Nat → Bool) : Nat → Act
  | 0 => a
  | k + 1 => if L k then (putTo ops a vs L k).put (dstOf ops k) (vs k) else putTo ops a vs L k

theorem putTo_congr {a : Act} {vs : Nat → Value} {L L' : Nat → Bool} : ∀ {k : Nat}, (∀ j, j < k → L j = L' j) → putTo ops a vs L k = putTo ops a vs L' k
  | 0, _ => rfl
  | k + 1, h => by
    simp only [putTo]
    rw [h k (Nat.lt_succ_self k), putTo_congr (k := k) fun j hj => h j (Nat.lt_succ_of_lt hj)]

/-- One more that has come up, behind none that writes its slot. -/
theorem putTo_on {a : Act} {vs : Nat → Value} {L L' : Nat → Bool} {i : Nat} : ∀ {k : Nat}, i < k → L i = false → (∀ j, L' j = (L j || j == i)) →
    (∀ j, i < j → j < k → L j = true → ∀ d, dstOf ops i = some d → dstOf ops j ≠ some d) → putTo ops a vs L' k = (putTo ops a vs L k).put (dstOf ops i) (vs i)
  | 0, h, _, _, _ => absurd h (Nat.not_lt_zero _)
  | k + 1, hik, hL, hL', hd => by
    simp only [putTo]
    by_cases hi : i = k
    · subst hi
      rw [hL', hL]
      simp only [beq_self_eq_true, Bool.false_or, if_true, Bool.false_eq_true, if_false]
      rw [putTo_congr (L := L') (L' := L) fun j hj => by rw [hL']; simp; omega]
    · have hlt : i < k := by omega
      have ih := putTo_on (a := a) (vs := vs) hlt hL hL' fun j h1 h2 => hd j h1 (Nat.lt_succ_of_lt h2)
      rw [hL', ih]
      have hne : (k == i) = false := by simp; omega
      rw [hne, Bool.or_false]
      cases hk : L k with
      | false => simp
      | true =>
        simp only [if_true]
        exact Act.put_comm _ _ _ fun d h1 => hd k hlt (Nat.lt_succ_self k) hk d h1

/-- each later operation waits for an earlier one, or is apart from it; and waits for earlier ones alone -/
def pairB (md : Region.Mode) (ops : Array Oper) : Bool :=
  (List.range ops.size).all fun j => match ops[j]? with
    | none => true
    | some oj => oj.after.all (fun e => !Region.binds md e || decide (e.on < j)) &&
      (List.range j).all fun i => match ops[i]? with
        | none => true
        | some oi => oj.after.any (fun e => Region.binds md e && e.on == i) || oi.apart ops oj

theorem pairB_spec {md : Region.Mode} (h : pairB md ops = true) {i j : Nat} {oi oj : Oper} (hij : i < j) (hi : ops[i]? = some oi) (hj : ops[j]? = some oj)
    (hno : ∀ e ∈ oj.after, Region.binds md e = true → e.on ≠ i) : oi.apart ops oj = true := by
  simp only [pairB, List.all_eq_true, List.mem_range] at h
  have h1 := h j (Array.getElem?_eq_some_iff.1 hj).1
  simp only [hj, Bool.and_eq_true, List.all_eq_true, List.mem_range] at h1
  have h2 := h1.2 i hij
  simp only [hi, Bool.or_eq_true] at h2
  rcases h2 with h2 | h2
  · obtain ⟨k, hk, h3⟩ := Array.any_eq_true.1 h2
    simp only [Bool.and_eq_true, beq_iff_eq] at h3
    exact absurd h3.2 (hno _ (Array.getElem_mem hk) h3.1)
  · exact h2
theorem pairB_edge {md : Region.Mode} (h : pairB md ops = true) {j : Nat} {oj : Oper} (hj : ops[j]? = some oj) {e : _} (he : e ∈ oj.after) (hb : Region.binds md e = true) : e.on < j := by
  simp only [pairB, List.all_eq_true, List.mem_range] at h
  have h1 := h j (Array.getElem?_eq_some_iff.1 hj).1
  simp only [hj, Bool.and_eq_true] at h1
  have h2 := Array.all_eq_true_iff_forall_mem.1 h1.1 e he
  simpa [hb] using h2

/-- The walk in the order of the text. -/
def wpSeq (P : Program) (ops : Array Oper) (Q : Exit → Act → World → Prop) (S : World → Prop) : List Oper → Act → Prop
  | [], a => ∀ w, S w → Q .normal a w
  | o :: rest, a => ∃ v, YieldS P ops S o v a ∧ wpSeq P ops Q S rest (a.put o.dst v)

theorem wpSeq_values : ∀ (l : List Oper) (k : Nat) (a0 : Act) (us : Nat → Value), (∀ j, l[j]? = ops[k + j]?) → wpSeq P ops Q S l (putTo ops a0 us (fun _ => true) k) →
    ∃ vs : Nat → Value, (∀ j, j < k → vs j = us j) ∧ (∀ j o, k ≤ j → ops[j]? = some o → YieldS P ops S o (vs j) (putTo ops a0 vs (fun _ => true) j)) ∧
      ∀ w, S w → Q .normal (putTo ops a0 vs (fun _ => true) (k + l.length)) w
  | [], k, a0, us, hl, h => ⟨us, fun _ _ => rfl, fun j o hj ho => by
      have := hl (j - k); simp [show k + (j - k) = j from by omega, ho] at this, h⟩
  | o :: rest, k, a0, us, hl, h => by
    obtain ⟨v, hy, hr⟩ := h
    have ho : ops[k]? = some o := by simpa using (hl 0).symm
    let us' : Nat → Value := fun j => if j = k then v else us j
    have hsame : ∀ m, m ≤ k → putTo ops a0 us' (fun _ => true) m = putTo ops a0 us (fun _ => true) m := by
      intro m
      induction m with
      | zero => intro _; rfl
      | succ m ih => intro hm; simp only [putTo, if_true]; rw [ih (by omega)]; simp only [us', show m ≠ k from by omega, if_false]
    have hnext : putTo ops a0 us' (fun _ => true) (k + 1) = (putTo ops a0 us (fun _ => true) k).put o.dst v := by
      simp only [putTo, if_true]; rw [hsame k (Nat.le_refl _)]; simp [us', dstOf, ho]
    obtain ⟨vs, h1, h2, h3⟩ := wpSeq_values rest (k + 1) a0 us' (fun j => by have := hl (j + 1); simpa [Nat.add_assoc, Nat.add_comm 1 j] using this) (by rw [hnext]; exact hr)
    have hvs : ∀ m, m ≤ k + 1 → putTo ops a0 vs (fun _ => true) m = putTo ops a0 us' (fun _ => true) m := by
      intro m
      induction m with
      | zero => intro _; rfl
      | succ m ih => intro hm; simp only [putTo, if_true]; rw [ih (by omega), h1 m (by omega)]
    refine ⟨vs, fun j hj => ?_, fun j o' hj ho' => ?_, ?_⟩
    · rw [h1 j (by omega)]; simp only [us', show j ≠ k from by omega, if_false]
    · rcases Nat.lt_or_ge k j with hlt | hge
      · exact h2 j o' hlt ho'
      · have hjk : j = k := by omega
        subst hjk
        rw [ho] at ho'; cases ho'
        rw [hvs j (by omega), hsame j (Nat.le_refl _), h1 j (by omega)]
        simpa [us'] using hy
    · intro w hw
      have := h3 w hw
      rw [List.length_cons, show k + (rest.length + 1) = k + 1 + rest.length from by omega]
      exact this

theorem listed_out {listed : Array Bool} (hs : listed.size = ops.size) {j : Nat} (h : listed.getD j true = false) : j < ops.size := by
  rcases Nat.lt_or_ge j listed.size with h' | h'
  · omega
  · simp [Array.getElem?_eq_none h'] at h

theorem cnt_on {L L' : Nat → Bool} {i : Nat} (hL : L i = false) (h : ∀ j, L' j = (L j || j == i)) : ∀ {n : Nat}, i < n → (List.range n).countP (fun j => !L' j) + 1 ≤ (List.range n).countP (fun j => !L j)
  | 0, hi => absurd hi (Nat.not_lt_zero _)
  | n + 1, hi => by
    rw [List.range_succ, List.countP_append, List.countP_append]
    simp only [List.countP_cons, List.countP_nil, Nat.zero_add]
    by_cases hin : i = n
    · subst hin
      have e : (List.range i).countP (fun j => !L' j) = (List.range i).countP (fun j => !L j) := by
        apply List.countP_congr
        intro j hj
        have : j < i := by simpa using hj
        rw [h]; simp; omega
      rw [e, h, hL]; simp
    · have ih := cnt_on hL h (n := n) (by omega)
      have : L' n = L n := by rw [h]; simp; omega
      rw [this]; omega

theorem wpAny_of_seq {md : Region.Mode} (hsel : Region.noSelect ops = true) (hp : pairB md ops = true) (a0 : Act) (vs : Nat → Value)
    (hy : ∀ j o, ops[j]? = some o → YieldS P ops S o (vs j) (putTo ops a0 vs (fun _ => true) j)) (hq : ∀ w, S w → Q .normal (putTo ops a0 vs (fun _ => true) ops.size) w) :
    ∀ (fuel : Nat) (listed : Array Bool) (w : World), listed.size = ops.size → (List.range ops.size).countP (fun j => !listed.getD j true) ≤ fuel →
      (∀ j oj, ops[j]? = some oj → listed.getD j true = true → ∀ e ∈ oj.after, Region.binds md e = true → listed.getD e.on true = true) → S w →
      wpAny P md ops Q fuel listed (putTo ops a0 vs (fun j => listed.getD j true) ops.size) w := by
  have done : ∀ (listed : Array Bool) (w : World), (∀ j, j < ops.size → listed.getD j true = true) → S w → Q .normal (putTo ops a0 vs (fun j => listed.getD j true) ops.size) w := fun listed w hall hS => by
    rw [putTo_congr (L' := fun _ => true) fun j hj => hall j hj]; exact hq w hS
  intro fuel
  induction fuel with
  | zero =>
    intro listed w hsz hcnt hcl hS
    have hall : ∀ j, j < ops.size → listed.getD j true = true := fun j hj => by
      have := List.countP_eq_zero.1 (Nat.le_zero.1 hcnt) j (by simpa using hj)
      simpa using this
    refine ⟨?_, done listed w hall hS⟩
    apply List.eq_nil_iff_forall_not_mem.2
    intro i hi
    obtain ⟨h0, _⟩ := mem_ready.1 hi
    have := hall i (listed_out hsz h0)
    rw [this] at h0; cases h0
  | succ fuel ih =>
    intro listed w hsz hcnt hcl hS
    refine ⟨fun hr => ?_, fun i hi => ?_⟩
    · refine done listed w (fun j hj => ?_) hS
      induction j using Nat.strongRecOn with
      | _ j ihj =>
        cases hun : listed.getD j true with
        | true => rfl
        | false =>
          exfalso
          have hmem : j ∈ Region.ready md ops listed := by
            refine mem_ready.2 ⟨hun, ops[j], Array.getElem?_eq_getElem hj, fun e he hb => ?_⟩
            have hlt := pairB_edge hp (Array.getElem?_eq_getElem hj) he hb
            have hl := ihj e.on hlt (by omega)
            have hin : e.on < listed.size := by omega
            simp [hin] at hl ⊢
            exact hl
          rw [hr] at hmem; cases hmem
    · obtain ⟨hun, o, ho, hdeps⟩ := mem_ready.1 hi
      have hin := listed_out hsz hun
      have hsame : ∀ j, listed.getD j false = true → listed.getD j true = true := fun j h => by
        rcases Nat.lt_or_ge j listed.size with h' | h'
        · simp [h'] at h ⊢; exact h
        · simp [Array.getElem?_eq_none h'] at h
      have hnot : ∀ j, listed.getD j true = false → ∀ e ∈ o.after, Region.binds md e = true → e.on ≠ j := fun j hj e he hb heq => by
        have := hsame _ (hdeps e he hb); rw [heq] at this; rw [this] at hj; cases hj
      have hnot2 : ∀ m j oj, listed.getD m true = false → ops[j]? = some oj → listed.getD j true = true → ∀ e ∈ oj.after, Region.binds md e = true → e.on ≠ m := fun m j oj hm hoj hj e he hb heq => by
        have := hcl j oj hoj hj e he hb; rw [heq] at this; rw [this] at hm; cases hm
      have hget : ∀ j, j < ops.size → ∃ oj, ops[j]? = some oj := fun j hj => ⟨ops[j], Array.getElem?_eq_getElem hj⟩
      have hnosel := Region.noSelect_spec hsel i o
      -- dst's are apart
      have hdst : ∀ m j, m < j → j < ops.size → listed.getD m true = false → listed.getD j true = true → ∀ d, dstOf ops m = some d → dstOf ops j ≠ some d := fun m j hmj hj hm hlj d hd => by
        obtain ⟨om, hom⟩ := hget m (by omega)
        obtain ⟨oj, hoj⟩ := hget j hj
        have hap := Oper.apart_spec (pairB_spec hp hmj hom hoj (hnot2 m j oj hm hoj hlj))
        simp only [dstOf, hom, hoj, Option.bind_some] at hd ⊢
        exact hap.2.1 d hd
      let X : Nat → Nat → Bool := fun m j => listed.getD j true || decide (j < m)
      have stepA : ∀ m, m ≤ i → execOp (putTo ops a0 vs (X m) i).eval o = execOp (putTo ops a0 vs (fun j => listed.getD j true) i).eval o ∧
          Region.wanted o (yielded ops (putTo ops a0 vs (X m) i).tmps) = Region.wanted o (yielded ops (putTo ops a0 vs (fun j => listed.getD j true) i).tmps) := by
        intro m
        induction m with
        | zero => intro _; rw [putTo_congr (L := X 0) (L' := fun j => listed.getD j true) fun j hj => by simp [X]]; exact ⟨rfl, rfl⟩
        | succ m ihm =>
          intro hm
          have ih1 := ihm (by omega)
          cases hl : listed.getD m true with
          | true =>
            rw [putTo_congr (L := X (m + 1)) (L' := X m) fun j hj => by
              by_cases hjm : j = m
              · subst hjm; simp only [X, hl, Bool.true_or]
              · simp only [X]; congr 1; simp; omega]
            exact ih1
          | false =>
            obtain ⟨om, hom⟩ := hget m (by omega)
            have hap := Oper.apart_spec (pairB_spec hp (show m < i by omega) hom ho (hnot m hl))
            have hon : putTo ops a0 vs (X (m + 1)) i = (putTo ops a0 vs (X m) i).put (dstOf ops m) (vs m) := by
              refine putTo_on (by omega) (by simp only [X, hl]; simp) (fun j => by
                simp only [X]
                by_cases hjm : j = m
                · subst hjm; simp
                · have : (j == m) = false := by simpa using hjm
                  rw [this, Bool.or_false]; congr 1; simp; omega) (fun j h1 h2 h3 => ?_)
              have h3' : listed.getD j true = true := by
                simp only [X, Bool.or_eq_true, decide_eq_true_eq] at h3
                rcases h3 with h3 | h3
                · exact h3
                · omega
              exact hdst m j h1 (by omega) hl h3'
            rw [hon]
            have hd : ∀ d, dstOf ops m = some d → d ∉ o.looksAt ops := fun d hd => hap.1 d (by simpa [dstOf, hom] using hd)
            exact ⟨(execOp_put o (fun cs b => hnosel cs b ho) _ _ _ hd).trans ih1.1, (wanted_put o _ _ _ hd).trans ih1.2⟩
      have stepB : ∀ k, i ≤ k → k ≤ ops.size → execOp (putTo ops a0 vs (fun j => listed.getD j true) k).eval o = execOp (putTo ops a0 vs (fun j => listed.getD j true) i).eval o ∧
          Region.wanted o (yielded ops (putTo ops a0 vs (fun j => listed.getD j true) k).tmps) = Region.wanted o (yielded ops (putTo ops a0 vs (fun j => listed.getD j true) i).tmps) := by
        intro k
        induction k with
        | zero => intro h _; have : i = 0 := by omega
                  subst this; exact ⟨rfl, rfl⟩
        | succ k ihk =>
          intro h1 h2
          rcases Nat.lt_or_ge k i with hki | hki
          · have : i = k + 1 := by omega
            subst this; exact ⟨rfl, rfl⟩
          · have ih1 := ihk hki (by omega)
            simp only [putTo]
            by_cases hl : listed.getD k true = true
            case neg => rw [if_neg hl]; exact ih1
            case pos =>
              rw [if_pos hl]
              have hne : i < k := by
                rcases Nat.lt_or_ge i k with h | h
                · exact h
                · have : i = k := by omega
                  subst this; rw [hun] at hl; cases hl
              obtain ⟨ok, hok⟩ := hget k (by omega)
              have hap := Oper.apart_spec (pairB_spec hp hne ho hok (hnot2 i k ok hun hok hl))
              have hd : ∀ d, dstOf ops k = some d → d ∉ o.looksAt ops := fun d hd => hap.2.2 d (by simpa [dstOf, hok] using hd)
              exact ⟨(execOp_put o (fun cs b => hnosel cs b ho) _ _ _ hd).trans ih1.1, (wanted_put o _ _ _ hd).trans ih1.2⟩
      have hall : putTo ops a0 vs (X i) i = putTo ops a0 vs (fun _ => true) i := putTo_congr fun j hj => by simp [X, hj]
      have hA := stepA i (Nat.le_refl _)
      have hB := stepB ops.size (by omega) (Nat.le_refl _)
      rw [hall] at hA
      have hyi := (hy i o ho).of_same (a' := putTo ops a0 vs (fun j => listed.getD j true) ops.size) (hB.1.trans hA.1.symm) (hB.2.trans hA.2.symm)
      refine hyi.wpOp ho hS fun w' hS' => ?_
      have hL' : ∀ j, (listed.setIfInBounds i true).getD j true = (listed.getD j true || j == i) := fun j => by
        by_cases hji : j = i
        · subst hji
          have : j < (listed.setIfInBounds j true).size := by simp; omega
          simp [show j < listed.size from by omega]
        · rw [getD_set_ne true (Ne.symm hji)]; have : (j == i) = false := by simpa using hji
          rw [this, Bool.or_false]
      have heq : putTo ops a0 vs (fun j => (listed.setIfInBounds i true).getD j true) ops.size = (putTo ops a0 vs (fun j => listed.getD j true) ops.size).put o.dst (vs i) := by
        rw [putTo_on (L := fun j => listed.getD j true) hin hun hL' (fun j h1 h2 h3 => hdst i j h1 h2 hun h3)]
        simp [dstOf, ho]
      rw [← heq]
      refine ih _ w' (by simpa using hsz) ?_ ?_ hS'
      · have := cnt_on (L := fun j => listed.getD j true) (L' := fun j => (listed.setIfInBounds i true).getD j true) hun hL' hin
        omega
      · intro j oj hoj hlj e he hb
        rw [hL'] at hlj ⊢
        simp only [Bool.or_eq_true, beq_iff_eq] at hlj ⊢
        rcases hlj with hlj | rfl
        · exact .inl (hcl j oj hoj hlj e he hb)
        · rw [ho] at hoj; cases hoj
          exact .inl (hsame _ (hdeps e he hb))

/-- **A region that draws its order may be walked in the order of its text**, if every operation yields its value, and keeps S, in every world that meets S. -/
theorem wp_region_seq {id : Nat} {l : List Oper} {a : Act} {w : World} (hm : P.follows .mixedOrders = true) (hsel : Region.noSelect l.toArray = true) (hp : pairB .any l.toArray = true)
    (hS : S { w with drawn := w.drawn + 1 }) (h : wpSeq P l.toArray Q S l a) : (Code.region id l.toArray true).wp P Q a w := by
  refine wp_region_any hm ?_
  obtain ⟨vs, _, h2, h3⟩ := wpSeq_values (P := P) (ops := l.toArray) (Q := Q) (S := S) l 0 a (fun _ => undef) (fun j => by simp) (by simpa [putTo] using h)
  have key := wpAny_of_seq (P := P) (Q := Q) (S := S) (md := .any) hsel hp a vs (fun j o ho => h2 j o (Nat.zero_le _) ho) (by simpa using h3) l.toArray.size (Array.replicate l.toArray.size false) { w with drawn := w.drawn + 1 } (by simp)
    (Nat.le_trans (List.countP_le_length) (by simp)) (fun j oj hoj hl => by
      have := (Array.getElem?_eq_some_iff.1 hoj).1
      simp only [List.size_toArray] at this
      simp [this] at hl) hS
  rw [putTo_congr (L' := fun _ => false) fun j hj => by simp only [List.size_toArray] at hj; simp [hj]] at key
  have h0 : ∀ k, putTo l.toArray a vs (fun _ => false) k = a := by
    intro k; induction k with
    | zero => rfl
    | succ k ih => simp [putTo, ih]
  rw [h0] at key
  exact key

/-! ### the moves of a walk -/
theorem wpSeq_nil {a : Act} (h : ∀ w, S w → Q .normal a w) : wpSeq P ops Q S [] a := h
theorem wpSeq_skip {o : Oper} {rest : List Oper} {a : Act} (hw : Region.wanted o (yielded ops a.tmps) = false) (h : wpSeq P ops Q S rest (a.put o.dst undef)) : wpSeq P ops Q S (o :: rest) a :=
  ⟨undef, .inr ⟨hw, rfl⟩, h⟩
theorem wpSeq_val {o : Oper} {rest : List Oper} {a : Act} {v : Value} (hw : Region.wanted o (yielded ops a.tmps) = true) (hr : ∀ w, S w → (execOp a.eval o).run P w = .ok (.value v) w)
    (h : wpSeq P ops Q S rest (a.put o.dst v)) : wpSeq P ops Q S (o :: rest) a :=
  ⟨v, .inl ⟨hw, fun w hS => by rw [hr w hS]; exact ⟨rfl, hS⟩⟩, h⟩
theorem wpSeq_call {o : Oper} {rest : List Oper} {a : Act} {v : Value} {f : FuncId} {args : Array Value} (hw : Region.wanted o (yielded ops a.tmps) = true) (hr : ∀ w, S w → (execOp a.eval o).run P w = .ok (.enter f args) w)
    (hc : ∀ w, S w → Calls P f args w (fun e w' => e = .returned v ∧ S w'))
    (h : wpSeq P ops Q S rest (a.put o.dst v)) : wpSeq P ops Q S (o :: rest) a :=
  ⟨v, .inl ⟨hw, fun w hS => by rw [hr w hS]; exact hc w hS⟩, h⟩
end
end Go.Proofs.Ytlmlfbjcpajinaa
