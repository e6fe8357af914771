/- Regions that draw their order, in general. No program in sight. -/
import Derived.Test.YtlmlfbjcpajinaaVs
namespace Go.Proofs.Ytlmlfbjcpajinaa
open Go.RowKit Go.Deep
set_option linter.unusedSimpArgs false
set_option linter.unusedVariables false
section
variable {C : Cx} {ops : Array Oper} {TT : List (Nat × Ty)} {cr B : List Nat}
/-- what is said of the tail of the order: what i looks at is as in the order of the text -/
theorem agreeT {md : Region.Mode} {s0 : PS} {ds : Nat → D} (hp : pairV md ops = true) {L : Nat → Bool} {i nA : Nat} {o : Oper} (hn : nA ≤ ops.size) (hi : i < nA) (ho : ops[i]? = some o) (hun : L i = false)
    (hdeps : ∀ e ∈ o.after, Region.binds md e = true → L e.on = true) (hcl : ∀ j oj, ops[j]? = some oj → L j = true → ∀ e ∈ oj.after, Region.binds md e = true → L e.on = true) :
    ∀ x ∈ o.looksAt ops, (putS ops s0 ds L nA).t x = (putS ops s0 ds (fun _ => true) i).t x := by
  have hnot : ∀ j, L j = false → ∀ e ∈ o.after, Region.binds md e = true → e.on ≠ j := fun j hj e he hb heq => by
    have := hdeps e he hb; rw [heq] at this; rw [this] at hj; cases hj
  have hnot2 : ∀ m j oj, L m = false → ops[j]? = some oj → L j = true → ∀ e ∈ oj.after, Region.binds md e = true → e.on ≠ m := fun m j oj hm hoj hj e he hb heq => by
    have := hcl j oj hoj hj e he hb; rw [heq] at this; rw [this] at hm; cases hm
  have hget : ∀ j, j < ops.size → ∃ oj, ops[j]? = some oj := fun j hj => ⟨ops[j], Array.getElem?_eq_getElem hj⟩
  have hdst : ∀ m j, m < j → j < ops.size → L m = false → L j = true → ∀ d, odst ops m = some d → odst ops j ≠ some d := fun m j hmj hj hm hlj d hd => by
    obtain ⟨om, hom⟩ := hget m (by omega)
    obtain ⟨oj, hoj⟩ := hget j hj
    have hap := Oper.apart_spec (pairV_spec hp hmj hom hoj (hnot2 m j oj hm hoj hlj))
    simp only [odst, hom, hoj, Option.bind_some] at hd ⊢
    exact hap.2.1 d hd
  let X : Nat → Nat → Bool := fun m j => L j || decide (j < m)
  have stepA : ∀ m, m ≤ i → ∀ x ∈ o.looksAt ops, (putS ops s0 ds (X m) i).t x = (putS ops s0 ds L i).t x := by
    intro m
    induction m with
    | zero => intro _ x _; rw [putS_congr (L := X 0) (L' := L) fun j hj => by simp [X]]
    | succ m ihm =>
      intro hm x hx
      have ih1 := ihm (by omega) x hx
      cases hl : L m with
      | true =>
        rw [putS_congr (L := X (m + 1)) (L' := X m) fun j hj => by
          by_cases hjm : j = m
          · subst hjm; simp only [X, hl, Bool.true_or]
          · simp only [X]; congr 1; simp; omega]
        exact ih1
      | false =>
        obtain ⟨om, hom⟩ := hget m (by omega)
        have hap := Oper.apart_spec (pairV_spec hp (show m < i by omega) hom ho (hnot m hl))
        have hon := putS_on (ops := ops) (s := s0) (ds := ds) (L := X m) (L' := X (m + 1)) (i := m) (k := i) (by omega) (by simp only [X, hl]; simp) (fun j => by
            simp only [X]
            by_cases hjm : j = m
            · subst hjm; simp
            · have : (j == m) = false := by simpa using hjm
              rw [this, Bool.or_false]; congr 1; simp; omega) (fun j h1 h2 h3 => by
          have h3' : L j = true := by
            simp only [X, Bool.or_eq_true, decide_eq_true_eq] at h3
            rcases h3 with h3 | h3
            · exact h3
            · omega
          exact hdst m j h1 (by omega) hl h3') x
        rw [hon, PS.t_put, if_neg (fun hd => hap.1 x (by simpa [odst, hom] using hd) hx)]
        exact ih1
  have stepB : ∀ k, i ≤ k → k ≤ ops.size → ∀ x ∈ o.looksAt ops, (putS ops s0 ds L k).t x = (putS ops s0 ds L i).t x := by
    intro k
    induction k with
    | zero => intro h _ x _; have : i = 0 := by omega
              subst this; rfl
    | succ k ihk =>
      intro h1 h2 x hx
      rcases Nat.lt_or_ge k i with hki | hki
      · have : i = k + 1 := by omega
        subst this; rfl
      · have ih1 := ihk hki (by omega) x hx
        simp only [putS]
        by_cases hl : L k = true
        case neg => rw [if_neg hl]; exact ih1
        case pos =>
          rw [if_pos hl]
          have hne : i < k := by
            rcases Nat.lt_or_ge i k with h | h
            · exact h
            · have : i = k := by omega
              subst this; rw [hun] at hl; cases hl
          obtain ⟨ok, hok⟩ := hget k (by omega)
          have hap := Oper.apart_spec (pairV_spec hp hne ho hok (hnot2 i k ok hun hok hl))
          rw [PS.t_put, if_neg (fun hd => hap.2.2 x (by simpa [odst, hok] using hd) hx)]
          exact ih1
  intro x hx
  rw [stepB nA (by omega) hn x hx, ← stepA i (Nat.le_refl _) x hx, putS_congr (L := X i) (L' := fun _ => true) fun j hj => by simp [X, hj]]

structure AgreeN (ops : Array Oper) (cr B : List Nat) (j : Nat) (o : Oper) (s s1 : PS) : Prop where
  r : ∀ r, hid ops cr B j r = false → s1.r r = s.r r
  b : ∀ r, hid ops cr B j r = false → s1.b r = s.b r
  t : ∀ x ∈ o.looksAt ops, s1.t x = s.t x
  fr : cr.contains j = true → Fresh s1 (nm ops j) (nm ops j)
structure QE (C : Cx) (ops : Array Oper) (cr B : List Nat) (j : Nat) (o : Oper) (s : PS) (e : Ef) : Prop where
  out : ∀ s1 M a w, AgreeN ops cr B j o s s1 → Rel C.w0 C.O0 C.n M s1 a w →
    (Region.wanted o (yielded ops a.tmps) = true ∧ Step C o s1 (fun s' => s' = s1.ap o.dst e)) ∨
    (Region.wanted o (yielded ops a.tmps) = false ∧ e = ⟨.tup [], [], []⟩ ∧ dstOk C.n o.dst = true)
/-- The chain in the order of the text. -/
def QN (C : Cx) (ops : Array Oper) (cr B : List Nat) (K : PS → Prop) : Nat → List Oper → PS → Prop
  | _, [], s => K s
  | j, o :: rest, s => ∃ e, QE C ops cr B j o s e ∧ chkE ops cr B j e = true ∧ QN C ops cr B K (j + 1) rest (s.ap o.dst e)

variable {es : Nat → Ef} {nA : Nat}
/-- facts of the effects that were checked -/
structure Chk (ops : Array Oper) (cr B : List Nat) (es : Nat → Ef) (nA : Nat) : Prop where
  ok : ∀ j, j < nA → chkE ops cr B j (es j) = true
theorem Chk.row (h : Chk ops cr B es nA) {j r : Nat} (hj : j < nA) (hl : look (es j).rows r ≠ none) : cr.contains j = true ∧ nm ops j r = true := by
  have := h.ok j hj
  simp only [chkE, Bool.and_eq_true, List.all_eq_true] at this
  cases hx : look (es j).rows r with
  | none => exact absurd hx hl
  | some y => exact this.1.1 _ (look_mem hx)
theorem Chk.box (h : Chk ops cr B es nA) {j r : Nat} (hj : j < nA) (hl : look (es j).boxes r ≠ none) : cr.contains j = true ∧ nm ops j r = true := by
  have := h.ok j hj
  simp only [chkE, Bool.and_eq_true, List.all_eq_true] at this
  cases hx : look (es j).boxes r with
  | none => exact absurd hx hl
  | some y => exact (this.1.2 _ (look_mem hx)).1
theorem Chk.cells (h : Chk ops cr B es nA) {j r : Nat} {cs : List D} (hj : j < nA) (hl : look (es j).boxes r = some (some cs)) : ∀ d ∈ cs, mentS (hid ops cr B j) (hid ops cr B j) d = false := by
  have := h.ok j hj
  simp only [chkE, Bool.and_eq_true, List.all_eq_true] at this
  have h2 : (cs.all fun d => !mentS (hid ops cr B j) (hid ops cr B j) d) = true := (this.1.2 _ (look_mem hl)).2
  simp only [List.all_eq_true] at h2
  intro d hd
  simpa using h2 d hd
theorem Chk.d (h : Chk ops cr B es nA) {j : Nat} (hj : j < nA) : ment (hid ops cr B j) (hid ops cr B j) (es j).d = false := by
  have := h.ok j hj
  simp only [chkE, Bool.and_eq_true, List.all_eq_true] at this
  simpa using this.2
theorem nm_one (hd : disB ops cr = true) {c c' r : Nat} (hc : cr.contains c = true) (hc' : cr.contains c' = true) (h : nm ops c r = true) (h' : nm ops c' r = true) : c = c' := by
  simp only [disB, List.all_eq_true, Bool.or_eq_true, decide_eq_true_eq] at hd
  rcases hd c (by simpa using hc) c' (by simpa using hc') with h1 | h1
  · exact Nat.eq_of_beq_eq_true h1
  · exfalso
    unfold nm at h h'
    cases hg : gdst ops c with
    | none => rw [hg] at h; cases h
    | some t =>
      cases hg' : gdst ops c' with
      | none => rw [hg'] at h'; cases h'
      | some t' =>
        rw [hg] at h; rw [hg'] at h'
        have e1 := Nat.eq_of_beq_eq_true h
        have e2 := Nat.eq_of_beq_eq_true h'
        exact h1 (by rw [hg, hg', e1, e2])

/-- what the operation i looks at, in any order that its edges let it come at -/
theorem agreeN {md : Region.Mode} {s0 : PS} (hp : pairV md ops = true) (hb : bitsB md ops B = true) (hd : disB ops cr = true) (hk : Chk ops cr B es nA) (hf : ∀ c, cr.contains c = true → Fresh s0 (nm ops c) (nm ops c)) {L : Nat → Bool} {i : Nat} {o : Oper} (hn : nA ≤ ops.size) (hi : i < nA) (ho : ops[i]? = some o) (hun : L i = false)
    (hdeps : ∀ e ∈ o.after, Region.binds md e = true → L e.on = true) (hcl : ∀ j oj, ops[j]? = some oj → L j = true → ∀ e ∈ oj.after, Region.binds md e = true → L e.on = true) :
    AgreeN ops cr B i o (putE ops s0 es (fun _ => true) i) (putE ops s0 es L nA) := by
  have hget : ∀ j, j < ops.size → ∃ oj, ops[j]? = some oj := fun j hj => ⟨ops[j], Array.getElem?_eq_getElem hj⟩
  have key : ∀ {α : Type} {f : PS → Nat → Option α} {g : Ef → List (Nat × Option α)} (hap : ∀ s o e r, f (PS.ap s o e) r = orE (look (g e) r) (f s r))
      (hg : ∀ j r, j < nA → look (g (es j)) r ≠ none → cr.contains j = true ∧ nm ops j r = true) (r : Nat), hid ops cr B i r = false → f (putE ops s0 es L nA) r = f (putE ops s0 es (fun _ => true) i) r := by
    intro α f g hap hg r hh
    by_cases hc : ∃ c, c < nA ∧ look (g (es c)) r ≠ none
    · obtain ⟨c, hc1, hc2⟩ := hc
      obtain ⟨hcr, hnm⟩ := hg c r hc1 hc2
      have huniq : ∀ c', c' < nA → look (g (es c')) r ≠ none → c' = c := fun c' h1 h2 => nm_one hd (hg c' r h1 h2).1 hcr (hg c' r h1 h2).2 hnm
      by_cases hci : c = i
      · subst hci
        rw [putE_out hap fun c' h1 h2 => ?_, putE_out hap fun c' h1 h2 => ?_]
        · cases h : look (g (es c')) r with
          | none => rfl
          | some z => exact absurd (huniq c' (by omega) (by rw [h]; simp)) (by omega)
        · cases h : look (g (es c')) r with
          | none => rfl
          | some z =>
            have := huniq c' h1 (by rw [h]; simp)
            rw [this, hun] at h2; cases h2
      · have hbit : Nat.testBit (B.getD i 0) c = true := by
          simp only [hid, List.any_eq_false] at hh
          have := hh c (by simpa using hcr)
          simp only [hnm, Bool.and_true, Bool.and_eq_true, Bool.not_eq_true', not_and] at this
          have h1 : Nat.beq c i = false := by
            cases hx : Nat.beq c i with
            | false => rfl
            | true => exact absurd (Nat.eq_of_beq_eq_true hx) hci
          have h2 := this h1
          simpa using h2
        have hcs : c < ops.size := by omega
        have hL := bits_in hp hb hcl i o ho hdeps c hcs hbit
        have hlt := bits_lt hp hb ho hcs hbit
        obtain ⟨y, hy⟩ : ∃ y, look (g (es c)) r = some y := by
          cases h : look (g (es c)) r with
          | none => exact absurd h hc2
          | some y => exact ⟨y, rfl⟩
        rw [putE_in hap hy hL hc1 fun c' h1 h2 => huniq c' h1 h2, putE_in hap hy rfl hlt fun c' h1 h2 => huniq c' (by omega) h2]
    · have hall : ∀ c, c < nA → look (g (es c)) r = none := fun c h1 => by
        cases h : look (g (es c)) r with
        | none => rfl
        | some z => exact absurd ⟨c, h1, by rw [h]; simp⟩ hc
      rw [putE_out hap fun c h1 _ => hall c h1, putE_out hap fun c h1 _ => hall c (by omega)]
  have hlow : cr.contains i = true → ∀ c, c < nA → L c = true → ∀ r, nm ops i r = true → hid ops cr B c r = true := fun hi' c hc hl r hr => by
    simp only [hid, List.any_eq_true]
    refine ⟨i, by simpa using hi', ?_⟩
    have h1 : Nat.beq i c = false := by
      cases hx : Nat.beq i c with
      | false => rfl
      | true => have := Nat.eq_of_beq_eq_true hx; subst this; rw [hun] at hl; cases hl
    have h2 : Nat.testBit (B.getD c 0) i = false := by
      cases hx : Nat.testBit (B.getD c 0) i with
      | false => rfl
      | true =>
        obtain ⟨oc, hoc⟩ := hget c (by omega)
        have := bits_in hp hb hcl c oc hoc (hcl c oc hoc hl) i (by omega) hx
        rw [hun] at this; cases this
    rw [h1, h2, hr]; rfl
  refine ⟨key (f := PS.r) (g := Ef.rows) PS.r_ap (fun j r hj hl => hk.row hj hl), key (f := PS.b) (g := Ef.boxes) PS.b_ap (fun j r hj hl => hk.box hj hl), fun x hx => ?_, fun hi' => ⟨fun x => ?_, fun x cs hx d hd' => ?_⟩⟩
  · rw [putE_t, putE_t]; exact agreeT hp hn hi ho hun hdeps hcl x hx
  · rcases putE_tfrom (ops := ops) (s := s0) (es := es) (L := L) (x := x) (k := nA) with h | ⟨c, h1, h2, h3⟩
    · rw [h]; exact (hf i hi').t x
    · rw [h3]; exact ment_le (hlow hi' c h1 h2) (hlow hi' c h1 h2) _ (hk.d h1)
  · rcases putE_from (f := PS.b) (g := Ef.boxes) (ops := ops) (s := s0) (es := es) PS.b_ap (L := L) (r := x) (k := nA) with h | ⟨c, h1, h2, h3⟩
    · exact (hf i hi').b x cs (by rw [← h]; exact hx) d hd'
    · rw [hx] at h3
      exact mentS_le (hlow hi' c h1 h2) (hlow hi' c h1 h2) _ (hk.cells h1 h3 d hd')
end
end Go.Proofs.Ytlmlfbjcpajinaa
