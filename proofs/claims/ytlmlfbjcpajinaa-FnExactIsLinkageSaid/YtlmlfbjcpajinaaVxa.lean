/- Regions that draw their order, in general: the run. No program in sight. -/
import Derived.Test.YtlmlfbjcpajinaaVx
namespace Go.Proofs.Ytlmlfbjcpajinaa
open Go.RowKit Go.Deep
set_option linter.unusedSimpArgs false
set_option linter.unusedVariables false
section
variable {C : Cx} {ops : Array Oper} {TT : List (Nat × Ty)} {cr B : List Nat} {es : Nat → Ef} {nA : Nat} {Qe : Exit → Act → World → Prop} {md : Region.Mode}

theorem wpAny_of_list (hp : pairV md ops = true) (hb : bitsB md ops B = true) (ht : tailB ops B nA = true) : ∀ (l : List Oper) (m : Nat), nA ≤ m → (∀ j : Nat, l[j]? = ops[m + j]?) → ∀ (fuel : Nat) (listed : Array Bool) (a : Act) (w : World),
    listed.size = ops.size → (∀ j, j < ops.size → listed.getD j true = decide (j < m)) → (List.range ops.size).countP (fun j => !listed.getD j true) ≤ fuel → wpList C.P ops Qe l a w → wpAny C.P md ops Qe fuel listed a w := by
  intro l
  induction l with
  | nil =>
    intro m hm hl fuel listed a w hsz hli hcnt h
    have hms : ops.size ≤ m := by
      have := hl 0
      simp at this
      exact this
    have hr : Region.ready md ops listed = [] := by
      apply List.eq_nil_iff_forall_not_mem.2
      intro i hi
      obtain ⟨h0, _⟩ := mem_ready.1 hi
      have hlt := listedV_out hsz h0
      have := hli i hlt
      rw [h0] at this
      simp at this
      omega
    cases fuel with
    | zero => exact ⟨hr, h⟩
    | succ f => exact ⟨fun _ => h, fun i hi => by rw [hr] at hi; cases hi⟩
  | cons o rest ih =>
    intro m hm hl fuel listed a w hsz hli hcnt h
    have ho : ops[m]? = some o := by simpa using (hl 0).symm
    have hms : m < ops.size := (Array.getElem?_eq_some_iff.1 ho).1
    have hum : listed.getD m true = false := by rw [hli m hms]; simp
    cases fuel with
    | zero =>
      have := List.countP_eq_zero.1 (Nat.le_zero.1 hcnt) m (by simpa using hms)
      rw [hum] at this; simp at this
    | succ f =>
      have hcl : ∀ j oj, ops[j]? = some oj → listed.getD j true = true → ∀ e ∈ oj.after, Region.binds md e = true → listed.getD e.on true = true := fun j oj hoj hlj e he hbd => by
        have hj := (Array.getElem?_eq_some_iff.1 hoj).1
        have hlt := pairV_edge hp hoj he hbd
        rw [hli j hj] at hlj
        rw [hli e.on (by omega)]
        simp at hlj ⊢; omega
      have hmem : m ∈ Region.ready md ops listed := by
        refine mem_ready.2 ⟨hum, o, ho, fun e he hbd => ?_⟩
        have hlt := pairV_edge hp ho he hbd
        have h1 := hli e.on (by omega)
        have hin : e.on < listed.size := by omega
        simp [hin] at h1 ⊢
        rw [h1]; simpa using hlt
      refine ⟨fun hr => absurd hmem (by rw [hr]; simp), fun i hi => ?_⟩
      obtain ⟨hun, oi, hoi, hdeps⟩ := mem_ready.1 hi
      have his := listedV_out hsz hun
      have hge : m ≤ i := by
        have := hli i his
        rw [hun] at this
        simp at this; exact this
      have him : i = m := by
        rcases Nat.lt_or_ge m i with hlt | hge'
        · exfalso
          simp only [tailB, List.all_eq_true, List.mem_range, Bool.or_eq_true] at ht
          have hbit : Nat.testBit (B.getD i 0) m = true := by
            rcases ht i his with h1 | h1
            · rw [Nat.blt_eq] at h1; omega
            · exact h1 m hlt
          have := bits_in (L := fun j => listed.getD j true) hp hb hcl i oi hoi (fun e he hbd => by
            have h1 := hdeps e he hbd
            rcases Nat.lt_or_ge e.on listed.size with h' | h'
            · simp [h'] at h1 ⊢; exact h1
            · simp [Array.getElem?_eq_none h'] at h1) m hms hbit
          rw [hum] at this; cases this
        · omega
      subst him
      have hset : ∀ j, j < ops.size → (listed.setIfInBounds i true).getD j true = decide (j < i + 1) := fun j hj => by
        by_cases hji : j = i
        · subst hji
          have : j < (listed.setIfInBounds j true).size := by simp; omega
          simp [show j < listed.size from by omega]
        · rw [getD_set_ne true (Ne.symm hji), hli j hj]
          simp; omega
      have hcnt' : (List.range ops.size).countP (fun j => !(listed.setIfInBounds i true).getD j true) ≤ f := by
        have := cntV_on (L := fun j => listed.getD j true) (L' := fun j => (listed.setIfInBounds i true).getD j true) hum (fun j => by
          by_cases hji : j = i
          · subst hji
            have : j < (listed.setIfInBounds j true).size := by simp; omega
            simp [show j < listed.size from by omega]
          · show _ = (listed.getD j true || j == i)
            rw [getD_set_ne true (Ne.symm hji)]; have : (j == i) = false := by simpa using hji
            rw [this, Bool.or_false]) hms
        omega
      have hih : ∀ a' w', wpList C.P ops Qe rest a' w' → wpAny C.P md ops Qe f (listed.setIfInBounds i true) a' w' := fun a' w' h' =>
        ih (i + 1) (by omega) (fun j => by have := hl (j + 1); simpa [Nat.add_assoc, Nat.add_comm 1 j] using this) f _ a' w' (by simpa using hsz) hset hcnt' h'
      unfold wpOp
      rw [ho] at hoi; cases hoi
      simp only [ho]
      unfold wpList at h
      by_cases hw : Region.wanted o (yielded ops a.tmps) = true
      · rw [if_pos hw] at h ⊢
        rcases h with h | h
        · exact .inl (Oper.wp_mono hih h)
        · exact .inr h
      · rw [if_neg hw] at h ⊢
        exact hih _ _ h

theorem wpAny_part (hp : pairV md ops = true) (hb : bitsB md ops B = true) (hd : disB ops cr = true) (ht : tailB ops B nA = true) (hn : nA ≤ ops.size) (s0 : PS) (hk : Chk ops cr B es nA) (hf : ∀ c, cr.contains c = true → Fresh s0 (nm ops c) (nm ops c))
    (hy : ∀ j o, j < nA → ops[j]? = some o → QE C ops cr B j o (putE ops s0 es (fun _ => true) j) (es j))
    (hq : ∀ (fuel : Nat) (listed : Array Bool) (M : Mp) (a : Act) (w : World), listed.size = ops.size → (∀ j, j < ops.size → listed.getD j true = decide (j < nA)) → (List.range ops.size).countP (fun j => !listed.getD j true) ≤ fuel →
      Rel C.w0 C.O0 C.n M (putE ops s0 es (fun _ => true) nA) a w → wpAny C.P md ops Qe fuel listed a w) :
    ∀ (fuel : Nat) (listed : Array Bool) (M : Mp) (a : Act) (w : World), listed.size = ops.size → (∀ j, nA ≤ j → j < ops.size → listed.getD j true = false) → (List.range ops.size).countP (fun j => !listed.getD j true) ≤ fuel →
      (∀ j oj, ops[j]? = some oj → listed.getD j true = true → ∀ e ∈ oj.after, Region.binds md e = true → listed.getD e.on true = true) → Rel C.w0 C.O0 C.n M (putE ops s0 es (fun j => listed.getD j true) nA) a w → wpAny C.P md ops Qe fuel listed a w := by
  have done : ∀ (fuel : Nat) (listed : Array Bool) M a w, listed.size = ops.size → (∀ j, nA ≤ j → j < ops.size → listed.getD j true = false) → (List.range ops.size).countP (fun j => !listed.getD j true) ≤ fuel → (∀ j, j < nA → listed.getD j true = true) →
      Rel C.w0 C.O0 C.n M (putE ops s0 es (fun j => listed.getD j true) nA) a w → wpAny C.P md ops Qe fuel listed a w := fun fuel listed M a w hsz hB hcnt hall hS => by
    rw [putE_congr (L' := fun _ => true) fun j hj => hall j hj] at hS
    refine hq fuel listed M a w hsz (fun j hj => ?_) hcnt hS
    rcases Nat.lt_or_ge j nA with h | h
    · rw [hall j h]; simp [h]
    · rw [hB j h hj]; simp; omega
  intro fuel
  induction fuel with
  | zero =>
    intro listed M a w hsz hB hcnt hcl hS
    refine done 0 listed M a w hsz hB hcnt (fun j hj => ?_) hS
    have := List.countP_eq_zero.1 (Nat.le_zero.1 hcnt) j (by simp; omega)
    simpa using this
  | succ fuel ih =>
    intro listed M a w hsz hB hcnt hcl hS
    by_cases hall : ∀ j, j < nA → listed.getD j true = true
    · exact done _ listed M a w hsz hB hcnt hall hS
    have hex : ∃ j, j < nA ∧ listed.getD j true = false := by
      refine Classical.byContradiction fun hno => hall fun j hj => ?_
      cases h : listed.getD j true with
      | true => rfl
      | false => exact absurd ⟨j, hj, h⟩ hno
    refine ⟨fun hr => ?_, fun i hi => ?_⟩
    · exfalso
      refine hall fun j hj => ?_
      induction j using Nat.strongRecOn with
      | _ j ihj =>
        cases hun : listed.getD j true with
        | true => rfl
        | false =>
          exfalso
          have hmem : j ∈ Region.ready md ops listed := by
            refine mem_ready.2 ⟨hun, ops[j], Array.getElem?_eq_getElem (by omega), fun e he hb' => ?_⟩
            have hlt := pairV_edge hp (Array.getElem?_eq_getElem (by omega)) he hb'
            have hl := ihj e.on hlt (by omega)
            have hin : e.on < listed.size := by omega
            simp [hin] at hl ⊢
            exact hl
          rw [hr] at hmem; cases hmem
    · obtain ⟨hun, o, ho, hdeps⟩ := mem_ready.1 hi
      have hin := listedV_out hsz hun
      have hsame : ∀ j, listed.getD j false = true → listed.getD j true = true := fun j h => by
        rcases Nat.lt_or_ge j listed.size with h' | h'
        · simp [h'] at h ⊢; exact h
        · simp [Array.getElem?_eq_none h'] at h
      have hiA : i < nA := by
        rcases Nat.lt_or_ge i nA with h | h
        · exact h
        · exfalso
          obtain ⟨j, hj, hju⟩ := hex
          simp only [tailB, List.all_eq_true, List.mem_range, Bool.or_eq_true] at ht
          have hbit : Nat.testBit (B.getD i 0) j = true := by
            rcases ht i hin with h1 | h1
            · rw [Nat.blt_eq] at h1; omega
            · exact h1 j (by omega)
          have := bits_in (L := fun j => listed.getD j true) hp hb hcl i o ho (fun e he hb' => hsame _ (hdeps e he hb')) j (by omega) hbit
          rw [hju] at this; cases this
      have hag := agreeN (s0 := s0) hp hb hd hk hf (L := fun j => listed.getD j true) hn hiA ho hun (fun e he hb' => hsame _ (hdeps e he hb')) hcl
      have hL' : ∀ j, (listed.setIfInBounds i true).getD j true = (listed.getD j true || j == i) := fun j => by
        by_cases hji : j = i
        · subst hji
          have : j < (listed.setIfInBounds j true).size := by simp; omega
          simp [show j < listed.size from by omega]
        · rw [getD_set_ne true (Ne.symm hji)]; have : (j == i) = false := by simpa using hji
          rw [this, Bool.or_false]
      have hget : ∀ j, j < ops.size → ∃ oj, ops[j]? = some oj := fun j hj => ⟨ops[j], Array.getElem?_eq_getElem hj⟩
      have hdst : ∀ j, i < j → j < nA → listed.getD j true = true → ∀ d, odst ops i = some d → odst ops j ≠ some d := fun j hmj hj hlj d hd' => by
        obtain ⟨oj, hoj⟩ := hget j (by omega)
        have hap := Oper.apart_spec (pairV_spec hp hmj ho hoj (fun e he hb' heq => by
          have := hcl j oj hoj hlj e he hb'; rw [heq, hun] at this; cases this))
        simp only [odst, ho, hoj, Option.bind_some] at hd' ⊢
        exact hap.2.1 d hd'
      have keyN : ∀ {α : Type} {f : PS → Nat → Option α} {g : Ef → List (Nat × Option α)} (hap : ∀ s o e r, f (PS.ap s o e) r = orE (look (g e) r) (f s r))
          (hg : ∀ j r, j < nA → look (g (es j)) r ≠ none → cr.contains j = true ∧ nm ops j r = true) (r : Nat), f (putE ops s0 es (fun j => (listed.setIfInBounds i true).getD j true) nA) r = f ((putE ops s0 es (fun j => listed.getD j true) nA).ap o.dst (es i)) r := by
        intro α f g hap hg r
        rw [hap]
        cases hx : look (g (es i)) r with
        | some y =>
          exact putE_in hap hx (by show (listed.setIfInBounds i true).getD i true = true; rw [hL']; simp) hiA fun c' h1 h2 => nm_one hd (hg c' r h1 h2).1 (hg i r hiA (by rw [hx]; simp)).1 (hg c' r h1 h2).2 (hg i r hiA (by rw [hx]; simp)).2
        | none =>
          show _ = f (putE ops s0 es (fun j => listed.getD j true) nA) r
          by_cases hc : ∃ c, c < nA ∧ listed.getD c true = true ∧ look (g (es c)) r ≠ none
          · obtain ⟨c, hc1, hc3, hc2⟩ := hc
            obtain ⟨y, hy'⟩ : ∃ y, look (g (es c)) r = some y := by
              cases h : look (g (es c)) r with
              | none => exact absurd h hc2
              | some y => exact ⟨y, rfl⟩
            have hu : ∀ c', c' < nA → look (g (es c')) r ≠ none → c' = c := fun c' h1 h2 => nm_one hd (hg c' r h1 h2).1 (hg c r hc1 hc2).1 (hg c' r h1 h2).2 (hg c r hc1 hc2).2
            rw [putE_in hap hy' (L := fun j => (listed.setIfInBounds i true).getD j true) (by show (listed.setIfInBounds i true).getD c true = true; rw [hL', hc3]; rfl) hc1 hu, putE_in hap hy' (L := fun j => listed.getD j true) hc3 hc1 hu]
          · have h0 : ∀ c, c < nA → listed.getD c true = true → look (g (es c)) r = none := fun c h1 h2 => by
              cases h : look (g (es c)) r with
              | none => rfl
              | some z => exact absurd ⟨c, h1, h2, by rw [h]; simp⟩ hc
            rw [putE_out hap (L := fun j => (listed.setIfInBounds i true).getD j true) (fun c h1 h2 => by
              have h2' : (listed.setIfInBounds i true).getD c true = true := h2
              rw [hL'] at h2'
              simp only [Bool.or_eq_true, beq_iff_eq] at h2'
              rcases h2' with h2' | rfl
              · exact h0 c h1 h2'
              · exact hx), putE_out hap (L := fun j => listed.getD j true) h0]
      have hnext : ∀ M' a' w', Rel C.w0 C.O0 C.n M' ((putE ops s0 es (fun j => listed.getD j true) nA).ap o.dst (es i)) a' w' → wpAny C.P md ops Qe fuel (listed.setIfInBounds i true) a' w' := fun M' a' w' hR => by
        refine ih _ M' a' w' (by simpa using hsz) (fun j h1 h2 => ?_) ?_ ?_ ?_
        · rw [hL', hB j h1 h2]; simp; omega
        · have := cntV_on (L := fun j => listed.getD j true) (L' := fun j => (listed.setIfInBounds i true).getD j true) hun hL' hin
          omega
        · intro j oj hoj hlj e he hb'
          rw [hL'] at hlj ⊢
          simp only [Bool.or_eq_true, beq_iff_eq] at hlj ⊢
          rcases hlj with hlj | rfl
          · exact .inl (hcl j oj hoj hlj e he hb')
          · rw [ho] at hoj; cases hoj
            exact .inl (hsame _ (hdeps e he hb'))
        · refine hR.same (fun x => ?_) (keyN (f := PS.r) (g := Ef.rows) PS.r_ap (fun j r hj hl => hk.row hj hl)) (keyN (f := PS.b) (g := Ef.boxes) PS.b_ap (fun j r hj hl => hk.box hj hl))
          rw [putE_t, PS.t_ap, putS_on (ops := ops) (s := s0) (ds := fun j => (es j).d) (L := fun j => listed.getD j true) hiA hun hL' (fun j h1 h2 h3 => hdst j h1 h2 h3) x, PS.t_put, PS.t_put, putE_t]
          simp [odst, ho]
      unfold wpOp
      simp only [ho]
      rcases (hy i o hiA ho).out _ M a w hag hS with ⟨h1, h2⟩ | ⟨h1, h2, h3⟩
      · rw [if_pos h1]
        exact .inl (h2.out M a w Qe _ hS fun M' s' a' w' he hR => hnext M' a' w' (by rw [← he]; exact hR))
      · rw [if_neg (by rw [h1]; simp)]
        refine hnext M _ w ?_
        rw [h2]
        refine (hS.put h3 (.tup [] #[] rfl (by simp))).same (fun x => by rw [PS.t_ap]) (fun r => ?_) (fun r => ?_)
        · rw [PS.r_ap]; cases o.dst <;> rfl
        · rw [PS.b_ap]; cases o.dst <;> rfl
end
end Go.Proofs.Ytlmlfbjcpajinaa
