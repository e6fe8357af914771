/- Regions that draw their order: operations that make memory of their own among them, and a tail that waits for all. No program in sight. -/
import Derived.Test.YtlmlfbjcpajinaaVu
namespace Go.Proofs.Ytlmlfbjcpajinaa
open Go.RowKit Go.Deep
set_option linter.unusedSimpArgs false
set_option linter.unusedVariables false

structure Ef where
  d : D
  rows : List (Nat × Option (TypeId × Sq))
  boxes : List (Nat × Option (List D))
abbrev orE {β : Type} (x : Option β) (y : β) : β := match x with | some z => z | none => y
def PS.ap (s : PS) (o : Option Nat) (e : Ef) : PS := ⟨match o with | some t => (t, e.d) :: s.tmp | none => s.tmp, e.rows ++ s.row, e.boxes ++ s.box⟩
theorem PS.t_ap (s : PS) (o : Option Nat) (e : Ef) (x : Nat) : (s.ap o e).t x = (s.put o e.d).t x := by cases o <;> rfl
theorem PS.r_ap (s : PS) (o : Option Nat) (e : Ef) (r : Nat) : (s.ap o e).r r = orE (look e.rows r) (s.r r) := by
  simp only [PS.r, PS.ap, look_append]
  cases look e.rows r <;> rfl
theorem PS.b_ap (s : PS) (o : Option Nat) (e : Ef) (r : Nat) : (s.ap o e).b r = orE (look e.boxes r) (s.b r) := by
  simp only [PS.b, PS.ap, look_append]
  cases look e.boxes r <;> rfl
def putE (ops : Array Oper) (s : PS) (es : Nat → Ef) (L : Nat → Bool) : Nat → PS
  | 0 => s
  | k + 1 => if L k then (putE ops s es L k).ap (odst ops k) (es k) else putE ops s es L k
section
variable {ops : Array Oper} {s : PS} {es : Nat → Ef}
theorem putE_t (L : Nat → Bool) : ∀ (k x : Nat), (putE ops s es L k).t x = (putS ops s (fun j => (es j).d) L k).t x
  | 0, _ => rfl
  | k + 1, x => by
    simp only [putE, putS]
    split
    · rw [PS.t_ap, PS.t_put, PS.t_put, putE_t L k x]
    · exact putE_t L k x
theorem putE_congr {L L' : Nat → Bool} : ∀ {k : Nat}, (∀ j, j < k → L j = L' j) → putE ops s es L k = putE ops s es L' k
  | 0, _ => rfl
  | k + 1, h => by
    simp only [putE]
    rw [h k (Nat.lt_succ_self k), putE_congr (k := k) fun j hj => h j (Nat.lt_succ_of_lt hj)]
section
variable {α : Type} {f : PS → Nat → Option α} {g : Ef → List (Nat × Option α)} (hap : ∀ s o e r, f (PS.ap s o e) r = orE (look (g e) r) (f s r))
include hap
theorem putE_out {L : Nat → Bool} {r : Nat} : ∀ {k : Nat}, (∀ c, c < k → L c = true → look (g (es c)) r = none) → f (putE ops s es L k) r = f s r
  | 0, _ => rfl
  | k + 1, h => by
    have ih := putE_out (L := L) (k := k) fun c hc => h c (by omega)
    simp only [putE]
    split
    · rename_i hl
      rw [hap, h k (by omega) hl]; exact ih
    · exact ih
theorem putE_in {L : Nat → Bool} {r c : Nat} {y : Option α} (hy : look (g (es c)) r = some y) (hl : L c = true) : ∀ {k : Nat}, c < k → (∀ c', c' < k → look (g (es c')) r ≠ none → c' = c) → f (putE ops s es L k) r = y
  | 0, h, _ => absurd h (Nat.not_lt_zero _)
  | k + 1, hck, hu => by
    simp only [putE]
    by_cases hc : c = k
    · subst hc
      rw [if_pos hl, hap, hy]
    · have ih := putE_in (L := L) hy hl (k := k) (by omega) fun c' h1 h2 => hu c' (by omega) h2
      split
      · have : look (g (es k)) r = none := by
          cases h : look (g (es k)) r with
          | none => rfl
          | some z => exact absurd (hu k (by omega) (by rw [h]; simp)) (by omega)
        rw [hap, this]; exact ih
      · exact ih
theorem putE_from {L : Nat → Bool} {r : Nat} : ∀ {k : Nat}, f (putE ops s es L k) r = f s r ∨ ∃ c, c < k ∧ L c = true ∧ look (g (es c)) r = some (f (putE ops s es L k) r)
  | 0 => .inl rfl
  | k + 1 => by
    simp only [putE]
    split
    · rename_i hl
      rw [hap]
      cases h : look (g (es k)) r with
      | some y => exact .inr ⟨k, by omega, hl, h⟩
      | none =>
        rcases putE_from (L := L) (r := r) (k := k) with h1 | ⟨c, h1, h2, h3⟩
        · exact .inl h1
        · exact .inr ⟨c, by omega, h2, h3⟩
    · rcases putE_from (L := L) (r := r) (k := k) with h1 | ⟨c, h1, h2, h3⟩
      · exact .inl h1
      · exact .inr ⟨c, by omega, h2, h3⟩
end
theorem putE_tfrom {L : Nat → Bool} {x : Nat} : ∀ {k : Nat}, (putE ops s es L k).t x = s.t x ∨ ∃ c, c < k ∧ L c = true ∧ (putE ops s es L k).t x = (es c).d
  | 0 => .inl rfl
  | k + 1 => by
    simp only [putE]
    split
    · rename_i hl
      rw [PS.t_ap, PS.t_put]
      split
      · exact .inr ⟨k, by omega, hl, rfl⟩
      · rcases putE_tfrom (L := L) (x := x) (k := k) with h1 | ⟨c, h1, h2, h3⟩
        · exact .inl h1
        · exact .inr ⟨c, by omega, h2, h3⟩
    · rcases putE_tfrom (L := L) (x := x) (k := k) with h1 | ⟨c, h1, h2, h3⟩
      · exact .inl h1
      · exact .inr ⟨c, by omega, h2, h3⟩
end

/-- the slot a name comes from -/
def nmT (r : Nat) : Nat := match Nat.ble 1000 r with | true => (r - 1000) / 10 | false => r
def nm (ops : Array Oper) (c r : Nat) : Bool := match gdst ops c with | some t => Nat.beq t (nmT r) | none => false
/-- names of what an operation need not know -/
def hid (ops : Array Oper) (cr B : List Nat) (j r : Nat) : Bool := cr.any fun c => !Nat.beq c j && !Nat.testBit (B.getD j 0) c && nm ops c r
def bitsB (md : Region.Mode) (ops : Array Oper) (B : List Nat) : Bool :=
  (List.range ops.size).all fun j => (List.range ops.size).all fun c => !Nat.testBit (B.getD j 0) c || (match ops[j]? with | some o => o.after.any fun e => Region.binds md e && (Nat.beq e.on c || Nat.testBit (B.getD e.on 0) c) | none => false)
def tailB (ops : Array Oper) (B : List Nat) (nA : Nat) : Bool := (List.range ops.size).all fun j => Nat.blt j nA || (List.range j).all fun c => Nat.testBit (B.getD j 0) c
def disB (ops : Array Oper) (cr : List Nat) : Bool := cr.all fun c => cr.all fun c' => Nat.beq c c' || decide (gdst ops c ≠ gdst ops c')
def chkE (ops : Array Oper) (cr B : List Nat) (j : Nat) (e : Ef) : Bool :=
  e.rows.all (fun p => cr.contains j && nm ops j p.1) && e.boxes.all (fun p => (cr.contains j && nm ops j p.1) && (match p.2 with | some cs => cs.all (fun d => !mentS (hid ops cr B j) (hid ops cr B j) d) | none => true)) && !ment (hid ops cr B j) (hid ops cr B j) e.d
theorem bits_in {md : Region.Mode} {ops : Array Oper} {B : List Nat} (hp : pairV md ops = true) (hb : bitsB md ops B = true) {L : Nat → Bool} (hcl : ∀ j oj, ops[j]? = some oj → L j = true → ∀ e ∈ oj.after, Region.binds md e = true → L e.on = true) :
    ∀ (j : Nat) (oj : Oper), ops[j]? = some oj → (∀ e ∈ oj.after, Region.binds md e = true → L e.on = true) → ∀ c, c < ops.size → Nat.testBit (B.getD j 0) c = true → L c = true := by
  intro j
  induction j using Nat.strongRecOn with
  | _ j ih =>
    intro oj hj hL c hc ht
    simp only [bitsB, List.all_eq_true, List.mem_range] at hb
    have h1 := hb j (Array.getElem?_eq_some_iff.1 hj).1 c hc
    simp only [hj, ht, Bool.not_true, Bool.false_or] at h1
    obtain ⟨k, hk, h2⟩ := Array.any_eq_true.1 h1
    simp only [Bool.and_eq_true, Bool.or_eq_true] at h2
    have hm := Array.getElem_mem hk
    rcases h2.2 with h3 | h3
    · rw [← Nat.eq_of_beq_eq_true h3]; exact hL _ hm h2.1
    · have hlt := pairV_edge hp hj hm h2.1
      have hjs := (Array.getElem?_eq_some_iff.1 hj).1
      obtain ⟨o', ho'⟩ : ∃ o', ops[oj.after[k].on]? = some o' := ⟨ops[oj.after[k].on], Array.getElem?_eq_getElem (by omega)⟩
      exact ih _ hlt o' ho' (hcl _ o' ho' (hL _ hm h2.1)) c hc h3
theorem bits_lt {md : Region.Mode} {ops : Array Oper} {B : List Nat} (hp : pairV md ops = true) (hb : bitsB md ops B = true) {j c : Nat} {oj : Oper} (hj : ops[j]? = some oj) (hc : c < ops.size) (ht : Nat.testBit (B.getD j 0) c = true) : c < j := by
  have := bits_in (L := fun k => decide (k < j)) hp hb (fun k ok hk hl e he hbd => by
    have := pairV_edge hp hk he hbd
    simp at hl ⊢; omega) j oj hj (fun e he hbd => by simpa using pairV_edge hp hj he hbd) c hc ht
  simpa using this
theorem mentS_le {b r b' r' : Nat → Bool} (hb : ∀ x, b x = true → b' x = true) (hr : ∀ x, r x = true → r' x = true) (d : D) (h : mentS b' r' d = false) : mentS b r d = false := by
  cases d <;> simp only [mentS] at h ⊢ <;> first | rfl | exact h | (cases hx : r _ <;> first | rfl | (rw [hr _ hx] at h; cases h)) | (cases hx : b _ <;> first | rfl | (rw [hb _ hx] at h; cases h))
theorem mentA_le {b r b' r' : Nat → Bool} (hb : ∀ x, b x = true → b' x = true) (hr : ∀ x, r x = true → r' x = true) (d : D) (h : mentA b' r' d = false) : mentA b r d = false := by
  cases d with
  | agg l =>
    simp only [mentA, List.any_eq_false] at h ⊢
    intro x hx
    have := mentS_le hb hr x (by simpa using h x hx)
    simpa using this
  | _ => simp only [mentA] at h ⊢; exact mentS_le hb hr _ h
theorem ment_le {b r b' r' : Nat → Bool} (hb : ∀ x, b x = true → b' x = true) (hr : ∀ x, r x = true → r' x = true) (d : D) (h : ment b' r' d = false) : ment b r d = false := by
  cases d with
  | tup l =>
    simp only [ment, List.any_eq_false] at h ⊢
    intro x hx
    have := mentA_le hb hr x (by simpa using h x hx)
    simpa using this
  | _ => simp only [ment] at h ⊢; exact mentA_le hb hr _ h
theorem Rel.same {w0 : World} {O0 : Nat → Prop} {n : Nat} {M : Mp} {s s' : PS} {a : Act} {w : World} (h : Rel w0 O0 n M s a w) (ht : ∀ x, s'.t x = s.t x) (hr' : ∀ r, s'.r r = s.r r) (hb' : ∀ b, s'.b b = s.b b) : Rel w0 O0 n M s' a w :=
  ⟨h.fr, h.dfr, h.sz, fun t => by rw [ht]; exact h.tmp t, fun b cs hx => h.box b cs (by rwa [hb'] at hx), fun b hx => h.boxn b (by rwa [hb'] at hx), fun r e q hx => h.row r e q (by rwa [hr'] at hx),
    fun r hx => h.rown r (by rwa [hr'] at hx), h.low, h.inj1, h.inj2, h.inj3⟩
end Go.Proofs.Ytlmlfbjcpajinaa
