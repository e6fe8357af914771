/- New boxes and rows, rows that are given up, cells that are written. No program in sight. -/
import Derived.Test.YtlmlfbjcpajinaaVe
import Derived.Maps.AppendAt
import Derived.Laws.OwnMore
namespace Go.Proofs.Ytlmlfbjcpajinaa
open Go.RowKit Go.Deep
set_option linter.unusedSimpArgs false
set_option linter.unusedVariables false

def frB (s : PS) (b r : Nat → Bool) : Bool := s.tmp.all (fun p => !ment b r p.2) && s.box.all (fun p => match p.2 with | some cs => cs.all (fun d => !mentS b r d) | none => true)
theorem frB_t {s : PS} {b r : Nat → Bool} (h : frB s b r = true) (t : Nat) : ment b r (s.t t) = false := by
  simp only [frB, Bool.and_eq_true, List.all_eq_true] at h
  unfold PS.t
  split
  · rename_i d hd
    have := h.1 _ (look_mem hd)
    simpa using this
  · rfl
theorem frB_b {s : PS} {b r : Nat → Bool} (h : frB s b r = true) {x : Nat} {cs : List D} (hx : s.b x = some cs) : ∀ d ∈ cs, mentS b r d = false := by
  simp only [frB, Bool.and_eq_true, List.all_eq_true] at h
  unfold PS.b at hx
  split at hx
  · rename_i y hy
    subst hx
    have := h.2 _ (look_mem hy)
    simp only [List.all_eq_true] at this
    intro d hd
    simpa using this d hd
  · cases hx

/-- no datum of s has one of these names -/
structure Fresh (s : PS) (b r : Nat → Bool) : Prop where
  t : ∀ x, ment b r (s.t x) = false
  b : ∀ x cs, s.b x = some cs → ∀ d ∈ cs, mentS b r d = false
theorem frB_ok {s : PS} {b r : Nat → Bool} (h : frB s b r = true) : Fresh s b r := ⟨frB_t h, fun _ _ hx => frB_b h hx⟩

theorem Fr.step {O0 : Nat → Prop} {w0 w w' : World} (h : Fr O0 w0 w) (hos : w'.os = w.os) (ht : w'.tape = w.tape) (ho : w'.output = w.output) (hs : w.heap.size ≤ w'.heap.size)
    (hb : ∀ k, k < w0.heap.size → ¬ O0 k → w'.heap[k]? = w.heap[k]?) : Fr O0 w0 w' :=
  ⟨hos.trans h.os, ht.trans h.tape, ho.trans h.output, Nat.le_trans h.size hs, fun k h1 h2 => (hb k h1 h2).trans (h.block k h1 h2)⟩

section
variable {w0 : World} {O0 : Nat → Prop} {n : Nat} {M : Mp} {s : PS} {a : Act} {w : World}

def PS.addBox (s : PS) (b : Nat) (cs : List D) : PS := ⟨s.tmp, s.row, (b, some cs) :: s.box⟩
/-- A new box. -/
theorem Rel.newBox (h : Rel w0 O0 n M s a w) {b : Nat} {cs : List D} {cur : Array Value} {e : TypeId} (hf : Fresh s (fun x => Nat.beq x b) (fun _ => false)) (hl : cs.length = cur.size)
    (hc : ∀ j d, cs[j]? = some d → VR M (Ow (Fs w0 O0) M) w d (cur.getD j undef)) (hm : ∀ d ∈ cs, mentS (fun x => Nat.beq x b) (fun _ => false) d = false) :
    ∃ M', Rel w0 O0 n M' (s.addBox b cs) a (w.alloc (.cells cur e)) ∧ M'.β b = some w.heap.size := by
  let M' : Mp := ⟨fun x => if x = b then some w.heap.size else M.β x, M.γ⟩
  have hown : ∀ k, M'.owned k → M.owned k ∨ k = w.heap.size := by
    rintro k (⟨x, hx⟩ | ⟨r, c, z, hr⟩)
    · simp only [M'] at hx
      split at hx
      · cases hx; exact .inr rfl
      · exact .inl (.inl ⟨x, hx⟩)
    · exact .inl (.inr ⟨r, c, z, hr⟩)
  have hA : ∀ f k, k < w.heap.size → Ow (Fs w0 O0) M f k → Ow (Fs w0 O0) M' f k ∧ k < (w.alloc (.cells cur e)).heap.size ∧ (w.alloc (.cells cur e)).heap[k]? = w.heap[k]? := fun f k h1 h2 =>
    ⟨⟨fun h3 => by rcases hown k h3 with h4 | h4; exact h2.1 h4; omega, h2.2⟩, by simp; omega, Below.heap_alloc w _ k h1⟩
  have hβ : ∀ x k, Nat.beq x b = false → M'.β x = some k → M.β x = some k := fun x k h1 h2 => by
    simp only [M'] at h2
    rw [if_neg] at h2
    · exact h2
    · intro e; subst e; rw [Nat.beq_refl] at h1; cases h1
  have hγ : ∀ x y, (fun _ => false) x = false → M'.γ x = some y → M.γ x = some y := fun x y _ h => h
  refine ⟨M', ⟨?_, h.dfr, h.sz, fun t => ?_, fun x ds hx => ?_, fun x hx => ?_, fun r e q hr => ?_, fun r hr => h.rown r hr, fun k hk => ?_, fun x x' k h1 h2 => ?_, h.inj2, fun x r k c z h1 h2 => ?_⟩, by simp [M']⟩
  · exact h.fr.step rfl rfl rfl (by simp) fun k h1 _ => Below.heap_alloc w _ k (Nat.lt_of_lt_of_le h1 h.fr.size)
  · exact VR.new hA hγ hβ (hf.t t) (h.tmp t)
  · by_cases hxb : b = x
    · subst hxb
      simp [PS.addBox, PS.b, look_cons_self] at hx
      subst hx
      exact ⟨w.heap.size, cur, e, by simp [M'], heap_alloc_new w _, hl, fun j d hd => VR.newS hA hγ hβ (hm d (List.mem_of_getElem? hd)) (hc j d hd)⟩
    · have hx' : s.b x = some ds := by simpa [PS.addBox, PS.b, look_cons_ne hxb] using hx
      obtain ⟨k, cur', e', h1, h2, h3, h4⟩ := h.box x ds hx'
      have hlt := (Array.getElem?_eq_some_iff.1 h2).1
      exact ⟨k, cur', e', by simp [M', Ne.symm hxb, h1], (Below.heap_alloc w _ k hlt).trans h2, h3, fun j d hd => VR.newS hA hγ hβ (hf.b _ _ hx' d (List.mem_of_getElem? hd)) (h4 j d hd)⟩
  · by_cases hxb : b = x
    · subst hxb; simp [PS.addBox, PS.b, look_cons_self] at hx
    · have hx' : s.b x = none := by simpa [PS.addBox, PS.b, look_cons_ne hxb] using hx
      simp [M', Ne.symm hxb, h.boxn x hx']
  · rcases h.row r e q hr with ⟨h1, h2⟩ | ⟨g, cap, cur', h1, h2, h3, h4, h5, h6⟩
    · exact .inl ⟨h1, h2⟩
    · have hlt := (Array.getElem?_eq_some_iff.1 h2).1
      exact .inr ⟨g, cap, cur', h1, (Below.heap_alloc w _ g hlt).trans h2, h3, h4, h5, fun i j d hi hd => (h6 i j d hi hd).elem_any hd hA⟩
  · rcases hown k hk with h1 | rfl
    · exact h.low k h1
    · exact .inl h.fr.size
  · have hno : ∀ y, M.β y ≠ some w.heap.size := fun y hy => by have := h.lt _ (.inl ⟨y, hy⟩); omega
    simp only [M'] at h1 h2
    split at h1 <;> split at h2
    · simp_all
    · cases h1; exact absurd h2 (hno _)
    · cases h2; exact absurd h1 (hno _)
    · exact h.inj1 x x' k h1 h2
  · simp only [M'] at h1
    split at h1
    · cases h1
      have := h.lt _ (.inr ⟨r, c, z, h2⟩); omega
    · exact h.inj3 x r k c z h1 h2

def PS.addRows (s : PS) (nr : List (Nat × Option (TypeId × Sq))) : PS := ⟨s.tmp, nr ++ s.row, s.box⟩
theorem look_append {α : Type} (l m : List (Nat × α)) (i : Nat) : look (l ++ m) i = match look l i with | some x => some x | none => look m i := by
  induction l with
  | nil => rfl
  | cons p l ih =>
    obtain ⟨k, x⟩ := p
    by_cases hk : k = i
    · subst hk; simp [look_cons_self]
    · simp only [List.cons_append, look_cons_ne hk, ih]
/-- Rows that came new: where they lie (N). -/
structure New (N : Mp) (A : Bool → Nat → Prop) (w w' : World) (nr : List (Nat × Option (TypeId × Sq))) : Prop where
  os : w'.os = w.os
  tape : w'.tape = w.tape
  output : w'.output = w.output
  size : w.heap.size ≤ w'.heap.size
  block : ∀ k, k < w.heap.size → w'.heap[k]? = w.heap[k]?
  noβ : ∀ b, N.β b = none
  row : ∀ r e q, look nr r = some (some (e, q)) → (N.γ r = some none ∧ q.len = 0) ∨ ∃ g cap cur, N.γ r = some (some (g, cap, q.sz)) ∧ w'.heap[g]? = some (.cells cur e (0, 0)) ∧ q.len ≤ cap ∧ cap ≤ maxLen ∧ cur.size = cap * q.sz ∧
    ∀ i j d, i < q.len → (q.elem true i)[j]? = some d → VR N A w' d (cur.getD (i * q.sz + j) undef)
  rown : ∀ r, (∀ x, look nr r ≠ some (some x)) → N.γ r = none
  low : ∀ k, N.owned k → w.heap.size ≤ k
  inj : ∀ r r' k c z c' z', N.γ r = some (some (k, c, z)) → N.γ r' = some (some (k, c', z')) → r = r'
theorem Rel.newRows (h : Rel w0 O0 n M s a w) {N : Mp} {A : Bool → Nat → Prop} {w' : World} {nr : List (Nat × Option (TypeId × Sq))} (hN : New N A w w' nr)
    (hA : ∀ f k, k < w'.heap.size → A f k → (¬ N.owned k ∧ ¬ M.owned k) ∧ (f = true → Fs w0 O0 k)) (hf : Fresh s (fun _ => false) (fun r => (look nr r).isSome)) :
    ∃ M', Rel w0 O0 n M' (s.addRows nr) a w' ∧ ∀ d v, ment (fun _ => true) (fun r => (look nr r).isNone) d = false → VR N A w' d v → VR M' (Ow (Fs w0 O0) M') w' d v := by
  let M' : Mp := ⟨M.β, fun r => if (look nr r).isSome then N.γ r else M.γ r⟩
  have hown : ∀ k, M'.owned k → M.owned k ∨ N.owned k := by
    rintro k (⟨x, hx⟩ | ⟨r, c, z, hr⟩)
    · exact .inl (.inl ⟨x, hx⟩)
    · simp only [M'] at hr
      split at hr
      · exact .inr (.inr ⟨r, c, z, hr⟩)
      · exact .inl (.inr ⟨r, c, z, hr⟩)
  have hA0 : ∀ f k, k < w.heap.size → Ow (Fs w0 O0) M f k → Ow (Fs w0 O0) M' f k ∧ k < w'.heap.size ∧ w'.heap[k]? = w.heap[k]? := fun f k h1 h2 =>
    ⟨⟨fun h3 => by rcases hown k h3 with h4 | h4; exact h2.1 h4; have := hN.low k h4; omega, h2.2⟩, by have := hN.size; omega, hN.block k h1⟩
  have hA1 : ∀ f k, k < w'.heap.size → A f k → Ow (Fs w0 O0) M' f k ∧ k < w'.heap.size ∧ w'.heap[k]? = w'.heap[k]? := fun f k h1 h2 =>
    ⟨⟨fun h3 => by rcases hown k h3 with h4 | h4; exact (hA f k h1 h2).1.2 h4; exact (hA f k h1 h2).1.1 h4, (hA f k h1 h2).2⟩, h1, rfl⟩
  have hγ : ∀ x y, (look nr x).isSome = false → M'.γ x = some y → M.γ x = some y := fun x y h1 h2 => by simp only [M', h1] at h2; simpa using h2
  have hγ1 : ∀ x y, (look nr x).isNone = false → M'.γ x = some y → N.γ x = some y := fun x y h1 h2 => by
    have : (look nr x).isSome = true := by cases hh : look nr x <;> simp_all
    simp only [M', this] at h2; simpa using h2
  have hβ : ∀ x k, (fun _ => false) x = false → M'.β x = some k → M.β x = some k := fun x k _ h => h
  refine ⟨M', ⟨?_, h.dfr, h.sz, fun t => ?_, fun x ds hx => ?_, fun x hx => h.boxn x hx, fun r e q hr => ?_, fun r hr => ?_, fun k hk => ?_, h.inj1, fun r r' k c z c' z' h1 h2 => ?_, fun x r k c z h1 h2 => ?_⟩, fun d v hd hv => ?_⟩
  · exact h.fr.step hN.os hN.tape hN.output hN.size fun k h1 _ => hN.block k (Nat.lt_of_lt_of_le h1 h.fr.size)
  · exact VR.new hA0 hγ hβ (hf.t t) (h.tmp t)
  · obtain ⟨k, cur', e', h1, h2, h3, h4⟩ := h.box x ds hx
    have hlt := (Array.getElem?_eq_some_iff.1 h2).1
    exact ⟨k, cur', e', h1, (hN.block k hlt).trans h2, h3, fun j d hd => VR.newS hA0 hγ hβ (hf.b _ _ hx d (List.mem_of_getElem? hd)) (h4 j d hd)⟩
  · simp only [PS.addRows, PS.r, look_append] at hr
    cases hl : look nr r with
    | none =>
      rw [hl] at hr
      have hr' : s.r r = some (e, q) := hr
      rcases h.row r e q hr' with ⟨h1, h2⟩ | ⟨g, cap, cur', h1, h2, h3, h4, h5, h6⟩
      · exact .inl ⟨by simp [M', hl, h1], h2⟩
      · have hlt := (Array.getElem?_eq_some_iff.1 h2).1
        exact .inr ⟨g, cap, cur', by simp [M', hl, h1], (hN.block g hlt).trans h2, h3, h4, h5, fun i j d hi hd => (h6 i j d hi hd).elem_any hd hA0⟩
    | some x =>
      rw [hl] at hr
      simp only at hr
      subst hr
      rcases hN.row r e q hl with ⟨h1, h2⟩ | ⟨g, cap, cur', h1, h2, h3, h4, h5, h6⟩
      · exact .inl ⟨by simp [M', hl, h1], h2⟩
      · exact .inr ⟨g, cap, cur', by simp [M', hl, h1], h2, h3, h4, h5, fun i j d hi hd => (h6 i j d hi hd).elem_any hd hA1⟩
  · simp only [PS.addRows, PS.r, look_append] at hr
    cases hl : look nr r with
    | none => rw [hl] at hr; simp only [M', hl]; simpa using h.rown r hr
    | some x =>
      rw [hl] at hr
      simp only at hr
      subst hr
      simp only [M', hl]
      simpa using hN.rown r (by rw [hl]; simp)
  · rcases hown k hk with h1 | h1
    · exact h.low k h1
    · exact .inl (Nat.le_trans h.fr.size (hN.low k h1))
  · have hx : ∀ r r' k c z c' z', M.γ r = some (some (k, c, z)) → N.γ r' = some (some (k, c', z')) → False := fun r r' k c z c' z' a1 a2 => by
      have := h.lt _ (.inr ⟨r, c, z, a1⟩); have := hN.low _ (.inr ⟨r', c', z', a2⟩); omega
    simp only [M'] at h1 h2
    split at h1 <;> split at h2
    · exact hN.inj r r' k c z c' z' h1 h2
    · exact (hx _ _ _ _ _ _ _ h2 h1).elim
    · exact (hx _ _ _ _ _ _ _ h1 h2).elim
    · exact h.inj2 r r' k c z c' z' h1 h2
  · simp only [M'] at h2
    split at h2
    · have := h.lt _ (.inl ⟨x, h1⟩); have := hN.low _ (.inr ⟨r, c, z, h2⟩); omega
    · exact h.inj3 x r k c z h1 h2
  · exact VR.new hA1 hγ1 (fun x k hx => by simp at hx) hd hv
end
end Go.Proofs.Ytlmlfbjcpajinaa
