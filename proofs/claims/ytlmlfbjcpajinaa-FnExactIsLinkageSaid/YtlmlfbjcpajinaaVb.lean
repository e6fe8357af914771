/- What a call knows (a state), when memory is as it says, and the rules for control. No program in sight. -/
import Derived.Test.YtlmlfbjcpajinaaVa
namespace Go.Proofs.Ytlmlfbjcpajinaa
open Go.RowKit
set_option linter.unusedSimpArgs false
set_option linter.unusedVariables false

def look {α : Type} : List (Nat × α) → Nat → Option α
  | [], _ => none
  | (k, x) :: l, i => match Nat.beq k i with | true => some x | false => look l i
theorem look_cons_self {α : Type} (k : Nat) (x : α) (l : List (Nat × α)) : look ((k, x) :: l) k = some x := by simp [look, Nat.beq_refl]
theorem look_cons_ne {α : Type} {k i : Nat} (h : k ≠ i) (x : α) (l : List (Nat × α)) : look ((k, x) :: l) i = look l i := by
  have : Nat.beq k i = false := by
    cases hb : Nat.beq k i
    · rfl
    · exact absurd (Nat.eq_of_beq_eq_true hb) h
  simp [look, this]
theorem look_mem {α : Type} {l : List (Nat × α)} {i : Nat} {x : α} (h : look l i = some x) : (i, x) ∈ l := by
  induction l with
  | nil => simp [look] at h
  | cons p l ih =>
    obtain ⟨k, y⟩ := p
    by_cases hk : k = i
    · subst hk; rw [look_cons_self] at h; cases h; exact List.mem_cons_self
    · rw [look_cons_ne hk] at h; exact List.mem_cons_of_mem _ (ih h)

structure PS where
  tmp : List (Nat × D)
  row : List (Nat × Option (TypeId × Sq))
  box : List (Nat × Option (List D))
def PS.t (s : PS) (i : Nat) : D := match look s.tmp i with | some d => d | none => .dead
def PS.r (s : PS) (i : Nat) : Option (TypeId × Sq) := match look s.row i with | some x => x | none => none
def PS.b (s : PS) (i : Nat) : Option (List D) := match look s.box i with | some x => x | none => none
def PS.put (s : PS) (o : Option Nat) (d : D) : PS := match o with | some t => ⟨(t, d) :: s.tmp, s.row, s.box⟩ | none => s

def ofV : Value → D
  | .int .i64 n => .int n
  | .bool b => .bool b
  | .slice none 0 0 => .nil
  | v => match v.oneCell' with | true => .val v | false => .dead
def ofValue : Value → D
  | .agg cs => .agg (cs.toList.map ofV)
  | v => ofV v
def PS.ev (s : PS) : Operand → D
  | .tmp t => s.t t
  | .const v => ofValue v
  | .func f => .val (.func (.func f) #[] #[])
  | .global _ => .dead

theorem VR.ofV {M : Mp} {A : Bool → Nat → Prop} {w : World} (v : Value) : VR M A w (ofV v) v := by
  unfold Ytlmlfbjcpajinaa.ofV
  split
  · exact .int _
  · exact .bool _
  · exact .nil
  · split
    · exact .val _ (by assumption)
    · exact .dead _
theorem VR.ofValue {M : Mp} {A : Bool → Nat → Prop} {w : World} (v : Value) : VR M A w (ofValue v) v := by
  unfold Ytlmlfbjcpajinaa.ofValue
  split
  · rename_i cs
    refine .agg _ cs (by simp) fun i d hd => ?_
    simp at hd
    obtain ⟨x, hx, rfl⟩ := hd
    have : cs.getD i undef = x := by simp [hx]
    rw [this]; exact VR.ofV x
  · exact VR.ofV _

def Mp.owned (M : Mp) (k : Nat) : Prop := (∃ b, M.β b = some k) ∨ ∃ r c z, M.γ r = some (some (k, c, z))
/-- where memory that is only read may lie; F: what counts as new -/
def Ow (F : Nat → Prop) (M : Mp) : Bool → Nat → Prop := fun f k => ¬ M.owned k ∧ (f = true → F k)
def Fs (w0 : World) (O0 : Nat → Prop) : Nat → Prop := fun k => w0.heap.size ≤ k ∨ O0 k
/-- Blocks that were there, but for those handed in to be written, hold what they held. -/
structure Fr (O0 : Nat → Prop) (w0 w : World) : Prop where
  os : w.os = w0.os
  tape : w.tape = w0.tape
  output : w.output = w0.output
  size : w0.heap.size ≤ w.heap.size
  block : ∀ k, k < w0.heap.size → ¬ O0 k → w.heap[k]? = w0.heap[k]?

def BoxAt (F : Nat → Prop) (M : Mp) (w : World) (b : Nat) (cs : List D) : Prop :=
  ∃ k cur e, M.β b = some k ∧ w.heap[k]? = some (.cells cur e (0, 0)) ∧ cs.length = cur.size ∧ ∀ j d, cs[j]? = some d → VR M (Ow F M) w d (cur.getD j undef)
def RowAt (F : Nat → Prop) (M : Mp) (w : World) (r : Nat) (e : TypeId) (q : Sq) : Prop :=
  (M.γ r = some none ∧ q.len = 0) ∨ ∃ g cap cur, M.γ r = some (some (g, cap, q.sz)) ∧ w.heap[g]? = some (.cells cur e (0, 0)) ∧ q.len ≤ cap ∧ cap ≤ maxLen ∧ cur.size = cap * q.sz ∧
    ∀ i j d, i < q.len → (q.elem true i)[j]? = some d → VR M (Ow F M) w d (cur.getD (i * q.sz + j) undef)

structure Rel (w0 : World) (O0 : Nat → Prop) (n : Nat) (M : Mp) (s : PS) (a : Act) (w : World) : Prop where
  fr : Fr O0 w0 w
  dfr : a.defers = []
  sz : a.tmps.size = n
  tmp : ∀ t, VR M (Ow (Fs w0 O0) M) w (s.t t) (a.tmps.getD t undef)
  box : ∀ b cs, s.b b = some cs → BoxAt (Fs w0 O0) M w b cs
  boxn : ∀ b, s.b b = none → M.β b = none
  row : ∀ r e q, s.r r = some (e, q) → RowAt (Fs w0 O0) M w r e q
  rown : ∀ r, s.r r = none → M.γ r = none
  low : ∀ k, M.owned k → (w0.heap.size ≤ k ∨ O0 k)
  inj1 : ∀ b b' k, M.β b = some k → M.β b' = some k → b = b'
  inj2 : ∀ r r' k c z c' z', M.γ r = some (some (k, c, z)) → M.γ r' = some (some (k, c', z')) → r = r'
  inj3 : ∀ b r k c z, M.β b = some k → M.γ r = some (some (k, c, z)) → False

section
variable {w0 : World} {O0 : Nat → Prop} {n : Nat} {M : Mp} {s : PS} {a : Act} {w : World}
theorem Rel.ev (h : Rel w0 O0 n M s a w) (x : Operand) : VR M (Ow (Fs w0 O0) M) w (s.ev x) (a.eval x) := by
  cases x with
  | tmp t => exact h.tmp t
  | const v => exact VR.ofValue v
  | global g => exact .dead _
  | func f => exact .val _ rfl
theorem Rel.lt (h : Rel w0 O0 n M s a w) : ∀ k, M.owned k → k < w.heap.size := by
  rintro k (⟨b, hb⟩ | ⟨r, c, z, hr⟩)
  · cases hs : s.b b with
    | none => rw [h.boxn b hs] at hb; cases hb
    | some cs =>
      obtain ⟨k', cur, e, h1, h2, _⟩ := h.box b cs hs
      rw [hb] at h1; cases h1
      exact (Array.getElem?_eq_some_iff.1 h2).1
  · cases hs : s.r r with
    | none => rw [h.rown r hs] at hr; cases hr
    | some x =>
      obtain ⟨e, q⟩ := x
      rcases h.row r e q hs with ⟨h1, _⟩ | ⟨g, cap, cur, h1, h2, _⟩
      · rw [hr] at h1; cases h1
      · rw [hr] at h1; cases h1
        exact (Array.getElem?_eq_some_iff.1 h2).1

theorem PS.t_put (s : PS) (o : Option Nat) (d : D) (i : Nat) : (s.put o d).t i = if o = some i then d else s.t i := by
  cases o with
  | none => simp [PS.put]
  | some t =>
    by_cases h : t = i
    · subst h; simp [PS.put, PS.t, look_cons_self]
    · simp [PS.put, PS.t, look_cons_ne h, h]
theorem PS.r_put (s : PS) (o : Option Nat) (d : D) (i : Nat) : (s.put o d).r i = s.r i := by cases o <;> rfl
theorem PS.b_put (s : PS) (o : Option Nat) (d : D) (i : Nat) : (s.put o d).b i = s.b i := by cases o <;> rfl

def dstOk (n : Nat) : Option Nat → Bool
  | some t => Nat.blt t n
  | none => true
/-- A value put into a slot. -/
theorem Rel.put (h : Rel w0 O0 n M s a w) {o : Option Nat} {d : D} {v : Value} (ho : dstOk n o = true) (hv : VR M (Ow (Fs w0 O0) M) w d v) : Rel w0 O0 n M (s.put o d) (a.put o v) w := by
  refine ⟨h.fr, ?_, ?_, fun t => ?_, fun b cs hb => h.box b cs (by rwa [PS.b_put] at hb), fun b hb => h.boxn b (by rwa [PS.b_put] at hb), fun r e q hr => h.row r e q (by rwa [PS.r_put] at hr),
    fun r hr => h.rown r (by rwa [PS.r_put] at hr), h.low, h.inj1, h.inj2, h.inj3⟩
  · cases o <;> exact h.dfr
  · cases o <;> simp [Act.put, h.sz]
  · rw [PS.t_put]
    cases o with
    | none => exact h.tmp t
    | some i =>
      simp only [Option.some.injEq]
      by_cases hi : i = t
      · subst hi
        rw [if_pos rfl]
        have hlt : i < a.tmps.size := by simp only [dstOk, Nat.blt_eq] at ho; rw [h.sz]; exact ho
        simpa [Act.put, hlt] using hv
      · rw [if_neg hi]
        have : (a.put (some i) v).tmps.getD t undef = a.tmps.getD t undef := by simp [Act.put, Array.getElem?_setIfInBounds_ne hi]
        rw [this]; exact h.tmp t
end

/-! ### conditions on code -/
structure Cx where
  P : Program
  w0 : World
  O0 : Nat → Prop
  n : Nat
structure VC (C : Cx) (c : Code) (Q : Exit → PS → Prop) (s : PS) : Prop where
  out : ∀ M a w, Rel C.w0 C.O0 C.n M s a w → c.wp C.P (fun e a' w' => ∃ s' M', Q e s' ∧ Rel C.w0 C.O0 C.n M' s' a' w') a w
def XThen (K : PS → Prop) (Q : Exit → PS → Prop) : Exit → PS → Prop
  | .normal, s => K s
  | e, s => Q e s
def XBlock (id : Nat) (Q : Exit → PS → Prop) : Exit → PS → Prop
  | .exit i, s => match Nat.beq i id with | true => Q .normal s | false => Q (.exit i) s
  | e, s => Q e s
section
variable {C : Cx} {Q : Exit → PS → Prop} {s : PS}
theorem vSeq {x y : Code} (h : VC C x (XThen (VC C y Q) Q) s) : VC C (.seq x y) Q s := by
  refine ⟨fun M a w hr => ?_⟩
  refine wp_seq (Code.wp_mono ?_ (h.out M a w hr))
  rintro e a' w' ⟨s', M', hq, hr'⟩
  cases e with
  | normal => exact hq.out M' a' w' hr'
  | _ => exact ⟨s', M', hq, hr'⟩
theorem vSkip (h : Q .normal s) : VC C .skip Q s := ⟨fun M a w hr => wp_skip ⟨s, M, h, hr⟩⟩
theorem vLabel {l : Nat} (h : Q .normal s) : VC C (.label l) Q s := ⟨fun M a w hr => wp_label ⟨s, M, h, hr⟩⟩
theorem vExit {i : Nat} (h : Q (.exit i) s) : VC C (.exit i) Q s := ⟨fun M a w hr => wp_exit ⟨s, M, h, hr⟩⟩
theorem vRet (h : Q .ret s) : VC C .ret Q s := ⟨fun M a w hr => wp_ret ⟨s, M, h, hr⟩⟩
theorem vCond {c : Operand} {x y : Code} {b : Bool} (hc : s.ev c = .bool b) (h1 : b = true → VC C x Q s) (h2 : b = false → VC C y Q s) : VC C (.cond c x y) Q s := by
  refine ⟨fun M a w hr => ?_⟩
  have := hr.ev c
  rw [hc] at this
  have hv : a.eval c = .bool b := by generalize a.eval c = v at this; cases this; rfl
  exact wp_cond_split hv (fun hb => (h1 hb).out M a w hr) (fun hb => (h2 hb).out M a w hr)
theorem vCondT {c : Operand} {x y : Code} {b : Bool} (hc : s.ev c = .bool b) (hb : b = true) (h : VC C x Q s) : VC C (.cond c x y) Q s := vCond hc (fun _ => h) (fun h' => by rw [hb] at h'; cases h')
theorem vCondF {c : Operand} {x y : Code} {b : Bool} (hc : s.ev c = .bool b) (hb : b = false) (h : VC C y Q s) : VC C (.cond c x y) Q s := vCond hc (fun h' => by rw [hb] at h'; cases h') (fun _ => h)
theorem vBlock {id : Nat} {c : Code} (h : VC C c (XBlock id Q) s) : VC C (.block id c) Q s := by
  refine ⟨fun M a w hr => ?_⟩
  refine wp_block (Code.wp_mono ?_ (h.out M a w hr))
  rintro e a' w' ⟨s', M', hq, hr'⟩
  cases e with
  | exit i =>
    simp only [Exit.inBlock, XBlock] at hq ⊢
    by_cases hi : i = id
    · subst hi
      rw [if_pos rfl]
      rw [Nat.beq_refl] at hq
      exact ⟨s', M', hq, hr'⟩
    · rw [if_neg hi]
      have : Nat.beq i id = false := by
        cases hb : Nat.beq i id
        · rfl
        · exact absurd (Nat.eq_of_beq_eq_true hb) hi
      rw [this] at hq
      exact ⟨s', M', hq, hr'⟩
  | _ => exact ⟨s', M', hq, hr'⟩

/-- s knows at least what s' says. -/
structure Le (s s' : PS) : Prop where
  tmp : ∀ t, s'.t t = .dead ∨ s'.t t = s.t t
  row : ∀ r x, s'.r r = some x → s.r r = some x
  box : ∀ b x, s'.b b = some x → s.b b = some x
theorem Rel.le {w0 : World} {O0 : Nat → Prop} {n : Nat} {M : Mp} {s s' : PS} {a : Act} {w : World} (h : Rel w0 O0 n M s a w) (hl : Le s s') : ∃ M', Rel w0 O0 n M' s' a w := by
  let M' : Mp := ⟨fun b => if (s'.b b).isSome then M.β b else none, fun r => if (s'.r r).isSome then M.γ r else none⟩
  have hβ : ∀ b k, M'.β b = some k → M.β b = some k := fun b k hk => by simp only [M'] at hk; split at hk; exact hk; cases hk
  have hγ : ∀ r x, M'.γ r = some x → M.γ r = some x := fun r x hx => by simp only [M'] at hx; split at hx; exact hx; cases hx
  have hown : ∀ k, M'.owned k → M.owned k := by
    rintro k (⟨b, hb⟩ | ⟨r, c, z, hr⟩)
    · exact .inl ⟨b, hβ b k hb⟩
    · exact .inr ⟨r, c, z, hγ r _ hr⟩
  have mono : ∀ {d v}, VR M (Ow (Fs w0 O0) M) w d v → VR M' (Ow (Fs w0 O0) M') w d v := fun hd => hd.mono (fun f b h1 h2 => ⟨⟨fun h => h2.1 (hown b h), h2.2⟩, h1, rfl⟩) hγ hβ
  refine ⟨M', h.fr, h.dfr, h.sz, fun t => ?_, fun b cs hb => ?_, fun b hb => ?_, fun r e q hr => ?_, fun r hr => ?_, fun k hk => h.low k (hown k hk), fun b b' k h1 h2 => h.inj1 b b' k (hβ _ _ h1) (hβ _ _ h2),
    fun r r' k c z c' z' h1 h2 => h.inj2 r r' k c z c' z' (hγ _ _ h1) (hγ _ _ h2), fun b r k c z h1 h2 => h.inj3 b r k c z (hβ _ _ h1) (hγ _ _ h2)⟩
  · rcases hl.tmp t with h1 | h1
    · rw [h1]; exact .dead _
    · rw [h1]; exact mono (h.tmp t)
  · obtain ⟨k, cur, e, h1, h2, h3, h4⟩ := h.box b cs (hl.box b cs hb)
    exact ⟨k, cur, e, by simp [M', hb, h1], h2, h3, fun j d hd => mono (h4 j d hd)⟩
  · simp [M', hb]
  · rcases h.row r e q (hl.row r _ hr) with ⟨h1, h2⟩ | ⟨g, cap, cur, h1, h2, h3, h4, h5, h6⟩
    · exact .inl ⟨by simp [M', hr, h1], h2⟩
    · exact .inr ⟨g, cap, cur, by simp [M', hr, h1], h2, h3, h4, h5, fun i j d hi hd => mono (h6 i j d hi hd)⟩
  · simp [M', hr]
theorem vWeak {c : Code} {s' : PS} (hl : Le s s') (h : VC C c Q s') : VC C c Q s := by
  refine ⟨fun M a w hr => ?_⟩
  obtain ⟨M', hr'⟩ := hr.le hl
  exact h.out M' a w hr'
/-- Told by a list: what is wanted of a state. -/
def LeL (s : PS) : List (Nat × D) → Prop
  | [] => True
  | (t, d) :: l => s.t t = d ∧ LeL s l
def LeR (s : PS) : List (Nat × Option (TypeId × Sq)) → Prop
  | [] => True
  | (t, d) :: l => s.r t = d ∧ LeR s l
def LeB (s : PS) : List (Nat × Option (List D)) → Prop
  | [] => True
  | (t, d) :: l => s.b t = d ∧ LeB s l
theorem Le.of {s s' : PS} (h1 : LeL s s'.tmp) (h2 : LeR s s'.row) (h3 : LeB s s'.box) : Le s s' := by
  refine ⟨fun t => ?_, fun r x hx => ?_, fun b x hx => ?_⟩
  · have key : ∀ l : List (Nat × D), LeL s l → look l t = none ∨ look l t = some (s.t t) := by
      intro l
      induction l with
      | nil => exact fun _ => .inl rfl
      | cons p l ih =>
        rintro ⟨h, hl⟩
        by_cases hk : p.1 = t
        · right; rw [← hk, look_cons_self, ← h]
        · rw [show p = (p.1, p.2) from rfl, look_cons_ne hk]; exact ih hl
    rcases key _ h1 with h | h
    · left; simp [PS.t, h]
    · right; simp only [PS.t] at h ⊢; rw [h]
  · have key : ∀ l : List (Nat × Option (TypeId × Sq)), LeR s l → look l r = none ∨ look l r = some (s.r r) := by
      intro l
      induction l with
      | nil => exact fun _ => .inl rfl
      | cons p l ih =>
        rintro ⟨h, hl⟩
        by_cases hk : p.1 = r
        · right; rw [← hk, look_cons_self, ← h]
        · rw [show p = (p.1, p.2) from rfl, look_cons_ne hk]; exact ih hl
    simp only [PS.r] at hx
    rcases key _ h2 with h | h
    · rw [h] at hx; cases hx
    · rw [h] at hx; exact hx
  · have key : ∀ l : List (Nat × Option (List D)), LeB s l → look l b = none ∨ look l b = some (s.b b) := by
      intro l
      induction l with
      | nil => exact fun _ => .inl rfl
      | cons p l ih =>
        rintro ⟨h, hl⟩
        by_cases hk : p.1 = b
        · right; rw [← hk, look_cons_self, ← h]
        · rw [show p = (p.1, p.2) from rfl, look_cons_ne hk]; exact ih hl
    simp only [PS.b] at hx
    rcases key _ h3 with h | h
    · rw [h] at hx; cases hx
    · rw [h] at hx; exact hx

/-- A loop with a relation that a number bounds. -/
theorem wp_loop_n {P : Program} {c : Code} {Q : Exit → Act → World → Prop} {a : Act} {w : World} (I : Nat → Act → World → Prop) (k0 : Nat) (h₀ : I k0 a w)
    (round : ∀ k a w, I k a w → c.wp P (Exit.then (fun a' w' => ∃ k', k' < k ∧ I k' a' w') Q) a w) : (Code.loop c).wp P Q a w := by
  intro b k cs
  have key : ∀ m a w, I m a w → ∃ e a' w', Q e a' w' ∧ Arrives P (lone (b.at a (.code c :: .inLoop c :: k)) cs w) b k cs e a' w' := by
    intro m
    induction m using Nat.strongRecOn with
    | _ m ih =>
      intro a w hI
      obtain ⟨e, a₁, w₁, hq, harr⟩ := round m a w hI b (.inLoop c :: k) cs
      cases e with
      | normal =>
        obtain ⟨k', hlt, hI₁⟩ := hq
        obtain ⟨e₂, a₂, w₂, hq₂, harr₂⟩ := ih k' hlt a₁ w₁ hI₁
        exact ⟨e₂, a₂, w₂, hq₂, .of_steps (Steps.trans harr (.one step_inLoop)) harr₂⟩
      | exit id => exact ⟨_, a₁, w₁, hq, .pass (x := .inLoop c) rfl (fun _ _ => .inl (by simp)) harr⟩
      | goto l => exact ⟨_, a₁, w₁, hq, .pass (x := .inLoop c) rfl (fun _ _ => .inl (by simp)) harr⟩
      | ret => exact ⟨_, a₁, w₁, hq, .pass (x := .inLoop c) rfl (fun _ _ => .inl (by simp)) harr⟩
      | panic ch => exact ⟨_, a₁, w₁, hq, .pass (x := .inLoop c) rfl (fun _ _ => .inl (by simp)) harr⟩
      | outgrown => exact ⟨_, a₁, w₁, hq, .pass (x := .inLoop c) rfl (fun _ _ => .inl (by simp)) harr⟩
  obtain ⟨e, a', w', hq, harr⟩ := key k0 a w h₀
  exact ⟨e, a', w', hq, .of_steps (.one step_loop) harr⟩

/-- A loop: at its head the state is I x, for some x with inv x. -/
theorem vLoop {α : Type} {c : Code} (I : α → PS) (inv : α → Prop) (μ : α → Nat) (x0 : α) (h0 : Le s (I x0)) (hi : inv x0)
    (round : ∀ x, inv x → VC C c (XThen (fun s' => ∃ y, Le s' (I y) ∧ inv y ∧ μ y < μ x) Q) (I x)) : VC C (.loop c) Q s := by
  refine ⟨fun M a w hr => ?_⟩
  obtain ⟨M', hr'⟩ := hr.le h0
  refine wp_loop_n (fun k a w => ∃ y M, Rel C.w0 C.O0 C.n M (I y) a w ∧ inv y ∧ μ y = k) (μ x0) ⟨x0, M', hr', hi, rfl⟩ ?_
  rintro k a w ⟨x, M, hr, hx, rfl⟩
  refine Code.wp_mono ?_ ((round x hx).out M a w hr)
  rintro e a' w' ⟨s', M', hq, hr'⟩
  cases e with
  | normal =>
    obtain ⟨y, hle, hy, hlt⟩ := hq
    obtain ⟨M2, hr2⟩ := hr'.le hle
    exact ⟨μ y, hlt, y, M2, hr2, hy, rfl⟩
  | _ => exact ⟨s', M', hq, hr'⟩
end
end Go.Proofs.Ytlmlfbjcpajinaa
