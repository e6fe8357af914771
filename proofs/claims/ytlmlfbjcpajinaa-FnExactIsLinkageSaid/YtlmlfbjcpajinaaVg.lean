/- Cells that are written; rows that are appended to, and given up. No program in sight. -/
import Derived.Test.YtlmlfbjcpajinaaVf
namespace Go.Proofs.Ytlmlfbjcpajinaa
open Go.RowKit Go.Deep
set_option linter.unusedSimpArgs false
set_option linter.unusedVariables false

/-! ### writing -/
def PS.setB (s : PS) (b : Nat) (cs : List D) : PS := ⟨s.tmp, s.row, (b, some cs) :: s.box⟩
def PS.setR (s : PS) (r : Nat) (x : Option (TypeId × Sq)) : PS := ⟨s.tmp, (r, x) :: s.row, s.box⟩
def D.shift : D → Nat → D
  | .ptr b off, k => .ptr b (off + k)
  | .eptr r i off, k => .eptr r i (off + k)
  | d, _ => d
/-- one cell written -/
def wr (s : PS) (p : D) (k : Nat) (d : D) : Option (Prop × PS) :=
  match d.one with
  | false => none
  | true => match p with
    | .ptr b off => match s.b b with
      | some cs => match Nat.blt (off + k) cs.length with | true => some (True, s.setB b (cs.set (off + k) d)) | false => none
      | none => none
    | .eptr r i off => match s.r r with
      | some (e, q) => match q.set i.toNat (off + k) d with | some q' => some (0 ≤ i ∧ i < q.len, s.setR r (some (e, q'))) | none => none
      | none => none
    | _ => none
def wrL (s : PS) (p : D) : Nat → List D → Option (Prop × PS)
  | _, [] => some (True, s)
  | k, d :: l => match wr s p k d with
    | some (ob, s') => match wrL s' p (k + 1) l with | some (ob', s'') => some (ob ∧ ob', s'') | none => none
    | none => none
/-- where a pointer points -/
def PtrAt (M : Mp) : D → Nat → Nat → Prop
  | .ptr b off, k, o => M.β b = some k ∧ o = off
  | .eptr r i off, k, o => ∃ c z, M.γ r = some (some (k, c, z)) ∧ o = i.toNat * z + off
  | _, _, _ => False

theorem Sq.set_ok {q q' : Sq} {i off : Nat} {d : D} (h : q.set i off d = some q') : q'.len = q.len ∧ q'.sz = q.sz ∧ off < q.sz ∧ (∀ i', i' ≠ i → q'.elem true i' = q.elem true i') ∧ (i < q.len → q'.elem true i = (q.elem true i).set off d) := by
  unfold Sq.set at h
  split at h <;> simp only [Option.some.injEq, reduceCtorEq] at h <;> subst h
  all_goals
    refine ⟨by simp [Sq.len], rfl, by simp [Sq.sz], fun i' hi => ?_, fun hi => ?_⟩
    · simp [Sq.elem, List.getElem?_set, Ne.symm hi]
    · simp only [Sq.len] at hi
      simp [Sq.elem, List.getElem?_set, hi]

section
variable {P : Program} {w0 : World} {O0 : Nat → Prop} {n : Nat} {M : Mp} {s s' : PS} {a : Act} {w w' : World}

theorem PS.b_setB (s : PS) (b : Nat) (cs : List D) (x : Nat) : (s.setB b cs).b x = if b = x then some cs else s.b x := by
  by_cases h : b = x
  · subst h; simp [PS.setB, PS.b, look_cons_self]
  · simp [PS.setB, PS.b, look_cons_ne h, h]
theorem PS.r_setR (s : PS) (r : Nat) (y : Option (TypeId × Sq)) (x : Nat) : (s.setR r y).r x = if r = x then y else s.r x := by
  by_cases h : r = x
  · subst h; simp [PS.setR, PS.r, look_cons_self]
  · simp [PS.setR, PS.r, look_cons_ne h, h]

theorem heap_setCell_at (w : World) (k o : Nat) (cur : Array Value) (e : TypeId) (u : Value) (h : w.heap[k]? = some (.cells cur e (0, 0))) : (w.setCell ⟨k, o, none⟩ u).heap[k]? = some (.cells (cur.setIfInBounds o u) e (0, 0)) := by
  simp [World.setCell, Array.getElem?_modify, h]

/-- One cell of the call's own is written. -/
theorem wr_ok (h : Rel w0 O0 n M s a w) {p d : D} {k o j : Nat} {u : Value} (hp : PtrAt M p k o) (hu : VR M (Ow (Fs w0 O0) M) w d u) {ob : Prop} (hw : wr s p j d = some (ob, s')) (ho : ob) :
    ∃ w', (store ⟨k, o + j, none⟩ u).run P w = .ok () w' ∧ Rel w0 O0 n M s' a w' ∧ (∀ d v, VR M (Ow (Fs w0 O0) M) w d v → VR M (Ow (Fs w0 O0) M) w' d v) := by
  unfold wr at hw
  split at hw
  · cases hw
  rename_i hone
  have h1 := hu.one hone
  have go : ∀ (cur : Array Value) (e : TypeId), w.heap[k]? = some (.cells cur e (0, 0)) → o + j < cur.size → M.owned k →
      (store ⟨k, o + j, none⟩ u).run P w = .ok () (w.setCell ⟨k, o + j, none⟩ u) ∧ Fr O0 w0 (w.setCell ⟨k, o + j, none⟩ u) ∧
      (∀ x, x ≠ k → (w.setCell ⟨k, o + j, none⟩ u).heap[x]? = w.heap[x]?) ∧ (∀ d v, VR M (Ow (Fs w0 O0) M) w d v → VR M (Ow (Fs w0 O0) M) (w.setCell ⟨k, o + j, none⟩ u) d v) := fun cur e hh hlt hown => by
    have hother : ∀ x, x ≠ k → (w.setCell ⟨k, o + j, none⟩ u).heap[x]? = w.heap[x]? := fun x hx => Below.heap_setCell _ _ _ _ hx
    have hsz : (w.setCell ⟨k, o + j, none⟩ u).heap.size = w.heap.size := by simp [World.setCell]
    have hA : ∀ f b, b < w.heap.size → Ow (Fs w0 O0) M f b → Ow (Fs w0 O0) M f b ∧ b < (w.setCell ⟨k, o + j, none⟩ u).heap.size ∧ (w.setCell ⟨k, o + j, none⟩ u).heap[b]? = w.heap[b]? := fun f b h2 h3 =>
      ⟨h3, by omega, hother b (fun e => h3.1 (by subst e; exact hown))⟩
    refine ⟨?_, ?_, hother, fun d v hv => hv.mono hA (fun _ _ h => h) (fun _ _ h => h)⟩
    · rw [run_store P w _ u _ h1, cell_of_row w k (o + j) cur e (0, 0) hh]
      simp [hlt, World.frozen?, hh]
    · refine h.fr.step rfl rfl rfl (by omega) fun x h2 h3 => hother x fun e => ?_
      subst e
      rcases h.low _ hown with h4 | h4
      · omega
      · exact h3 h4
  cases p <;> simp only [reduceCtorEq] at hw
  case ptr b off =>
    obtain ⟨hk, rfl⟩ := hp
    split at hw
    case h_2 => cases hw
    rename_i cs hb
    split at hw
    case h_2 => cases hw
    rename_i hlt
    simp only [Option.some.injEq, Prod.mk.injEq] at hw
    obtain ⟨_, rfl⟩ := hw
    have hlt' : o + j < cs.length := by rw [Nat.blt_eq] at hlt; exact hlt
    obtain ⟨k', cur, e, h2, h3, h4, h5⟩ := h.box b cs hb
    rw [hk] at h2; cases h2
    obtain ⟨g1, g2, g3, g4⟩ := go cur e h3 (by omega) (.inl ⟨b, hk⟩)
    refine ⟨_, g1, ⟨g2, h.dfr, h.sz, fun t => g4 _ _ (h.tmp t), fun x ds hx => ?_, fun x hx => ?_, fun r e' q hr => ?_, h.rown, h.low, h.inj1, h.inj2, h.inj3⟩, g4⟩
    · rw [PS.b_setB] at hx
      by_cases hxb : b = x
      · subst hxb
        rw [if_pos rfl] at hx
        cases hx
        refine ⟨k, _, e, hk, heap_setCell_at w k (o + j) cur e u h3, by simp [h4], fun i d' hd => ?_⟩
        rw [List.getElem?_set] at hd
        by_cases hi : o + j = i
        · subst hi
          rw [if_pos rfl, if_pos hlt'] at hd
          cases hd
          have : o + j < cur.size := by omega
          simpa [this] using g4 _ _ hu
        · rw [if_neg hi] at hd
          have := h5 i d' hd
          simpa [Array.getElem?_setIfInBounds_ne hi] using g4 _ _ this
      · rw [if_neg hxb] at hx
        obtain ⟨k2, cur2, e2, a1, a2, a3, a4⟩ := h.box x ds hx
        exact ⟨k2, cur2, e2, a1, (g3 k2 (fun e => hxb (by subst e; exact h.inj1 _ _ _ hk a1))).trans a2, a3, fun i d' hd => g4 _ _ (a4 i d' hd)⟩
    · rw [PS.b_setB] at hx
      by_cases hxb : b = x
      · rw [if_pos hxb] at hx; cases hx
      · rw [if_neg hxb] at hx; exact h.boxn x hx
    · rcases h.row r e' q hr with ⟨a1, a2⟩ | ⟨g, cap, cur2, a1, a2, a3, a4, a5, a6⟩
      · exact .inl ⟨a1, a2⟩
      · exact .inr ⟨g, cap, cur2, a1, (g3 g (fun e => by subst e; exact h.inj3 _ _ _ _ _ hk a1)).trans a2, a3, a4, a5, fun i j' d' hi hd => g4 _ _ (a6 i j' d' hi hd)⟩
  case eptr r i off =>
    obtain ⟨c, z, hk, rfl⟩ := hp
    split at hw
    case h_2 => cases hw
    rename_i e q hr
    split at hw
    case h_2 => cases hw
    rename_i q' hq
    simp only [Option.some.injEq, Prod.mk.injEq] at hw
    obtain ⟨rfl, rfl⟩ := hw
    obtain ⟨i1, i2⟩ := ho
    have hi : i.toNat < q.len := by omega
    obtain ⟨q1, q2, q3, q4, q5⟩ := Sq.set_ok hq
    rcases h.row r e q hr with ⟨a1, a2⟩ | ⟨g, cap, cur, a1, a2, a3, a4, a5, a6⟩
    · omega
    rw [hk] at a1; cases a1
    have hpos : i.toNat * q.sz + (off + j) < cur.size := by
      rw [a5]
      have h4 : (i.toNat + 1) * q.sz ≤ c * q.sz := Nat.mul_le_mul_right _ (by omega)
      rw [Nat.add_mul, Nat.one_mul] at h4; omega
    obtain ⟨g1, g2, g3, g4⟩ := go cur e a2 (by rw [Nat.add_assoc]; exact hpos) (.inr ⟨r, _, _, hk⟩)
    rw [Nat.add_assoc] at g1 g2 g3 g4
    rw [Nat.add_assoc]
    refine ⟨_, g1, ⟨g2, h.dfr, h.sz, fun t => g4 _ _ (h.tmp t), fun x ds hx => ?_, h.boxn, fun r' e' p hr' => ?_, fun r' hr' => ?_, h.low, h.inj1, h.inj2, h.inj3⟩, g4⟩
    · obtain ⟨k2, cur2, e2, b1, b2, b3, b4⟩ := h.box x ds hx
      exact ⟨k2, cur2, e2, b1, (g3 k2 (fun e => by subst e; exact h.inj3 _ _ _ _ _ b1 hk)).trans b2, b3, fun i d' hd => g4 _ _ (b4 i d' hd)⟩
    · rw [PS.r_setR] at hr'
      by_cases hrr : r = r'
      · subst hrr
        rw [if_pos rfl] at hr'
        cases hr'
        refine .inr ⟨k, c, _, by rw [hk, q2], heap_setCell_at w k _ cur e u a2, by omega, a4, by simp [a5, q2], fun i' j' d' hi' hd => ?_⟩
        rw [q2]
        by_cases hii : i' = i.toNat
        · subst hii
          rw [q5 hi, List.getElem?_set] at hd
          by_cases hjj : off + j = j'
          · subst hjj
            rw [if_pos rfl, Sq.elem_len, if_pos q3] at hd
            cases hd
            simpa [hpos] using g4 _ _ hu
          · rw [if_neg hjj] at hd
            have := a6 i.toNat j' d' hi hd
            have hne : i.toNat * q.sz + (off + j) ≠ i.toNat * q.sz + j' := by omega
            simpa [Array.getElem?_setIfInBounds_ne hne] using g4 _ _ this
        · rw [q4 i' hii] at hd
          have hj' : j' < q.sz := by rw [← Sq.elem_len true q i']; exact (List.getElem?_eq_some_iff.1 hd).1
          have := a6 i' j' d' (by omega) hd
          have hne : i.toNat * q.sz + (off + j) ≠ i' * q.sz + j' := by
            intro he
            rcases Nat.lt_or_gt_of_ne hii with h5 | h5
            · have : (i' + 1) * q.sz ≤ i.toNat * q.sz := Nat.mul_le_mul_right _ h5
              rw [Nat.add_mul, Nat.one_mul] at this; omega
            · have : (i.toNat + 1) * q.sz ≤ i' * q.sz := Nat.mul_le_mul_right _ h5
              rw [Nat.add_mul, Nat.one_mul] at this; omega
          simpa [Array.getElem?_setIfInBounds_ne hne] using g4 _ _ this
      · rw [if_neg hrr] at hr'
        rcases h.row r' e' p hr' with ⟨b1, b2⟩ | ⟨g', cap', cur', b1, b2, b3, b4, b5, b6⟩
        · exact .inl ⟨b1, b2⟩
        · exact .inr ⟨g', cap', cur', b1, (g3 g' (fun e => hrr (by subst e; exact h.inj2 _ _ _ _ _ _ _ hk b1))).trans b2, b3, b4, b5, fun i' j' d' hi' hd => g4 _ _ (b6 i' j' d' hi' hd)⟩
    · rw [PS.r_setR] at hr'
      by_cases hrr : r = r'
      · rw [if_pos hrr] at hr'; cases hr'
      · rw [if_neg hrr] at hr'; exact h.rown r' hr'

theorem wrL_ok : ∀ (ds : List D) (us : List Value) (j : Nat) (s : PS) (w : World) (ob : Prop) (s' : PS) (p : D) (k o : Nat), Rel w0 O0 n M s a w → PtrAt M p k o → ds.length = us.length →
    (∀ i d, ds[i]? = some d → VR M (Ow (Fs w0 O0) M) w d (us.getD i undef)) → wrL s p j ds = some (ob, s') → ob → ∃ w', (storeCells ⟨k, o, none⟩ us j).run P w = .ok () w' ∧ Rel w0 O0 n M s' a w'
  | [], [], j, s, w, ob, s', p, k, o, h, hp, hl, hv, hw, ho => by
    simp only [wrL, Option.some.injEq, Prod.mk.injEq] at hw
    obtain ⟨_, rfl⟩ := hw
    exact ⟨w, by simp [storeCells, go_sem], h⟩
  | d :: ds, u :: us, j, s, w, ob, s', p, k, o, h, hp, hl, hv, hw, ho => by
    simp only [wrL] at hw
    split at hw
    case h_2 => cases hw
    rename_i ob1 s1 h1
    split at hw
    case h_2 => cases hw
    rename_i ob2 s2 h2
    simp only [Option.some.injEq, Prod.mk.injEq] at hw
    obtain ⟨rfl, rfl⟩ := hw
    obtain ⟨w1, g1, g2, g3⟩ := wr_ok (P := P) h hp (by simpa using hv 0 d rfl) h1 ho.1
    obtain ⟨w2, g4, g5⟩ := wrL_ok ds us (j + 1) s1 w1 ob2 s2 p k o g2 hp (by simpa using hl) (fun i d' hd => g3 _ _ (by simpa using hv (i + 1) d' (by simpa using hd))) h2 ho.2
    exact ⟨w2, by simp only [storeCells, Sem.run_bind, add_lit, g1, Result.andThen_ok, g4], g5⟩
  | [], _ :: _, _, _, _, _, _, _, _, _, _, _, hl, _, _, _ => by simp at hl
  | _ :: _, [], _, _, _, _, _, _, _, _, _, _, hl, _, _, _ => by simp at hl

/-! ### rows given up -/
def klS (r : Nat) : D → D
  | .row x o n => match Nat.beq x r with | true => .dead | false => .row x o n
  | .eptr x i o => match Nat.beq x r with | true => .dead | false => .eptr x i o
  | .agg _ | .tup _ => .dead
  | d => d
def klA (r : Nat) : D → D
  | .agg l => .agg (l.map (klS r))
  | d => klS r d
def kl (r : Nat) : D → D
  | .tup l => .tup (l.map (klA r))
  | d => klA r d
def PS.kill (s : PS) (r : Nat) : PS := ⟨s.tmp.map fun p => (p.1, kl r p.2), s.row, s.box.map fun p => (p.1, p.2.map fun cs => cs.map (klS r))⟩
theorem VR.klS {A A' : Bool → Nat → Prop} {M' : Mp} {r : Nat} (hA : ∀ f b, b < w.heap.size → A f b → A' f b ∧ b < w'.heap.size ∧ w'.heap[b]? = w.heap[b]?) (hγ : ∀ x y, x ≠ r → M'.γ x = some y → M.γ x = some y) (hβ : ∀ b k, M'.β b = some k → M.β b = some k)
    {d : D} {v : Value} (h : VR M A w d v) : VR M' A' w' (klS r d) v := by
  cases h with
  | dead v => exact .dead v
  | int n => exact .int n
  | bool b => exact .bool b
  | val v h => exact .val v h
  | nil => exact .nil
  | ro f q ao cap b o u hn hc hao hu hv => exact VR.ro_any (.ro f q ao cap b o u hn hc hao hu hv) hA
  | row x off n v h1 h =>
    simp only [Ytlmlfbjcpajinaa.klS]
    split
    · exact .dead _
    · rename_i hx
      exact .row _ off n v h1 fun y hy => h y (hγ _ y (fun e => by subst e; rw [Nat.beq_refl] at hx; cases hx) hy)
  | ptr b off v h1 h => exact .ptr _ off v h1 fun k hk => h k (hβ b k hk)
  | eptr x i off v h =>
    simp only [Ytlmlfbjcpajinaa.klS]
    split
    · exact .dead _
    · rename_i hx
      exact .eptr _ i off v fun g c z hg => h g c z (hγ _ _ (fun e => by subst e; rw [Nat.beq_refl] at hx; cases hx) hg)
  | rptr f q i off b o u hb hA' hu hv => exact VR.rptr_any (.rptr f q i off b o u hb hA' hu hv) hA
  | agg l us hl h => exact .dead _
  | tup l us hl h => exact .dead _
theorem VR.klA {A A' : Bool → Nat → Prop} {M' : Mp} {r : Nat} (hA : ∀ f b, b < w.heap.size → A f b → A' f b ∧ b < w'.heap.size ∧ w'.heap[b]? = w.heap[b]?) (hγ : ∀ x y, x ≠ r → M'.γ x = some y → M.γ x = some y) (hβ : ∀ b k, M'.β b = some k → M.β b = some k)
    {d : D} {v : Value} (h : VR M A w d v) : VR M' A' w' (klA r d) v := by
  cases d with
  | agg l =>
    cases h with | agg _ us hl h =>
    refine .agg _ us (by simpa using hl) fun i d hd => ?_
    rw [List.getElem?_map] at hd
    obtain ⟨d0, h0, rfl⟩ := Option.map_eq_some_iff.1 hd
    exact (h i d0 h0).klS hA hγ hβ
  | _ => exact VR.klS hA hγ hβ h
theorem VR.kl {A A' : Bool → Nat → Prop} {M' : Mp} {r : Nat} (hA : ∀ f b, b < w.heap.size → A f b → A' f b ∧ b < w'.heap.size ∧ w'.heap[b]? = w.heap[b]?) (hγ : ∀ x y, x ≠ r → M'.γ x = some y → M.γ x = some y) (hβ : ∀ b k, M'.β b = some k → M.β b = some k)
    {d : D} {v : Value} (h : VR M A w d v) : VR M' A' w' (kl r d) v := by
  cases d with
  | tup l =>
    cases h with | tup _ us hl h =>
    refine .tup _ us (by simpa using hl) fun i d hd => ?_
    rw [List.getElem?_map] at hd
    obtain ⟨d0, h0, rfl⟩ := Option.map_eq_some_iff.1 hd
    exact (h i d0 h0).klA hA hγ hβ
  | _ => exact VR.klA hA hγ hβ h
theorem look_map {α β : Type} (f : α → β) (l : List (Nat × α)) (i : Nat) : look (l.map fun p => (p.1, f p.2)) i = (look l i).map f := by
  induction l with
  | nil => rfl
  | cons p l ih =>
    obtain ⟨k, x⟩ := p
    by_cases hk : k = i
    · subst hk; simp [look_cons_self]
    · simp only [List.map_cons, look_cons_ne hk, ih]
theorem PS.t_kill (s : PS) (r t : Nat) : (s.kill r).t t = kl r (s.t t) := by
  unfold PS.t PS.kill
  simp only [look_map (kl r)]
  cases look s.tmp t <;> rfl
theorem PS.b_kill (s : PS) (r b : Nat) : (s.kill r).b b = (s.b b).map fun cs => cs.map (klS r) := by
  unfold PS.b PS.kill
  simp only [look_map (fun (x : Option (List D)) => x.map fun cs => cs.map (Ytlmlfbjcpajinaa.klS r))]
  cases look s.box b <;> rfl
end
end Go.Proofs.Ytlmlfbjcpajinaa
