/- Calls by what is known of the function called, and how that comes to be known. No program in sight. -/
import Derived.Test.YtlmlfbjcpajinaaVk
namespace Go.Proofs.Ytlmlfbjcpajinaa
open Go.RowKit Go.Deep
set_option linter.unusedSimpArgs false
set_option linter.unusedVariables false

def nrL : Nat → List (TypeId × Sq) → List (Nat × Option (TypeId × Sq))
  | _, [] => []
  | B, x :: l => (B, some x) :: nrL (B + 1) l
theorem look_nrL : ∀ (l : List (TypeId × Sq)) (B r : Nat), look (nrL B l) r = if B ≤ r then (l[r - B]?).map some else none
  | [], B, r => by simp [nrL, look]
  | x :: l, B, r => by
    by_cases h : B = r
    · subst h; simp [nrL, look_cons_self]
    · rw [nrL, look_cons_ne h, look_nrL l (B + 1) r]
      by_cases h2 : B ≤ r
      · rw [if_pos (by omega), if_pos h2, show r - B = (r - (B + 1)) + 1 from by omega, List.getElem?_cons_succ]
      · rw [if_neg (by omega), if_neg h2]
/-- what a call leaves: its rows and the value -/
def Rs (w : World) (N : Mp) : Bool → Nat → Prop := fun _ k => w.heap.size ≤ k ∧ ¬ N.owned k
def ArgsOK (w : World) (ds : List D) (args : Array Value) : Prop :=
  args.size = ds.length ∧ ∀ i d, ds[i]? = some d → VR ⟨fun _ => none, fun _ => none⟩ (fun _ _ => True) w d (args.getD i undef)
structure PCall (P : Program) (f : FuncId) (ds : List D) (rows : List (TypeId × Sq)) (d : D) : Prop where
  enter : ∀ args w, (callFunc f args).run P w = .ok (.enter f args) w
  run : ∀ w args, ArgsOK w ds args → Calls P f args w fun e w' => ∃ v, e = .returned v ∧ ∀ B, ∃ N, New N (Rs w N) w w' (nrL B rows) ∧ VR N (Rs w N) w' (ren id (fun j => B + j) d) v

theorem callFunc_of {P : Program} {f : FuncId} {fn : Func} (hf : P.funcs[f]? = some fn) (h1 : (fn.name == "runtime.NumGoroutine") = false) (h2 : fn.body.isNone = false) : ∀ args w, (callFunc f args).run P w = .ok (.enter f args) w := fun args w => by
  unfold callFunc
  show (match P.funcs[f]? with | none => _ | some fn => _ : Sem Next).run P w = _
  rw [hf]
  simp only [h1, h2]
  rfl

/-! ### how a datum fits what a function wants -/
def fitS (s : PS) : D → D → Prop
  | .nil, .ro _ q => q.len = 0
  | .row r 0 m, .ro _ q' => match s.r r with | some (_, q) => (m = q.len ∧ q' = q) ∨ (m ≤ q.len ∧ q' = q.take m) | none => False
  | .row r (off + 1) m, .ro _ q' => match s.r r with | some (_, q) => off + 1 + m ≤ q.len ∧ q' = (q.take (off + 1 + m)).drop (off + 1) | none => False
  | .ro _ q, .ro _ q' => q = q'
  | .agg _, _ => False
  | .tup _, _ => False
  | d, d' => d = d'
def fitL (s : PS) : List D → List D → Prop
  | [], [] => True
  | a :: l, b :: m => fitS s a b ∧ fitL s l m
  | _, _ => False
def fit (s : PS) : D → D → Prop
  | .agg l, .agg m => fitL s l m
  | d, d' => fitS s d d'
def fits (s : PS) : List Operand → List D → Prop
  | [], [] => True
  | x :: l, b :: m => fit s (s.ev x) b ∧ fits s l m
  | _, _ => False

section
variable {w0 : World} {O0 : Nat → Prop} {n : Nat} {M : Mp} {s : PS} {a : Act} {w : World}
abbrev M0 : Mp := ⟨fun _ => none, fun _ => none⟩
def sameD : D → D → Prop
  | .int a, .int b => a = b
  | .bool a, .bool b => a = b
  | .val a, .val b => a = b
  | .ro _ q, .ro _ q' => q = q'
  | _, _ => False
theorem elem_same (f f' : Bool) (q : Sq) (i j : Nat) (d' : D) (h : (q.elem f' i)[j]? = some d') : ∃ d, (q.elem f i)[j]? = some d ∧ sameD d d' := by
  cases q <;> simp only [Sq.elem] at h ⊢ <;> rcases j with _ | _ | j <;> simp at h ⊢ <;> subst h <;> simp [sameD]
theorem VR.same {A : Bool → Nat → Prop} {d : D} {v : Value} (h : VR M A w d v) : ∀ d', sameD d d' → VR M0 (fun _ _ => True) w d' v := by
  induction h with
  | ro f q ao cap b o u hn hc hao hu hv ih =>
    intro d' hd
    cases d' <;> simp only [sameD] at hd
    rename_i f' q'
    subst hd
    refine .ro f' q ao cap b o u hn hc (fun h0 => ⟨(hao h0).1, (hao h0).2.1, trivial⟩) (fun i j d' hi hd' => ?_) (fun i j d' hi hd' => ?_)
    · obtain ⟨d, h1, _⟩ := elem_same f f' q i j d' hd'; exact hu i j d hi h1
    · obtain ⟨d, h1, h2⟩ := elem_same f f' q i j d' hd'; exact ih i j d hi h1 d' h2
  | int n => intro d' hd; cases d' <;> simp only [sameD] at hd; subst hd; exact .int _
  | bool b => intro d' hd; cases d' <;> simp only [sameD] at hd; subst hd; exact .bool _
  | val v h => intro d' hd; cases d' <;> simp only [sameD] at hd; subst hd; exact .val _ h
  | _ => intro d' hd; simp [sameD] at hd
theorem fitS_ok (h : Rel w0 O0 n M s a w) {d d' : D} {v : Value} (hv : VR M (Ow (Fs w0 O0) M) w d v) (hf : fitS s d d') (hno : mentS (fun _ => true) (fun _ => true) d' = false) : VR M0 (fun _ _ => True) w d' v := by
  have hA : ∀ f b, b < w.heap.size → Ow (Fs w0 O0) M f b → True ∧ b < w.heap.size ∧ w.heap[b]? = w.heap[b]? := fun _ b h1 _ => ⟨trivial, h1, rfl⟩
  have plain : ∀ d0, d0 = d' → VR M (Ow (Fs w0 O0) M) w d0 v → VR M0 (fun _ _ => True) w d' v := fun d0 he hv => by
    subst he
    exact VR.newS (b := fun _ => true) (r := fun _ => true) hA (fun x y hx => by simp at hx) (fun x y hx => by simp at hx) hno hv
  have key : ∀ r off m, VR M (Ow (Fs w0 O0) M) w (.row r off m) v → ∀ e q, s.r r = some (e, q) → off + m ≤ q.len → ∀ f, VR M0 (fun _ _ => True) w (.ro f ((q.take (off + m)).drop off)) v := fun r off m hv e q hr hle f => by
    have hlen : ((q.take (off + m)).drop off).len = m := by rw [Sq.len_drop, Sq.len_take]; omega
    have hsz : ((q.take (off + m)).drop off).sz = q.sz := by rw [Sq.sz_drop, Sq.sz_take]
    cases hv with
    | row _ _ _ _ g1 g2 =>
      rcases h.row r e q hr with ⟨hg, h0⟩ | ⟨g, cap, cur, hg, hh, hl, hm, hcs, hc⟩
      · have := g2 _ hg
        simp only [RowV] at this
        obtain ⟨rfl, rfl, rfl⟩ := this
        have := VR.ro (M := M0) (A := fun _ _ => True) (w := w) f ((q.take (0 + 0)).drop 0) none 0 0 0 (fun _ _ => undef) (by omega) (by omega) (by omega) (by intro i j d hi; omega) (by intro i j d hi; omega)
        rwa [hlen] at this
      · have := g2 _ hg
        simp only [RowV] at this
        obtain ⟨h1, ao, h2, h3⟩ := this
        have hcell : ∀ i j d, i < m → (q.elem f (off + i))[j]? = some d → (off + i) * q.sz + j < cur.size := fun i j d hi hd => by
          have hj : j < q.sz := by rw [← Sq.elem_len f q (off + i)]; exact (List.getElem?_eq_some_iff.1 hd).1
          rw [hcs]
          have h4 : (off + i + 1) * q.sz ≤ cap * q.sz := Nat.mul_le_mul_right _ (by omega)
          rw [Nat.add_mul, Nat.one_mul] at h4; omega
        have := VR.ro (M := M0) (A := fun _ _ => True) (w := w) f ((q.take (off + m)).drop off) ao (cap - off) g (off * q.sz) (fun i j => cur.getD ((off + i) * q.sz + j) undef) (by omega) (by omega)
          (fun h0 => ⟨h3 (by omega), (Array.getElem?_eq_some_iff.1 hh).1, trivial⟩)
          (fun i j d hi hd => by
            rw [hlen] at hi
            rw [Sq.elem_sub _ _ _ _ _ (by omega)] at hd
            have hlt := hcell i j d hi hd
            rw [hsz, show off * q.sz + i * q.sz + j = (off + i) * q.sz + j from by rw [Nat.add_mul], cell_of_row w g _ cur e (0, 0) hh]
            simp [hlt])
          (fun i j d hi hd => by
            rw [hlen] at hi
            rw [Sq.elem_sub _ _ _ _ _ (by omega)] at hd
            obtain ⟨d0, h5, h6⟩ := elem_same true f q (off + i) j d hd
            exact (hc (off + i) j d0 (by omega) h5).same d h6)
        rw [hlen] at this
        rw [h2]; exact this
  cases d with
  | nil =>
    by_cases hro : ∃ f q, d' = .ro f q
    · obtain ⟨f, q, rfl⟩ := hro
      simp only [fitS] at hf
      rw [hv.nil_inv]
      have := VR.ro (M := M0) (A := fun _ _ => True) (w := w) f q none 0 0 0 (fun _ _ => undef) (by omega) (by omega) (by omega) (by intro i j d hi; omega) (by intro i j d hi; omega)
      rwa [hf] at this
    · exact plain _ (by cases d' <;> first | exact hf | exact absurd ⟨_, _, rfl⟩ hro) hv
  | row r off m =>
    by_cases hro : ∃ f q, d' = .ro f q
    · obtain ⟨f, q', rfl⟩ := hro
      cases off <;> simp only [fitS] at hf
      · split at hf
        · rename_i e q hr
          rcases hf with ⟨rfl, rfl⟩ | ⟨h1, rfl⟩
          · have := key r 0 _ hv e _ hr (by omega) f
            rw [Nat.zero_add, Sq.take_len] at this
            cases q' <;> simpa [Sq.drop] using this
          · have := key r 0 m hv e q hr (by omega) f
            rw [Nat.zero_add] at this
            cases q <;> simpa [Sq.drop, Sq.take] using this
        · exact hf.elim
      · rename_i off
        split at hf
        · rename_i e q hr
          obtain ⟨h1, rfl⟩ := hf
          exact key r (off + 1) m hv e q hr h1 f
        · exact hf.elim
    · exact plain _ (by cases d' <;> cases off <;> first | exact hf | exact absurd ⟨_, _, rfl⟩ hro) hv
  | ro f q =>
    by_cases hro : ∃ f q, d' = .ro f q
    · obtain ⟨f', q', rfl⟩ := hro
      simp only [fitS] at hf
      subst hf
      exact hv.same _ rfl
    · exact plain _ (by cases d' <;> first | exact hf | exact absurd ⟨_, _, rfl⟩ hro) hv
  | agg l => simp [fitS] at hf
  | tup l => simp [fitS] at hf
  | _ => simp only [fitS] at hf; exact plain _ hf hv
end
end Go.Proofs.Ytlmlfbjcpajinaa
