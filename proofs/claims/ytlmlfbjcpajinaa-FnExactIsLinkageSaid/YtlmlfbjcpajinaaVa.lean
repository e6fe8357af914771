/- Data as a call sees it, and how it lies in memory. No program in sight. -/
import Derived.WalkKit
import Derived.ProofKit
import Derived.Below
namespace Go.Proofs.Ytlmlfbjcpajinaa
open Go.RowKit
set_option linter.unusedSimpArgs false
set_option linter.unusedVariables false

/-- What a slice holds, by the kind of its elements. -/
inductive Sq where
  | ints (l : List Int)
  | pairs (l : List (Int × Int))
  | bools (l : List Bool)
  | intss (l : List (List Int))
  | pairss (l : List (List (Int × Int)))
  | boolss (l : List (List Bool))
  | raises (l : List (Int × List Int))
  | strs (l : List ByteArray)

inductive D where
  | dead
  | int (n : Int)
  | bool (b : Bool)
  | val (v : Value)
  | nil
  | ro (f : Bool) (q : Sq)
  | row (r off n : Nat)
  | ptr (b off : Nat)
  | eptr (r : Nat) (i : Int) (off : Nat)
  | rptr (f : Bool) (q : Sq) (i : Int) (off : Nat)
  | agg (l : List D)
  | tup (l : List D)

def Sq.sz : Sq → Nat
  | .pairs _ | .raises _ => 2
  | _ => 1
def Sq.len : Sq → Nat
  | .ints l => l.length | .pairs l => l.length | .bools l => l.length | .intss l => l.length | .pairss l => l.length | .boolss l => l.length | .raises l => l.length | .strs l => l.length
/-- the cells of element i -/
def Sq.elem (f : Bool) : Sq → Nat → List D
  | .ints l, i => [.int (l.getD i 0)]
  | .pairs l, i => [.int (l.getD i (0, 0)).1, .int (l.getD i (0, 0)).2]
  | .bools l, i => [.bool (l.getD i false)]
  | .intss l, i => [.ro f (.ints (l.getD i []))]
  | .pairss l, i => [.ro f (.pairs (l.getD i []))]
  | .boolss l, i => [.ro f (.bools (l.getD i []))]
  | .raises l, i => [.int (l.getD i (0, [])).1, .ro f (.ints (l.getD i (0, [])).2)]
  | .strs l, i => [.val (.string (l.getD i ByteArray.empty))]
theorem Sq.elem_len (f : Bool) (q : Sq) (i : Nat) : (q.elem f i).length = q.sz := by cases q <;> rfl
/-- no slices among the elements -/
def Sq.flat : Sq → Bool
  | .ints _ | .pairs _ | .bools _ | .strs _ => true
  | _ => false
theorem Sq.elem_flat {q : Sq} (h : q.flat = true) (f f' : Bool) (i : Nat) : q.elem f i = q.elem f' i := by cases q <;> first | rfl | (simp [Sq.flat] at h)
def Sq.take : Sq → Nat → Sq
  | .ints l, k => .ints (l.take k) | .pairs l, k => .pairs (l.take k) | .bools l, k => .bools (l.take k) | .intss l, k => .intss (l.take k) | .pairss l, k => .pairss (l.take k)
  | .boolss l, k => .boolss (l.take k) | .raises l, k => .raises (l.take k) | .strs l, k => .strs (l.take k)
def Sq.drop : Sq → Nat → Sq
  | .ints l, k => .ints (l.drop k) | .pairs l, k => .pairs (l.drop k) | .bools l, k => .bools (l.drop k) | .intss l, k => .intss (l.drop k) | .pairss l, k => .pairss (l.drop k)
  | .boolss l, k => .boolss (l.drop k) | .raises l, k => .raises (l.drop k) | .strs l, k => .strs (l.drop k)
def Sq.app : Sq → Sq → Option Sq
  | .ints l, .ints m => some (.ints (l ++ m)) | .pairs l, .pairs m => some (.pairs (l ++ m)) | .bools l, .bools m => some (.bools (l ++ m)) | .intss l, .intss m => some (.intss (l ++ m))
  | .pairss l, .pairss m => some (.pairss (l ++ m)) | .boolss l, .boolss m => some (.boolss (l ++ m)) | .raises l, .raises m => some (.raises (l ++ m)) | .strs l, .strs m => some (.strs (l ++ m))
  | _, _ => none
/-- a store of one cell into element i -/
def Sq.set : Sq → Nat → Nat → D → Option Sq
  | .ints l, i, 0, .int x => some (.ints (l.set i x))
  | .pairs l, i, 0, .int x => some (.pairs (l.set i (x, (l.getD i (0, 0)).2)))
  | .pairs l, i, 1, .int x => some (.pairs (l.set i ((l.getD i (0, 0)).1, x)))
  | .bools l, i, 0, .bool x => some (.bools (l.set i x))
  | .intss l, i, 0, .ro true (.ints x) => some (.intss (l.set i x))
  | .pairss l, i, 0, .ro true (.pairs x) => some (.pairss (l.set i x))
  | .boolss l, i, 0, .ro true (.bools x) => some (.boolss (l.set i x))
  | _, _, _, _ => none
/-- n zeros of this kind -/
def Sq.zeros : Sq → Nat → Sq
  | .ints _, n => .ints (List.replicate n 0) | .pairs _, n => .pairs (List.replicate n (0, 0)) | .bools _, n => .bools (List.replicate n false) | .intss _, n => .intss (List.replicate n [])
  | .pairss _, n => .pairss (List.replicate n []) | .boolss _, n => .boolss (List.replicate n []) | .raises _, n => .raises (List.replicate n (0, [])) | .strs _, n => .strs (List.replicate n ByteArray.empty)

/-- Where the boxes and the rows of a call lie: a box's block; a row's block, capacity and cells an element (none: the nil row). -/
structure Mp where
  β : Nat → Option Nat
  γ : Nat → Option (Option (Nat × Nat × Nat))
def RowV (x : Option (Nat × Nat × Nat)) (off n : Nat) (v : Value) : Prop :=
  match x with
  | none => v = .slice none 0 0 ∧ n = 0 ∧ off = 0
  | some (g, cap, z) => off + n ≤ cap ∧ ∃ ao, v = .slice ao n (cap - off) ∧ (off < cap ∨ off = 0 → ao = some ⟨g, off * z, none⟩)

/-- The value v reads as d in w; A: where memory that is only read may lie. -/
inductive VR (M : Mp) (A : Bool → Nat → Prop) (w : World) : D → Value → Prop
  | dead (v : Value) : VR M A w .dead v
  | int (n : Int) : VR M A w (.int n) (.int .i64 n)
  | bool (b : Bool) : VR M A w (.bool b) (.bool b)
  | val (v : Value) (h : v.oneCell' = true) : VR M A w (.val v) v
  | nil : VR M A w .nil (.slice none 0 0)
  | ro (f : Bool) (q : Sq) (ao : Option Addr) (cap b o : Nat) (u : Nat → Nat → Value) (hn : q.len ≤ maxLen) (hc : q.len ≤ cap) (hao : 0 < q.len → ao = some ⟨b, o, none⟩ ∧ b < w.heap.size ∧ A f b)
      (hu : ∀ i j d, i < q.len → (q.elem f i)[j]? = some d → w.cell? ⟨b, o + i * q.sz + j, none⟩ = some (u i j))
      (hv : ∀ i j d, i < q.len → (q.elem f i)[j]? = some d → VR M A w d (u i j)) : VR M A w (.ro f q) (.slice ao q.len cap)
  | row (r off n : Nat) (v : Value) (h1 : v.oneCell' = true) (h : ∀ x, M.γ r = some x → RowV x off n v) : VR M A w (.row r off n) v
  | ptr (b off : Nat) (v : Value) (h1 : v.oneCell' = true) (h : ∀ k, M.β b = some k → v = .pointer (some ⟨k, off, none⟩)) : VR M A w (.ptr b off) v
  | eptr (r : Nat) (i : Int) (off : Nat) (v : Value) (h : ∀ g c z, M.γ r = some (some (g, c, z)) → v = .pointer (some ⟨g, i.toNat * z + off, none⟩)) : VR M A w (.eptr r i off) v
  | rptr (f : Bool) (q : Sq) (i : Int) (off b o : Nat) (u : Nat → Value) (hb : b < w.heap.size) (hA : A f b) (hu : ∀ j d, (q.elem f i.toNat)[j]? = some d → w.cell? ⟨b, o + j, none⟩ = some (u j))
      (hv : ∀ j d, (q.elem f i.toNat)[j]? = some d → VR M A w d (u j)) : VR M A w (.rptr f q i off) (.pointer (some ⟨b, o + off, none⟩))
  | agg (l : List D) (us : Array Value) (hl : l.length = us.size) (h : ∀ i d, l[i]? = some d → VR M A w d (us.getD i undef)) : VR M A w (.agg l) (.agg us)
  | tup (l : List D) (us : Array Value) (hl : l.length = us.size) (h : ∀ i d, l[i]? = some d → VR M A w d (us.getD i undef)) : VR M A w (.tup l) (.tuple us)

theorem VR.mono {M M' : Mp} {A A' : Bool → Nat → Prop} {w w' : World} {d : D} {v : Value} (h : VR M A w d v)
    (hA : ∀ f b, b < w.heap.size → A f b → A' f b ∧ b < w'.heap.size ∧ w'.heap[b]? = w.heap[b]?)
    (hγ : ∀ r x, M'.γ r = some x → M.γ r = some x) (hβ : ∀ b k, M'.β b = some k → M.β b = some k) : VR M' A' w' d v := by
  induction h with
  | dead v => exact .dead v
  | int n => exact .int n
  | bool b => exact .bool b
  | val v h => exact .val v h
  | nil => exact .nil
  | ro f q ao cap b o u hn hc hao hu hv ih =>
    refine .ro f q ao cap b o u hn hc (fun h0 => ?_) (fun i j d hi hd => ?_) ih
    · obtain ⟨h1, h2, h3⟩ := hao h0
      obtain ⟨a1, a2, a3⟩ := hA _ b h2 h3
      exact ⟨h1, a2, a1⟩
    · obtain ⟨h1, h2, h3⟩ := hao (by omega)
      rw [World.cell?_of_block (w := w) (hA _ b h2 h3).2.2]; exact hu i j d hi hd
  | row r off n v h1 h => exact .row r off n v h1 fun x hx => h x (hγ r x hx)
  | ptr b off v h1 h => exact .ptr b off v h1 fun k hk => h k (hβ b k hk)
  | eptr r i off v h => exact .eptr r i off v fun g c z hg => h g c z (hγ r _ hg)
  | rptr f q i off b o u hb hA' hu hv ih =>
    obtain ⟨a1, a2, a3⟩ := hA _ b hb hA'
    exact .rptr f q i off b o u a2 a1 (fun j d hd => by rw [World.cell?_of_block (w := w) a3]; exact hu j d hd) ih
  | agg l us hl h ih => exact .agg l us hl ih
  | tup l us hl h ih => exact .tup l us hl ih

/-! ### what a datum names, and other names for it -/
def mentS (b r : Nat → Bool) : D → Bool
  | .row x _ _ | .eptr x _ _ => r x
  | .ptr x _ => b x
  | .agg _ | .tup _ => true
  | _ => false
def mentA (b r : Nat → Bool) : D → Bool
  | .agg l => l.any (mentS b r)
  | d => mentS b r d
def ment (b r : Nat → Bool) : D → Bool
  | .tup l => l.any (mentA b r)
  | d => mentA b r d
def renS (τ σ : Nat → Nat) : D → D
  | .row x o n => .row (σ x) o n
  | .eptr x i o => .eptr (σ x) i o
  | .ptr x o => .ptr (τ x) o
  | .agg _ | .tup _ => .dead
  | d => d
def renA (τ σ : Nat → Nat) : D → D
  | .agg l => .agg (l.map (renS τ σ))
  | d => renS τ σ d
def ren (τ σ : Nat → Nat) : D → D
  | .tup l => .tup (l.map (renA τ σ))
  | d => renA τ σ d

section
variable {M M' : Mp} {A A' : Bool → Nat → Prop} {w w' : World}

/-- A datum of memory that is only read names nothing. -/
theorem VR.ro_any {f : Bool} {q : Sq} {v : Value} (h : VR M A w (.ro f q) v) (hA : ∀ f b, b < w.heap.size → A f b → A' f b ∧ b < w'.heap.size ∧ w'.heap[b]? = w.heap[b]?) : VR M' A' w' (.ro f q) v := by
  generalize hd : D.ro f q = d at h
  have key : ∀ d v, VR M A w d v → (match d with | .ro _ _ | .int _ | .bool _ | .val _ => True | _ => False) → VR M' A' w' d v := by
    intro d v h
    induction h with
    | dead v => intro h; exact h.elim
    | int n => exact fun _ => .int n
    | bool b => exact fun _ => .bool b
    | val v h => exact fun _ => .val v h
    | nil => intro h; exact h.elim
    | ro f q ao cap b o u hn hc hao hu hv ih =>
      intro _
      refine .ro f q ao cap b o u hn hc (fun h0 => ?_) (fun i j d hi hd => ?_) (fun i j d hi hd => ih i j d hi hd ?_)
      · obtain ⟨h1, h2, h3⟩ := hao h0
        obtain ⟨a1, a2, a3⟩ := hA _ b h2 h3
        exact ⟨h1, a2, a1⟩
      · obtain ⟨h1, h2, h3⟩ := hao (by omega)
        rw [World.cell?_of_block (w := w) (hA _ b h2 h3).2.2]; exact hu i j d hi hd
      · cases q <;> simp only [Sq.elem] at hd <;> rcases j with _ | _ | j <;> simp at hd <;> subst hd <;> trivial
    | row => intro h; exact h.elim
    | ptr => intro h; exact h.elim
    | eptr => intro h; exact h.elim
    | rptr => intro h; exact h.elim
    | agg => intro h; exact h.elim
    | tup => intro h; exact h.elim
  subst hd
  exact key _ _ h trivial

/-- the same for what an element holds -/
theorem VR.elem_any {f : Bool} {q : Sq} {i j : Nat} {d : D} {v : Value} (hd : (q.elem f i)[j]? = some d) (h : VR M A w d v) (hA : ∀ f b, b < w.heap.size → A f b → A' f b ∧ b < w'.heap.size ∧ w'.heap[b]? = w.heap[b]?) : VR M' A' w' d v := by
  cases q <;> simp only [Sq.elem] at hd <;> rcases j with _ | _ | j <;> simp at hd <;> subst hd <;> first
    | exact h.ro_any hA
    | (cases h; first | exact .int _ | exact .bool _ | exact .val _ (by assumption))

theorem VR.rptr_any {f : Bool} {q : Sq} {i : Int} {o : Nat} {v : Value} (h : VR M A w (.rptr f q i o) v) (hA : ∀ f b, b < w.heap.size → A f b → A' f b ∧ b < w'.heap.size ∧ w'.heap[b]? = w.heap[b]?) : VR M' A' w' (.rptr f q i o) v := by
  cases h with
  | rptr _ _ _ _ b o u hb hA' hu hv =>
    obtain ⟨a1, a2, a3⟩ := hA _ b hb hA'
    exact .rptr f q i _ b o u a2 a1 (fun j d hd => by rw [World.cell?_of_block (w := w) a3]; exact hu j d hd) (fun j d hd => (hv j d hd).elem_any hd hA)

theorem VR.renS {τ σ : Nat → Nat} (hA : ∀ f b, b < w.heap.size → A f b → A' f b ∧ b < w'.heap.size ∧ w'.heap[b]? = w.heap[b]?)
    (hγ : ∀ r x, M'.γ (σ r) = some x → M.γ r = some x) (hβ : ∀ b k, M'.β (τ b) = some k → M.β b = some k) {d : D} {v : Value} (h : VR M A w d v) : VR M' A' w' (renS τ σ d) v := by
  cases h with
  | dead v => exact .dead v
  | int n => exact .int n
  | bool b => exact .bool b
  | val v h => exact .val v h
  | nil => exact .nil
  | ro f q ao cap b o u hn hc hao hu hv => exact VR.ro_any (.ro f q ao cap b o u hn hc hao hu hv) hA
  | row r off n v h1 h => exact .row _ off n v h1 fun x hx => h x (hγ r x hx)
  | ptr b off v h1 h => exact .ptr _ off v h1 fun k hk => h k (hβ b k hk)
  | eptr r i off v h => exact .eptr _ i off v fun g c z hg => h g c z (hγ r _ hg)
  | rptr f q i off b o u hb hA' hu hv => exact VR.rptr_any (.rptr f q i off b o u hb hA' hu hv) hA
  | agg l us hl h => exact .dead _
  | tup l us hl h => exact .dead _
theorem VR.renA {τ σ : Nat → Nat} (hA : ∀ f b, b < w.heap.size → A f b → A' f b ∧ b < w'.heap.size ∧ w'.heap[b]? = w.heap[b]?)
    (hγ : ∀ r x, M'.γ (σ r) = some x → M.γ r = some x) (hβ : ∀ b k, M'.β (τ b) = some k → M.β b = some k) {d : D} {v : Value} (h : VR M A w d v) : VR M' A' w' (renA τ σ d) v := by
  cases d with
  | agg l =>
    cases h with | agg _ us hl h =>
    refine .agg _ us (by simpa using hl) fun i d hd => ?_
    rw [List.getElem?_map] at hd
    obtain ⟨d0, h0, rfl⟩ := Option.map_eq_some_iff.1 hd
    exact (h i d0 h0).renS hA hγ hβ
  | _ => exact VR.renS hA hγ hβ h
theorem VR.ren {τ σ : Nat → Nat} (hA : ∀ f b, b < w.heap.size → A f b → A' f b ∧ b < w'.heap.size ∧ w'.heap[b]? = w.heap[b]?)
    (hγ : ∀ r x, M'.γ (σ r) = some x → M.γ r = some x) (hβ : ∀ b k, M'.β (τ b) = some k → M.β b = some k) {d : D} {v : Value} (h : VR M A w d v) : VR M' A' w' (ren τ σ d) v := by
  cases d with
  | tup l =>
    cases h with | tup _ us hl h =>
    refine .tup _ us (by simpa using hl) fun i d hd => ?_
    rw [List.getElem?_map] at hd
    obtain ⟨d0, h0, rfl⟩ := Option.map_eq_some_iff.1 hd
    exact (h i d0 h0).renA hA hγ hβ
  | _ => exact VR.renA hA hγ hβ h

/-- back -/
theorem VR.unrenS {τ σ : Nat → Nat} (hγ : ∀ r x, M.γ r = some x → M'.γ (σ r) = some x) (hβ : ∀ b k, M.β b = some k → M'.β (τ b) = some k)
    (hA : ∀ f b, b < w.heap.size → A' f b → A f b) {d : D} {v : Value} (hd : mentS (fun _ => false) (fun _ => false) d = false) (h : VR M' A' w (Ytlmlfbjcpajinaa.renS τ σ d) v) : VR M A w d v := by
  have hA' : ∀ f b, b < w.heap.size → A' f b → A f b ∧ b < w.heap.size ∧ w.heap[b]? = w.heap[b]? := fun f b h1 h2 => ⟨hA f b h1 h2, h1, rfl⟩
  cases d with
  | dead => exact .dead v
  | int n => cases h; exact .int n
  | bool b => cases h; exact .bool b
  | val v => cases h; exact .val _ (by assumption)
  | nil => cases h; exact .nil
  | ro f q => exact VR.ro_any (M := M') h hA'
  | row r off n => cases h with | row _ _ _ _ h1 h => exact .row r off n v h1 fun x hx => h x (hγ r x hx)
  | ptr b off => cases h with | ptr _ _ _ h1 h => exact .ptr b off v h1 fun k hk => h k (hβ b k hk)
  | eptr r i off => cases h with | eptr _ _ _ _ h => exact .eptr r i off v fun g c z hg => h g c z (hγ r _ hg)
  | rptr f q i off => exact VR.rptr_any (M := M') h hA'
  | agg l => simp [mentS] at hd
  | tup l => simp [mentS] at hd
theorem VR.unrenA {τ σ : Nat → Nat} (hγ : ∀ r x, M.γ r = some x → M'.γ (σ r) = some x) (hβ : ∀ b k, M.β b = some k → M'.β (τ b) = some k)
    (hA : ∀ f b, b < w.heap.size → A' f b → A f b) {d : D} {v : Value} (hd : mentA (fun _ => false) (fun _ => false) d = false) (h : VR M' A' w (Ytlmlfbjcpajinaa.renA τ σ d) v) : VR M A w d v := by
  cases d with
  | agg l =>
    cases h with
    | agg _ us hl h =>
      refine .agg _ us (by simpa using hl) fun i d hi => ?_
      have := h i (Ytlmlfbjcpajinaa.renS τ σ d) (by simp [hi])
      refine VR.unrenS hγ hβ hA ?_ this
      simp only [mentA, List.any_eq_false] at hd
      simpa using hd d (List.mem_of_getElem? hi)
  | _ => exact VR.unrenS hγ hβ hA hd h
theorem VR.unren {τ σ : Nat → Nat} (hγ : ∀ r x, M.γ r = some x → M'.γ (σ r) = some x) (hβ : ∀ b k, M.β b = some k → M'.β (τ b) = some k)
    (hA : ∀ f b, b < w.heap.size → A' f b → A f b) {d : D} {v : Value} (hd : ment (fun _ => false) (fun _ => false) d = false) (h : VR M' A' w (Ytlmlfbjcpajinaa.ren τ σ d) v) : VR M A w d v := by
  cases d with
  | tup l =>
    cases h with
    | tup _ us hl h =>
      refine .tup _ us (by simpa using hl) fun i d hi => ?_
      have := h i (Ytlmlfbjcpajinaa.renA τ σ d) (by simp [hi])
      refine VR.unrenA hγ hβ hA ?_ this
      simp only [ment, List.any_eq_false] at hd
      simpa using hd d (List.mem_of_getElem? hi)
  | _ => exact VR.unrenA hγ hβ hA hd h

/-- New names, where the datum does not name them. -/
theorem VR.newS {b r : Nat → Bool} (hA : ∀ f b, b < w.heap.size → A f b → A' f b ∧ b < w'.heap.size ∧ w'.heap[b]? = w.heap[b]?)
    (hγ : ∀ x y, r x = false → M'.γ x = some y → M.γ x = some y) (hβ : ∀ x k, b x = false → M'.β x = some k → M.β x = some k) {d : D} {v : Value} (hd : mentS b r d = false) (h : VR M A w d v) : VR M' A' w' d v := by
  cases h with
  | dead v => exact .dead v
  | int n => exact .int n
  | bool b => exact .bool b
  | val v h => exact .val v h
  | nil => exact .nil
  | ro f q ao cap b o u hn hc hao hu hv => exact VR.ro_any (.ro f q ao cap b o u hn hc hao hu hv) hA
  | row r off n v h1 h => exact .row _ off n v h1 fun x hx => h x (hγ _ x hd hx)
  | ptr b off v h1 h => exact .ptr _ off v h1 fun k hk => h k (hβ _ k hd hk)
  | eptr r i off v h => exact .eptr _ i off v fun g c z hg => h g c z (hγ _ _ hd hg)
  | rptr f q i off b o u hb hA' hu hv => exact VR.rptr_any (.rptr f q i off b o u hb hA' hu hv) hA
  | agg l us hl h => simp [mentS] at hd
  | tup l us hl h => simp [mentS] at hd
theorem VR.newA {b r : Nat → Bool} (hA : ∀ f b, b < w.heap.size → A f b → A' f b ∧ b < w'.heap.size ∧ w'.heap[b]? = w.heap[b]?)
    (hγ : ∀ x y, r x = false → M'.γ x = some y → M.γ x = some y) (hβ : ∀ x k, b x = false → M'.β x = some k → M.β x = some k) {d : D} {v : Value} (hd : mentA b r d = false) (h : VR M A w d v) : VR M' A' w' d v := by
  cases d with
  | agg l =>
    cases h with | agg _ us hl h =>
    refine .agg _ us hl fun i d hi => VR.newS hA hγ hβ ?_ (h i d hi)
    simp only [mentA, List.any_eq_false] at hd
    simpa using hd d (List.mem_of_getElem? hi)
  | _ => exact VR.newS hA hγ hβ hd h
theorem VR.new {b r : Nat → Bool} (hA : ∀ f b, b < w.heap.size → A f b → A' f b ∧ b < w'.heap.size ∧ w'.heap[b]? = w.heap[b]?)
    (hγ : ∀ x y, r x = false → M'.γ x = some y → M.γ x = some y) (hβ : ∀ x k, b x = false → M'.β x = some k → M.β x = some k) {d : D} {v : Value} (hd : ment b r d = false) (h : VR M A w d v) : VR M' A' w' d v := by
  cases d with
  | tup l =>
    cases h with | tup _ us hl h =>
    refine .tup _ us hl fun i d hi => VR.newA hA hγ hβ ?_ (h i d hi)
    simp only [ment, List.any_eq_false] at hd
    simpa using hd d (List.mem_of_getElem? hi)
  | _ => exact VR.newA hA hγ hβ hd h
end
end Go.Proofs.Ytlmlfbjcpajinaa
