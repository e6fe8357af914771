/- Texts without a program, put together by merge.py: Va Vb Vc Vd Ve Vf Vg Vh Vi Vj Vk. -/
import Derived.WalkKit
import Derived.ProofKit
import Derived.Below
import Derived.Laws.Cells
import Derived.Deep.Slices
import Derived.Maps.AppendAt
import Derived.Laws.OwnMore
import Derived.Orders
import Derived.Laws.MakeOwn
import Derived.Test.YtlmlfbjcpajinaaM0
/-! ## Va -/
namespace Go.Proofs.Ytlmlfbjcpajinaa
open Go.RowKit
set_option linter.unusedSimpArgs false
set_option linter.unusedVariables false

/-- What a slice holds, by the kind of its elements. -/
inductive Sq where
  | ints (l : List Int)
  | pairs (l : List (Int × Int))
  | bools (l : List Bool)
  | intss (l : List (List Int))
  | pairss (l : List (List (Int × Int)))
  | boolss (l : List (List Bool))
  | raises (l : List (Int × List Int))
  | strs (l : List ByteArray)

inductive D where
  | dead
  | int (n : Int)
  | bool (b : Bool)
  | val (v : Value)
  | nil
  | ro (f : Bool) (q : Sq)
  | row (r off n : Nat)
  | ptr (b off : Nat)
  | eptr (r : Nat) (i : Int) (off : Nat)
  | rptr (f : Bool) (q : Sq) (i : Int) (off : Nat)
  | agg (l : List D)
  | tup (l : List D)
  | clo (f : FuncId) (bs : List Nat)
  | map (k : Nat) (l : List (Int × Int))
  | any

def Sq.sz : Sq → Nat
  | .pairs _ | .raises _ => 2
  | _ => 1
def Sq.len : Sq → Nat
  | .ints l => l.length | .pairs l => l.length | .bools l => l.length | .intss l => l.length | .pairss l => l.length | .boolss l => l.length | .raises l => l.length | .strs l => l.length
/-- the cells of element i -/
def Sq.elem (f : Bool) : Sq → Nat → List D
  | .ints l, i => [.int (l.getD i 0)]
  | .pairs l, i => [.int (l.getD i (0, 0)).1, .int (l.getD i (0, 0)).2]
  | .bools l, i => [.bool (l.getD i false)]
  | .intss l, i => [.ro f (.ints (l.getD i []))]
  | .pairss l, i => [.ro f (.pairs (l.getD i []))]
  | .boolss l, i => [.ro f (.bools (l.getD i []))]
  | .raises l, i => [.int (l.getD i (0, [])).1, .ro f (.ints (l.getD i (0, [])).2)]
  | .strs l, i => [.val (.string (l.getD i ByteArray.empty))]
theorem Sq.elem_len (f : Bool) (q : Sq) (i : Nat) : (q.elem f i).length = q.sz := by cases q <;> rfl
/-- no slices among the elements -/
def Sq.flat : Sq → Bool
  | .ints _ | .pairs _ | .bools _ | .strs _ => true
  | _ => false
theorem Sq.elem_flat {q : Sq} (h : q.flat = true) (f f' : Bool) (i : Nat) : q.elem f i = q.elem f' i := by cases q <;> first | rfl | (simp [Sq.flat] at h)
def Sq.take : Sq → Nat → Sq
  | .ints l, k => .ints (l.take k) | .pairs l, k => .pairs (l.take k) | .bools l, k => .bools (l.take k) | .intss l, k => .intss (l.take k) | .pairss l, k => .pairss (l.take k)
  | .boolss l, k => .boolss (l.take k) | .raises l, k => .raises (l.take k) | .strs l, k => .strs (l.take k)
def Sq.drop : Sq → Nat → Sq
  | .ints l, k => .ints (l.drop k) | .pairs l, k => .pairs (l.drop k) | .bools l, k => .bools (l.drop k) | .intss l, k => .intss (l.drop k) | .pairss l, k => .pairss (l.drop k)
  | .boolss l, k => .boolss (l.drop k) | .raises l, k => .raises (l.drop k) | .strs l, k => .strs (l.drop k)
def Sq.app : Sq → Sq → Option Sq
  | .ints l, .ints m => some (.ints (l ++ m)) | .pairs l, .pairs m => some (.pairs (l ++ m)) | .bools l, .bools m => some (.bools (l ++ m)) | .intss l, .intss m => some (.intss (l ++ m))
  | .pairss l, .pairss m => some (.pairss (l ++ m)) | .boolss l, .boolss m => some (.boolss (l ++ m)) | .raises l, .raises m => some (.raises (l ++ m)) | .strs l, .strs m => some (.strs (l ++ m))
  | _, _ => none
/-- a store of one cell into element i -/
def Sq.set : Sq → Nat → Nat → D → Option Sq
  | .ints l, i, 0, .int x => some (.ints (l.set i x))
  | .pairs l, i, 0, .int x => some (.pairs (l.set i (x, (l.getD i (0, 0)).2)))
  | .pairs l, i, 1, .int x => some (.pairs (l.set i ((l.getD i (0, 0)).1, x)))
  | .bools l, i, 0, .bool x => some (.bools (l.set i x))
  | .intss l, i, 0, .ro true (.ints x) => some (.intss (l.set i x))
  | .pairss l, i, 0, .ro true (.pairs x) => some (.pairss (l.set i x))
  | .boolss l, i, 0, .ro true (.bools x) => some (.boolss (l.set i x))
  | _, _, _, _ => none
/-- n zeros of this kind -/
def Sq.zeros : Sq → Nat → Sq
  | .ints _, n => .ints (List.replicate n 0) | .pairs _, n => .pairs (List.replicate n (0, 0)) | .bools _, n => .bools (List.replicate n false) | .intss _, n => .intss (List.replicate n [])
  | .pairss _, n => .pairss (List.replicate n []) | .boolss _, n => .boolss (List.replicate n []) | .raises _, n => .raises (List.replicate n (0, [])) | .strs _, n => .strs (List.replicate n ByteArray.empty)

/-- Where the boxes and the rows of a call lie: a box's block; a row's block, capacity and cells an element (none: the nil row). -/
structure Mp where
  β : Nat → Option Nat
  γ : Nat → Option (Option (Nat × Nat × Nat))
def RowV (x : Option (Nat × Nat × Nat)) (off n : Nat) (v : Value) : Prop :=
  match x with
  | none => (∃ ao, v = .slice ao 0 0) ∧ n = 0 ∧ off = 0
  | some (g, cap, z) => off + n ≤ cap ∧ ∃ ao, v = .slice ao n (cap - off) ∧ (off < cap ∨ off = 0 → ao = some ⟨g, off * z, none⟩)

/-- the blocks of boxes named -/
def capsOf (β : Nat → Option Nat) : List Nat → Option (List Nat)
  | [] => some []
  | b :: l => match β b, capsOf β l with | some k, some ks => some (k :: ks) | _, _ => none
theorem capsOf_mono {β β' : Nat → Option Nat} {τ : Nat → Nat} : ∀ {bs : List Nat}, (∀ b ∈ bs, ∀ k, β' (τ b) = some k → β b = some k) → ∀ {ks : List Nat}, capsOf β' (bs.map τ) = some ks → capsOf β bs = some ks
  | [], _, ks, h => h
  | b :: bs, hm, ks, h => by
    simp only [List.map_cons, capsOf] at h ⊢
    split at h
    · rename_i k ks' h1 h2
      cases h
      rw [hm b (by simp) k h1, capsOf_mono (fun x hx => hm x (by simp [hx])) h2]
    · cases h
theorem capsOf_mono' {β β' : Nat → Option Nat} {bs : List Nat} (hm : ∀ b ∈ bs, ∀ k, β' b = some k → β b = some k) {ks : List Nat} (h : capsOf β' bs = some ks) : capsOf β bs = some ks :=
  capsOf_mono (τ := fun x => x) hm (by simpa using h)
theorem capsOf_mono_un {β β' : Nat → Option Nat} {τ : Nat → Nat} (hm : ∀ b k, β b = some k → β' (τ b) = some k) : ∀ {bs : List Nat} {ks : List Nat}, capsOf β bs = some ks → capsOf β' (bs.map τ) = some ks
  | [], ks, h => h
  | b :: bs, ks, h => by
    simp only [List.map_cons, capsOf] at h ⊢
    split at h
    · rename_i k ks' h1 h2
      cases h
      rw [hm b k h1, capsOf_mono_un hm h2]
    · cases h
/-- a closure with the variables that it holds -/
def cloV (f : FuncId) (ks : List Nat) : Value := .func (.func f) #[] (ks.map fun k => Value.pointer (some ⟨k, 0, none⟩)).toArray
/-- The value v reads as d in w; A: where memory that is only read may lie. -/
inductive VR (M : Mp) (A : Bool → Nat → Prop) (w : World) : D → Value → Prop
  | dead (v : Value) : VR M A w .dead v
  | int (n : Int) : VR M A w (.int n) (.int .i64 n)
  | bool (b : Bool) : VR M A w (.bool b) (.bool b)
  | val (v : Value) (h : v.oneCell' = true) : VR M A w (.val v) v
  | nil (ao : Option Addr) : VR M A w .nil (.slice ao 0 0)
  | ro (f : Bool) (q : Sq) (ao : Option Addr) (cap b o : Nat) (u : Nat → Nat → Value) (hn : q.len ≤ maxLen) (hc : q.len ≤ cap) (hao : 0 < q.len → ao = some ⟨b, o, none⟩ ∧ b < w.heap.size ∧ A f b)
      (hu : ∀ i j d, i < q.len → (q.elem f i)[j]? = some d → w.cell? ⟨b, o + i * q.sz + j, none⟩ = some (u i j))
      (hv : ∀ i j d, i < q.len → (q.elem f i)[j]? = some d → VR M A w d (u i j)) : VR M A w (.ro f q) (.slice ao q.len cap)
  | row (r off n : Nat) (v : Value) (h1 : v.oneCell' = true) (h : ∀ x, M.γ r = some x → RowV x off n v) : VR M A w (.row r off n) v
  | ptr (b off : Nat) (v : Value) (h1 : v.oneCell' = true) (h : ∀ k, M.β b = some k → v = .pointer (some ⟨k, off, none⟩)) : VR M A w (.ptr b off) v
  | eptr (r : Nat) (i : Int) (off : Nat) (v : Value) (h : ∀ g c z, M.γ r = some (some (g, c, z)) → v = .pointer (some ⟨g, i.toNat * z + off, none⟩)) : VR M A w (.eptr r i off) v
  | rptr (f : Bool) (q : Sq) (i : Int) (off b o : Nat) (u : Nat → Value) (hb : b < w.heap.size) (hA : A f b) (hu : ∀ j d, (q.elem f i.toNat)[j]? = some d → w.cell? ⟨b, o + j, none⟩ = some (u j))
      (hv : ∀ j d, (q.elem f i.toNat)[j]? = some d → VR M A w d (u j)) : VR M A w (.rptr f q i off) (.pointer (some ⟨b, o + off, none⟩))
  | agg (l : List D) (us : Array Value) (hl : l.length = us.size) (h : ∀ i d, l[i]? = some d → VR M A w d (us.getD i undef)) : VR M A w (.agg l) (.agg us)
  | tup (l : List D) (us : Array Value) (hl : l.length = us.size) (h : ∀ i d, l[i]? = some d → VR M A w d (us.getD i undef)) : VR M A w (.tup l) (.tuple us)
  | clo (f : FuncId) (bs : List Nat) (v : Value) (h1 : v.oneCell' = true) (h : ∀ ks, capsOf M.β bs = some ks → v = cloV f ks) : VR M A w (.clo f bs) v
  | map (k : Nat) (l : List (Int × Int)) (es : Array MapEntry) (clock : Nat) (h : w.heap[k]? = some (.map es clock)) (hl : mapIs es l) (hk : A true k) : VR M A w (.map k l) (.map (some k))
  | any (v : Value) (h1 : v.oneCell' = true) : VR M A w .any v
theorem heap_lt {w : World} {k : Nat} {o : Obj} (h : w.heap[k]? = some o) : k < w.heap.size := (Array.getElem?_eq_some_iff.1 h).1

theorem VR.mono {M M' : Mp} {A A' : Bool → Nat → Prop} {w w' : World} {d : D} {v : Value} (h : VR M A w d v)
    (hA : ∀ f b, b < w.heap.size → A f b → A' f b ∧ b < w'.heap.size ∧ w'.heap[b]? = w.heap[b]?)
    (hγ : ∀ r x, M'.γ r = some x → M.γ r = some x) (hβ : ∀ b k, M'.β b = some k → M.β b = some k) : VR M' A' w' d v := by
  induction h with
  | dead v => exact .dead v
  | int n => exact .int n
  | bool b => exact .bool b
  | val v h => exact .val v h
  | nil ao => exact .nil ao
  | ro f q ao cap b o u hn hc hao hu hv ih =>
    refine .ro f q ao cap b o u hn hc (fun h0 => ?_) (fun i j d hi hd => ?_) ih
    · obtain ⟨h1, h2, h3⟩ := hao h0
      obtain ⟨a1, a2, a3⟩ := hA _ b h2 h3
      exact ⟨h1, a2, a1⟩
    · obtain ⟨h1, h2, h3⟩ := hao (by omega)
      rw [World.cell?_of_block (w := w) (hA _ b h2 h3).2.2]; exact hu i j d hi hd
  | row r off n v h1 h => exact .row r off n v h1 fun x hx => h x (hγ r x hx)
  | ptr b off v h1 h => exact .ptr b off v h1 fun k hk => h k (hβ b k hk)
  | eptr r i off v h => exact .eptr r i off v fun g c z hg => h g c z (hγ r _ hg)
  | rptr f q i off b o u hb hA' hu hv ih =>
    obtain ⟨a1, a2, a3⟩ := hA _ b hb hA'
    exact .rptr f q i off b o u a2 a1 (fun j d hd => by rw [World.cell?_of_block (w := w) a3]; exact hu j d hd) ih
  | agg l us hl h ih => exact .agg l us hl ih
  | tup l us hl h ih => exact .tup l us hl ih
  | clo f bs v h1 h => exact .clo f bs v h1 fun ks hk => h ks (capsOf_mono' (fun b _ => hβ b) hk)
  | map k l es clock h hl hk => obtain ⟨a1, a2, a3⟩ := hA _ k (heap_lt h) hk; exact .map k l es clock (a3.trans h) hl a1
  | any v h1 => exact .any v h1

/-! ### what a datum names, and other names for it -/
def mentS (b r : Nat → Bool) : D → Bool
  | .row x _ _ | .eptr x _ _ => r x
  | .ptr x _ => b x
  | .clo _ bs => bs.any b
  | .agg _ | .tup _ => true
  | _ => false
def mentA (b r : Nat → Bool) : D → Bool
  | .agg l => l.any (mentS b r)
  | d => mentS b r d
def ment (b r : Nat → Bool) : D → Bool
  | .tup l => l.any (mentA b r)
  | d => mentA b r d
def renS (τ σ : Nat → Nat) : D → D
  | .row x o n => .row (σ x) o n
  | .eptr x i o => .eptr (σ x) i o
  | .ptr x o => .ptr (τ x) o
  | .clo f bs => .clo f (bs.map τ)
  | .agg _ | .tup _ => .dead
  | d => d
def renA (τ σ : Nat → Nat) : D → D
  | .agg l => .agg (l.map (renS τ σ))
  | d => renS τ σ d
def ren (τ σ : Nat → Nat) : D → D
  | .tup l => .tup (l.map (renA τ σ))
  | d => renA τ σ d

section
variable {M M' : Mp} {A A' : Bool → Nat → Prop} {w w' : World}

/-- A datum of memory that is only read names nothing. -/
theorem VR.ro_any {f : Bool} {q : Sq} {v : Value} (h : VR M A w (.ro f q) v) (hA : ∀ f b, b < w.heap.size → A f b → A' f b ∧ b < w'.heap.size ∧ w'.heap[b]? = w.heap[b]?) : VR M' A' w' (.ro f q) v := by
  generalize hd : D.ro f q = d at h
  have key : ∀ d v, VR M A w d v → (match d with | .ro _ _ | .int _ | .bool _ | .val _ => True | _ => False) → VR M' A' w' d v := by
    intro d v h
    induction h with
    | dead v => intro h; exact h.elim
    | int n => exact fun _ => .int n
    | bool b => exact fun _ => .bool b
    | val v h => exact fun _ => .val v h
    | nil => intro h; exact h.elim
    | ro f q ao cap b o u hn hc hao hu hv ih =>
      intro _
      refine .ro f q ao cap b o u hn hc (fun h0 => ?_) (fun i j d hi hd => ?_) (fun i j d hi hd => ih i j d hi hd ?_)
      · obtain ⟨h1, h2, h3⟩ := hao h0
        obtain ⟨a1, a2, a3⟩ := hA _ b h2 h3
        exact ⟨h1, a2, a1⟩
      · obtain ⟨h1, h2, h3⟩ := hao (by omega)
        rw [World.cell?_of_block (w := w) (hA _ b h2 h3).2.2]; exact hu i j d hi hd
      · cases q <;> simp only [Sq.elem] at hd <;> rcases j with _ | _ | j <;> simp at hd <;> subst hd <;> trivial
    | row => intro h; exact h.elim
    | ptr => intro h; exact h.elim
    | eptr => intro h; exact h.elim
    | rptr => intro h; exact h.elim
    | agg => intro h; exact h.elim
    | tup => intro h; exact h.elim
    | clo => intro h; exact h.elim
    | map => intro h; exact h.elim
    | any => intro h; exact h.elim
  subst hd
  exact key _ _ h trivial

/-- the same for what an element holds -/
theorem VR.elem_any {f : Bool} {q : Sq} {i j : Nat} {d : D} {v : Value} (hd : (q.elem f i)[j]? = some d) (h : VR M A w d v) (hA : ∀ f b, b < w.heap.size → A f b → A' f b ∧ b < w'.heap.size ∧ w'.heap[b]? = w.heap[b]?) : VR M' A' w' d v := by
  cases q <;> simp only [Sq.elem] at hd <;> rcases j with _ | _ | j <;> simp at hd <;> subst hd <;> first
    | exact h.ro_any hA
    | (cases h; first | exact .int _ | exact .bool _ | exact .val _ (by assumption))

theorem VR.rptr_any {f : Bool} {q : Sq} {i : Int} {o : Nat} {v : Value} (h : VR M A w (.rptr f q i o) v) (hA : ∀ f b, b < w.heap.size → A f b → A' f b ∧ b < w'.heap.size ∧ w'.heap[b]? = w.heap[b]?) : VR M' A' w' (.rptr f q i o) v := by
  cases h with
  | rptr _ _ _ _ b o u hb hA' hu hv =>
    obtain ⟨a1, a2, a3⟩ := hA _ b hb hA'
    exact .rptr f q i _ b o u a2 a1 (fun j d hd => by rw [World.cell?_of_block (w := w) a3]; exact hu j d hd) (fun j d hd => (hv j d hd).elem_any hd hA)

theorem VR.renS {τ σ : Nat → Nat} (hA : ∀ f b, b < w.heap.size → A f b → A' f b ∧ b < w'.heap.size ∧ w'.heap[b]? = w.heap[b]?)
    (hγ : ∀ r x, M'.γ (σ r) = some x → M.γ r = some x) (hβ : ∀ b k, M'.β (τ b) = some k → M.β b = some k) {d : D} {v : Value} (h : VR M A w d v) : VR M' A' w' (renS τ σ d) v := by
  cases h with
  | dead v => exact .dead v
  | int n => exact .int n
  | bool b => exact .bool b
  | val v h => exact .val v h
  | nil ao => exact .nil ao
  | ro f q ao cap b o u hn hc hao hu hv => exact VR.ro_any (.ro f q ao cap b o u hn hc hao hu hv) hA
  | row r off n v h1 h => exact .row _ off n v h1 fun x hx => h x (hγ r x hx)
  | ptr b off v h1 h => exact .ptr _ off v h1 fun k hk => h k (hβ b k hk)
  | eptr r i off v h => exact .eptr _ i off v fun g c z hg => h g c z (hγ r _ hg)
  | rptr f q i off b o u hb hA' hu hv => exact VR.rptr_any (.rptr f q i off b o u hb hA' hu hv) hA
  | agg l us hl h => exact .dead _
  | tup l us hl h => exact .dead _
  | clo f bs v h1 h => exact .clo f _ v h1 fun ks hk => h ks (capsOf_mono (fun b _ => hβ b) hk)
  | map k l es clock h hl hk => obtain ⟨a1, a2, a3⟩ := hA _ k (heap_lt h) hk; exact .map k l es clock (a3.trans h) hl a1
  | any v h1 => exact .any v h1
theorem VR.renA {τ σ : Nat → Nat} (hA : ∀ f b, b < w.heap.size → A f b → A' f b ∧ b < w'.heap.size ∧ w'.heap[b]? = w.heap[b]?)
    (hγ : ∀ r x, M'.γ (σ r) = some x → M.γ r = some x) (hβ : ∀ b k, M'.β (τ b) = some k → M.β b = some k) {d : D} {v : Value} (h : VR M A w d v) : VR M' A' w' (renA τ σ d) v := by
  cases d with
  | agg l =>
    cases h with | agg _ us hl h =>
    refine .agg _ us (by simpa using hl) fun i d hd => ?_
    rw [List.getElem?_map] at hd
    obtain ⟨d0, h0, rfl⟩ := Option.map_eq_some_iff.1 hd
    exact (h i d0 h0).renS hA hγ hβ
  | _ => exact VR.renS hA hγ hβ h
theorem VR.ren {τ σ : Nat → Nat} (hA : ∀ f b, b < w.heap.size → A f b → A' f b ∧ b < w'.heap.size ∧ w'.heap[b]? = w.heap[b]?)
    (hγ : ∀ r x, M'.γ (σ r) = some x → M.γ r = some x) (hβ : ∀ b k, M'.β (τ b) = some k → M.β b = some k) {d : D} {v : Value} (h : VR M A w d v) : VR M' A' w' (ren τ σ d) v := by
  cases d with
  | tup l =>
    cases h with | tup _ us hl h =>
    refine .tup _ us (by simpa using hl) fun i d hd => ?_
    rw [List.getElem?_map] at hd
    obtain ⟨d0, h0, rfl⟩ := Option.map_eq_some_iff.1 hd
    exact (h i d0 h0).renA hA hγ hβ
  | _ => exact VR.renA hA hγ hβ h

/-- back -/
theorem VR.unrenS {τ σ : Nat → Nat} (hγ : ∀ r x, M.γ r = some x → M'.γ (σ r) = some x) (hβ : ∀ b k, M.β b = some k → M'.β (τ b) = some k)
    (hA : ∀ f b, b < w.heap.size → A' f b → A f b) {d : D} {v : Value} (hd : mentS (fun _ => false) (fun _ => false) d = false) (h : VR M' A' w (Ytlmlfbjcpajinaa.renS τ σ d) v) : VR M A w d v := by
  have hA' : ∀ f b, b < w.heap.size → A' f b → A f b ∧ b < w.heap.size ∧ w.heap[b]? = w.heap[b]? := fun f b h1 h2 => ⟨hA f b h1 h2, h1, rfl⟩
  cases d with
  | dead => exact .dead v
  | int n => cases h; exact .int n
  | bool b => cases h; exact .bool b
  | val v => cases h; exact .val _ (by assumption)
  | nil => cases h with | nil ao => exact .nil ao
  | ro f q => exact VR.ro_any (M := M') h hA'
  | row r off n => cases h with | row _ _ _ _ h1 h => exact .row r off n v h1 fun x hx => h x (hγ r x hx)
  | ptr b off => cases h with | ptr _ _ _ h1 h => exact .ptr b off v h1 fun k hk => h k (hβ b k hk)
  | eptr r i off => cases h with | eptr _ _ _ _ h => exact .eptr r i off v fun g c z hg => h g c z (hγ r _ hg)
  | rptr f q i off => exact VR.rptr_any (M := M') h hA'
  | agg l => simp [mentS] at hd
  | tup l => simp [mentS] at hd
  | clo f bs => cases h with | clo _ _ _ h1 h => exact .clo f bs v h1 fun ks hk => h ks (capsOf_mono_un hβ hk)
  | map k l => cases h with | map _ _ es clock h hl hk => exact .map k l es clock h hl (hA _ k (heap_lt h) hk)
  | any => cases h with | any _ h1 => exact .any v h1
theorem VR.unrenA {τ σ : Nat → Nat} (hγ : ∀ r x, M.γ r = some x → M'.γ (σ r) = some x) (hβ : ∀ b k, M.β b = some k → M'.β (τ b) = some k)
    (hA : ∀ f b, b < w.heap.size → A' f b → A f b) {d : D} {v : Value} (hd : mentA (fun _ => false) (fun _ => false) d = false) (h : VR M' A' w (Ytlmlfbjcpajinaa.renA τ σ d) v) : VR M A w d v := by
  cases d with
  | agg l =>
    cases h with
    | agg _ us hl h =>
      refine .agg _ us (by simpa using hl) fun i d hi => ?_
      have := h i (Ytlmlfbjcpajinaa.renS τ σ d) (by simp [hi])
      refine VR.unrenS hγ hβ hA ?_ this
      simp only [mentA, List.any_eq_false] at hd
      simpa using hd d (List.mem_of_getElem? hi)
  | _ => exact VR.unrenS hγ hβ hA hd h
theorem VR.unren {τ σ : Nat → Nat} (hγ : ∀ r x, M.γ r = some x → M'.γ (σ r) = some x) (hβ : ∀ b k, M.β b = some k → M'.β (τ b) = some k)
    (hA : ∀ f b, b < w.heap.size → A' f b → A f b) {d : D} {v : Value} (hd : ment (fun _ => false) (fun _ => false) d = false) (h : VR M' A' w (Ytlmlfbjcpajinaa.ren τ σ d) v) : VR M A w d v := by
  cases d with
  | tup l =>
    cases h with
    | tup _ us hl h =>
      refine .tup _ us (by simpa using hl) fun i d hi => ?_
      have := h i (Ytlmlfbjcpajinaa.renA τ σ d) (by simp [hi])
      refine VR.unrenA hγ hβ hA ?_ this
      simp only [ment, List.any_eq_false] at hd
      simpa using hd d (List.mem_of_getElem? hi)
  | _ => exact VR.unrenA hγ hβ hA hd h

/-- New names, where the datum does not name them. -/
theorem VR.newS {b r : Nat → Bool} (hA : ∀ f b, b < w.heap.size → A f b → A' f b ∧ b < w'.heap.size ∧ w'.heap[b]? = w.heap[b]?)
    (hγ : ∀ x y, r x = false → M'.γ x = some y → M.γ x = some y) (hβ : ∀ x k, b x = false → M'.β x = some k → M.β x = some k) {d : D} {v : Value} (hd : mentS b r d = false) (h : VR M A w d v) : VR M' A' w' d v := by
  cases h with
  | dead v => exact .dead v
  | int n => exact .int n
  | bool b => exact .bool b
  | val v h => exact .val v h
  | nil ao => exact .nil ao
  | ro f q ao cap b o u hn hc hao hu hv => exact VR.ro_any (.ro f q ao cap b o u hn hc hao hu hv) hA
  | row r off n v h1 h => exact .row _ off n v h1 fun x hx => h x (hγ _ x hd hx)
  | ptr b off v h1 h => exact .ptr _ off v h1 fun k hk => h k (hβ _ k hd hk)
  | eptr r i off v h => exact .eptr _ i off v fun g c z hg => h g c z (hγ _ _ hd hg)
  | rptr f q i off b o u hb hA' hu hv => exact VR.rptr_any (.rptr f q i off b o u hb hA' hu hv) hA
  | agg l us hl h => simp [mentS] at hd
  | tup l us hl h => simp [mentS] at hd
  | clo f bs v h1 h =>
    simp only [mentS, List.any_eq_false] at hd
    exact .clo f bs v h1 fun ks hk => h ks (capsOf_mono' (fun x hx k hk' => hβ x k (by simpa using hd x hx) hk') hk)
  | map k l es clock h hl hk => obtain ⟨a1, a2, a3⟩ := hA _ k (heap_lt h) hk; exact .map k l es clock (a3.trans h) hl a1
  | any v h1 => exact .any v h1
theorem VR.newA {b r : Nat → Bool} (hA : ∀ f b, b < w.heap.size → A f b → A' f b ∧ b < w'.heap.size ∧ w'.heap[b]? = w.heap[b]?)
    (hγ : ∀ x y, r x = false → M'.γ x = some y → M.γ x = some y) (hβ : ∀ x k, b x = false → M'.β x = some k → M.β x = some k) {d : D} {v : Value} (hd : mentA b r d = false) (h : VR M A w d v) : VR M' A' w' d v := by
  cases d with
  | agg l =>
    cases h with | agg _ us hl h =>
    refine .agg _ us hl fun i d hi => VR.newS hA hγ hβ ?_ (h i d hi)
    simp only [mentA, List.any_eq_false] at hd
    simpa using hd d (List.mem_of_getElem? hi)
  | _ => exact VR.newS hA hγ hβ hd h
theorem VR.new {b r : Nat → Bool} (hA : ∀ f b, b < w.heap.size → A f b → A' f b ∧ b < w'.heap.size ∧ w'.heap[b]? = w.heap[b]?)
    (hγ : ∀ x y, r x = false → M'.γ x = some y → M.γ x = some y) (hβ : ∀ x k, b x = false → M'.β x = some k → M.β x = some k) {d : D} {v : Value} (hd : ment b r d = false) (h : VR M A w d v) : VR M' A' w' d v := by
  cases d with
  | tup l =>
    cases h with | tup _ us hl h =>
    refine .tup _ us hl fun i d hi => VR.newA hA hγ hβ ?_ (h i d hi)
    simp only [ment, List.any_eq_false] at hd
    simpa using hd d (List.mem_of_getElem? hi)
  | _ => exact VR.newA hA hγ hβ hd h
end
end Go.Proofs.Ytlmlfbjcpajinaa

/-! ## Vb -/
namespace Go.Proofs.Ytlmlfbjcpajinaa
open Go.RowKit
set_option linter.unusedSimpArgs false
set_option linter.unusedVariables false

def look {α : Type} : List (Nat × α) → Nat → Option α
  | [], _ => none
  | (k, x) :: l, i => match Nat.beq k i with | true => some x | false => look l i
theorem look_cons_self {α : Type} (k : Nat) (x : α) (l : List (Nat × α)) : look ((k, x) :: l) k = some x := by simp [look, Nat.beq_refl]
theorem look_cons_ne {α : Type} {k i : Nat} (h : k ≠ i) (x : α) (l : List (Nat × α)) : look ((k, x) :: l) i = look l i := by
  have : Nat.beq k i = false := by
    cases hb : Nat.beq k i
    · rfl
    · exact absurd (Nat.eq_of_beq_eq_true hb) h
  simp [look, this]
theorem look_mem {α : Type} {l : List (Nat × α)} {i : Nat} {x : α} (h : look l i = some x) : (i, x) ∈ l := by
  induction l with
  | nil => simp [look] at h
  | cons p l ih =>
    obtain ⟨k, y⟩ := p
    by_cases hk : k = i
    · subst hk; rw [look_cons_self] at h; cases h; exact List.mem_cons_self
    · rw [look_cons_ne hk] at h; exact List.mem_cons_of_mem _ (ih h)

structure PS where
  tmp : List (Nat × D)
  row : List (Nat × Option (TypeId × Sq))
  box : List (Nat × Option (List D))
def PS.t (s : PS) (i : Nat) : D := match look s.tmp i with | some d => d | none => .dead
def PS.r (s : PS) (i : Nat) : Option (TypeId × Sq) := match look s.row i with | some x => x | none => none
def PS.b (s : PS) (i : Nat) : Option (List D) := match look s.box i with | some x => x | none => none
def PS.put (s : PS) (o : Option Nat) (d : D) : PS := match o with | some t => ⟨(t, d) :: s.tmp, s.row, s.box⟩ | none => s

def ofV : Value → D
  | .int .i64 n => .int n
  | .bool b => .bool b
  | .slice none 0 0 => .nil
  | v => match v.oneCell' with | true => .val v | false => .dead
def ofValue : Value → D
  | .agg cs => .agg (cs.toList.map ofV)
  | v => ofV v
def PS.ev (s : PS) : Operand → D
  | .tmp t => s.t t
  | .const v => ofValue v
  | .func f => .val (.func (.func f) #[] #[])
  | .global _ => .dead

theorem VR.ofV {M : Mp} {A : Bool → Nat → Prop} {w : World} (v : Value) : VR M A w (ofV v) v := by
  unfold Ytlmlfbjcpajinaa.ofV
  split
  · exact .int _
  · exact .bool _
  · exact .nil none
  · split
    · exact .val _ (by assumption)
    · exact .dead _
theorem VR.ofValue {M : Mp} {A : Bool → Nat → Prop} {w : World} (v : Value) : VR M A w (ofValue v) v := by
  unfold Ytlmlfbjcpajinaa.ofValue
  split
  · rename_i cs
    refine .agg _ cs (by simp) fun i d hd => ?_
    simp at hd
    obtain ⟨x, hx, rfl⟩ := hd
    have : cs.getD i undef = x := by simp [hx]
    rw [this]; exact VR.ofV x
  · exact VR.ofV _

def Mp.owned (M : Mp) (k : Nat) : Prop := (∃ b, M.β b = some k) ∨ ∃ r c z, M.γ r = some (some (k, c, z))
/-- where memory that is only read may lie; F: what counts as new -/
def Ow (F : Bool → Nat → Prop) (M : Mp) : Bool → Nat → Prop := fun f k => ¬ M.owned k ∧ F f k
/-- Memory handed in to be written: the blocks, what counts as new to the caller, and where boxes and rows keep their place. -/
structure Hd where
  own : Nat → Prop
  fsh : Bool → Nat → Prop
  sub : ∀ f k, own k → fsh f k
  mon : ∀ k, fsh true k → fsh false k
  fb : Nat → Option Nat
  fr : Nat → Option (Option (Nat × Nat × Nat))
  lob : ∀ b k, fb b = some k → 1000000 ≤ b
  lor : ∀ r x, fr r = some x → 1000000 ≤ r
instance : CoeFun Hd (fun _ => Nat → Prop) := ⟨Hd.own⟩
def Hd.no : Hd := ⟨fun _ => False, fun f _ => f = false, fun _ _ h => h.elim, fun _ _ => rfl, fun _ => none, fun _ => none, fun _ _ h => (by cases h), fun _ _ h => (by cases h)⟩
def Fs (w0 : World) (O0 : Hd) : Bool → Nat → Prop := fun f k => w0.heap.size ≤ k ∨ O0.fsh f k
/-- Blocks that were there, but for those handed in to be written, hold what they held. -/
structure Fr (O0 : Hd) (w0 w : World) : Prop where
  os : w.os = w0.os
  tape : w.tape = w0.tape
  output : w.output = w0.output
  size : w0.heap.size ≤ w.heap.size
  block : ∀ k, k < w0.heap.size → ¬ O0 k → w.heap[k]? = w0.heap[k]?

def BoxAt (F : Bool → Nat → Prop) (M : Mp) (w : World) (b : Nat) (cs : List D) : Prop :=
  ∃ k cur e, M.β b = some k ∧ w.heap[k]? = some (.cells cur e (0, 0)) ∧ cs.length = cur.size ∧ ∀ j d, cs[j]? = some d → VR M (Ow F M) w d (cur.getD j undef)
def RowAt (F : Bool → Nat → Prop) (M : Mp) (w : World) (r : Nat) (e : TypeId) (q : Sq) : Prop :=
  (M.γ r = some none ∧ q.len = 0) ∨ ∃ g cap cur, M.γ r = some (some (g, cap, q.sz)) ∧ w.heap[g]? = some (.cells cur e (0, 0)) ∧ q.len ≤ cap ∧ cap ≤ maxLen ∧ cur.size = cap * q.sz ∧
    ∀ i j d, i < q.len → (q.elem true i)[j]? = some d → VR M (Ow F M) w d (cur.getD (i * q.sz + j) undef)

structure Rel (w0 : World) (O0 : Hd) (n : Nat) (M : Mp) (s : PS) (a : Act) (w : World) : Prop where
  fr : Fr O0 w0 w
  dfr : a.defers = []
  sz : a.tmps.size = n
  tmp : ∀ t, VR M (Ow (Fs w0 O0) M) w (s.t t) (a.tmps.getD t undef)
  box : ∀ b cs, s.b b = some cs → BoxAt (Fs w0 O0) M w b cs
  boxn : ∀ b, s.b b = none → M.β b = none
  row : ∀ r e q, s.r r = some (e, q) → RowAt (Fs w0 O0) M w r e q
  rown : ∀ r, s.r r = none → M.γ r = none
  low : ∀ k, M.owned k → (w0.heap.size ≤ k ∨ O0 k)
  inj1 : ∀ b b' k, M.β b = some k → M.β b' = some k → b = b'
  inj2 : ∀ r r' k c z c' z', M.γ r = some (some (k, c, z)) → M.γ r' = some (some (k, c', z')) → r = r'
  inj3 : ∀ b r k c z, M.β b = some k → M.γ r = some (some (k, c, z)) → False
  nle : n ≤ 1000
  fxb : ∀ b k k', O0.fb b = some k → M.β b = some k' → k' = k
  fxr : ∀ r x x', O0.fr r = some x → M.γ r = some x' → x' = x

section
variable {w0 : World} {O0 : Hd} {n : Nat} {M : Mp} {s : PS} {a : Act} {w : World}
theorem Rel.ev (h : Rel w0 O0 n M s a w) (x : Operand) : VR M (Ow (Fs w0 O0) M) w (s.ev x) (a.eval x) := by
  cases x with
  | tmp t => exact h.tmp t
  | const v => exact VR.ofValue v
  | global g => exact .dead _
  | func f => exact .val _ rfl
theorem Rel.lt (h : Rel w0 O0 n M s a w) : ∀ k, M.owned k → k < w.heap.size := by
  rintro k (⟨b, hb⟩ | ⟨r, c, z, hr⟩)
  · cases hs : s.b b with
    | none => rw [h.boxn b hs] at hb; cases hb
    | some cs =>
      obtain ⟨k', cur, e, h1, h2, _⟩ := h.box b cs hs
      rw [hb] at h1; cases h1
      exact (Array.getElem?_eq_some_iff.1 h2).1
  · cases hs : s.r r with
    | none => rw [h.rown r hs] at hr; cases hr
    | some x =>
      obtain ⟨e, q⟩ := x
      rcases h.row r e q hs with ⟨h1, _⟩ | ⟨g, cap, cur, h1, h2, _⟩
      · rw [hr] at h1; cases h1
      · rw [hr] at h1; cases h1
        exact (Array.getElem?_eq_some_iff.1 h2).1

theorem PS.t_put (s : PS) (o : Option Nat) (d : D) (i : Nat) : (s.put o d).t i = if o = some i then d else s.t i := by
  cases o with
  | none => simp [PS.put]
  | some t =>
    by_cases h : t = i
    · subst h; simp [PS.put, PS.t, look_cons_self]
    · simp [PS.put, PS.t, look_cons_ne h, h]
theorem PS.r_put (s : PS) (o : Option Nat) (d : D) (i : Nat) : (s.put o d).r i = s.r i := by cases o <;> rfl
theorem PS.b_put (s : PS) (o : Option Nat) (d : D) (i : Nat) : (s.put o d).b i = s.b i := by cases o <;> rfl

def dstOk (n : Nat) : Option Nat → Bool
  | some t => Nat.blt t n
  | none => true
/-- A value put into a slot. -/
theorem Rel.put (h : Rel w0 O0 n M s a w) {o : Option Nat} {d : D} {v : Value} (ho : dstOk n o = true) (hv : VR M (Ow (Fs w0 O0) M) w d v) : Rel w0 O0 n M (s.put o d) (a.put o v) w := by
  refine ⟨h.fr, ?_, ?_, fun t => ?_, fun b cs hb => h.box b cs (by rwa [PS.b_put] at hb), fun b hb => h.boxn b (by rwa [PS.b_put] at hb), fun r e q hr => h.row r e q (by rwa [PS.r_put] at hr),
    fun r hr => h.rown r (by rwa [PS.r_put] at hr), h.low, h.inj1, h.inj2, h.inj3, h.nle, h.fxb, h.fxr⟩
  · cases o <;> exact h.dfr
  · cases o <;> simp [Act.put, h.sz]
  · rw [PS.t_put]
    cases o with
    | none => exact h.tmp t
    | some i =>
      simp only [Option.some.injEq]
      by_cases hi : i = t
      · subst hi
        rw [if_pos rfl]
        have hlt : i < a.tmps.size := by simp only [dstOk, Nat.blt_eq] at ho; rw [h.sz]; exact ho
        simpa [Act.put, hlt] using hv
      · rw [if_neg hi]
        have : (a.put (some i) v).tmps.getD t undef = a.tmps.getD t undef := by simp [Act.put, Array.getElem?_setIfInBounds_ne hi]
        rw [this]; exact h.tmp t
end

/-! ### conditions on code -/
structure Cx where
  P : Program
  w0 : World
  O0 : Hd
  n : Nat
structure VC (C : Cx) (c : Code) (Q : Exit → PS → Prop) (s : PS) : Prop where
  out : ∀ M a w, Rel C.w0 C.O0 C.n M s a w → c.wp C.P (fun e a' w' => ∃ s' M', Q e s' ∧ Rel C.w0 C.O0 C.n M' s' a' w') a w
def XThen (K : PS → Prop) (Q : Exit → PS → Prop) : Exit → PS → Prop
  | .normal, s => K s
  | e, s => Q e s
def XBlock (id : Nat) (Q : Exit → PS → Prop) : Exit → PS → Prop
  | .exit i, s => match Nat.beq i id with | true => Q .normal s | false => Q (.exit i) s
  | e, s => Q e s
section
variable {C : Cx} {Q : Exit → PS → Prop} {s : PS}
theorem vSeq {x y : Code} (h : VC C x (XThen (VC C y Q) Q) s) : VC C (.seq x y) Q s := by
  refine ⟨fun M a w hr => ?_⟩
  refine wp_seq (Code.wp_mono ?_ (h.out M a w hr))
  rintro e a' w' ⟨s', M', hq, hr'⟩
  cases e with
  | normal => exact hq.out M' a' w' hr'
  | _ => exact ⟨s', M', hq, hr'⟩
theorem vSkip (h : Q .normal s) : VC C .skip Q s := ⟨fun M a w hr => wp_skip ⟨s, M, h, hr⟩⟩
theorem vLabel {l : Nat} (h : Q .normal s) : VC C (.label l) Q s := ⟨fun M a w hr => wp_label ⟨s, M, h, hr⟩⟩
theorem vExit {i : Nat} (h : Q (.exit i) s) : VC C (.exit i) Q s := ⟨fun M a w hr => wp_exit ⟨s, M, h, hr⟩⟩
theorem vRet (h : Q .ret s) : VC C .ret Q s := ⟨fun M a w hr => wp_ret ⟨s, M, h, hr⟩⟩
theorem vCond {c : Operand} {x y : Code} {b : Bool} (hc : s.ev c = .bool b) (h1 : b = true → VC C x Q s) (h2 : b = false → VC C y Q s) : VC C (.cond c x y) Q s := by
  refine ⟨fun M a w hr => ?_⟩
  have := hr.ev c
  rw [hc] at this
  have hv : a.eval c = .bool b := by generalize a.eval c = v at this; cases this; rfl
  exact wp_cond_split hv (fun hb => (h1 hb).out M a w hr) (fun hb => (h2 hb).out M a w hr)
theorem vCondT {c : Operand} {x y : Code} {b : Bool} (hc : s.ev c = .bool b) (hb : b = true) (h : VC C x Q s) : VC C (.cond c x y) Q s := vCond hc (fun _ => h) (fun h' => by rw [hb] at h'; cases h')
theorem vCondF {c : Operand} {x y : Code} {b : Bool} (hc : s.ev c = .bool b) (hb : b = false) (h : VC C y Q s) : VC C (.cond c x y) Q s := vCond hc (fun h' => by rw [hb] at h'; cases h') (fun _ => h)
theorem vBlock {id : Nat} {c : Code} (h : VC C c (XBlock id Q) s) : VC C (.block id c) Q s := by
  refine ⟨fun M a w hr => ?_⟩
  refine wp_block (Code.wp_mono ?_ (h.out M a w hr))
  rintro e a' w' ⟨s', M', hq, hr'⟩
  cases e with
  | exit i =>
    simp only [Exit.inBlock, XBlock] at hq ⊢
    by_cases hi : i = id
    · subst hi
      rw [if_pos rfl]
      rw [Nat.beq_refl] at hq
      exact ⟨s', M', hq, hr'⟩
    · rw [if_neg hi]
      have : Nat.beq i id = false := by
        cases hb : Nat.beq i id
        · rfl
        · exact absurd (Nat.eq_of_beq_eq_true hb) hi
      rw [this] at hq
      exact ⟨s', M', hq, hr'⟩
  | _ => exact ⟨s', M', hq, hr'⟩

/-- s knows at least what s' says. -/
structure Le (s s' : PS) : Prop where
  tmp : ∀ t, s'.t t = .dead ∨ s'.t t = s.t t
  row : ∀ r x, s'.r r = some x → s.r r = some x
  box : ∀ b x, s'.b b = some x → s.b b = some x
theorem Rel.le {w0 : World} {O0 : Hd} {n : Nat} {M : Mp} {s s' : PS} {a : Act} {w : World} (h : Rel w0 O0 n M s a w) (hl : Le s s') : ∃ M', Rel w0 O0 n M' s' a w := by
  let M' : Mp := ⟨fun b => if (s'.b b).isSome then M.β b else none, fun r => if (s'.r r).isSome then M.γ r else none⟩
  have hβ : ∀ b k, M'.β b = some k → M.β b = some k := fun b k hk => by simp only [M'] at hk; split at hk; exact hk; cases hk
  have hγ : ∀ r x, M'.γ r = some x → M.γ r = some x := fun r x hx => by simp only [M'] at hx; split at hx; exact hx; cases hx
  have hown : ∀ k, M'.owned k → M.owned k := by
    rintro k (⟨b, hb⟩ | ⟨r, c, z, hr⟩)
    · exact .inl ⟨b, hβ b k hb⟩
    · exact .inr ⟨r, c, z, hγ r _ hr⟩
  have mono : ∀ {d v}, VR M (Ow (Fs w0 O0) M) w d v → VR M' (Ow (Fs w0 O0) M') w d v := fun hd => hd.mono (fun f b h1 h2 => ⟨⟨fun h => h2.1 (hown b h), h2.2⟩, h1, rfl⟩) hγ hβ
  refine ⟨M', h.fr, h.dfr, h.sz, fun t => ?_, fun b cs hb => ?_, fun b hb => ?_, fun r e q hr => ?_, fun r hr => ?_, fun k hk => h.low k (hown k hk), fun b b' k h1 h2 => h.inj1 b b' k (hβ _ _ h1) (hβ _ _ h2),
    fun r r' k c z c' z' h1 h2 => h.inj2 r r' k c z c' z' (hγ _ _ h1) (hγ _ _ h2), fun b r k c z h1 h2 => h.inj3 b r k c z (hβ _ _ h1) (hγ _ _ h2), h.nle, fun b k k' h1 h2 => h.fxb b k k' h1 (hβ _ _ h2), fun r x x' h1 h2 => h.fxr r x x' h1 (hγ _ _ h2)⟩
  · rcases hl.tmp t with h1 | h1
    · rw [h1]; exact .dead _
    · rw [h1]; exact mono (h.tmp t)
  · obtain ⟨k, cur, e, h1, h2, h3, h4⟩ := h.box b cs (hl.box b cs hb)
    exact ⟨k, cur, e, by simp [M', hb, h1], h2, h3, fun j d hd => mono (h4 j d hd)⟩
  · simp [M', hb]
  · rcases h.row r e q (hl.row r _ hr) with ⟨h1, h2⟩ | ⟨g, cap, cur, h1, h2, h3, h4, h5, h6⟩
    · exact .inl ⟨by simp [M', hr, h1], h2⟩
    · exact .inr ⟨g, cap, cur, by simp [M', hr, h1], h2, h3, h4, h5, fun i j d hi hd => mono (h6 i j d hi hd)⟩
  · simp [M', hr]
theorem vWeak {c : Code} {s' : PS} (hl : Le s s') (h : VC C c Q s') : VC C c Q s := by
  refine ⟨fun M a w hr => ?_⟩
  obtain ⟨M', hr'⟩ := hr.le hl
  exact h.out M' a w hr'
/-- Told by a list: what is wanted of a state. -/
def LeL (s : PS) : List (Nat × D) → Prop
  | [] => True
  | (t, d) :: l => s.t t = d ∧ LeL s l
def LeR (s : PS) : List (Nat × Option (TypeId × Sq)) → Prop
  | [] => True
  | (t, d) :: l => s.r t = d ∧ LeR s l
def LeB (s : PS) : List (Nat × Option (List D)) → Prop
  | [] => True
  | (t, d) :: l => s.b t = d ∧ LeB s l
theorem Le.of {s s' : PS} (h1 : LeL s s'.tmp) (h2 : LeR s s'.row) (h3 : LeB s s'.box) : Le s s' := by
  refine ⟨fun t => ?_, fun r x hx => ?_, fun b x hx => ?_⟩
  · have key : ∀ l : List (Nat × D), LeL s l → look l t = none ∨ look l t = some (s.t t) := by
      intro l
      induction l with
      | nil => exact fun _ => .inl rfl
      | cons p l ih =>
        rintro ⟨h, hl⟩
        by_cases hk : p.1 = t
        · right; rw [← hk, look_cons_self, ← h]
        · rw [show p = (p.1, p.2) from rfl, look_cons_ne hk]; exact ih hl
    rcases key _ h1 with h | h
    · left; simp [PS.t, h]
    · right; simp only [PS.t] at h ⊢; rw [h]
  · have key : ∀ l : List (Nat × Option (TypeId × Sq)), LeR s l → look l r = none ∨ look l r = some (s.r r) := by
      intro l
      induction l with
      | nil => exact fun _ => .inl rfl
      | cons p l ih =>
        rintro ⟨h, hl⟩
        by_cases hk : p.1 = r
        · right; rw [← hk, look_cons_self, ← h]
        · rw [show p = (p.1, p.2) from rfl, look_cons_ne hk]; exact ih hl
    simp only [PS.r] at hx
    rcases key _ h2 with h | h
    · rw [h] at hx; cases hx
    · rw [h] at hx; exact hx
  · have key : ∀ l : List (Nat × Option (List D)), LeB s l → look l b = none ∨ look l b = some (s.b b) := by
      intro l
      induction l with
      | nil => exact fun _ => .inl rfl
      | cons p l ih =>
        rintro ⟨h, hl⟩
        by_cases hk : p.1 = b
        · right; rw [← hk, look_cons_self, ← h]
        · rw [show p = (p.1, p.2) from rfl, look_cons_ne hk]; exact ih hl
    simp only [PS.b] at hx
    rcases key _ h3 with h | h
    · rw [h] at hx; cases hx
    · rw [h] at hx; exact hx

/-- A loop with a relation that a number bounds. -/
theorem wp_loop_n {P : Program} {c : Code} {Q : Exit → Act → World → Prop} {a : Act} {w : World} (I : Nat → Act → World → Prop) (k0 : Nat) (h₀ : I k0 a w)
    (round : ∀ k a w, I k a w → c.wp P (Exit.then (fun a' w' => ∃ k', k' < k ∧ I k' a' w') Q) a w) : (Code.loop c).wp P Q a w := by
  intro b k cs
  have key : ∀ m a w, I m a w → ∃ e a' w', Q e a' w' ∧ Arrives P (lone (b.at a (.code c :: .inLoop c :: k)) cs w) b k cs e a' w' := by
    intro m
    induction m using Nat.strongRecOn with
    | _ m ih =>
      intro a w hI
      obtain ⟨e, a₁, w₁, hq, harr⟩ := round m a w hI b (.inLoop c :: k) cs
      cases e with
      | normal =>
        obtain ⟨k', hlt, hI₁⟩ := hq
        obtain ⟨e₂, a₂, w₂, hq₂, harr₂⟩ := ih k' hlt a₁ w₁ hI₁
        exact ⟨e₂, a₂, w₂, hq₂, .of_steps (Steps.trans harr (.one step_inLoop)) harr₂⟩
      | exit id => exact ⟨_, a₁, w₁, hq, .pass (x := .inLoop c) rfl (fun _ _ => .inl (by simp)) harr⟩
      | goto l => exact ⟨_, a₁, w₁, hq, .pass (x := .inLoop c) rfl (fun _ _ => .inl (by simp)) harr⟩
      | ret => exact ⟨_, a₁, w₁, hq, .pass (x := .inLoop c) rfl (fun _ _ => .inl (by simp)) harr⟩
      | panic ch => exact ⟨_, a₁, w₁, hq, .pass (x := .inLoop c) rfl (fun _ _ => .inl (by simp)) harr⟩
      | outgrown => exact ⟨_, a₁, w₁, hq, .pass (x := .inLoop c) rfl (fun _ _ => .inl (by simp)) harr⟩
  obtain ⟨e, a', w', hq, harr⟩ := key k0 a w h₀
  exact ⟨e, a', w', hq, .of_steps (.one step_loop) harr⟩

/-- A loop: at its head the state is I x, for some x with inv x. -/
theorem vLoop {α : Type} {c : Code} (I : α → PS) (inv : α → Prop) (μ : α → Nat) (x0 : α) (h0 : Le s (I x0)) (hi : inv x0)
    (round : ∀ x, inv x → VC C c (XThen (fun s' => ∃ y, Le s' (I y) ∧ inv y ∧ μ y < μ x) Q) (I x)) : VC C (.loop c) Q s := by
  refine ⟨fun M a w hr => ?_⟩
  obtain ⟨M', hr'⟩ := hr.le h0
  refine wp_loop_n (fun k a w => ∃ y M, Rel C.w0 C.O0 C.n M (I y) a w ∧ inv y ∧ μ y = k) (μ x0) ⟨x0, M', hr', hi, rfl⟩ ?_
  rintro k a w ⟨x, M, hr, hx, rfl⟩
  refine Code.wp_mono ?_ ((round x hx).out M a w hr)
  rintro e a' w' ⟨s', M', hq, hr'⟩
  cases e with
  | normal =>
    obtain ⟨y, hle, hy, hlt⟩ := hq
    obtain ⟨M2, hr2⟩ := hr'.le hle
    exact ⟨μ y, hlt, y, M2, hr2, hy, rfl⟩
  | _ => exact ⟨s', M', hq, hr'⟩
end
end Go.Proofs.Ytlmlfbjcpajinaa

/-! ## Vc -/
namespace Go.Proofs.Ytlmlfbjcpajinaa
open Go.RowKit
set_option linter.unusedSimpArgs false
set_option linter.unusedVariables false

/-- What is told of a type: a struct (offsets and sizes of its fields, its zero's cells) · a slice (element type, kind, bytes of an element) · another one (its zero). -/
inductive Ty where
  | st (offs : List (Nat × Nat)) (zs : List Value)
  | sl (e : TypeId) (k : Sq) (bytes : Nat)
  | sc (z : Value)
  | mp
def Sq.zero1 : Sq → List Value
  | .ints _ => [.int .i64 0] | .pairs _ => [.int .i64 0, .int .i64 0] | .bools _ => [.bool false] | .raises _ => [.int .i64 0, .slice none 0 0] | .strs _ => [.string ByteArray.empty]
  | _ => [.slice none 0 0]
def TyOK (P : Program) (t : TypeId) : Ty → Prop
  | .st offs zs => (∃ fs, P.underlying t = some (.struct fs) ∧ ∀ (f : Nat) o, offs[f]? = some o → ∃ (fd : Field) (i : TypeInfo), fs[f]? = some fd ∧ fd.offset = o.1 ∧ P.info? fd.type = some i ∧ i.size = o.2 ∧ o.2 ≠ 0) ∧
      (∃ i, P.info? t = some i ∧ i.size = zs.length ∧ i.zero = some (.agg zs.toArray)) ∧ ∀ v ∈ zs, v.oneCell' = true
  | .sl e k bytes => P.underlying t = some (.slice e) ∧ (∃ i, P.info? t = some i ∧ i.size = 1 ∧ i.zero = some (.slice none 0 0)) ∧
      ∃ i, P.info? e = some i ∧ i.size = k.sz ∧ i.bytes = bytes ∧ ∃ z, i.zero = some z ∧ z.cells = k.zero1.toArray
  | .sc z => (∃ d, P.underlying t = some d ∧ (∀ fs, d ≠ .struct fs) ∧ ∀ k e, d ≠ .array k e) ∧ (∃ i, P.info? t = some i ∧ i.size = 1 ∧ i.zero = some z) ∧ z.oneCell' = true
  | .mp => (∃ kt et, P.underlying t = some (.map kt et) ∧ P.underlying kt = some (.int .i64) ∧ ∃ i, P.info? et = some i ∧ i.zero = some (.int .i64 0)) ∧ ∃ i, P.info? t = some i ∧ i.size = 1
/-- equality of plain values, decided -/
def vEq : Value → Value → Bool
  | .int .i64 a, .int .i64 b => a == b
  | .bool a, .bool b => a == b
  | .slice none 0 0, .slice none 0 0 => true
  | .nilFunc, .nilFunc => true
  | .string a, .string b => a.data.toList == b.data.toList
  | _, _ => false
theorem vEq_ok {a b : Value} (h : vEq a b = true) : a = b := by
  unfold vEq at h
  split at h <;> simp at h
  · subst h; rfl
  · subst h; rfl
  · rfl
  · rfl
  · rename_i x y
    cases x; cases y; simp at h; simp [h]
def vEqL : List Value → List Value → Bool
  | [], [] => true
  | a :: l, b :: m => vEq a b && vEqL l m
  | _, _ => false
theorem vEqL_ok : ∀ {a b : List Value}, vEqL a b = true → a = b
  | [], [], _ => rfl
  | a :: l, b :: m, h => by simp [vEqL] at h; rw [vEq_ok h.1, vEqL_ok h.2]
  | [], _ :: _, h => by simp [vEqL] at h
  | _ :: _, [], h => by simp [vEqL] at h
def tyB (P : Program) (t : TypeId) : Ty → Bool
  | .st offs zs => (match P.underlying t with
      | some (.struct fs) => offs.zipIdx.all fun (o, f) => match fs[f]? with
        | some fd => fd.offset == o.1 && (match P.info? fd.type with | some i => i.size == o.2 && o.2 != 0 | none => false)
        | none => false
      | _ => false) && (match P.info? t with
      | some i => i.size == zs.length && (match i.zero with | some (.agg z) => vEqL z.toList zs | _ => false)
      | none => false) && zs.all Value.oneCell'
  | .sl e k bytes => (match P.underlying t with | some (.slice e') => e' == e | _ => false) && (match P.info? t with
      | some i => i.size == 1 && (match i.zero with | some z => vEq z (.slice none 0 0) | _ => false)
      | none => false) && (match P.info? e with
      | some i => i.size == k.sz && i.bytes == bytes && (match i.zero with | some z => vEqL z.cells.toList k.zero1 | none => false)
      | none => false)
  | .sc z => (match P.underlying t with | some (.struct _) => false | some (.array _ _) => false | some _ => true | none => false) && (match P.info? t with
      | some i => i.size == 1 && (match i.zero with | some z' => vEq z' z | none => false)
      | none => false) && z.oneCell'
  | .mp => (match P.underlying t with | some (.map kt et) => (match P.underlying kt with | some (.int .i64) => true | _ => false) && (match P.info? et with | some i => (match i.zero with | some z => vEq z (.int .i64 0) | none => false) | none => false) | _ => false) && (match P.info? t with | some i => i.size == 1 | none => false)
theorem tyB_ok {P : Program} {t : TypeId} {y : Ty} (h : tyB P t y = true) : TyOK P t y := by
  cases y with
  | st offs zs =>
    simp only [tyB, Bool.and_eq_true] at h
    obtain ⟨⟨h1, h2⟩, h3⟩ := h
    refine ⟨?_, ?_, by simpa using h3⟩
    · split at h1
      · rename_i fs hfs
        refine ⟨fs, hfs, fun f o ho => ?_⟩
        rw [List.all_eq_true] at h1
        have := h1 (o, f) (by rw [List.mem_zipIdx_iff_getElem?]; exact ho)
        simp only at this
        split at this
        · rename_i fd hfd
          simp only [Bool.and_eq_true, beq_iff_eq] at this
          obtain ⟨h5, h6⟩ := this
          split at h6
          · rename_i i hi
            simp only [Bool.and_eq_true, beq_iff_eq] at h6
            exact ⟨fd, i, hfd, h5, hi, h6.1, by simpa using h6.2⟩
          all_goals cases h6
        all_goals cases this
      all_goals cases h1
    · split at h2
      · rename_i i hi
        simp only [Bool.and_eq_true, beq_iff_eq] at h2
        obtain ⟨h5, h6⟩ := h2
        split at h6
        · rename_i z hz
          refine ⟨i, hi, h5, ?_⟩
          rw [hz, ← vEqL_ok h6]
        all_goals cases h6
      all_goals cases h2
  | sl e k bytes =>
    simp only [tyB, Bool.and_eq_true] at h
    obtain ⟨⟨h1, h2⟩, h3⟩ := h
    refine ⟨?_, ?_, ?_⟩
    · split at h1
      · rename_i e' he
        simp at h1; rw [he, h1]
      all_goals cases h1
    · split at h2
      · rename_i i hi
        simp only [Bool.and_eq_true, beq_iff_eq] at h2
        obtain ⟨h5, h6⟩ := h2
        split at h6
        · rename_i z hz
          exact ⟨i, hi, h5, by rw [hz, vEq_ok h6]⟩
        all_goals cases h6
      all_goals cases h2
    · split at h3
      · rename_i i hi
        simp only [Bool.and_eq_true, beq_iff_eq] at h3
        obtain ⟨⟨h5, h5'⟩, h6⟩ := h3
        split at h6
        · rename_i z hz
          exact ⟨i, hi, h5, h5', z, hz, by rw [← vEqL_ok h6]⟩
        all_goals cases h6
      all_goals cases h3
  | sc z =>
    simp only [tyB, Bool.and_eq_true] at h
    obtain ⟨⟨h1, h2⟩, h3⟩ := h
    refine ⟨?_, ?_, h3⟩
    · split at h1
      · cases h1
      · cases h1
      · rename_i d h7 h8 h9
        exact ⟨d, h9, fun fs he => h7 fs he, fun k e he => h8 k e he⟩
      all_goals cases h1
    · split at h2
      · rename_i i hi
        simp only [Bool.and_eq_true, beq_iff_eq] at h2
        obtain ⟨h5, h6⟩ := h2
        split at h6
        · rename_i z' hz
          exact ⟨i, hi, h5, by rw [hz, vEq_ok h6]⟩
        all_goals cases h6
      all_goals cases h2
  | mp =>
    simp only [tyB, Bool.and_eq_true] at h
    obtain ⟨h1, h2⟩ := h
    refine ⟨?_, ?_⟩
    · split at h1
      · rename_i kt et hu
        simp only [Bool.and_eq_true] at h1
        obtain ⟨h3, h4⟩ := h1
        refine ⟨kt, et, hu, ?_, ?_⟩
        · split at h3
          · assumption
          all_goals cases h3
        · split at h4
          · rename_i i hi
            split at h4
            · rename_i z hz; exact ⟨i, hi, by rw [hz, vEq_ok h4]⟩
            all_goals cases h4
          all_goals cases h4
      all_goals cases h1
    · split at h2
      · rename_i i hi; exact ⟨i, hi, by simpa using h2⟩
      all_goals cases h2
def TTOK (P : Program) (TT : List (Nat × Ty)) : Prop := ∀ t y, look TT t = some y → TyOK P t y
theorem tt_ok {P : Program} {TT : List (Nat × Ty)} (h : (TT.all fun p => tyB P p.1 p.2) = true) : TTOK P TT := fun t y hl => by
  rw [List.all_eq_true] at h
  exact tyB_ok (h _ (look_mem hl))

/-! ### values -/
section
variable {M : Mp} {A : Bool → Nat → Prop} {w : World}
theorem VR.int_inv {n : Int} {v : Value} (h : VR M A w (.int n) v) : v = .int .i64 n := by cases h; rfl
theorem VR.bool_inv {b : Bool} {v : Value} (h : VR M A w (.bool b) v) : v = .bool b := by cases h; rfl
theorem VR.val_inv {u v : Value} (h : VR M A w (.val u) v) : v = u := by cases h; rfl
theorem VR.nil_inv {v : Value} (h : VR M A w .nil v) : ∃ ao, v = .slice ao 0 0 := by cases h with | nil ao => exact ⟨ao, rfl⟩
theorem VR.agg_inv {l : List D} {v : Value} (h : VR M A w (.agg l) v) : ∃ us : Array Value, v = .agg us ∧ l.length = us.size ∧ ∀ i d, l[i]? = some d → VR M A w d (us.getD i undef) := by
  cases h with | agg _ us hl h => exact ⟨us, rfl, hl, h⟩
theorem VR.tup_inv {l : List D} {v : Value} (h : VR M A w (.tup l) v) : ∃ us : Array Value, v = .tuple us ∧ l.length = us.size ∧ ∀ i d, l[i]? = some d → VR M A w d (us.getD i undef) := by
  cases h with | tup _ us hl h => exact ⟨us, rfl, hl, h⟩
/-- a datum of one cell -/
def D.one : D → Bool
  | .int _ | .bool _ | .val _ | .nil | .ro _ _ | .row _ _ _ | .ptr _ _ | .clo _ _ | .map _ _ | .any => true
  | _ => false
theorem VR.one {d : D} {v : Value} (h : VR M A w d v) (hd : d.one = true) : v.oneCell' = true := by
  cases h <;> first | rfl | assumption | (simp [D.one] at hd)
theorem cells_one {v : Value} (h : v.oneCell' = true) : v.cells = #[v] := by cases v <;> first | rfl | (simp [Value.oneCell'] at h)
def D.cells : D → List D
  | .agg l => l
  | d => [d]
/-- data that can lie in memory -/
def D.flat : D → Bool
  | .agg l => l.all D.one
  | d => d.one
theorem VR.cells {d : D} {v : Value} (h : VR M A w d v) (hd : d.flat = true) : d.cells.length = v.cells.size ∧ (∀ i x, d.cells[i]? = some x → VR M A w x (v.cells.getD i undef)) ∧ ∀ u ∈ v.cells.toList, u.oneCell' = true := by
  cases d with
  | agg l =>
    obtain ⟨us, rfl, hl, hv⟩ := h.agg_inv
    refine ⟨hl, hv, fun u hu => ?_⟩
    obtain ⟨i, hi, rfl⟩ := List.getElem_of_mem hu
    simp only [Value.cells, Array.length_toList] at hi
    have h1 : l[i]? = some l[i] := List.getElem?_eq_getElem (by omega)
    have := hv i _ h1
    simp only [D.flat, List.all_eq_true] at hd
    have h2 := this.one (hd _ (List.getElem_mem _))
    simp only [Array.getD, hi, dif_pos] at h2
    simpa [Value.cells] using h2
  | _ =>
    have h1 := h.one hd
    rw [cells_one h1]
    refine ⟨rfl, fun i x hx => ?_, fun u hu => by simp at hu; subst hu; exact h1⟩
    rcases i with _ | i
    · simp [D.cells] at hx; subst hx; exact h
    · simp [D.cells] at hx
end

def Rg64 (x : Int) : Prop := -9223372036854775808 ≤ x ∧ x ≤ 9223372036854775807
theorem R64_wrap {x : Int} (h : Rg64 x) : IntKind.i64.wrap x = x := IntWalk.i64_in _ (by unfold Rg64 at h; omega)
def andI (a b : Int) : Int := IntKind.i64.wrap ((BitVec.ofInt 64 a &&& BitVec.ofInt 64 b).toNat : Int)
def orI (a b : Int) : Int := IntKind.i64.wrap ((BitVec.ofInt 64 a ||| BitVec.ofInt 64 b).toNat : Int)
def shrI (a b : Int) : Int := a.fdiv (2 ^ (min b.toNat 64))
def evalBin (op : BinOp) : D → D → Option (Prop × D)
  | .int a, .int b => match op with
    | .add => some (Rg64 (a + b), .int (a + b))
    | .sub => some (Rg64 (a - b), .int (a - b))
    | .mul => some (Rg64 (a * b), .int (a * b))
    | .quo => some (b ≠ 0 ∧ Rg64 (a.tdiv b), .int (a.tdiv b))
    | .rem => some (b ≠ 0, .int (a.tmod b))
    | .and => some (True, .int (andI a b))
    | .or => some (True, .int (orI a b))
    | .shl => some (0 ≤ b ∧ b < 64 ∧ Rg64 (a * 2 ^ b.toNat), .int (a * 2 ^ b.toNat))
    | .shr => some (0 ≤ b, .int (shrI a b))
    | .eql => some (True, .bool (a == b))
    | .neq => some (True, .bool (a != b))
    | .lss => some (True, .bool (decide (a < b)))
    | .leq => some (True, .bool (decide (a ≤ b)))
    | .gtr => some (True, .bool (decide (a > b)))
    | .geq => some (True, .bool (decide (a ≥ b)))
    | _ => none
  | _, _ => none
theorem evalBin_ok {P : Program} {M : Mp} {A : Bool → Nat → Prop} {w : World} {op : BinOp} {t : TypeId} {x y : Operand} {dx dy d : D} {ob : Prop} {vx vy : Value} (h : evalBin op dx dy = some (ob, d)) (ho : ob)
    (hx : VR M A w dx vx) (hy : VR M A w dy vy) : ∃ v, (do eqGuard op t x y vx vy; binOp op t vx vy : Sem Value).run P w = .ok v w ∧ VR M A w d v := by
  cases dx <;> first | (simp [evalBin] at h; done) | skip
  cases dy <;> first | (simp [evalBin] at h; done) | skip
  rename_i a b
  have e1 := hx.int_inv
  have e2 := hy.int_inv
  subst e1 e2
  simp only [evalBin] at h
  split at h <;> simp only [Option.some.injEq, Prod.mk.injEq, reduceCtorEq] at h <;> obtain ⟨rfl, rfl⟩ := h
  · exact ⟨_, by simp [eqGuard, binOp, Op.intArith, go_sem] <;> rfl, by rw [R64_wrap ho]; exact .int _⟩
  · exact ⟨_, by simp [eqGuard, binOp, Op.intArith, go_sem] <;> rfl, by rw [R64_wrap ho]; exact .int _⟩
  · exact ⟨_, by simp [eqGuard, binOp, Op.intArith, go_sem] <;> rfl, by rw [R64_wrap ho]; exact .int _⟩
  · obtain ⟨h1, h2⟩ := ho
    exact ⟨_, by simp [eqGuard, binOp, Op.intDiv, go_sem, h1] <;> rfl, by rw [R64_wrap h2]; exact .int _⟩
  · exact ⟨_, by simp [eqGuard, binOp, Op.intDiv, go_sem, ho] <;> rfl, .int _⟩
  · exact ⟨_, by simp [eqGuard, binOp, Op.intBits, go_sem, IntKind.bits] <;> rfl, .int _⟩
  · exact ⟨_, by simp [eqGuard, binOp, Op.intBits, go_sem, IntKind.bits] <;> rfl, .int _⟩
  · obtain ⟨h1, h2, h3⟩ := ho
    have h4 : ¬ b < 0 := by omega
    have h5 : min b.toNat 64 = b.toNat := by omega
    exact ⟨_, by simp [eqGuard, binOp, Op.shift, go_sem, h4, IntKind.bits, h5] <;> rfl, by rw [R64_wrap h3]; exact .int _⟩
  · have h4 : ¬ b < 0 := by omega
    exact ⟨_, by simp [eqGuard, binOp, Op.shift, go_sem, h4, IntKind.bits] <;> rfl, .int _⟩
  all_goals exact ⟨_, by simp [eqGuard, binOp, Op.intCmp, go_sem] <;> rfl, .bool _⟩
end Go.Proofs.Ytlmlfbjcpajinaa

/-! ## Vd -/
namespace Go.Proofs.Ytlmlfbjcpajinaa
open Go.RowKit Go.Deep
set_option linter.unusedSimpArgs false
set_option linter.unusedVariables false

/-- the cells from a pointer on, and what must hold for them to be there -/
def ptrCells (s : PS) : D → Option (Prop × List D)
  | .ptr b off => match s.b b with | some cs => some (True, cs.drop off) | none => none
  | .eptr r i off => match s.r r with | some (_, q) => some (0 ≤ i ∧ i < q.len, (q.elem true i.toNat).drop off) | none => none
  | .rptr f q i off => some (True, (q.elem f i.toNat).drop off)
  | _ => none
theorem ptrCells_ok {w0 : World} {O0 : Hd} {n : Nat} {M : Mp} {s : PS} {a : Act} {w : World} (h : Rel w0 O0 n M s a w) {p : D} {v : Value} (hv : VR M (Ow (Fs w0 O0) M) w p v)
    {ob : Prop} {cs : List D} (hp : ptrCells s p = some (ob, cs)) (ho : ob) : ∃ b o, v = .pointer (some ⟨b, o, none⟩) ∧ ∀ j d, cs[j]? = some d → ∃ u, w.cell? ⟨b, o + j, none⟩ = some u ∧ VR M (Ow (Fs w0 O0) M) w d u := by
  cases hv with
  | ptr b off _ h1 hv =>
    simp only [ptrCells] at hp
    split at hp
    · rename_i cs0 hb
      simp only [Option.some.injEq, Prod.mk.injEq] at hp
      obtain ⟨rfl, rfl⟩ := hp
      obtain ⟨k, cur, e, hk, hh, hl, hc⟩ := h.box b cs0 hb
      refine ⟨k, off, hv k hk, fun j d hd => ?_⟩
      rw [List.getElem?_drop] at hd
      have hlt : off + j < cur.size := by rw [← hl]; exact (List.getElem?_eq_some_iff.1 hd).1
      exact ⟨cur[off + j], by rw [cell_of_row w k (off + j) cur e (0, 0) hh]; simp [hlt], by have := hc _ d hd; simpa [hlt] using this⟩
    · cases hp
  | eptr r i off _ hv =>
    simp only [ptrCells] at hp
    split at hp
    · rename_i e q hr
      simp only [Option.some.injEq, Prod.mk.injEq] at hp
      obtain ⟨rfl, rfl⟩ := hp
      obtain ⟨h1, h2⟩ := ho
      have hi : i.toNat < q.len := by omega
      rcases h.row r e q hr with ⟨_, h0⟩ | ⟨g, cap, cur, hg, hh, hl, hm, hsz, hc⟩
      · omega
      · refine ⟨g, i.toNat * q.sz + off, hv g cap q.sz hg, fun j d hd => ?_⟩
        rw [List.getElem?_drop] at hd
        have hj : off + j < q.sz := by rw [← Sq.elem_len true q i.toNat]; exact (List.getElem?_eq_some_iff.1 hd).1
        have hlt : i.toNat * q.sz + (off + j) < cur.size := by
          rw [hsz]
          have h4 : (i.toNat + 1) * q.sz ≤ cap * q.sz := Nat.mul_le_mul_right _ (by omega)
          rw [Nat.add_mul, Nat.one_mul] at h4; omega
        refine ⟨cur[i.toNat * q.sz + (off + j)], ?_, ?_⟩
        · rw [Nat.add_assoc, cell_of_row w g _ cur e (0, 0) hh]; simp [hlt]
        · have := hc i.toNat _ d hi hd; simpa [hlt] using this
    · cases hp
  | rptr f q i off b o u hb hA hu hv =>
    simp only [ptrCells, Option.some.injEq, Prod.mk.injEq] at hp
    obtain ⟨rfl, rfl⟩ := hp
    refine ⟨b, o + off, rfl, fun j d hd => ?_⟩
    rw [List.getElem?_drop] at hd
    exact ⟨u (off + j), by rw [Nat.add_assoc]; exact hu _ d hd, hv _ d hd⟩
  | _ => simp [ptrCells] at hp

theorem Sq.len_take (q : Sq) (k : Nat) : (q.take k).len = min k q.len := by cases q <;> simp [Sq.take, Sq.len]
theorem Sq.len_drop (q : Sq) (k : Nat) : (q.drop k).len = q.len - k := by cases q <;> simp [Sq.drop, Sq.len]
theorem Sq.sz_take (q : Sq) (k : Nat) : (q.take k).sz = q.sz := by cases q <;> rfl
theorem Sq.sz_drop (q : Sq) (k : Nat) : (q.drop k).sz = q.sz := by cases q <;> rfl
theorem Sq.elem_sub (f : Bool) (q : Sq) (lo hi i : Nat) (h : i < hi - lo) : ((q.take hi).drop lo).elem f i = q.elem f (lo + i) := by
  have : lo + i < hi := by omega
  cases q <;> simp [Sq.take, Sq.drop, Sq.elem, List.getElem?_drop, List.getElem?_take, this]
/-- A part of what is only read. -/
theorem VR.ro_sub {f : Bool} {M : Mp} {A : Bool → Nat → Prop} {w : World} {q : Sq} {ao : Option Addr} {cap lo hi : Nat} (h : VR M A w (.ro f q) (.slice ao q.len cap)) (h1 : lo ≤ hi) (h2 : hi ≤ q.len) :
    VR M A w (.ro f ((q.take hi).drop lo)) (.slice (if cap = lo then ao else ao.map (·.add (lo * q.sz))) (hi - lo) (cap - lo)) := by
  cases h with
  | ro _ _ _ _ b o u hn hc hao hu hv =>
    have hl : ((q.take hi).drop lo).len = hi - lo := by rw [Sq.len_drop, Sq.len_take]; omega
    have := VR.ro (M := M) (A := A) (w := w) f ((q.take hi).drop lo) (if cap = lo then ao else ao.map (·.add (lo * q.sz))) (cap - lo) b (o + lo * q.sz) (fun i j => u (lo + i) j) (by rw [hl]; omega) (by rw [hl]; omega)
      (fun h0 => by
        rw [hl] at h0
        obtain ⟨a1, a2, a3⟩ := hao (by omega)
        refine ⟨?_, a2, a3⟩
        rw [if_neg (by omega), a1]; simp [Addr.add_lit])
      (fun i j d hi' hd => by
        rw [hl] at hi'
        rw [Sq.elem_sub f q lo hi i hi'] at hd
        have := hu (lo + i) j d (by omega) hd
        rw [Sq.sz_drop, Sq.sz_take]
        rw [show o + lo * q.sz + i * q.sz + j = o + (lo + i) * q.sz + j from by rw [Nat.add_mul]; omega]; exact this)
      (fun i j d hi' hd => by
        rw [hl] at hi'
        rw [Sq.elem_sub f q lo hi i hi'] at hd
        exact hv (lo + i) j d (by omega) hd)
    rwa [hl] at this
def optI (s : PS) : Option Operand → Option (Option Int)
  | none => some none
  | some x => match s.ev x with | .int n => some (some n) | _ => none
def lookD (ok : Bool) (l : List (Int × Int)) (k : Int) : D := match ok with | true => .tup [.int (mget l k), .bool (mhas l k)] | false => .int (mget l k)
def evalV (TT : List (Nat × Ty)) (s : PS) : Op → Option (Prop × D)
  | .move x | .assign x => some (True, s.ev x)
  | .nilCheck x => match s.ev x with
    | .ptr b off => (match s.b b with | some _ => some (True, .ptr b off) | none => none)
    | _ => none
  | .lookup t x i ok => match look TT t, s.ev x, s.ev i with
    | some .mp, .map _ l, .int k => some (True, lookD ok l k)
    | _, _, _ => none
  | .pick c a b => match s.ev c, s.ev a, s.ev b with
    | .bool c, .bool x, .bool y => some (True, .bool (bif c then x else y))
    | _, _, _ => none
  | .binOp op _ x y _ => evalBin op (s.ev x) (s.ev y)
  | .unOp .not _ x => match s.ev x with | .bool b => some (True, .bool (!b)) | _ => none
  | .unOp .neg _ x => match s.ev x with | .int n => some (Rg64 (-n), .int (-n)) | _ => none
  | .load t x => match ptrCells s (s.ev x), look TT t with
    | some (ob, cs), some (.st _ zs) => match Nat.ble zs.length cs.length with | true => some (ob, .agg (cs.take zs.length)) | false => none
    | some (ob, d :: _), some (.sl _ _ _) => some (ob, d)
    | some (ob, d :: _), some (.sc _) => some (ob, d)
    | _, _ => none
  | .fieldAddr t x f => match look TT t with
    | some (.st offs _) => match offs[f]? with
      | some o => match s.ev x with
        | .ptr b off => match s.b b with | some _ => some (True, .ptr b (off + o.1)) | none => none
        | .eptr r i off => match s.r r with | some (_, q) => some (0 ≤ i ∧ i < q.len, .eptr r i (off + o.1)) | none => none
        | .rptr f q i off => some (True, .rptr f q i (off + o.1))
        | _ => none
      | none => none
    | _ => none
  | .indexAddr t x i => match look TT t with
    | some (.sl _ k _) => match s.ev x, s.ev i with
      | .ro f q, .int i => match Nat.beq k.sz q.sz with | true => some (0 ≤ i ∧ i < q.len, .rptr f q i 0) | false => none
      | .row r 0 n, .int i => match s.r r with | some (_, q) => (match Nat.beq k.sz q.sz with | true => some (0 ≤ i ∧ i < n, .eptr r i 0) | false => none) | none => none
      | _, _ => none
    | _ => none
  | .slice t x lo hi none => match look TT t, optI s lo, optI s hi with
    | some (.sl _ k _), some lo, some hi => match s.ev x with
      | .ro f q => match Nat.beq k.sz q.sz with
        | true => match lo, hi with
          | some lo, some hi => some (0 ≤ lo ∧ lo ≤ hi ∧ hi ≤ q.len, .ro f ((q.take hi.toNat).drop lo.toNat))
          | some lo, none => some (0 ≤ lo ∧ lo ≤ q.len, .ro f ((q.take q.len).drop lo.toNat))
          | none, some hi => some (0 ≤ hi ∧ hi ≤ q.len, .ro f ((q.take hi.toNat).drop 0))
          | none, none => some (True, .ro f ((q.take q.len).drop 0))
        | false => none
      | .row r off n => match s.r r with
        | some (_, q) => match Nat.beq k.sz q.sz with
          | true => match lo, hi with
            | some lo, some hi => some (0 ≤ lo ∧ lo ≤ hi ∧ hi ≤ n, .row r (off + lo.toNat) (hi.toNat - lo.toNat))
            | some lo, none => some (0 ≤ lo ∧ lo ≤ n, .row r (off + lo.toNat) (n - lo.toNat))
            | none, some hi => some (0 ≤ hi ∧ hi ≤ n, .row r off hi.toNat)
            | none, none => some (True, .row r off n)
          | false => none
        | none => none
      | _ => none
    | _, _, _ => none
  | .extract x i => match s.ev x with
    | .tup l => match l[i]? with | some d => some (True, d) | none => none
    | _ => none
  | .call c => match c.callee, c.args.toList, c.argTypes.toList with
    | .builtin .len, [x], [t] => match look TT t with
      | some (.sl _ _ _) => match s.ev x with
        | .ro _ q => some (True, .int q.len)
        | .row r _ n => match s.r r with | some _ => some (True, .int n) | none => none
        | .nil => some (True, .int 0)
        | _ => none
      | _ => none
    | .builtin .min, [x, y], _ => match s.ev x, s.ev y with
      | .int a, .int b => some (True, .int (min a b))
      | _, _ => none
    | .builtin .max, [x, y], _ => match s.ev x, s.ev y with
      | .int a, .int b => some (True, .int (max a b))
      | _, _ => none
    | _, _, _ => none
  | _ => none

theorem add_lit (b o k : Nat) : (⟨b, o, none⟩ : Addr).add k = ⟨b, o + k, none⟩ := by simp [Addr.add_lit]
theorem ty_sl {P : Program} {t e : TypeId} {k : Sq} {b : Nat} (h : TyOK P t (.sl e k b)) (w : World) : (underlying t).run P w = .ok (.slice e) w := Go.run_underlying h.1 w
theorem ty_size {P : Program} {t e : TypeId} {k : Sq} {b : Nat} (h : TyOK P t (.sl e k b)) (w : World) : (sizeOf e).run P w = .ok k.sz w := by
  obtain ⟨_, _, i, hi, hs, _⟩ := h
  simp [sizeOf, typeInfo, hi, go_sem, hs]

section
variable {P : Program} {w0 : World} {O0 : Hd} {n : Nat} {M : Mp} {s : PS} {a : Act} {w : World} {TT : List (Nat × Ty)}
/-- the run of a reading operation -/
def RunV (F : Bool → Nat → Prop) (P : Program) (M : Mp) (w : World) (m : Sem Value) (d : D) : Prop := ∃ v, m.run P w = .ok v w ∧ VR M (Ow F M) w d v

theorem load_ok (hT : TTOK P TT) (h : Rel w0 O0 n M s a w) {t : TypeId} {x : Operand} {ob : Prop} {d : D} (hv : evalV TT s (.load t x) = some (ob, d)) (ho : ob) : RunV (Fs w0 O0) P M w (Instr.loadAt t (a.eval x)) d := by
  simp only [evalV] at hv
  have hx := h.ev x
  split at hv
  · rename_i ob' cs offs zs hp ht
    split at hv
    · rename_i hle
      simp only [Option.some.injEq, Prod.mk.injEq] at hv
      obtain ⟨rfl, rfl⟩ := hv
      obtain ⟨b, o, hvx, hc⟩ := ptrCells_ok h hx hp ho
      have hle' : zs.length ≤ cs.length := Nat.le_of_ble_eq_true hle
      obtain ⟨⟨fs, hu, _⟩, ⟨i, hi, hs, _⟩, _⟩ := hT t _ ht
      have hcell : ∀ j, j < zs.length → ∃ u, w.cell? ⟨b, o + j, none⟩ = some u ∧ ∀ d, cs[j]? = some d → VR M (Ow (Fs w0 O0) M) w d u := fun j hj => by
        have h1 : cs[j]? = some cs[j] := List.getElem?_eq_getElem (by omega)
        obtain ⟨u, h2, h3⟩ := hc j _ h1
        exact ⟨u, h2, fun d hd => by rw [h1] at hd; cases hd; exact h3⟩
      obtain ⟨f, hf⟩ := choose_lt hcell
      have hrun := run_loadCells (P := P) (w := w) ⟨b, o, none⟩ zs.length f (fun j hj => by rw [add_lit]; exact (hf j hj).1)
      unfold loadCells at hrun
      refine ⟨.agg (List.map f (List.range zs.length)).toArray, ?_, ?_⟩
      · rw [hvx]
        simp [Instr.loadAt, Instr.sureAddr, loadVar, isAgg, Go.run_underlying hu, sizeOf, typeInfo, hi, hs, go_sem, loadCells, hrun]
      · refine .agg _ _ (by simp; omega) fun j d hd => ?_
        rw [List.getElem?_take] at hd
        split at hd
        · rename_i hj
          have := (hf j hj).2 d hd
          simpa [hj] using this
        · cases hd
    · cases hv
  · rename_i ob' d' cs e k by' hp ht
    simp only [Option.some.injEq, Prod.mk.injEq] at hv
    obtain ⟨rfl, rfl⟩ := hv
    obtain ⟨b, o, hvx, hc⟩ := ptrCells_ok h hx hp ho
    obtain ⟨u, h1, h2⟩ := hc 0 d' rfl
    refine ⟨u, ?_, h2⟩
    rw [hvx]
    rw [Nat.add_zero] at h1
    simp [Instr.loadAt, Instr.sureAddr, loadVar, isAgg, ty_sl (hT t _ ht), go_sem, h1]
  · rename_i ob' d' cs z hp ht
    simp only [Option.some.injEq, Prod.mk.injEq] at hv
    obtain ⟨rfl, rfl⟩ := hv
    obtain ⟨b, o, hvx, hc⟩ := ptrCells_ok h hx hp ho
    obtain ⟨u, h1, h2⟩ := hc 0 d' rfl
    refine ⟨u, ?_, h2⟩
    rw [hvx]
    rw [Nat.add_zero] at h1
    obtain ⟨⟨dd, hu, hn1, hn2⟩, _⟩ := hT t _ ht
    have hag : (isAgg t).run P w = .ok false w := by
      cases dd <;> simp [isAgg, Go.run_underlying hu, go_sem]
      all_goals first | exact hn1 _ rfl | exact hn2 _ _ rfl
    simp [Instr.loadAt, Instr.sureAddr, loadVar, hag, go_sem, h1]
  · cases hv

theorem field_ok (hT : TTOK P TT) (h : Rel w0 O0 n M s a w) {t : TypeId} {x : Operand} {f : Nat} {ob : Prop} {d : D} (hv : evalV TT s (.fieldAddr t x f) = some (ob, d)) (ho : ob) : RunV (Fs w0 O0) P M w (Instr.fieldAt t (a.eval x) f) d := by
  simp only [evalV] at hv
  have hx := h.ev x
  split at hv
  case h_2 => cases hv
  rename_i offs zs ht
  split at hv
  case h_2 => cases hv
  rename_i o hof
  obtain ⟨⟨fs, hu, hfs⟩, _⟩ := hT t _ ht
  obtain ⟨fd, i, h1, h2, h3, h4, h5⟩ := hfs f o hof
  have hrun : ∀ b k, a.eval x = .pointer (some ⟨b, k, none⟩) → (Instr.fieldAt t (a.eval x) f).run P w = .ok (.pointer (some ⟨b, k + o.1, none⟩)) w := fun b k he => by
    rw [he]
    have h6 : i.size ≠ 0 := by rw [h4]; exact h5
    simp [Instr.fieldAt, Instr.sureAddr, Go.run_underlying hu, h1, fieldPlace, sizeOf, typeInfo, h3, h6, go_sem, add_lit, h2]
  split at hv
  · rename_i b off hev
    rw [hev] at hx
    split at hv
    · rename_i cs hb
      simp only [Option.some.injEq, Prod.mk.injEq] at hv
      obtain ⟨rfl, rfl⟩ := hv
      obtain ⟨k, cur, e, hk, _⟩ := h.box b cs hb
      cases hx with
      | ptr _ _ _ g1 g2 =>
        refine ⟨_, hrun k off (g2 k hk), .ptr _ _ _ rfl fun k' hk' => ?_⟩
        rw [hk] at hk'; cases hk'; rfl
    · cases hv
  · rename_i r i' off hev
    rw [hev] at hx
    split at hv
    · rename_i e q hr
      simp only [Option.some.injEq, Prod.mk.injEq] at hv
      obtain ⟨rfl, rfl⟩ := hv
      rcases h.row r e q hr with ⟨_, h0⟩ | ⟨g, cap, cur, hg, _⟩
      · omega
      · cases hx with
        | eptr _ _ _ _ g2 =>
          refine ⟨_, hrun g _ (g2 g cap q.sz hg), .eptr _ _ _ _ fun g' c' z' hg' => ?_⟩
          rw [hg] at hg'; cases hg'; rw [Nat.add_assoc]
    · cases hv
  · rename_i f' q i' off hev
    rw [hev] at hx
    simp only [Option.some.injEq, Prod.mk.injEq] at hv
    obtain ⟨rfl, rfl⟩ := hv
    generalize hx' : a.eval x = vx at hx
    cases hx with
    | rptr _ _ _ _ b o' u hb hA hu' hv' => 
      have hr := hrun b (o' + off) hx'
      rw [hx', Nat.add_assoc] at hr
      exact ⟨_, hr, .rptr _ q i' _ b o' u hb hA hu' hv'⟩
  · cases hv

theorem index_ok (hT : TTOK P TT) (h : Rel w0 O0 n M s a w) {t : TypeId} {x y : Operand} {ob : Prop} {d : D} (hv : evalV TT s (.indexAddr t x y) = some (ob, d)) (ho : ob) : RunV (Fs w0 O0) P M w (Instr.indexAt t (a.eval x) (a.eval y)) d := by
  simp only [evalV] at hv
  have hx := h.ev x
  have hy := h.ev y
  split at hv
  case h_2 => cases hv
  rename_i e k by' ht
  have hty := hT t _ ht
  have hrun : ∀ b o len cap (i : Int), a.eval x = .slice (some ⟨b, o, none⟩) len cap → a.eval y = .int .i64 i → 0 ≤ i → i < len → (Instr.indexAt t (a.eval x) (a.eval y)).run P w = .ok (.pointer (some ⟨b, o + i.toNat * k.sz, none⟩)) w := fun b o len cap i h1 h2 h3 h4 => by
    rw [h1, h2]
    simp [Instr.indexAt, asIntOf, ty_sl hty, ty_size hty, go_sem, h3, h4, add_lit]
  split at hv
  · rename_i f q i hex hey
    rw [hex] at hx
    rw [hey] at hy
    split at hv
    · rename_i hk
      have hk := Nat.eq_of_beq_eq_true hk
      simp only [Option.some.injEq, Prod.mk.injEq] at hv
      obtain ⟨rfl, rfl⟩ := hv
      obtain ⟨h1, h2⟩ := ho
      generalize hx' : a.eval x = vx at hx
      cases hx with
      | ro _ _ ao cap b o u hn hc hao hu hv =>
        obtain ⟨a1, a2, a3⟩ := hao (by omega)
        subst a1
        have hr := hrun b o _ _ i hx' hy.int_inv h1 (by omega)
        rw [hx'] at hr
        refine ⟨_, hr, ?_⟩
        exact .rptr f q i 0 b (o + i.toNat * k.sz) (fun j => u i.toNat j) a2 a3 (fun j d hd => by rw [hk]; exact hu i.toNat j d (by omega) hd) (fun j d hd => hv i.toNat j d (by omega) hd)
    · cases hv
  · rename_i r n' i hex hey
    rw [hex] at hx
    rw [hey] at hy
    split at hv
    · rename_i e' q hr
      split at hv
      · rename_i hk
        have hk := Nat.eq_of_beq_eq_true hk
        simp only [Option.some.injEq, Prod.mk.injEq] at hv
        obtain ⟨rfl, rfl⟩ := hv
        obtain ⟨h1, h2⟩ := ho
        cases hx with
        | row _ _ _ _ g1 g2 =>
          rcases h.row r e' q hr with ⟨hg, _⟩ | ⟨g, cap, cur, hg, _⟩
          · obtain ⟨_, h0, _⟩ := g2 _ hg
            omega
          · obtain ⟨h3, ao, h4, h5⟩ := g2 _ hg
            have h6 := h5 (.inr rfl)
            subst h6
            refine ⟨_, hrun g _ _ _ i h4 hy.int_inv h1 h2, .eptr _ _ _ _ fun g' c' z' hg' => ?_⟩
            rw [hg] at hg'; cases hg'
            simp [hk]
      · cases hv
    · cases hv
  · cases hv
end
end Go.Proofs.Ytlmlfbjcpajinaa

/-! ## Ve -/
namespace Go.Proofs.Ytlmlfbjcpajinaa
open Go.RowKit Go.Deep
set_option linter.unusedSimpArgs false
set_option linter.unusedVariables false

section
variable {P : Program} {w0 : World} {O0 : Hd} {n : Nat} {M : Mp} {s : PS} {a : Act} {w : World} {TT : List (Nat × Ty)}

theorem VR.slice_form {A : Bool → Nat → Prop} {f : Bool} {q : Sq} {v : Value} (h : VR M A w (.ro f q) v) : ∃ ao cap, v = .slice ao q.len cap ∧ q.len ≤ cap := by
  cases h with | ro _ _ ao cap b o u hn hc => exact ⟨ao, cap, rfl, hc⟩

theorem optI_ok (h : Rel w0 O0 n M s a w) {x : Option Operand} {r : Option Int} (he : optI s x = some r) : x.map a.eval = r.map (Value.int .i64) := by
  cases x with
  | none => simp [optI] at he; subst he; rfl
  | some x =>
    simp only [optI] at he
    split at he
    · rename_i k hk
      simp at he
      subst he
      have := h.ev x
      rw [hk] at this
      simp [this.int_inv]
    · cases he

theorem run_bounds (len cap : Nat) (lo hi : Option Int) (h1 : ∀ l, lo = some l → 0 ≤ l) (h2 : ∀ h, hi = some h → 0 ≤ h ∧ h ≤ cap) (h3 : ∀ l, lo = some l → l ≤ (hi.getD (len : Int))) :
    (Instr.sliceBounds true len cap (lo.map (Value.int .i64)) (hi.map (Value.int .i64)) none).run P w = .ok ((lo.getD 0).toNat, (hi.getD (len : Int)).toNat, cap) w := by
  cases lo with
  | none =>
    cases hi with
    | none => simp [Instr.sliceBounds, go_sem]
    | some h =>
      obtain ⟨a1, a2⟩ := h2 h rfl
      simp [Instr.sliceBounds, Instr.sliceBound, asIntOf, go_sem, a1, a2]
  | some l =>
    have b1 := h1 l rfl
    have b2 := h3 l rfl
    cases hi with
    | none => simp at b2; simp [Instr.sliceBounds, Instr.sliceBound, asIntOf, go_sem, b1, b2]
    | some h =>
      obtain ⟨a1, a2⟩ := h2 h rfl
      simp at b2
      have b3 : l ≤ ((h.toNat : Nat) : Int) := by omega
      simp [Instr.sliceBounds, Instr.sliceBound, asIntOf, go_sem, a1, a2, b1, b2, b3] <;> (intro hh; omega)

theorem slice_ok (hT : TTOK P TT) (h : Rel w0 O0 n M s a w) {t : TypeId} {x : Operand} {lo hi : Option Operand} {ob : Prop} {d : D} (hv : evalV TT s (.slice t x lo hi none) = some (ob, d)) (ho : ob) :
    RunV (Fs w0 O0) P M w (Instr.sliceAt t (a.eval x) (lo.map a.eval) (hi.map a.eval) none) d := by
  simp only [evalV] at hv
  have hx := h.ev x
  split at hv
  case h_2 => cases hv
  rename_i e k by' lo' hi' ht hlo hhi
  have hty := hT t _ ht
  rw [optI_ok h hlo, optI_ok h hhi]
  have hrun : ∀ ao len cap (l u : Nat), (Instr.sliceBounds true len cap (lo'.map (Value.int .i64)) (hi'.map (Value.int .i64)) none).run P w = .ok (l, u, cap) w →
      (Instr.sliceAt t (.slice ao len cap) (lo'.map (Value.int .i64)) (hi'.map (Value.int .i64)) none).run P w = .ok (.slice (if cap = l then ao else ao.map (·.add (l * k.sz))) (u - l) (cap - l)) w := fun ao len cap l u hb => by
    simp [Instr.sliceBounds, go_sem] at hb
    simp [Instr.sliceAt, Instr.slice, ty_sl hty, ty_size hty, go_sem, Instr.sliceBounds, hb]
  split at hv
  · rename_i f q hex
    rw [hex] at hx
    split at hv
    case h_2 => cases hv
    rename_i hk
    have hk := Nat.eq_of_beq_eq_true hk
    obtain ⟨ao, cap, hvx, hcap⟩ := hx.slice_form
    rw [hvx] at hx ⊢
    rw [hk] at hrun
    cases lo' <;> cases hi' <;> simp only [Option.some.injEq, Prod.mk.injEq] at hv <;> obtain ⟨rfl, rfl⟩ := hv
    · have hb := run_bounds (P := P) (w := w) q.len cap none none (by simp) (by simp) (by simp)
      exact ⟨_, hrun _ _ _ _ _ hb, by simpa using hx.ro_sub (lo := 0) (hi := q.len) (by omega) (by omega)⟩
    · rename_i u
      obtain ⟨h1, h2⟩ := ho
      have hb := run_bounds (P := P) (w := w) q.len cap none (some u) (by simp) (by intro h e; cases e; omega) (by simp)
      exact ⟨_, hrun _ _ _ _ _ hb, by simpa using hx.ro_sub (lo := 0) (hi := u.toNat) (by omega) (by omega)⟩
    · rename_i l
      obtain ⟨h1, h2⟩ := ho
      have hb := run_bounds (P := P) (w := w) q.len cap (some l) none (by intro h e; cases e; omega) (by simp) (by intro h e; cases e; simp; omega)
      exact ⟨_, hrun _ _ _ _ _ hb, by simpa using hx.ro_sub (lo := l.toNat) (hi := q.len) (by omega) (by omega)⟩
    · rename_i l u
      obtain ⟨h1, h2, h3⟩ := ho
      have hb := run_bounds (P := P) (w := w) q.len cap (some l) (some u) (by intro h e; cases e; omega) (by intro h e; cases e; omega) (by intro h e; cases e; simp; omega)
      exact ⟨_, hrun _ _ _ _ _ hb, by simpa using hx.ro_sub (lo := l.toNat) (hi := u.toNat) (by omega) (by omega)⟩
  · rename_i r off m hex
    rw [hex] at hx
    split at hv
    case h_2 => cases hv
    rename_i e' q hr
    split at hv
    case h_2 => cases hv
    rename_i hk
    have hk := Nat.eq_of_beq_eq_true hk
    rw [hk] at hrun
    generalize hvx : a.eval x = vx at hx
    cases hx with
    | row _ _ _ _ g1 g2 =>
      have key : ∀ (l u : Nat), l ≤ u → u ≤ m → ∀ ao c, vx = .slice ao m c → VR M (Ow (Fs w0 O0) M) w (.row r (off + l) (u - l)) (.slice (if c = l then ao else ao.map (·.add (l * q.sz))) (u - l) (c - l)) := fun l u h1 h2 ao c hvx => by
        refine .row _ _ _ _ rfl fun y hy => ?_
        have hr' := g2 y hy
        rcases h.row r e' q hr with ⟨hg, h0⟩ | ⟨g, cap, cur, hg, _⟩
        · rw [hg] at hy; cases hy
          simp only [RowV] at hr' ⊢
          obtain ⟨⟨ao0, h3⟩, h4, h5⟩ := hr'
          rw [hvx] at h3; cases h3
          have : l = 0 := by omega
          subst this
          exact ⟨⟨_, by rw [show u - 0 = 0 from by omega]⟩, by omega, by omega⟩
        · rw [hg] at hy; cases hy
          simp only [RowV] at hr' ⊢
          obtain ⟨h3, ao', h4, h5⟩ := hr'
          rw [hvx] at h4; cases h4
          refine ⟨by omega, _, by rw [show cap - off - l = cap - (off + l) from by omega], fun h6 => ?_⟩
          by_cases hl : cap - off = l
          · rw [if_pos hl]
            have : off = 0 := by omega
            subst this
            have hl0 : l = 0 := by omega
            subst hl0
            have := h5 (.inr rfl)
            simp [this]
          · rw [if_neg hl]
            have := h5 (by omega)
            rw [this]; simp [add_lit, Nat.add_mul]
      have form : ∃ ao c, vx = .slice ao m c ∧ m ≤ c := by
        rcases h.row r e' q hr with ⟨hg, h0⟩ | ⟨g, cap, cur, hg, _⟩
        · have := g2 _ hg; simp only [RowV] at this; obtain ⟨ao, ha⟩ := this.1; exact ⟨ao, 0, by rw [ha, this.2.1], by omega⟩
        · have := g2 _ hg; simp only [RowV] at this; obtain ⟨h1, ao, h2, _⟩ := this; exact ⟨ao, _, h2, by omega⟩
      obtain ⟨ao, c, hvx', hc⟩ := form
      rw [hvx']
      cases lo' <;> cases hi' <;> simp only [Option.some.injEq, Prod.mk.injEq] at hv <;> obtain ⟨rfl, rfl⟩ := hv
      · have hb := run_bounds (P := P) (w := w) m c none none (by simp) (by simp) (by simp)
        exact ⟨_, hrun _ _ _ _ _ hb, by simpa using key 0 m (by omega) (by omega) ao c hvx'⟩
      · rename_i u
        obtain ⟨h1, h2⟩ := ho
        have hb := run_bounds (P := P) (w := w) m c none (some u) (by simp) (by intro h e; cases e; omega) (by simp)
        exact ⟨_, hrun _ _ _ _ _ hb, by simpa using key 0 u.toNat (by omega) (by omega) ao c hvx'⟩
      · rename_i l
        obtain ⟨h1, h2⟩ := ho
        have hb := run_bounds (P := P) (w := w) m c (some l) none (by intro h e; cases e; omega) (by simp) (by intro h e; cases e; simp; omega)
        exact ⟨_, hrun _ _ _ _ _ hb, by simpa using key l.toNat m (by omega) (by omega) ao c hvx'⟩
      · rename_i l u
        obtain ⟨h1, h2, h3⟩ := ho
        have hb := run_bounds (P := P) (w := w) m c (some l) (some u) (by intro h e; cases e; omega) (by intro h e; cases e; omega) (by intro h e; cases e; simp; omega)
        exact ⟨_, hrun _ _ _ _ _ hb, by simpa using key l.toNat u.toNat (by omega) (by omega) ao c hvx'⟩
  · cases hv

/-- Every reading operation does what it is reckoned to do. -/
theorem val_ok (hT : TTOK P TT) (h : Rel w0 O0 n M s a w) {o : Oper} {ob : Prop} {d : D} (hv : evalV TT s o.op = some (ob, d)) (ho : ob) :
    ∃ v, (execOp a.eval o).run P w = .ok (.value v) w ∧ VR M (Ow (Fs w0 O0) M) w d v := by
  have wrap : ∀ {m : Sem Value}, RunV (Fs w0 O0) P M w m d → ∃ v, (do pure (Next.value (← m)) : Sem Next).run P w = .ok (.value v) w ∧ VR M (Ow (Fs w0 O0) M) w d v := by
    rintro m ⟨v, h1, h2⟩
    exact ⟨v, by simp [go_sem, h1], h2⟩
  unfold execOp
  generalize o.op = op at hv ⊢
  cases op <;> try (simp [evalV] at hv; done)
  case move x => simp only [evalV, Option.some.injEq, Prod.mk.injEq] at hv; obtain ⟨rfl, rfl⟩ := hv; exact ⟨_, by simp [go_sem], h.ev x⟩
  case assign x => simp only [evalV, Option.some.injEq, Prod.mk.injEq] at hv; obtain ⟨rfl, rfl⟩ := hv; exact ⟨_, by simp [go_sem], h.ev x⟩
  case nilCheck x =>
    simp only [evalV] at hv
    have hx := h.ev x
    split at hv
    · rename_i b off he
      split at hv
      · rename_i cs hb
        simp only [Option.some.injEq, Prod.mk.injEq] at hv
        obtain ⟨rfl, rfl⟩ := hv
        rw [he] at hx
        obtain ⟨k, cur, e, g1, _⟩ := h.box b cs hb
        cases hx with
        | ptr _ _ _ h1 h2 =>
          have hv := h2 k g1
          exact ⟨a.eval x, by simp only [hv]; rfl, .ptr _ _ _ h1 h2⟩
      · cases hv
    · cases hv
  case lookup t x i ok =>
    simp only [evalV] at hv
    split at hv
    · rename_i k l k' hy hx hi
      simp only [Option.some.injEq, Prod.mk.injEq] at hv
      obtain ⟨rfl, rfl⟩ := hv
      obtain ⟨⟨kt, et, hu, hk, ii, hii, hz⟩, _⟩ := hT t _ hy
      have hvx := h.ev x
      have hvi := h.ev i
      rw [hx] at hvx
      rw [hi] at hvi
      have e2 := hvi.int_inv
      generalize hgx : a.eval x = vx at hvx
      cases hvx with
      | map _ _ es clock hh hl hkk =>
        refine wrap ⟨lookV ok l k', by simp only [e2, hgx]; exact run_lookupI hu hk hii hz hh hl k' ok, ?_⟩
        cases ok
        · exact .int _
        · refine .tup _ _ (by simp) fun j d hd => ?_
          rcases j with _ | _ | j <;> simp at hd <;> subst hd
          · exact .int _
          · exact .bool _
    · cases hv
  case pick c x y =>
    simp only [evalV] at hv
    have hc := h.ev c
    have hx := h.ev x
    have hy := h.ev y
    split at hv
    · rename_i bc bx by' e1 e2 e3
      rw [e1] at hc; rw [e2] at hx; rw [e3] at hy
      simp only [Option.some.injEq, Prod.mk.injEq] at hv
      obtain ⟨rfl, rfl⟩ := hv
      refine ⟨.bool (bif bc then bx else by'), ?_, .bool _⟩
      simp only [hc.bool_inv, hx.bool_inv, hy.bool_inv]
      cases bc <;> simp [asBool, go_sem]
    · cases hv
  case load t x => exact wrap (load_ok hT h hv ho)
  case binOp op t x y u =>
    simp only [evalV] at hv
    obtain ⟨v, h1, h2⟩ := evalBin_ok (P := P) (t := t) (x := x) (y := y) hv ho (h.ev x) (h.ev y)
    exact wrap ⟨v, h1, h2⟩
  case unOp op t x =>
    have hx := h.ev x
    cases op <;> simp only [evalV] at hv <;> try (cases hv; done)
    · split at hv
      · rename_i k hk
        rw [hk] at hx
        simp only [Option.some.injEq, Prod.mk.injEq] at hv
        obtain ⟨rfl, rfl⟩ := hv
        exact ⟨.int .i64 (-k), by simp only [hx.int_inv]; simp [Op.unary, Op.intArith, go_sem, R64_wrap ho], .int _⟩
      · cases hv
    · split at hv
      · rename_i b hb
        rw [hb] at hx
        simp only [Option.some.injEq, Prod.mk.injEq] at hv
        obtain ⟨rfl, rfl⟩ := hv
        exact ⟨.bool (!b), by simp only [hx.bool_inv]; simp [Op.unary, go_sem], .bool _⟩
      · cases hv
  case slice t x lo hi mx =>
    cases mx with
    | none => exact wrap (slice_ok hT h hv ho)
    | some _ => simp [evalV] at hv
  case fieldAddr t x f => exact wrap (field_ok hT h hv ho)
  case indexAddr t x y => exact wrap (index_ok hT h hv ho)
  case extract x i =>
    have hx := h.ev x
    simp only [evalV] at hv
    split at hv
    case h_2 => cases hv
    rename_i l hl
    split at hv
    case h_2 => cases hv
    rename_i d' hd
    simp only [Option.some.injEq, Prod.mk.injEq] at hv
    obtain ⟨rfl, rfl⟩ := hv
    rw [hl] at hx
    obtain ⟨us, h1, h2, h3⟩ := hx.tup_inv
    have hi : i < us.size := by rw [← h2]; exact (List.getElem?_eq_some_iff.1 hd).1
    exact ⟨us[i], by simp only [h1]; simp [Instr.extract, hi, go_sem], by have := h3 i _ hd; simpa [hi] using this⟩
  case call c =>
    obtain ⟨callee, args, ts⟩ := c
    simp only [evalV] at hv
    split at hv
    · rename_i x t e1 e2
      obtain rfl : args = #[x] := by cases args; simp_all
      obtain rfl : ts = #[t] := by cases ts; simp_all
      have hx := h.ev x
      split at hv
      case h_2 => cases hv
      rename_i e k b ht
      have hty := hT t _ ht
      have hrun : ∀ ao m c, a.eval x = .slice ao m c → (do let d ← resolve a.eval { callee := .builtin .len, args := #[x], argTypes := #[t] } o.type; invoke d.target d.args : Sem Next).run P w = .ok (.value (.int .i64 m)) w := fun ao m c he => by
        simp only [resolve, List.map_toArray, List.map_cons, List.map_nil, he]
        simp [invoke, Go.builtin, Builtin.len_, ty_sl hty, go_sem, goInt]
      split at hv
      · rename_i f q hq
        rw [hq] at hx
        simp only [Option.some.injEq, Prod.mk.injEq] at hv
        obtain ⟨rfl, rfl⟩ := hv
        obtain ⟨ao, cap, he, _⟩ := hx.slice_form
        exact ⟨_, hrun _ _ _ he, .int _⟩
      · rename_i r off m hq
        rw [hq] at hx
        split at hv
        case h_2 => cases hv
        rename_i x' hr
        obtain ⟨e', q⟩ := x'
        simp only [Option.some.injEq, Prod.mk.injEq] at hv
        obtain ⟨rfl, rfl⟩ := hv
        generalize he : a.eval x = vx at hx
        cases hx with
        | row _ _ _ _ g1 g2 =>
          have form : ∃ ao c, vx = .slice ao m c := by
            rcases h.row r e' q hr with ⟨hg, h0⟩ | ⟨g, cap, cur, hg, _⟩
            · have := g2 _ hg; simp only [RowV] at this; obtain ⟨ao, ha⟩ := this.1; exact ⟨ao, 0, by rw [ha, this.2.1]⟩
            · have := g2 _ hg; simp only [RowV] at this; obtain ⟨h1, ao, h2, _⟩ := this; exact ⟨ao, _, h2⟩
          obtain ⟨ao, c, hf⟩ := form
          exact ⟨_, hrun _ _ _ (he.trans hf), .int _⟩
      · rename_i hq
        rw [hq] at hx
        simp only [Option.some.injEq, Prod.mk.injEq] at hv
        obtain ⟨rfl, rfl⟩ := hv
        obtain ⟨ao0, hn0⟩ := hx.nil_inv
        exact ⟨_, hrun _ _ _ hn0, .int _⟩
      · cases hv
    · rename_i x y e2
      obtain rfl : args = #[x, y] := by cases args; simp_all
      have hx := h.ev x
      have hy := h.ev y
      split at hv
      · rename_i p q e1 e2
        rw [e1] at hx; rw [e2] at hy
        simp only [Option.some.injEq, Prod.mk.injEq] at hv
        obtain ⟨rfl, rfl⟩ := hv
        refine ⟨.int .i64 (if q < p then q else p), ?_, ?_⟩
        · simp only [resolve, List.map_toArray, List.map_cons, List.map_nil, hx.int_inv, hy.int_inv]
          simp [invoke, Go.builtin, Builtin.min_, Builtin.min2, go_sem]
        · rw [show min p q = (if q < p then q else p) from by split <;> omega]; exact .int _
      · cases hv
    · rename_i x y e2
      obtain rfl : args = #[x, y] := by cases args; simp_all
      have hx := h.ev x
      have hy := h.ev y
      split at hv
      · rename_i p q e1 e2
        rw [e1] at hx; rw [e2] at hy
        simp only [Option.some.injEq, Prod.mk.injEq] at hv
        obtain ⟨rfl, rfl⟩ := hv
        refine ⟨.int .i64 (if p < q then q else p), ?_, ?_⟩
        · simp only [resolve, List.map_toArray, List.map_cons, List.map_nil, hx.int_inv, hy.int_inv]
          simp [invoke, Go.builtin, Builtin.max_, Builtin.max2, go_sem]
        · rw [show max p q = (if p < q then q else p) from by split <;> omega]; exact .int _
      · cases hv
    · cases hv
end
end Go.Proofs.Ytlmlfbjcpajinaa

/-! ## Vf -/
namespace Go.Proofs.Ytlmlfbjcpajinaa
open Go.RowKit Go.Deep
set_option linter.unusedSimpArgs false
set_option linter.unusedVariables false

def frB (s : PS) (b r : Nat → Bool) : Bool := s.tmp.all (fun p => !ment b r p.2) && s.box.all (fun p => match p.2 with | some cs => cs.all (fun d => !mentS b r d) | none => true)
theorem frB_t {s : PS} {b r : Nat → Bool} (h : frB s b r = true) (t : Nat) : ment b r (s.t t) = false := by
  simp only [frB, Bool.and_eq_true, List.all_eq_true] at h
  unfold PS.t
  split
  · rename_i d hd
    have := h.1 _ (look_mem hd)
    simpa using this
  · rfl
theorem frB_b {s : PS} {b r : Nat → Bool} (h : frB s b r = true) {x : Nat} {cs : List D} (hx : s.b x = some cs) : ∀ d ∈ cs, mentS b r d = false := by
  simp only [frB, Bool.and_eq_true, List.all_eq_true] at h
  unfold PS.b at hx
  split at hx
  · rename_i y hy
    subst hx
    have := h.2 _ (look_mem hy)
    simp only [List.all_eq_true] at this
    intro d hd
    simpa using this d hd
  · cases hx

/-- no datum of s has one of these names -/
structure Fresh (s : PS) (b r : Nat → Bool) : Prop where
  t : ∀ x, ment b r (s.t x) = false
  b : ∀ x cs, s.b x = some cs → ∀ d ∈ cs, mentS b r d = false
theorem frB_ok {s : PS} {b r : Nat → Bool} (h : frB s b r = true) : Fresh s b r := ⟨frB_t h, fun _ _ hx => frB_b h hx⟩

theorem Fr.step {O0 : Hd} {w0 w w' : World} (h : Fr O0 w0 w) (hos : w'.os = w.os) (ht : w'.tape = w.tape) (ho : w'.output = w.output) (hs : w.heap.size ≤ w'.heap.size)
    (hb : ∀ k, k < w0.heap.size → ¬ O0 k → w'.heap[k]? = w.heap[k]?) : Fr O0 w0 w' :=
  ⟨hos.trans h.os, ht.trans h.tape, ho.trans h.output, Nat.le_trans h.size hs, fun k h1 h2 => (hb k h1 h2).trans (h.block k h1 h2)⟩

section
variable {w0 : World} {O0 : Hd} {n : Nat} {M : Mp} {s : PS} {a : Act} {w : World}

def PS.addBox (s : PS) (b : Nat) (cs : List D) : PS := ⟨s.tmp, s.row, (b, some cs) :: s.box⟩
/-- A new box. -/
theorem Rel.newBox (h : Rel w0 O0 n M s a w) {b : Nat} {cs : List D} {cur : Array Value} {e : TypeId} (hf : Fresh s (fun x => Nat.beq x b) (fun _ => false)) (hl : cs.length = cur.size)
    (hc : ∀ j d, cs[j]? = some d → VR M (Ow (Fs w0 O0) M) w d (cur.getD j undef)) (hm : ∀ d ∈ cs, mentS (fun x => Nat.beq x b) (fun _ => false) d = false) (hlo : b < 1000000) :
    ∃ M', Rel w0 O0 n M' (s.addBox b cs) a (w.alloc (.cells cur e)) ∧ M'.β b = some w.heap.size := by
  let M' : Mp := ⟨fun x => if x = b then some w.heap.size else M.β x, M.γ⟩
  have hown : ∀ k, M'.owned k → M.owned k ∨ k = w.heap.size := by
    rintro k (⟨x, hx⟩ | ⟨r, c, z, hr⟩)
    · simp only [M'] at hx
      split at hx
      · cases hx; exact .inr rfl
      · exact .inl (.inl ⟨x, hx⟩)
    · exact .inl (.inr ⟨r, c, z, hr⟩)
  have hA : ∀ f k, k < w.heap.size → Ow (Fs w0 O0) M f k → Ow (Fs w0 O0) M' f k ∧ k < (w.alloc (.cells cur e)).heap.size ∧ (w.alloc (.cells cur e)).heap[k]? = w.heap[k]? := fun f k h1 h2 =>
    ⟨⟨fun h3 => by rcases hown k h3 with h4 | h4; exact h2.1 h4; omega, h2.2⟩, by simp; omega, Below.heap_alloc w _ k h1⟩
  have hβ : ∀ x k, Nat.beq x b = false → M'.β x = some k → M.β x = some k := fun x k h1 h2 => by
    simp only [M'] at h2
    rw [if_neg] at h2
    · exact h2
    · intro e; subst e; rw [Nat.beq_refl] at h1; cases h1
  have hγ : ∀ x y, (fun _ => false) x = false → M'.γ x = some y → M.γ x = some y := fun x y _ h => h
  refine ⟨M', ⟨?_, h.dfr, h.sz, fun t => ?_, fun x ds hx => ?_, fun x hx => ?_, fun r e q hr => ?_, fun r hr => h.rown r hr, fun k hk => ?_, fun x x' k h1 h2 => ?_, h.inj2, fun x r k c z h1 h2 => ?_, h.nle, fun x k k' h1 h2 => ?_, h.fxr⟩, by simp [M']⟩
  · exact h.fr.step rfl rfl rfl (by simp) fun k h1 _ => Below.heap_alloc w _ k (Nat.lt_of_lt_of_le h1 h.fr.size)
  · exact VR.new hA hγ hβ (hf.t t) (h.tmp t)
  · by_cases hxb : b = x
    · subst hxb
      simp [PS.addBox, PS.b, look_cons_self] at hx
      subst hx
      exact ⟨w.heap.size, cur, e, by simp [M'], heap_alloc_new w _, hl, fun j d hd => VR.newS hA hγ hβ (hm d (List.mem_of_getElem? hd)) (hc j d hd)⟩
    · have hx' : s.b x = some ds := by simpa [PS.addBox, PS.b, look_cons_ne hxb] using hx
      obtain ⟨k, cur', e', h1, h2, h3, h4⟩ := h.box x ds hx'
      have hlt := (Array.getElem?_eq_some_iff.1 h2).1
      exact ⟨k, cur', e', by simp [M', Ne.symm hxb, h1], (Below.heap_alloc w _ k hlt).trans h2, h3, fun j d hd => VR.newS hA hγ hβ (hf.b _ _ hx' d (List.mem_of_getElem? hd)) (h4 j d hd)⟩
  · by_cases hxb : b = x
    · subst hxb; simp [PS.addBox, PS.b, look_cons_self] at hx
    · have hx' : s.b x = none := by simpa [PS.addBox, PS.b, look_cons_ne hxb] using hx
      simp [M', Ne.symm hxb, h.boxn x hx']
  · rcases h.row r e q hr with ⟨h1, h2⟩ | ⟨g, cap, cur', h1, h2, h3, h4, h5, h6⟩
    · exact .inl ⟨h1, h2⟩
    · have hlt := (Array.getElem?_eq_some_iff.1 h2).1
      exact .inr ⟨g, cap, cur', h1, (Below.heap_alloc w _ g hlt).trans h2, h3, h4, h5, fun i j d hi hd => (h6 i j d hi hd).elem_any hd hA⟩
  · rcases hown k hk with h1 | rfl
    · exact h.low k h1
    · exact .inl h.fr.size
  · have hno : ∀ y, M.β y ≠ some w.heap.size := fun y hy => by have := h.lt _ (.inl ⟨y, hy⟩); omega
    simp only [M'] at h1 h2
    split at h1 <;> split at h2
    · simp_all
    · cases h1; exact absurd h2 (hno _)
    · cases h2; exact absurd h1 (hno _)
    · exact h.inj1 x x' k h1 h2
  · simp only [M'] at h1
    split at h1
    · cases h1
      have := h.lt _ (.inr ⟨r, c, z, h2⟩); omega
    · exact h.inj3 x r k c z h1 h2
  · have h3 := O0.lob x k h1
    simp only [M'] at h2
    rw [if_neg (by omega)] at h2
    exact h.fxb x k k' h1 h2

def PS.addRows (s : PS) (nr : List (Nat × Option (TypeId × Sq))) : PS := ⟨s.tmp, nr ++ s.row, s.box⟩
theorem look_append {α : Type} (l m : List (Nat × α)) (i : Nat) : look (l ++ m) i = match look l i with | some x => some x | none => look m i := by
  induction l with
  | nil => rfl
  | cons p l ih =>
    obtain ⟨k, x⟩ := p
    by_cases hk : k = i
    · subst hk; simp [look_cons_self]
    · simp only [List.cons_append, look_cons_ne hk, ih]
/-- Rows that came new: where they lie (N). -/
structure New (N : Mp) (A : Bool → Nat → Prop) (w w' : World) (nr : List (Nat × Option (TypeId × Sq))) : Prop where
  os : w'.os = w.os
  tape : w'.tape = w.tape
  output : w'.output = w.output
  size : w.heap.size ≤ w'.heap.size
  block : ∀ k, k < w.heap.size → w'.heap[k]? = w.heap[k]?
  noβ : ∀ b, N.β b = none
  row : ∀ r e q, look nr r = some (some (e, q)) → (N.γ r = some none ∧ q.len = 0) ∨ ∃ g cap cur, N.γ r = some (some (g, cap, q.sz)) ∧ w'.heap[g]? = some (.cells cur e (0, 0)) ∧ q.len ≤ cap ∧ cap ≤ maxLen ∧ cur.size = cap * q.sz ∧
    ∀ i j d, i < q.len → (q.elem true i)[j]? = some d → VR N A w' d (cur.getD (i * q.sz + j) undef)
  rown : ∀ r, (∀ x, look nr r ≠ some (some x)) → N.γ r = none
  low : ∀ k, N.owned k → w.heap.size ≤ k
  inj : ∀ r r' k c z c' z', N.γ r = some (some (k, c, z)) → N.γ r' = some (some (k, c', z')) → r = r'
theorem Rel.newRows (h : Rel w0 O0 n M s a w) {N : Mp} {A : Bool → Nat → Prop} {w' : World} {nr : List (Nat × Option (TypeId × Sq))} (hN : New N A w w' nr)
    (hA : ∀ f k, k < w'.heap.size → A f k → (¬ N.owned k ∧ ¬ M.owned k) ∧ Fs w0 O0 f k) (hf : Fresh s (fun _ => false) (fun r => (look nr r).isSome)) (hlo : ∀ r, (look nr r).isSome = true → r < 1000000) :
    ∃ M', Rel w0 O0 n M' (s.addRows nr) a w' ∧ ∀ d v, ment (fun _ => true) (fun r => (look nr r).isNone) d = false → VR N A w' d v → VR M' (Ow (Fs w0 O0) M') w' d v := by
  let M' : Mp := ⟨M.β, fun r => if (look nr r).isSome then N.γ r else M.γ r⟩
  have hown : ∀ k, M'.owned k → M.owned k ∨ N.owned k := by
    rintro k (⟨x, hx⟩ | ⟨r, c, z, hr⟩)
    · exact .inl (.inl ⟨x, hx⟩)
    · simp only [M'] at hr
      split at hr
      · exact .inr (.inr ⟨r, c, z, hr⟩)
      · exact .inl (.inr ⟨r, c, z, hr⟩)
  have hA0 : ∀ f k, k < w.heap.size → Ow (Fs w0 O0) M f k → Ow (Fs w0 O0) M' f k ∧ k < w'.heap.size ∧ w'.heap[k]? = w.heap[k]? := fun f k h1 h2 =>
    ⟨⟨fun h3 => by rcases hown k h3 with h4 | h4; exact h2.1 h4; have := hN.low k h4; omega, h2.2⟩, by have := hN.size; omega, hN.block k h1⟩
  have hA1 : ∀ f k, k < w'.heap.size → A f k → Ow (Fs w0 O0) M' f k ∧ k < w'.heap.size ∧ w'.heap[k]? = w'.heap[k]? := fun f k h1 h2 =>
    ⟨⟨fun h3 => by rcases hown k h3 with h4 | h4; exact (hA f k h1 h2).1.2 h4; exact (hA f k h1 h2).1.1 h4, (hA f k h1 h2).2⟩, h1, rfl⟩
  have hγ : ∀ x y, (look nr x).isSome = false → M'.γ x = some y → M.γ x = some y := fun x y h1 h2 => by simp only [M', h1] at h2; simpa using h2
  have hγ1 : ∀ x y, (look nr x).isNone = false → M'.γ x = some y → N.γ x = some y := fun x y h1 h2 => by
    have : (look nr x).isSome = true := by cases hh : look nr x <;> simp_all
    simp only [M', this] at h2; simpa using h2
  have hβ : ∀ x k, (fun _ => false) x = false → M'.β x = some k → M.β x = some k := fun x k _ h => h
  refine ⟨M', ⟨?_, h.dfr, h.sz, fun t => ?_, fun x ds hx => ?_, fun x hx => h.boxn x hx, fun r e q hr => ?_, fun r hr => ?_, fun k hk => ?_, h.inj1, fun r r' k c z c' z' h1 h2 => ?_, fun x r k c z h1 h2 => ?_, h.nle, h.fxb, fun r x x' h1 h2 => ?_⟩, fun d v hd hv => ?_⟩
  · exact h.fr.step hN.os hN.tape hN.output hN.size fun k h1 _ => hN.block k (Nat.lt_of_lt_of_le h1 h.fr.size)
  · exact VR.new hA0 hγ hβ (hf.t t) (h.tmp t)
  · obtain ⟨k, cur', e', h1, h2, h3, h4⟩ := h.box x ds hx
    have hlt := (Array.getElem?_eq_some_iff.1 h2).1
    exact ⟨k, cur', e', h1, (hN.block k hlt).trans h2, h3, fun j d hd => VR.newS hA0 hγ hβ (hf.b _ _ hx d (List.mem_of_getElem? hd)) (h4 j d hd)⟩
  · simp only [PS.addRows, PS.r, look_append] at hr
    cases hl : look nr r with
    | none =>
      rw [hl] at hr
      have hr' : s.r r = some (e, q) := hr
      rcases h.row r e q hr' with ⟨h1, h2⟩ | ⟨g, cap, cur', h1, h2, h3, h4, h5, h6⟩
      · exact .inl ⟨by simp [M', hl, h1], h2⟩
      · have hlt := (Array.getElem?_eq_some_iff.1 h2).1
        exact .inr ⟨g, cap, cur', by simp [M', hl, h1], (hN.block g hlt).trans h2, h3, h4, h5, fun i j d hi hd => (h6 i j d hi hd).elem_any hd hA0⟩
    | some x =>
      rw [hl] at hr
      simp only at hr
      subst hr
      rcases hN.row r e q hl with ⟨h1, h2⟩ | ⟨g, cap, cur', h1, h2, h3, h4, h5, h6⟩
      · exact .inl ⟨by simp [M', hl, h1], h2⟩
      · exact .inr ⟨g, cap, cur', by simp [M', hl, h1], h2, h3, h4, h5, fun i j d hi hd => (h6 i j d hi hd).elem_any hd hA1⟩
  · simp only [PS.addRows, PS.r, look_append] at hr
    cases hl : look nr r with
    | none => rw [hl] at hr; simp only [M', hl]; simpa using h.rown r hr
    | some x =>
      rw [hl] at hr
      simp only at hr
      subst hr
      simp only [M', hl]
      simpa using hN.rown r (by rw [hl]; simp)
  · rcases hown k hk with h1 | h1
    · exact h.low k h1
    · exact .inl (Nat.le_trans h.fr.size (hN.low k h1))
  · have hx : ∀ r r' k c z c' z', M.γ r = some (some (k, c, z)) → N.γ r' = some (some (k, c', z')) → False := fun r r' k c z c' z' a1 a2 => by
      have := h.lt _ (.inr ⟨r, c, z, a1⟩); have := hN.low _ (.inr ⟨r', c', z', a2⟩); omega
    simp only [M'] at h1 h2
    split at h1 <;> split at h2
    · exact hN.inj r r' k c z c' z' h1 h2
    · exact (hx _ _ _ _ _ _ _ h2 h1).elim
    · exact (hx _ _ _ _ _ _ _ h1 h2).elim
    · exact h.inj2 r r' k c z c' z' h1 h2
  · simp only [M'] at h2
    split at h2
    · have := h.lt _ (.inl ⟨x, h1⟩); have := hN.low _ (.inr ⟨r, c, z, h2⟩); omega
    · exact h.inj3 x r k c z h1 h2
  · have h3 := O0.lor r x h1
    simp only [M'] at h2
    split at h2
    · rename_i h4; have := hlo r h4; omega
    · exact h.fxr r x x' h1 h2
  · exact VR.new hA1 hγ1 (fun x k hx => by simp at hx) hd hv
end
end Go.Proofs.Ytlmlfbjcpajinaa

/-! ## Vg -/
namespace Go.Proofs.Ytlmlfbjcpajinaa
open Go.RowKit Go.Deep
set_option linter.unusedSimpArgs false
set_option linter.unusedVariables false

/-! ### writing -/
def PS.setB (s : PS) (b : Nat) (cs : List D) : PS := ⟨s.tmp, s.row, (b, some cs) :: s.box⟩
def PS.setR (s : PS) (r : Nat) (x : Option (TypeId × Sq)) : PS := ⟨s.tmp, (r, x) :: s.row, s.box⟩
def D.shift : D → Nat → D
  | .ptr b off, k => .ptr b (off + k)
  | .eptr r i off, k => .eptr r i (off + k)
  | d, _ => d
/-- one cell written -/
def wr (s : PS) (p : D) (k : Nat) (d : D) : Option (Prop × PS) :=
  match d.one with
  | false => none
  | true => match p with
    | .ptr b off => match s.b b with
      | some cs => match Nat.blt (off + k) cs.length with | true => some (True, s.setB b (cs.set (off + k) d)) | false => none
      | none => none
    | .eptr r i off => match s.r r with
      | some (e, q) => match q.set i.toNat (off + k) d with | some q' => some (0 ≤ i ∧ i < q.len, s.setR r (some (e, q'))) | none => none
      | none => none
    | _ => none
def wrL (s : PS) (p : D) : Nat → List D → Option (Prop × PS)
  | _, [] => some (True, s)
  | k, d :: l => match wr s p k d with
    | some (ob, s') => match wrL s' p (k + 1) l with | some (ob', s'') => some (ob ∧ ob', s'') | none => none
    | none => none
/-- where a pointer points -/
def PtrAt (M : Mp) : D → Nat → Nat → Prop
  | .ptr b off, k, o => M.β b = some k ∧ o = off
  | .eptr r i off, k, o => ∃ c z, M.γ r = some (some (k, c, z)) ∧ o = i.toNat * z + off
  | _, _, _ => False

theorem Sq.set_ok {q q' : Sq} {i off : Nat} {d : D} (h : q.set i off d = some q') : q'.len = q.len ∧ q'.sz = q.sz ∧ off < q.sz ∧ (∀ i', i' ≠ i → q'.elem true i' = q.elem true i') ∧ (i < q.len → q'.elem true i = (q.elem true i).set off d) := by
  unfold Sq.set at h
  split at h <;> simp only [Option.some.injEq, reduceCtorEq] at h <;> subst h
  all_goals
    refine ⟨by simp [Sq.len], rfl, by simp [Sq.sz], fun i' hi => ?_, fun hi => ?_⟩
    · simp [Sq.elem, List.getElem?_set, Ne.symm hi]
    · simp only [Sq.len] at hi
      simp [Sq.elem, List.getElem?_set, hi]

section
variable {P : Program} {w0 : World} {O0 : Hd} {n : Nat} {M : Mp} {s s' : PS} {a : Act} {w w' : World}

theorem PS.b_setB (s : PS) (b : Nat) (cs : List D) (x : Nat) : (s.setB b cs).b x = if b = x then some cs else s.b x := by
  by_cases h : b = x
  · subst h; simp [PS.setB, PS.b, look_cons_self]
  · simp [PS.setB, PS.b, look_cons_ne h, h]
theorem PS.r_setR (s : PS) (r : Nat) (y : Option (TypeId × Sq)) (x : Nat) : (s.setR r y).r x = if r = x then y else s.r x := by
  by_cases h : r = x
  · subst h; simp [PS.setR, PS.r, look_cons_self]
  · simp [PS.setR, PS.r, look_cons_ne h, h]

theorem heap_setCell_at (w : World) (k o : Nat) (cur : Array Value) (e : TypeId) (u : Value) (h : w.heap[k]? = some (.cells cur e (0, 0))) : (w.setCell ⟨k, o, none⟩ u).heap[k]? = some (.cells (cur.setIfInBounds o u) e (0, 0)) := by
  simp [World.setCell, Array.getElem?_modify, h]

/-- One cell of the call's own is written. -/
theorem wr_ok (h : Rel w0 O0 n M s a w) {p d : D} {k o j : Nat} {u : Value} (hp : PtrAt M p k o) (hu : VR M (Ow (Fs w0 O0) M) w d u) {ob : Prop} (hw : wr s p j d = some (ob, s')) (ho : ob) :
    ∃ w', (store ⟨k, o + j, none⟩ u).run P w = .ok () w' ∧ Rel w0 O0 n M s' a w' ∧ (∀ d v, VR M (Ow (Fs w0 O0) M) w d v → VR M (Ow (Fs w0 O0) M) w' d v) := by
  unfold wr at hw
  split at hw
  · cases hw
  rename_i hone
  have h1 := hu.one hone
  have go : ∀ (cur : Array Value) (e : TypeId), w.heap[k]? = some (.cells cur e (0, 0)) → o + j < cur.size → M.owned k →
      (store ⟨k, o + j, none⟩ u).run P w = .ok () (w.setCell ⟨k, o + j, none⟩ u) ∧ Fr O0 w0 (w.setCell ⟨k, o + j, none⟩ u) ∧
      (∀ x, x ≠ k → (w.setCell ⟨k, o + j, none⟩ u).heap[x]? = w.heap[x]?) ∧ (∀ d v, VR M (Ow (Fs w0 O0) M) w d v → VR M (Ow (Fs w0 O0) M) (w.setCell ⟨k, o + j, none⟩ u) d v) := fun cur e hh hlt hown => by
    have hother : ∀ x, x ≠ k → (w.setCell ⟨k, o + j, none⟩ u).heap[x]? = w.heap[x]? := fun x hx => Below.heap_setCell _ _ _ _ hx
    have hsz : (w.setCell ⟨k, o + j, none⟩ u).heap.size = w.heap.size := by simp [World.setCell]
    have hA : ∀ f b, b < w.heap.size → Ow (Fs w0 O0) M f b → Ow (Fs w0 O0) M f b ∧ b < (w.setCell ⟨k, o + j, none⟩ u).heap.size ∧ (w.setCell ⟨k, o + j, none⟩ u).heap[b]? = w.heap[b]? := fun f b h2 h3 =>
      ⟨h3, by omega, hother b (fun e => h3.1 (by subst e; exact hown))⟩
    refine ⟨?_, ?_, hother, fun d v hv => hv.mono hA (fun _ _ h => h) (fun _ _ h => h)⟩
    · rw [run_store P w _ u _ h1, cell_of_row w k (o + j) cur e (0, 0) hh]
      simp [hlt, World.frozen?, hh]
    · refine h.fr.step rfl rfl rfl (by omega) fun x h2 h3 => hother x fun e => ?_
      subst e
      rcases h.low _ hown with h4 | h4
      · omega
      · exact h3 h4
  cases p <;> simp only [reduceCtorEq] at hw
  case ptr b off =>
    obtain ⟨hk, rfl⟩ := hp
    split at hw
    case h_2 => cases hw
    rename_i cs hb
    split at hw
    case h_2 => cases hw
    rename_i hlt
    simp only [Option.some.injEq, Prod.mk.injEq] at hw
    obtain ⟨_, rfl⟩ := hw
    have hlt' : o + j < cs.length := by rw [Nat.blt_eq] at hlt; exact hlt
    obtain ⟨k', cur, e, h2, h3, h4, h5⟩ := h.box b cs hb
    rw [hk] at h2; cases h2
    obtain ⟨g1, g2, g3, g4⟩ := go cur e h3 (by omega) (.inl ⟨b, hk⟩)
    refine ⟨_, g1, ⟨g2, h.dfr, h.sz, fun t => g4 _ _ (h.tmp t), fun x ds hx => ?_, fun x hx => ?_, fun r e' q hr => ?_, h.rown, h.low, h.inj1, h.inj2, h.inj3, h.nle, h.fxb, h.fxr⟩, g4⟩
    · rw [PS.b_setB] at hx
      by_cases hxb : b = x
      · subst hxb
        rw [if_pos rfl] at hx
        cases hx
        refine ⟨k, _, e, hk, heap_setCell_at w k (o + j) cur e u h3, by simp [h4], fun i d' hd => ?_⟩
        rw [List.getElem?_set] at hd
        by_cases hi : o + j = i
        · subst hi
          rw [if_pos rfl, if_pos hlt'] at hd
          cases hd
          have : o + j < cur.size := by omega
          simpa [this] using g4 _ _ hu
        · rw [if_neg hi] at hd
          have := h5 i d' hd
          simpa [Array.getElem?_setIfInBounds_ne hi] using g4 _ _ this
      · rw [if_neg hxb] at hx
        obtain ⟨k2, cur2, e2, a1, a2, a3, a4⟩ := h.box x ds hx
        exact ⟨k2, cur2, e2, a1, (g3 k2 (fun e => hxb (by subst e; exact h.inj1 _ _ _ hk a1))).trans a2, a3, fun i d' hd => g4 _ _ (a4 i d' hd)⟩
    · rw [PS.b_setB] at hx
      by_cases hxb : b = x
      · rw [if_pos hxb] at hx; cases hx
      · rw [if_neg hxb] at hx; exact h.boxn x hx
    · rcases h.row r e' q hr with ⟨a1, a2⟩ | ⟨g, cap, cur2, a1, a2, a3, a4, a5, a6⟩
      · exact .inl ⟨a1, a2⟩
      · exact .inr ⟨g, cap, cur2, a1, (g3 g (fun e => by subst e; exact h.inj3 _ _ _ _ _ hk a1)).trans a2, a3, a4, a5, fun i j' d' hi hd => g4 _ _ (a6 i j' d' hi hd)⟩
  case eptr r i off =>
    obtain ⟨c, z, hk, rfl⟩ := hp
    split at hw
    case h_2 => cases hw
    rename_i e q hr
    split at hw
    case h_2 => cases hw
    rename_i q' hq
    simp only [Option.some.injEq, Prod.mk.injEq] at hw
    obtain ⟨rfl, rfl⟩ := hw
    obtain ⟨i1, i2⟩ := ho
    have hi : i.toNat < q.len := by omega
    obtain ⟨q1, q2, q3, q4, q5⟩ := Sq.set_ok hq
    rcases h.row r e q hr with ⟨a1, a2⟩ | ⟨g, cap, cur, a1, a2, a3, a4, a5, a6⟩
    · omega
    rw [hk] at a1; cases a1
    have hpos : i.toNat * q.sz + (off + j) < cur.size := by
      rw [a5]
      have h4 : (i.toNat + 1) * q.sz ≤ c * q.sz := Nat.mul_le_mul_right _ (by omega)
      rw [Nat.add_mul, Nat.one_mul] at h4; omega
    obtain ⟨g1, g2, g3, g4⟩ := go cur e a2 (by rw [Nat.add_assoc]; exact hpos) (.inr ⟨r, _, _, hk⟩)
    rw [Nat.add_assoc] at g1 g2 g3 g4
    rw [Nat.add_assoc]
    refine ⟨_, g1, ⟨g2, h.dfr, h.sz, fun t => g4 _ _ (h.tmp t), fun x ds hx => ?_, h.boxn, fun r' e' p hr' => ?_, fun r' hr' => ?_, h.low, h.inj1, h.inj2, h.inj3, h.nle, h.fxb, h.fxr⟩, g4⟩
    · obtain ⟨k2, cur2, e2, b1, b2, b3, b4⟩ := h.box x ds hx
      exact ⟨k2, cur2, e2, b1, (g3 k2 (fun e => by subst e; exact h.inj3 _ _ _ _ _ b1 hk)).trans b2, b3, fun i d' hd => g4 _ _ (b4 i d' hd)⟩
    · rw [PS.r_setR] at hr'
      by_cases hrr : r = r'
      · subst hrr
        rw [if_pos rfl] at hr'
        cases hr'
        refine .inr ⟨k, c, _, by rw [hk, q2], heap_setCell_at w k _ cur e u a2, by omega, a4, by simp [a5, q2], fun i' j' d' hi' hd => ?_⟩
        rw [q2]
        by_cases hii : i' = i.toNat
        · subst hii
          rw [q5 hi, List.getElem?_set] at hd
          by_cases hjj : off + j = j'
          · subst hjj
            rw [if_pos rfl, Sq.elem_len, if_pos q3] at hd
            cases hd
            simpa [hpos] using g4 _ _ hu
          · rw [if_neg hjj] at hd
            have := a6 i.toNat j' d' hi hd
            have hne : i.toNat * q.sz + (off + j) ≠ i.toNat * q.sz + j' := by omega
            simpa [Array.getElem?_setIfInBounds_ne hne] using g4 _ _ this
        · rw [q4 i' hii] at hd
          have hj' : j' < q.sz := by rw [← Sq.elem_len true q i']; exact (List.getElem?_eq_some_iff.1 hd).1
          have := a6 i' j' d' (by omega) hd
          have hne : i.toNat * q.sz + (off + j) ≠ i' * q.sz + j' := by
            intro he
            rcases Nat.lt_or_gt_of_ne hii with h5 | h5
            · have : (i' + 1) * q.sz ≤ i.toNat * q.sz := Nat.mul_le_mul_right _ h5
              rw [Nat.add_mul, Nat.one_mul] at this; omega
            · have : (i.toNat + 1) * q.sz ≤ i' * q.sz := Nat.mul_le_mul_right _ h5
              rw [Nat.add_mul, Nat.one_mul] at this; omega
          simpa [Array.getElem?_setIfInBounds_ne hne] using g4 _ _ this
      · rw [if_neg hrr] at hr'
        rcases h.row r' e' p hr' with ⟨b1, b2⟩ | ⟨g', cap', cur', b1, b2, b3, b4, b5, b6⟩
        · exact .inl ⟨b1, b2⟩
        · exact .inr ⟨g', cap', cur', b1, (g3 g' (fun e => hrr (by subst e; exact h.inj2 _ _ _ _ _ _ _ hk b1))).trans b2, b3, b4, b5, fun i' j' d' hi' hd => g4 _ _ (b6 i' j' d' hi' hd)⟩
    · rw [PS.r_setR] at hr'
      by_cases hrr : r = r'
      · rw [if_pos hrr] at hr'; cases hr'
      · rw [if_neg hrr] at hr'; exact h.rown r' hr'

theorem wrL_ok : ∀ (ds : List D) (us : List Value) (j : Nat) (s : PS) (w : World) (ob : Prop) (s' : PS) (p : D) (k o : Nat), Rel w0 O0 n M s a w → PtrAt M p k o → ds.length = us.length →
    (∀ i d, ds[i]? = some d → VR M (Ow (Fs w0 O0) M) w d (us.getD i undef)) → wrL s p j ds = some (ob, s') → ob → ∃ w', (storeCells ⟨k, o, none⟩ us j).run P w = .ok () w' ∧ Rel w0 O0 n M s' a w'
  | [], [], j, s, w, ob, s', p, k, o, h, hp, hl, hv, hw, ho => by
    simp only [wrL, Option.some.injEq, Prod.mk.injEq] at hw
    obtain ⟨_, rfl⟩ := hw
    exact ⟨w, by simp [storeCells, go_sem], h⟩
  | d :: ds, u :: us, j, s, w, ob, s', p, k, o, h, hp, hl, hv, hw, ho => by
    simp only [wrL] at hw
    split at hw
    case h_2 => cases hw
    rename_i ob1 s1 h1
    split at hw
    case h_2 => cases hw
    rename_i ob2 s2 h2
    simp only [Option.some.injEq, Prod.mk.injEq] at hw
    obtain ⟨rfl, rfl⟩ := hw
    obtain ⟨w1, g1, g2, g3⟩ := wr_ok (P := P) h hp (by simpa using hv 0 d rfl) h1 ho.1
    obtain ⟨w2, g4, g5⟩ := wrL_ok ds us (j + 1) s1 w1 ob2 s2 p k o g2 hp (by simpa using hl) (fun i d' hd => g3 _ _ (by simpa using hv (i + 1) d' (by simpa using hd))) h2 ho.2
    exact ⟨w2, by simp only [storeCells, Sem.run_bind, add_lit, g1, Result.andThen_ok, g4], g5⟩
  | [], _ :: _, _, _, _, _, _, _, _, _, _, _, hl, _, _, _ => by simp at hl
  | _ :: _, [], _, _, _, _, _, _, _, _, _, _, hl, _, _, _ => by simp at hl

/-! ### rows given up -/
def klS (r : Nat) : D → D
  | .row x o n => match Nat.beq x r with | true => .dead | false => .row x o n
  | .eptr x i o => match Nat.beq x r with | true => .dead | false => .eptr x i o
  | .agg _ | .tup _ => .dead
  | d => d
def klA (r : Nat) : D → D
  | .agg l => .agg (l.map (klS r))
  | d => klS r d
def kl (r : Nat) : D → D
  | .tup l => .tup (l.map (klA r))
  | d => klA r d
def PS.kill (s : PS) (r : Nat) : PS := ⟨s.tmp.map fun p => (p.1, kl r p.2), s.row, s.box.map fun p => (p.1, p.2.map fun cs => cs.map (klS r))⟩
theorem VR.klS {A A' : Bool → Nat → Prop} {M' : Mp} {r : Nat} (hA : ∀ f b, b < w.heap.size → A f b → A' f b ∧ b < w'.heap.size ∧ w'.heap[b]? = w.heap[b]?) (hγ : ∀ x y, x ≠ r → M'.γ x = some y → M.γ x = some y) (hβ : ∀ b k, M'.β b = some k → M.β b = some k)
    {d : D} {v : Value} (h : VR M A w d v) : VR M' A' w' (klS r d) v := by
  cases h with
  | dead v => exact .dead v
  | int n => exact .int n
  | bool b => exact .bool b
  | val v h => exact .val v h
  | nil ao => exact .nil ao
  | ro f q ao cap b o u hn hc hao hu hv => exact VR.ro_any (.ro f q ao cap b o u hn hc hao hu hv) hA
  | row x off n v h1 h =>
    simp only [Ytlmlfbjcpajinaa.klS]
    split
    · exact .dead _
    · rename_i hx
      exact .row _ off n v h1 fun y hy => h y (hγ _ y (fun e => by subst e; rw [Nat.beq_refl] at hx; cases hx) hy)
  | ptr b off v h1 h => exact .ptr _ off v h1 fun k hk => h k (hβ b k hk)
  | eptr x i off v h =>
    simp only [Ytlmlfbjcpajinaa.klS]
    split
    · exact .dead _
    · rename_i hx
      exact .eptr _ i off v fun g c z hg => h g c z (hγ _ _ (fun e => by subst e; rw [Nat.beq_refl] at hx; cases hx) hg)
  | rptr f q i off b o u hb hA' hu hv => exact VR.rptr_any (.rptr f q i off b o u hb hA' hu hv) hA
  | agg l us hl h => exact .dead _
  | tup l us hl h => exact .dead _
  | clo f bs v h1 h => exact .clo f bs v h1 fun ks hk => h ks (capsOf_mono' (fun b _ => hβ b) hk)
  | map k l es clock h hl hk => obtain ⟨a1, a2, a3⟩ := hA _ k (heap_lt h) hk; exact .map k l es clock (a3.trans h) hl a1
  | any v h1 => exact .any v h1
theorem VR.klA {A A' : Bool → Nat → Prop} {M' : Mp} {r : Nat} (hA : ∀ f b, b < w.heap.size → A f b → A' f b ∧ b < w'.heap.size ∧ w'.heap[b]? = w.heap[b]?) (hγ : ∀ x y, x ≠ r → M'.γ x = some y → M.γ x = some y) (hβ : ∀ b k, M'.β b = some k → M.β b = some k)
    {d : D} {v : Value} (h : VR M A w d v) : VR M' A' w' (klA r d) v := by
  cases d with
  | agg l =>
    cases h with | agg _ us hl h =>
    refine .agg _ us (by simpa using hl) fun i d hd => ?_
    rw [List.getElem?_map] at hd
    obtain ⟨d0, h0, rfl⟩ := Option.map_eq_some_iff.1 hd
    exact (h i d0 h0).klS hA hγ hβ
  | _ => exact VR.klS hA hγ hβ h
theorem VR.kl {A A' : Bool → Nat → Prop} {M' : Mp} {r : Nat} (hA : ∀ f b, b < w.heap.size → A f b → A' f b ∧ b < w'.heap.size ∧ w'.heap[b]? = w.heap[b]?) (hγ : ∀ x y, x ≠ r → M'.γ x = some y → M.γ x = some y) (hβ : ∀ b k, M'.β b = some k → M.β b = some k)
    {d : D} {v : Value} (h : VR M A w d v) : VR M' A' w' (kl r d) v := by
  cases d with
  | tup l =>
    cases h with | tup _ us hl h =>
    refine .tup _ us (by simpa using hl) fun i d hd => ?_
    rw [List.getElem?_map] at hd
    obtain ⟨d0, h0, rfl⟩ := Option.map_eq_some_iff.1 hd
    exact (h i d0 h0).klA hA hγ hβ
  | _ => exact VR.klA hA hγ hβ h
theorem look_map {α β : Type} (f : α → β) (l : List (Nat × α)) (i : Nat) : look (l.map fun p => (p.1, f p.2)) i = (look l i).map f := by
  induction l with
  | nil => rfl
  | cons p l ih =>
    obtain ⟨k, x⟩ := p
    by_cases hk : k = i
    · subst hk; simp [look_cons_self]
    · simp only [List.map_cons, look_cons_ne hk, ih]
theorem PS.t_kill (s : PS) (r t : Nat) : (s.kill r).t t = kl r (s.t t) := by
  unfold PS.t PS.kill
  simp only [look_map (kl r)]
  cases look s.tmp t <;> rfl
theorem PS.b_kill (s : PS) (r b : Nat) : (s.kill r).b b = (s.b b).map fun cs => cs.map (klS r) := by
  unfold PS.b PS.kill
  simp only [look_map (fun (x : Option (List D)) => x.map fun cs => cs.map (Ytlmlfbjcpajinaa.klS r))]
  cases look s.box b <;> rfl
end
end Go.Proofs.Ytlmlfbjcpajinaa

/-! ## Vh -/
namespace Go.Proofs.Ytlmlfbjcpajinaa
open Go.RowKit Go.Deep
set_option linter.unusedSimpArgs false
set_option linter.unusedVariables false

theorem Sq.app_ok {q q2 q' : Sq} (h : q.app q2 = some q') : q'.len = q.len + q2.len ∧ q'.sz = q.sz ∧ q2.sz = q.sz ∧ (∀ i, i < q.len → q'.elem true i = q.elem true i) ∧ ∀ i, q.len ≤ i → q'.elem true i = q2.elem true (i - q.len) := by
  unfold Sq.app at h
  split at h <;> simp only [Option.some.injEq, reduceCtorEq] at h <;> subst h
  all_goals
    refine ⟨by simp [Sq.len], rfl, rfl, fun i hi => ?_, fun i hi => ?_⟩
    · simp only [Sq.len] at hi; simp [Sq.elem, List.getElem?_append_left hi]
    · simp only [Sq.len] at hi; simp [Sq.elem, Sq.len, List.getElem?_append_right hi]
theorem Sq.elem_take (q : Sq) (k i : Nat) (h : i < k) : (q.take k).elem true i = q.elem true i := by cases q <;> simp [Sq.take, Sq.elem, List.getElem?_take, h]
theorem Sq.elem_one (q : Sq) (i j : Nat) (d : D) (h : (q.elem true i)[j]? = some d) : d.one = true := by
  cases q <;> simp only [Sq.elem] at h <;> rcases j with _ | _ | j <;> simp at h <;> subst h <;> rfl
theorem Sq.sz_pos (q : Sq) : 0 < q.sz := by cases q <;> simp [Sq.sz]

def srcSq (s : PS) : D → Option (Prop × Sq)
  | .ro f q => match f || q.flat with | true => some (True, q) | false => none
  | .row r off m => match s.r r with | some (_, q) => some (off + m ≤ q.len, (q.take (off + m)).drop off) | none => none
  | _ => none

section
variable {P : Program} {w0 : World} {O0 : Hd} {n : Nat} {M : Mp} {s s' : PS} {a : Act} {w w' : World}

structure Src (F : Bool → Nat → Prop) (M : Mp) (w : World) (q : Sq) (v : Value) (news : List Value) : Prop where
  form : ∃ ao c, v = .slice ao q.len c ∧ (0 < q.len → ∃ b o, ao = some ⟨b, o, none⟩ ∧ ∀ j u, news[j]? = some u → w.cell? ⟨b, o + j, none⟩ = some u)
  len : news.length = q.len * q.sz
  one : ∀ u ∈ news, u.oneCell' = true
  vr : ∀ i j d, i < q.len → (q.elem true i)[j]? = some d → VR M (Ow F M) w d (news.getD (i * q.sz + j) undef)

theorem src_mk {q : Sq} {v : Value} {ao : Option Addr} {c b o : Nat} {u : Nat → Nat → Value} (hv : v = .slice ao q.len c) (hao : 0 < q.len → ao = some ⟨b, o, none⟩)
    (hu : ∀ i j d, i < q.len → (q.elem true i)[j]? = some d → w.cell? ⟨b, o + i * q.sz + j, none⟩ = some (u i j) ∧ VR M (Ow (Fs w0 O0) M) w d (u i j)) : ∃ news, Src (Fs w0 O0) M w q v news := by
  have hz := q.sz_pos
  have hsplit : ∀ x, x < q.len * q.sz → x / q.sz < q.len ∧ x % q.sz < q.sz ∧ (x / q.sz) * q.sz + x % q.sz = x := fun x hx =>
    ⟨(Nat.div_lt_iff_lt_mul hz).2 hx, Nat.mod_lt _ hz, by rw [Nat.mul_comm]; exact Nat.div_add_mod _ _⟩
  have hel : ∀ i j, j < q.sz → ∃ d, (q.elem true i)[j]? = some d := fun i j hj => ⟨_, List.getElem?_eq_getElem (by rw [Sq.elem_len]; exact hj)⟩
  refine ⟨(List.range (q.len * q.sz)).map fun x => u (x / q.sz) (x % q.sz), ⟨ao, c, hv, fun h0 => ⟨b, o, hao h0, fun j y hy => ?_⟩⟩, by simp, fun y hy => ?_, fun i j d hi hd => ?_⟩
  · rw [List.getElem?_map] at hy
    obtain ⟨j', hj', rfl⟩ := Option.map_eq_some_iff.1 hy
    obtain ⟨hj, rfl⟩ : j < q.len * q.sz ∧ j = j' := by
      obtain ⟨h1, h2⟩ := List.getElem?_eq_some_iff.1 hj'
      simp at h1 h2; exact ⟨h1, h2⟩
    obtain ⟨h1, h2, h3⟩ := hsplit j hj
    obtain ⟨d, hd⟩ := hel (j / q.sz) (j % q.sz) h2
    have := (hu _ _ d h1 hd).1
    rw [Nat.add_assoc, h3] at this; exact this
  · simp at hy
    obtain ⟨x, hx, rfl⟩ := hy
    obtain ⟨h1, h2, h3⟩ := hsplit x hx
    obtain ⟨d, hd⟩ := hel (x / q.sz) (x % q.sz) h2
    exact (hu _ _ d h1 hd).2.one (Sq.elem_one _ _ _ _ hd)
  · have hj : j < q.sz := by rw [← Sq.elem_len true q i]; exact (List.getElem?_eq_some_iff.1 hd).1
    have hlt : i * q.sz + j < q.len * q.sz := by
      have : (i + 1) * q.sz ≤ q.len * q.sz := Nat.mul_le_mul_right _ hi
      rw [Nat.add_mul, Nat.one_mul] at this; omega
    have h1 : (i * q.sz + j) / q.sz = i := by rw [Nat.mul_comm, Nat.mul_add_div hz, Nat.div_eq_of_lt hj]; omega
    have h2 : (i * q.sz + j) % q.sz = j := by rw [Nat.mul_comm, Nat.mul_add_mod, Nat.mod_eq_of_lt hj]
    simpa [hlt, h1, h2] using (hu i j d hi hd).2

theorem src_ok (h : Rel w0 O0 n M s a w) {d : D} {v : Value} (hv : VR M (Ow (Fs w0 O0) M) w d v) {ob : Prop} {q : Sq} (hs : srcSq s d = some (ob, q)) (ho : ob) : ∃ news, Src (Fs w0 O0) M w q v news := by
  cases hv with
  | ro f q0 ao cap b o u hn hc hao hu hv =>
    simp only [srcSq] at hs
    split at hs
    case h_2 => cases hs
    rename_i hf
    simp only [Option.some.injEq, Prod.mk.injEq] at hs
    obtain ⟨_, rfl⟩ := hs
    have he : ∀ i, q0.elem true i = q0.elem f i := fun i => by
      cases f
      · exact Sq.elem_flat (by simpa using hf) _ _ _
      · rfl
    exact src_mk (b := b) (o := o) (u := u) rfl (fun h0 => (hao h0).1) fun i j d hi hd => by rw [he] at hd; exact ⟨hu i j d hi hd, hv i j d hi hd⟩
  | row r off m _ g1 g2 =>
    simp only [srcSq] at hs
    split at hs
    case h_2 => cases hs
    rename_i e q0 hr
    simp only [Option.some.injEq, Prod.mk.injEq] at hs
    obtain ⟨rfl, rfl⟩ := hs
    have hlen : ((q0.take (off + m)).drop off).len = m := by rw [Sq.len_drop, Sq.len_take]; omega
    have hsz : ((q0.take (off + m)).drop off).sz = q0.sz := by rw [Sq.sz_drop, Sq.sz_take]
    have hel : ∀ i, i < m → ((q0.take (off + m)).drop off).elem true i = q0.elem true (off + i) := fun i hi => Sq.elem_sub _ _ _ _ _ (by omega)
    rcases h.row r e q0 hr with ⟨hg, h0⟩ | ⟨g, cap, cur, hg, hh, hl, hm, hcs, hc⟩
    · have := g2 _ hg
      simp only [RowV] at this
      obtain ⟨⟨ao0, rfl⟩, rfl, rfl⟩ := this
      exact src_mk (ao := ao0) (c := 0) (b := 0) (o := 0) (u := fun _ _ => undef) (by rw [hlen]) (by omega) (by intro i j d hi; omega)
    · have := g2 _ hg
      simp only [RowV] at this
      obtain ⟨h1, ao, h2, h3⟩ := this
      refine src_mk (ao := ao) (c := cap - off) (b := g) (o := off * q0.sz) (u := fun i j => cur.getD ((off + i) * q0.sz + j) undef) (by rw [h2, hlen]) (fun h0 => h3 (by omega)) fun i j d hi hd => ?_
      rw [hlen] at hi
      rw [hel i hi] at hd
      have hj : j < q0.sz := by rw [← Sq.elem_len true q0 (off + i)]; exact (List.getElem?_eq_some_iff.1 hd).1
      have hlt : (off + i) * q0.sz + j < cur.size := by
        rw [hcs]
        have h4 : (off + i + 1) * q0.sz ≤ cap * q0.sz := Nat.mul_le_mul_right _ (by omega)
        rw [Nat.add_mul, Nat.one_mul] at h4; omega
      refine ⟨?_, hc (off + i) j d (by omega) hd⟩
      rw [hsz, show off * q0.sz + i * q0.sz + j = (off + i) * q0.sz + j from by rw [Nat.add_mul], cell_of_row w g _ cur e (0, 0) hh]
      simp [hlt]
  | _ => simp [srcSq] at hs

theorem run_append_none (base : Nat) (t ty e : TypeId) (i : TypeInfo) (size c : Nat) (ht : P.underlying t = some (.slice e)) (hi : P.info? e = some i)
    (v : Value) (m : Nat) (xs : List Value) (hown : w.ownsRow base e size v m xs) :
    (Builtin.append_ #[t, t] ty #[v, .slice none 0 c]).run P w = .ok v w := by
  rcases hown.2 with ⟨rfl, rfl⟩ | ⟨g, cap, cur, rfl, _, _, hnc, _⟩
  · simp [Builtin.append_, Go.run_underlying ht, sizeOf, typeInfo, hi, Builtin.lenOf, Builtin.firstCells, go_sem]
  · simp [Builtin.append_, Go.run_underlying ht, sizeOf, typeInfo, hi, Builtin.lenOf, Builtin.firstCells, hnc, storeCells, go_sem]

/-- what an append onto the row r leaves as it was -/
structure AppFr (w0 : World) (O0 : Hd) (M M' : Mp) (w w' : World) (r : Nat) : Prop where
  β : M'.β = M.β
  γ : ∀ y, y ≠ r → M'.γ y = M.γ y
  old : ∀ f b, b < w.heap.size → Ow (Fs w0 O0) M f b → Ow (Fs w0 O0) M' f b ∧ b < w'.heap.size ∧ w'.heap[b]? = w.heap[b]?
  oth : ∀ k, M.owned k → (∀ c z, M.γ r ≠ some (some (k, c, z))) → w'.heap[k]? = w.heap[k]?
/-- append onto a row of the call's own: it may be moved; other names for it are given up. -/
theorem append_ok0 (h : Rel w0 O0 n M s a w) {t ty e : TypeId} {k q q2 q' : Sq} {bytes r m : Nat} {v vs : Value} {news : List Value} (hT : TyOK P t (.sl e k bytes)) (hk : k.sz = q.sz) (hr : s.r r = some (e, q))
    (hv : VR M (Ow (Fs w0 O0) M) w (.row r 0 m) v) (hm : m ≤ q.len) (hsrc : Src (Fs w0 O0) M w q2 vs news) (happ : (q.take m).app q2 = some q') (hb1 : (m + q2.len) * bytes ≤ 140737488355328) (hb2 : m + q2.len ≤ maxLen) (hlo : r < 1000000) (hn0 : M.γ r = some none → v = .slice none 0 0) :
    ∃ v' w' M', (Builtin.append_ #[t, t] ty #[v, vs]).run P w = .ok v' w' ∧ Rel w0 O0 n M' ((s.kill r).setR r (some (e, q'))) a w' ∧ VR M' (Ow (Fs w0 O0) M') w' (.row r 0 (m + q2.len)) v' ∧ AppFr w0 O0 M M' w w' r := by
  obtain ⟨hu, _, i, hi, hsz, hby, z, hz, hzc⟩ := hT
  obtain ⟨p1, p2, p3, p4, p5⟩ := Sq.app_ok happ
  rw [Sq.len_take, Nat.min_eq_left hm] at p1 p4 p5
  rw [Sq.sz_take] at p2 p3
  -- what is owned now
  have hvn : ∀ x, M.γ r = some x → RowV x 0 m v := by cases hv with | row _ _ _ _ _ h => exact h
  have own : ∃ xs, w.ownsRow 0 e q.sz v m xs ∧ (∀ i j d, i < m → (q.elem true i)[j]? = some d → VR M (Ow (Fs w0 O0) M) w d (xs.getD (i * q.sz + j) undef)) ∧ (∀ g, v.ownBlock = some g → M.owned g ∧ ∃ c z, M.γ r = some (some (g, c, z))) := by
    rcases h.row r e q hr with ⟨hg, h0⟩ | ⟨g, cap, cur, hg, hh, hl, hmx, hcs, hc⟩
    · have := hvn _ hg
      simp only [RowV] at this
      obtain ⟨_, rfl, _⟩ := this
      obtain rfl := hn0 hg
      exact ⟨[], World.ownsRow_nil _ _ _ _, by intro i j d hi; omega, by simp [Value.ownBlock]⟩
    · have := hvn _ hg
      simp only [RowV] at this
      obtain ⟨h1, ao, h2, h3⟩ := this
      have h4 := h3 (.inr trivial)
      rw [Nat.zero_mul] at h4
      subst h4
      have hmc : m * q.sz ≤ cur.size := by rw [hcs]; exact Nat.mul_le_mul_right _ (by omega)
      refine ⟨cur.toList.take (m * q.sz), ⟨by simp; omega, .inr ⟨g, cap, cur, by simpa using h2, Nat.zero_le _, hh, by omega, hmx, hcs, rfl⟩⟩, fun i j d hi hd => ?_, fun g' hg' => ?_⟩
      · have hj : j < q.sz := by rw [← Sq.elem_len true q i]; exact (List.getElem?_eq_some_iff.1 hd).1
        have hlt : i * q.sz + j < m * q.sz := by
          have : (i + 1) * q.sz ≤ m * q.sz := Nat.mul_le_mul_right _ hi
          rw [Nat.add_mul, Nat.one_mul] at this; omega
        have := hc i j d (by omega) hd
        simpa [List.getElem?_take, hlt] using this
      · rw [h2] at hg'
        simp [Value.ownBlock] at hg'
        subst hg'
        exact ⟨.inr ⟨r, _, _, hg⟩, _, _, hg⟩
  obtain ⟨xs, hown, hxs, hblk⟩ := own
  obtain ⟨⟨ao, c, hvs, hao⟩, hnl, hn1, hnv⟩ := hsrc
  have hzs : z.cells.size = q.sz := by rw [hzc, ← hk]; cases k <;> rfl
  have run : ∃ v' w', (Builtin.append_ #[t, t] ty #[v, vs]).run P w = .ok v' w' ∧ w'.ownsRow 0 e q.sz v' (m + q2.len) (xs ++ news) ∧ w.grownBy w' v.ownBlock ∧
      (v' = .slice none 0 0 ↔ v = .slice none 0 0 ∧ q2.len = 0) ∧ (v'.ownBlock = v.ownBlock ∨ v'.ownBlock = some w.heap.size) := by
    rw [hvs]
    by_cases h0 : 0 < q2.len
    · obtain ⟨b, o, hab, hc⟩ := hao h0
      rw [hab]
      exact run_append_own_at w 0 t ty e i z q.sz bytes hu hi hz (hsz.trans hk) hby hzs q.sz_pos v m xs hown ⟨b, o, none⟩ q2.len c news (by rw [hnl, p3]) (fun j u hj => by rw [add_lit]; exact hc j u hj) hn1 hb2 hb1 (Nat.zero_le _)
    · have h00 : q2.len = 0 := by omega
      have hnil : news = [] := by rw [h00, Nat.zero_mul] at hnl; exact List.length_eq_zero_iff.1 hnl
      cases ao with
      | none =>
        rw [h00, hnil, List.append_nil, Nat.add_zero]
        exact ⟨v, w, run_append_none 0 t ty e i q.sz c hu hi v m xs hown, hown, ⟨rfl, rfl, rfl, Nat.le_refl _, fun _ _ _ => rfl⟩, by simp, .inl rfl⟩
      | some ad =>
        exact run_append_own_at w 0 t ty e i z q.sz bytes hu hi hz (hsz.trans hk) hby hzs q.sz_pos v m xs hown ad q2.len c news (by rw [hnl, p3]) (by rw [hnil]; simp) hn1 hb2 hb1 (Nat.zero_le _)
  obtain ⟨v', w', hrun, hown', hgrow, hiff, hat⟩ := run
  have hxl : xs.length = m * q.sz := hown.1
  -- the new place
  have place : ∃ x : Option (Nat × Nat × Nat), RowV x 0 (m + q2.len) v' ∧ v'.oneCell' = true ∧ ((x = none ∧ q'.len = 0) ∨ ∃ g cap cur, x = some (g, cap, q'.sz) ∧ v'.ownBlock = some g ∧ w'.heap[g]? = some (.cells cur e (0, 0)) ∧ q'.len ≤ cap ∧ cap ≤ maxLen ∧ cur.size = cap * q'.sz ∧
      cur.toList.take ((m + q2.len) * q.sz) = xs ++ news) := by
    rcases hown'.2 with ⟨rfl, h0⟩ | ⟨g, cap, cur, rfl, _, hg, h1, h2, h3, h4⟩
    · exact ⟨none, ⟨⟨none, rfl⟩, h0, rfl⟩, rfl, .inl ⟨rfl, by omega⟩⟩
    · exact ⟨some (g, cap, q'.sz), ⟨by omega, some ⟨g, 0, none⟩, by simp, fun _ => by simp⟩, rfl, .inr ⟨g, cap, cur, rfl, rfl, hg, by omega, h2, by rw [p2]; exact h3, h4⟩⟩
  obtain ⟨x, hx1, hx2, hx3⟩ := place
  let M' : Mp := ⟨M.β, fun y => if y = r then some x else M.γ y⟩
  have hxg : ∀ g c z, x = some (g, c, z) → v'.ownBlock = some g ∧ g < w'.heap.size := fun g c z he => by
    rcases hx3 with ⟨h1, _⟩ | ⟨g', cap, cur, h1, h2, h3, _⟩
    · rw [h1] at he; cases he
    · rw [h1] at he; cases he; exact ⟨h2, (Array.getElem?_eq_some_iff.1 h3).1⟩
  have hg2 : ∀ g, v'.ownBlock = some g → (∃ c z, M.γ r = some (some (g, c, z))) ∨ g = w.heap.size := fun g hg => by
    rcases hat with h1 | h1
    · rw [h1] at hg; exact .inl (hblk g hg).2
    · rw [h1] at hg; cases hg; exact .inr rfl
  have hown1 : ∀ k, M'.owned k → M.owned k ∨ k = w.heap.size := by
    rintro k (⟨b, hb⟩ | ⟨y, c, z, hy⟩)
    · exact .inl (.inl ⟨b, hb⟩)
    · simp only [M'] at hy
      split at hy
      · cases hy
        obtain ⟨h1, _⟩ := hxg k c z rfl
        rcases hg2 k h1 with ⟨c', z', h2⟩ | h2
        · exact .inl (.inr ⟨r, c', z', h2⟩)
        · exact .inr h2
      · exact .inl (.inr ⟨y, c, z, hy⟩)
  have hA : ∀ f b, b < w.heap.size → Ow (Fs w0 O0) M f b → Ow (Fs w0 O0) M' f b ∧ b < w'.heap.size ∧ w'.heap[b]? = w.heap[b]? := fun f b h1 h2 =>
    ⟨⟨fun h3 => by rcases hown1 b h3 with h4 | h4; exact h2.1 h4; omega, h2.2⟩, by have := hgrow.size; omega, hgrow.block b h1 (fun e => h2.1 (hblk b e.symm).1)⟩
  have hγ : ∀ y z, y ≠ r → M'.γ y = some z → M.γ y = some z := fun y z h1 h2 => by simpa [M', h1] using h2
  have hβ : ∀ b k, M'.β b = some k → M.β b = some k := fun _ _ h => h
  have hoth : ∀ k, M.owned k → (∀ c z, M.γ r ≠ some (some (k, c, z))) → w'.heap[k]? = w.heap[k]? := fun k h1 h2 =>
    hgrow.block k (h.lt k h1) (fun e => by obtain ⟨_, c, z, h3⟩ := hblk k e.symm; exact h2 c z h3)
  refine ⟨v', w', M', hrun, ⟨?_, h.dfr, h.sz, fun t => ?_, fun b cs hb => ?_, fun b hb => ?_, fun y e' p hy => ?_, fun y hy => ?_, fun k hk => ?_, h.inj1, fun y y' k c z c' z' h1 h2 => ?_, fun b y k c z h1 h2 => ?_, h.nle, h.fxb, fun y u u' h1 h2 => ?_⟩, .row _ _ _ _ hx2 fun y hy => ?_, rfl, fun y hy => by simp [M', hy], hA, hoth⟩
  · refine h.fr.step hgrow.os hgrow.tape hgrow.output hgrow.size fun k h1 h2 => hgrow.block k (Nat.lt_of_lt_of_le h1 h.fr.size) fun e => ?_
    rcases h.low k (hblk k e.symm).1 with h3 | h3
    · omega
    · exact h2 h3
  · have : ((s.kill r).setR r (some (e, q'))).t t = kl r (s.t t) := PS.t_kill s r t
    rw [this]; exact VR.kl hA hγ hβ (h.tmp t)
  · have hb' : (s.kill r).b b = some cs := hb
    rw [PS.b_kill] at hb'
    obtain ⟨cs0, h0, rfl⟩ := Option.map_eq_some_iff.1 hb'
    obtain ⟨k, cur, e2, a1, a2, a3, a4⟩ := h.box b cs0 h0
    refine ⟨k, cur, e2, a1, (hoth k (.inl ⟨b, a1⟩) fun c z hh => h.inj3 _ _ _ _ _ a1 hh).trans a2, by simpa using a3, fun j d hd => ?_⟩
    rw [List.getElem?_map] at hd
    obtain ⟨d0, h1, rfl⟩ := Option.map_eq_some_iff.1 hd
    exact VR.klS hA hγ hβ (a4 j d0 h1)
  · have hb' : (s.kill r).b b = none := hb
    rw [PS.b_kill] at hb'
    exact h.boxn b (by simpa using hb')
  · rw [PS.r_setR] at hy
    by_cases hyr : r = y
    · subst hyr
      rw [if_pos rfl] at hy
      cases hy
      rcases hx3 with ⟨h1, h2⟩ | ⟨g, cap, cur, h1, h2, h3, h4, h5, h6, h7⟩
      · exact .inl ⟨by simp [M', h1], h2⟩
      · refine .inr ⟨g, cap, cur, by simp [M', h1], h3, h4, h5, h6, fun i j d hi' hd => ?_⟩
        rw [p2]
        have hj : j < q.sz := by rw [← p2, ← Sq.elem_len true q' i]; exact (List.getElem?_eq_some_iff.1 hd).1
        have hlt : i * q.sz + j < (m + q2.len) * q.sz := by
          have : (i + 1) * q.sz ≤ (m + q2.len) * q.sz := Nat.mul_le_mul_right _ (by omega)
          rw [Nat.add_mul, Nat.one_mul] at this; omega
        have hget : cur.getD (i * q.sz + j) undef = (xs ++ news).getD (i * q.sz + j) undef := by
          rw [← h7]; simp [List.getElem?_take, hlt]
        rw [hget]
        by_cases him : i < m
        · rw [p4 i him, Sq.elem_take _ _ _ him] at hd
          have hlt2 : i * q.sz + j < xs.length := by
            rw [hxl]
            have : (i + 1) * q.sz ≤ m * q.sz := Nat.mul_le_mul_right _ him
            rw [Nat.add_mul, Nat.one_mul] at this; omega
          have := (hxs i j d him hd).elem_any hd hA (M' := M')
          simpa [List.getElem?_append_left hlt2] using this
        · have him' : m ≤ i := by omega
          rw [p5 i him'] at hd
          have hge : xs.length ≤ i * q.sz + j := by rw [hxl]; exact Nat.le_trans (Nat.mul_le_mul_right _ him') (Nat.le_add_right _ _)
          have hidx : i * q.sz + j - xs.length = (i - m) * q2.sz + j := by
            rw [hxl, p3, Nat.sub_mul]
            have := Nat.mul_le_mul_right q.sz him'
            omega
          have := (hnv (i - m) j d (by omega) hd).elem_any hd hA (M' := M')
          rw [← hidx] at this
          simpa [List.getElem?_append_right hge] using this
    · rw [if_neg hyr] at hy
      have hy' : s.r y = some (e', p) := hy
      rcases h.row y e' p hy' with ⟨h1, h2⟩ | ⟨g, cap, cur, h1, h2, h3, h4, h5, h6⟩
      · exact .inl ⟨by simp [M', Ne.symm hyr, h1], h2⟩
      · exact .inr ⟨g, cap, cur, by simp [M', Ne.symm hyr, h1], (hoth g (.inr ⟨y, _, _, h1⟩) fun c z hh => hyr (h.inj2 _ _ _ _ _ _ _ hh h1)).trans h2, h3, h4, h5, fun i j d hi' hd => (h6 i j d hi' hd).elem_any hd hA⟩
  · rw [PS.r_setR] at hy
    by_cases hyr : r = y
    · rw [if_pos hyr] at hy; cases hy
    · rw [if_neg hyr] at hy
      simpa [M', Ne.symm hyr] using h.rown y hy
  · rcases hown1 k hk with h1 | rfl
    · exact h.low k h1
    · exact .inl h.fr.size
  · have hno : ∀ y c z k c' z', y ≠ r → M.γ y = some (some (k, c, z)) → x = some (k, c', z') → False := fun y c z k c' z' hy h3 h4 => by
      obtain ⟨h5, _⟩ := hxg _ _ _ h4
      rcases hg2 k h5 with ⟨c2, z2, h6⟩ | rfl
      · exact hy (h.inj2 _ _ _ _ _ _ _ h3 h6)
      · have := h.lt _ (.inr ⟨y, c, z, h3⟩); omega
    simp only [M'] at h1 h2
    split at h1 <;> split at h2
    · simp_all
    · cases h1; exact (hno _ _ _ _ _ _ (by assumption) h2 rfl).elim
    · cases h2; exact (hno _ _ _ _ _ _ (by assumption) h1 rfl).elim
    · exact h.inj2 _ _ _ _ _ _ _ h1 h2
  · simp only [M'] at h2
    split at h2
    · cases h2
      obtain ⟨h5, _⟩ := hxg _ _ _ rfl
      rcases hg2 k h5 with ⟨c2, z2, h6⟩ | rfl
      · exact h.inj3 _ _ _ _ _ h1 h6
      · have := h.lt _ (.inl ⟨b, h1⟩); omega
    · exact h.inj3 _ _ _ _ _ h1 h2
  · have h3 := O0.lor y u h1
    simp only [M'] at h2
    rw [if_neg (by omega)] at h2
    exact h.fxr y u u' h1 h2
  · have : x = y := by simpa [M'] using hy
    subst this; exact hx1

/-- append onto a row of the call's own: it may be moved; other names for it are given up. -/
theorem append_ok (h : Rel w0 O0 n M s a w) {t ty e : TypeId} {k q q2 q' : Sq} {bytes r m : Nat} {v vs : Value} {news : List Value} (hT : TyOK P t (.sl e k bytes)) (hk : k.sz = q.sz) (hr : s.r r = some (e, q))
    (hv : VR M (Ow (Fs w0 O0) M) w (.row r 0 m) v) (hm : m ≤ q.len) (hsrc : Src (Fs w0 O0) M w q2 vs news) (happ : (q.take m).app q2 = some q') (hb1 : (m + q2.len) * bytes ≤ 140737488355328) (hb2 : m + q2.len ≤ maxLen) (hlo : r < 1000000) :
    ∃ v' w' M', (Builtin.append_ #[t, t] ty #[v, vs]).run P w = .ok v' w' ∧ Rel w0 O0 n M' ((s.kill r).setR r (some (e, q'))) a w' ∧ VR M' (Ow (Fs w0 O0) M') w' (.row r 0 (m + q2.len)) v' ∧ AppFr w0 O0 M M' w w' r := by
  by_cases hg : M.γ r = some none
  · have hvn : RowV none 0 m v := by cases hv with | row _ _ _ _ _ h => exact h _ hg
    obtain ⟨⟨ao, rfl⟩, rfl, _⟩ := hvn
    have hv0 : VR M (Ow (Fs w0 O0) M) w (.row r 0 0) (.slice none 0 0) := .row _ _ _ _ rfl fun x hx => by rw [hg] at hx; cases hx; exact ⟨⟨_, rfl⟩, rfl, rfl⟩
    obtain ⟨v', w', M', g1, g2, g3, g5⟩ := append_ok0 (P := P) (ty := ty) h hT hk hr hv0 hm hsrc happ hb1 hb2 hlo (fun _ => rfl)
    obtain ⟨hu, _, i, hi, hsz, hby, z, hz, hzc⟩ := hT
    obtain ⟨⟨bo, c, hvs, hao⟩, _, _, _⟩ := hsrc
    by_cases h0 : 0 < q2.len
    · refine ⟨v', w', M', ?_, g2, g3, g5⟩
      rw [hvs] at g1 ⊢
      rw [run_append_empty t ty e i hu hi ao bo q2.len c h0 (by rw [hby]; rw [Nat.zero_add] at hb1; exact hb1) (by unfold maxLen at hb2; omega)]
      exact g1
    · have h00 : q2.len = 0 := by omega
      have run0 : ∀ ao', (Builtin.append_ #[t, t] ty #[.slice ao' 0 0, vs]).run P w = .ok (.slice ao' 0 0) w := fun ao' => by
        rw [hvs, h00]
        cases ao' <;> cases bo <;> simp [Builtin.append_, Go.run_underlying hu, sizeOf, typeInfo, hi, Builtin.lenOf, Builtin.firstCells, loadCells, loadCellsFrom, storeCells, go_sem]
      rw [run0 none] at g1
      cases g1
      refine ⟨.slice ao 0 0, w, M', run0 ao, g2, ?_, g5⟩
      rw [h00] at g3 ⊢
      cases g3 with
      | row _ _ _ _ _ g4 =>
        refine .row _ _ _ _ rfl fun x hx => ?_
        have := g4 x hx
        cases x with
        | none => exact ⟨⟨_, rfl⟩, rfl, rfl⟩
        | some y =>
          obtain ⟨g, cap, z⟩ := y
          simp only [RowV] at this
          obtain ⟨_, ao2, e1, e2⟩ := this
          cases e1
          have := e2 (.inr trivial)
          cases this
  · exact append_ok0 h hT hk hr hv hm hsrc happ hb1 hb2 hlo (fun hh => absurd hh hg)
end
end Go.Proofs.Ytlmlfbjcpajinaa

/-! ## Vi -/
namespace Go.Proofs.Ytlmlfbjcpajinaa
open Go.RowKit Go.Deep
set_option linter.unusedSimpArgs false
set_option linter.unusedVariables false

structure Step (C : Cx) (o : Oper) (s : PS) (K : PS → Prop) : Prop where
  out : ∀ M a w Q (K' : Act → World → Prop), Rel C.w0 C.O0 C.n M s a w → (∀ M' s' a' w', K s' → Rel C.w0 C.O0 C.n M' s' a' w' → K' a' w') → o.wp C.P a w K' Q
structure VO (C : Cx) (ops : Array Oper) (K : PS → Prop) (l : List Oper) (s : PS) : Prop where
  out : ∀ M a w Q, Rel C.w0 C.O0 C.n M s a w → (∀ M' s' a' w', K s' → Rel C.w0 C.O0 C.n M' s' a' w' → Q .normal a' w') → wpList C.P ops Q l a w

section
variable {C : Cx} {ops : Array Oper} {K : PS → Prop} {o : Oper} {rest : List Oper} {s s' : PS} {TT : List (Nat × Ty)}
theorem vNil (h : K s) : VO C ops K [] s := ⟨fun M a w Q hr hq => wpList_nil (hq M s a w h hr)⟩
theorem vOp (hg : o.guard = none) (h : Step C o s (VO C ops K rest)) : VO C ops K (o :: rest) s := ⟨fun M a w Q hr hq =>
  wpList_plain hg fun K' hK => h.out M a w Q K' hr fun M' s' a' w' hv hr' => hK a' w' (hv.out M' a' w' Q hr' hq)⟩
theorem vWeakO (hl : Le s s') (h : VO C ops K rest s') : VO C ops K rest s := ⟨fun M a w Q hr hq => by
  obtain ⟨M', hr'⟩ := hr.le hl
  exact h.out M' a w Q hr' hq⟩
theorem vRegion {id : Nat} {l : List Oper} {Q : Exit → PS → Prop} (h : VO C l.toArray (Q .normal) l s) : VC C (.region id l.toArray false) Q s := ⟨fun M a w hr =>
  wp_region_lit (h.out M a w _ hr fun M' s' a' w' hk hr' => ⟨s', M', hk, hr'⟩)⟩
/-- the slot that tells a guard -/
def gdst (ops : Array Oper) (j : Nat) : Option Nat := match ops.toList[j]? with | some o => o.dst | none => none
theorem yield_of {M : Mp} {a : Act} {w : World} (hr : Rel C.w0 C.O0 C.n M s a w) {j t : Nat} {b : Bool} (hd : gdst ops j = some t) (hs : s.t t = .bool b) (ht : Nat.blt t C.n = true) : yielded ops a.tmps j = some b := by
  have h1 := hr.tmp t
  rw [hs] at h1
  have h2 := h1.bool_inv
  have h3 : t < a.tmps.size := by rw [hr.sz]; rw [Nat.blt_eq] at ht; exact ht
  have h4 : a.tmps[t]? = some (.bool b) := by simp [h3] at h2; simp [h3, h2]
  have h5 : (ops[j]?).bind (·.dst) = some t := by
    unfold gdst at hd
    rw [Array.getElem?_toList] at hd
    cases h : ops[j]? with
    | none => rw [h] at hd; cases hd
    | some o => rw [h] at hd; exact hd
  simp [yielded, h5, h4]
theorem vOpG {j t : Nat} {want b : Bool} (hg : o.guard = some (j, want)) (hd : gdst ops j = some t) (ht : Nat.blt t C.n = true) (hs : s.t t = .bool b) (hb : b = want) (h : Step C o s (VO C ops K rest)) : VO C ops K (o :: rest) s := ⟨fun M a w Q hr hq =>
  wpList_step fun K' hK => by
    have : Region.wanted o (yielded ops a.tmps) = true := by simp [Region.wanted, hg, yield_of hr hd hs ht, hb]
    rw [if_pos this]
    exact h.out M a w Q K' hr fun M' s' a' w' hv hr' => hK a' w' (hv.out M' a' w' Q hr' hq)⟩
/-- passed over -/
theorem vNo {j t : Nat} {want b : Bool} (hg : o.guard = some (j, want)) (hd : gdst ops j = some t) (ht : Nat.blt t C.n = true) (hs : s.t t = .bool b) (hb : b = !want) (ho : dstOk C.n o.dst = true) (h : VO C ops K rest (s.put o.dst (.tup []))) : VO C ops K (o :: rest) s := ⟨fun M a w Q hr hq =>
  wpList_step fun K' hK => by
    have : ¬ Region.wanted o (yielded ops a.tmps) = true := by simp [Region.wanted, hg, yield_of hr hd hs ht, hb]
    rw [if_neg this]
    exact hK _ _ (h.out M _ w Q (hr.put ho (.tup [] #[] rfl (by simp))) hq)⟩
/-- passed over, for the guard was -/
theorem vNoU {j t : Nat} {want : Bool} (hg : o.guard = some (j, want)) (hd : gdst ops j = some t) (hs : s.t t = .tup []) (ho : dstOk C.n o.dst = true) (h : VO C ops K rest (s.put o.dst (.tup []))) : VO C ops K (o :: rest) s := ⟨fun M a w Q hr hq =>
  wpList_step fun K' hK => by
    have h1 := hr.tmp t
    rw [hs] at h1
    obtain ⟨us, h2, h3, _⟩ := h1.tup_inv
    have h5 : (ops[j]?).bind (·.dst) = some t := by
      unfold gdst at hd
      rw [Array.getElem?_toList] at hd
      cases h : ops[j]? with
      | none => rw [h] at hd; cases hd
      | some o => rw [h] at hd; exact hd
    have hy : yielded ops a.tmps j = none := by
      simp only [yielded, h5, Option.bind_some]
      cases h6 : a.tmps[t]? with
      | none => rfl
      | some v =>
        have : v = .tuple us := by simpa [h6] using h2
        subst this; rfl
    have : ¬ Region.wanted o (yielded ops a.tmps) = true := by simp [Region.wanted, hg, hy]
    rw [if_neg this]
    exact hK _ _ (h.out M _ w Q (hr.put ho (.tup [] #[] rfl (by simp))) hq)⟩

theorem sVal (hT : TTOK C.P TT) {ob : Prop} {d : D} (hv : evalV TT s o.op = some (ob, d)) (ho : dstOk C.n o.dst = true) (hob : ob) (h : K (s.put o.dst d)) : Step C o s K := ⟨fun M a w Q K' hr hk => by
  obtain ⟨v, h1, h2⟩ := val_ok hT hr hv hob
  unfold Oper.wp
  rw [h1]
  exact hk M _ _ _ h (hr.put ho h2)⟩
/-- an operation that yields a value and leaves the world -/
theorem sRun {d : D} (hv : ∀ M a w, Rel C.w0 C.O0 C.n M s a w → ∃ v, (execOp a.eval o).run C.P w = .ok (.value v) w ∧ VR M (Ow (Fs C.w0 C.O0) M) w d v) (ho : dstOk C.n o.dst = true) (h : K (s.put o.dst d)) : Step C o s K := ⟨fun M a w Q K' hr hk => by
  obtain ⟨v, h1, h2⟩ := hv M a w hr
  unfold Oper.wp
  rw [h1]
  exact hk M _ _ _ h (hr.put ho h2)⟩
theorem sPick {c x y : Operand} {b : Bool} (hop : o.op = .pick c x y) (hc : s.ev c = .bool b) (ho : dstOk C.n o.dst = true) {d : D} (hb : (b = true ∧ d = s.ev x) ∨ (b = false ∧ d = s.ev y)) (h : K (s.put o.dst d)) : Step C o s K :=
  sRun (fun M a w hr => by
    have h1 := hr.ev c
    rw [hc] at h1
    have h2 := h1.bool_inv
    rcases hb with ⟨rfl, rfl⟩ | ⟨rfl, rfl⟩
    · exact ⟨a.eval x, by simp only [execOp, hop, h2]; simp [asBool, go_sem], hr.ev x⟩
    · exact ⟨a.eval y, by simp only [execOp, hop, h2]; simp [asBool, go_sem], hr.ev y⟩) ho h
theorem sPickT {c x y : Operand} {b : Bool} (hop : o.op = .pick c x y) (hc : s.ev c = .bool b) (hb : b = true) (ho : dstOk C.n o.dst = true) (h : K (s.put o.dst (s.ev x))) : Step C o s K := sPick hop hc ho (.inl ⟨hb, rfl⟩) h
theorem sPickF {c x y : Operand} {b : Bool} (hop : o.op = .pick c x y) (hc : s.ev c = .bool b) (hb : b = false) (ho : dstOk C.n o.dst = true) (h : K (s.put o.dst (s.ev y))) : Step C o s K := sPick hop hc ho (.inr ⟨hb, rfl⟩) h

abbrev noB : Nat → Bool := fun _ => false
/-- a box made -/
theorem sBox {t : TypeId} {x : Operand} {b : Nat} {d : D} (hop : o.op = .box t x) (hd : o.dst = some b) (hx : s.ev x = d) (hfl : d.flat = true) (hn : Nat.blt b C.n = true) (hf : Fresh s (fun y => Nat.beq y b) noB)
    (hm : (d.cells.all fun d => !mentS (fun y => Nat.beq y b) noB d) = true) (h : K ((s.addBox b d.cells).put (some b) (.ptr b 0))) : Step C o s K := ⟨fun M a w Q K' hr hk => by
  have h1 := hr.ev x
  rw [hx] at h1
  obtain ⟨c1, c2, c3⟩ := h1.cells hfl
  obtain ⟨M', h2, h3⟩ := hr.newBox (e := t) hf c1 c2 (fun d hd => by have := (List.all_eq_true.1 hm) d hd; simpa using this) (by have h1000 := hr.nle; rw [Nat.blt_eq] at hn; omega)
  have hrun : (execOp a.eval o).run C.P w = .ok (.value (.pointer (some ⟨w.heap.size, 0, none⟩))) (w.alloc (.cells (a.eval x).cells t)) := by
    simp only [execOp, hop, Instr.box, newVar, newRow]
    rfl
  unfold Oper.wp
  rw [hrun]
  refine hk M' _ _ _ h ?_
  rw [hd]
  exact h2.put hn (.ptr _ _ _ rfl fun k hk => by rw [h3] at hk; cases hk; rfl)⟩
def zeroD : Ty → D
  | .st _ zs => .agg (zs.map ofV)
  | .sl _ _ _ => .nil
  | .sc z => ofV z
  | .mp => .dead
theorem sAlloc (hT : TTOK C.P TT) {t : TypeId} {b : Nat} {y : Ty} (hop : o.op = .alloc t) (hd : o.dst = some b) (hy : look TT t = some y) (hn : Nat.blt b C.n = true) (hf : Fresh s (fun y => Nat.beq y b) noB)
    (hfl : (zeroD y).flat = true) (hm : ((zeroD y).cells.all fun d => !mentS (fun y => Nat.beq y b) noB d) = true) (h : K ((s.addBox b (zeroD y).cells).put (some b) (.ptr b 0))) : Step C o s K := ⟨fun M a w Q K' hr hk => by
  have hz : ∃ z, (zeroValue t).run C.P w = .ok z w ∧ VR M (Ow (Fs C.w0 C.O0) M) w (zeroD y) z := by
    have := hT t y hy
    cases y with
    | st offs zs =>
      obtain ⟨_, ⟨i, hi, hs, hz⟩, h1⟩ := this
      refine ⟨.agg zs.toArray, by simp [zeroValue, typeInfo, hi, hz, go_sem], .agg _ _ (by simp) fun j d hd => ?_⟩
      simp at hd
      obtain ⟨z, hz, rfl⟩ := hd
      have : zs.toArray.getD j undef = z := by simp [hz]
      rw [this]; exact VR.ofV z
    | sl e k by' =>
      obtain ⟨_, ⟨i, hi, hs, hz⟩, _⟩ := this
      exact ⟨_, by simp [zeroValue, typeInfo, hi, hz, go_sem], .nil none⟩
    | mp => cases hfl
    | sc z =>
      obtain ⟨_, ⟨i, hi, hs, hz⟩, _⟩ := this
      exact ⟨z, by simp [zeroValue, typeInfo, hi, hz, go_sem], VR.ofV z⟩
  obtain ⟨z, hz1, hz2⟩ := hz
  obtain ⟨c1, c2, c3⟩ := hz2.cells hfl
  obtain ⟨M', h2, h3⟩ := hr.newBox (e := t) hf c1 c2 (fun d hd => by have := (List.all_eq_true.1 hm) d hd; simpa using this) (by have h1000 := hr.nle; rw [Nat.blt_eq] at hn; omega)
  have hrun : (execOp a.eval o).run C.P w = .ok (.value (.pointer (some ⟨w.heap.size, 0, none⟩))) (w.alloc (.cells z.cells t)) := by
    simp only [execOp, hop, Instr.alloc, newVar, newRow, Sem.run_bind, hz1, Result.andThen_ok]
    rfl
  unfold Oper.wp
  rw [hrun]
  refine hk M' _ _ _ h ?_
  rw [hd]
  exact h2.put hn (.ptr _ _ _ rfl fun k hk => by rw [h3] at hk; cases hk; rfl)⟩

def tySize : Ty → Nat
  | .st _ zs => zs.length
  | _ => 1
theorem ty_sizeOf {P : Program} {t : TypeId} {y : Ty} (h : TyOK P t y) (w : World) : (sizeOf t).run P w = .ok (tySize y) w := by
  cases y with
  | st offs zs => obtain ⟨_, ⟨i, hi, hs, _⟩, _⟩ := h; simp [sizeOf, typeInfo, hi, hs, go_sem, tySize]
  | sl e k b => obtain ⟨_, ⟨i, hi, hs, _⟩, _⟩ := h; simp [sizeOf, typeInfo, hi, hs, go_sem, tySize]
  | sc z => obtain ⟨_, ⟨i, hi, hs, _⟩, _⟩ := h; simp [sizeOf, typeInfo, hi, hs, go_sem, tySize]
  | mp => obtain ⟨_, i, hi, hs⟩ := h; simp [sizeOf, typeInfo, hi, hs, go_sem, tySize]
def Live (s : PS) : D → Prop
  | .ptr b _ => (s.b b).isSome = true
  | .eptr r i _ => ∃ e q, s.r r = some (e, q) ∧ 0 ≤ i ∧ i < q.len
  | _ => False
/-- a store into a box or a row of the call's own -/
theorem sStore (hT : TTOK C.P TT) {t : TypeId} {p x : Operand} {y : Ty} {dp d : D} {ob : Prop} (hop : o.op = .store t p x) (hd : o.dst = none) (hy : look TT t = some y) (hp : s.ev p = dp) (hx : s.ev x = d) (hfl : d.flat = true)
    (hsz : Nat.beq d.cells.length (tySize y) = true) (hw : wrL s dp 0 d.cells = some (ob, s')) (hlive : Live s dp) (hob : ob) (h : K s') : Step C o s K := ⟨fun M a w Q K' hr hk => by
  have h1 := hr.ev x
  rw [hx] at h1
  obtain ⟨c1, c2, c3⟩ := h1.cells hfl
  have h2 := hr.ev p
  rw [hp] at h2
  have hpt : ∃ k oo, a.eval p = .pointer (some ⟨k, oo, none⟩) ∧ PtrAt M dp k oo := by
    cases dp <;> simp only [Live] at hlive
    case ptr b off =>
      cases hb : s.b b with
      | none => rw [hb] at hlive; cases hlive
      | some cs =>
        obtain ⟨k, cur, e, g1, _⟩ := hr.box b cs hb
        generalize a.eval p = v at h2 ⊢
        cases h2 with
        | ptr _ _ _ _ g2 => exact ⟨k, off, g2 k g1, g1, rfl⟩
    case eptr r i off =>
      obtain ⟨e, q, hr', h3, h4⟩ := hlive
      rcases hr.row r e q hr' with ⟨_, h0⟩ | ⟨g, cap, cur, g1, _⟩
      · omega
      · generalize a.eval p = v at h2 ⊢
        cases h2 with
        | eptr _ _ _ _ g2 => exact ⟨g, _, g2 g cap q.sz g1, _, _, g1, rfl⟩
  obtain ⟨k, oo, hpv, hpa⟩ := hpt
  obtain ⟨w', hrun, hr'⟩ := wrL_ok (P := C.P) d.cells (a.eval x).cells.toList 0 s w ob s' dp k oo hr hpa (by simpa using c1) (fun i d' hd' => by simpa using c2 i d' hd') hw hob
  have hrun' : (execOp a.eval o).run C.P w = .ok .skip w' := by
    simp only [execOp, hop, Instr.storeAt, Instr.sureAddr, storeVar, hpv, Sem.run_bind, ty_sizeOf (hT t y hy), Result.andThen_ok]
    have : (a.eval x).cells.size = tySize y := by rw [← c1]; exact Nat.eq_of_beq_eq_true hsz
    generalize (a.eval x).cells = vx at this hrun ⊢
    simp [go_sem, this, hrun]
  unfold Oper.wp
  rw [hrun']
  have : (a.put o.dst undef) = a := by rw [hd]; rfl
  show K' (a.put o.dst undef) w'
  rw [this]
  exact hk M _ _ _ h hr'⟩
end
end Go.Proofs.Ytlmlfbjcpajinaa

/-! ## Vj -/
namespace Go.Proofs.Ytlmlfbjcpajinaa
open Go.RowKit Go.Deep
set_option linter.unusedSimpArgs false
set_option linter.unusedVariables false

theorem foldl_set (cs : List Value) : ∀ (k off : Nat) (a : Array Value), off + k + cs.length ≤ a.size →
    ((cs.zipIdx k).foldl (fun a (p : Value × Nat) => a.setIfInBounds (off + p.2) p.1) a).toList = a.toList.take (off + k) ++ cs ++ a.toList.drop (off + k + cs.length) := by
  induction cs with
  | nil => intro k off a h; simp
  | cons c cs ih =>
    intro k off a h
    simp only [List.zipIdx_cons, List.foldl_cons]
    rw [ih (k + 1) off _ (by simp at h ⊢; omega)]
    simp only [Array.toList_setIfInBounds, List.length_cons]
    have hlt : off + k < a.toList.length := by simp at h ⊢; omega
    rw [show off + (k + 1) = (off + k) + 1 from by omega]
    rw [List.take_succ_eq_append_getElem (by simpa using hlt)]
    rw [List.getElem_set_self, List.take_set_of_le (Nat.le_refl _), List.drop_set_of_lt (by omega)]
    simp only [List.append_assoc, List.cons_append, List.nil_append]
    rw [show off + k + 1 + cs.length = off + k + (cs.length + 1) from by omega]

def idxL : Nat → List Value → List (Nat × Value)
  | _, [] => []
  | i, v :: l => (i, v) :: idxL (i + 1) l
theorem fill_all (sz : Nat) : ∀ (vs : List Value) (i : Nat) (cells : Array Value), (∀ v ∈ vs, v.cells.size = sz) → cells.size = (i + vs.length) * sz →
    (Instr.fill (fun i => some (i * sz, sz)) cells (idxL i vs)) = some (cells.toList.take (i * sz) ++ vs.flatMap (fun v => v.cells.toList)).toArray
  | [], i, cells, _, hs => by
    simp only [idxL, Instr.fill, List.flatMap_nil, List.append_nil]
    rw [List.take_of_length_le (by simp at hs ⊢; omega)]
  | v :: vs, i, cells, hv, hs => by
    have hv0 := hv v (by simp)
    simp only [List.length_cons] at hs
    have hle : i * sz + sz ≤ cells.size := by
      rw [hs]
      have : (i + 1) * sz ≤ (i + (vs.length + 1)) * sz := Nat.mul_le_mul_right _ (by omega)
      rw [Nat.add_mul, Nat.one_mul] at this; exact this
    have hf := foldl_set v.cells.toList 0 (i * sz) cells (by simp [hv0]; omega)
    simp only [Nat.add_zero, Array.length_toList, hv0] at hf
    have hfa : v.cells.zipIdx.foldl (fun cs (p : Value × Nat) => cs.setIfInBounds (i * sz + p.2) p.1) cells = (cells.toList.take (i * sz) ++ v.cells.toList ++ cells.toList.drop (i * sz + sz)).toArray := by
      rw [← Array.toList_inj, ← hf, ← Array.foldl_toList, Array.toList_zipIdx]
    simp only [idxL, Instr.fill]
    rw [if_neg (by simp [hv0]; omega)]
    have hfa' : (Array.foldl (fun cs (x : Value × Nat) => match x with | (c, j) => cs.setIfInBounds (i * sz + j) c) cells v.cells.zipIdx) = (cells.toList.take (i * sz) ++ v.cells.toList ++ cells.toList.drop (i * sz + sz)).toArray := hfa
    rw [hfa']
    have hlen : (cells.toList.take (i * sz) ++ v.cells.toList).length = (i + 1) * sz := by simp [hv0, Nat.add_mul]; omega
    rw [fill_all sz vs (i + 1) _ (fun x hx => hv x (by simp [hx])) (by
      simp only [List.size_toArray, List.length_append, List.length_take, List.length_drop, Array.length_toList, hv0, hs]
      have h3 : (i + 1 + vs.length) * sz = (i + (vs.length + 1)) * sz := by congr 1; omega
      rw [h3]; omega)]
    congr 2
    rw [List.flatMap_cons, ← List.append_assoc]
    congr 1
    rw [← hlen, List.take_left]

def getInt : D → Option Int | .int n => some n | _ => none
def getBool : D → Option Bool | .bool b => some b | _ => none
def getPair : D → Option (Int × Int) | .agg [.int a, .int b] => some (a, b) | _ => none
def getInts : D → Option (List Int) | .ro true (.ints l) => some l | _ => none
def getPairs : D → Option (List (Int × Int)) | .ro true (.pairs l) => some l | _ => none
def getBools : D → Option (List Bool) | .ro true (.bools l) => some l | _ => none
def getRaise : D → Option (Int × List Int) | .agg [.int a, .ro true (.ints l)] => some (a, l) | _ => none
def getStr : D → Option ByteArray | .val (.string s) => some s | _ => none
def mapO {α : Type} (f : D → Option α) : List D → Option (List α)
  | [] => some []
  | d :: l => match f d, mapO f l with | some x, some m => some (x :: m) | _, _ => none
theorem mapO_ok {α : Type} {f : D → Option α} : ∀ {l : List D} {m : List α}, mapO f l = some m → m.length = l.length ∧ ∀ (i : Nat) (d : D), l[i]? = some d → ∃ x, m[i]? = some x ∧ f d = some x
  | [], m, h => by simp [mapO] at h; subst h; simp
  | d :: l, m, h => by
    simp only [mapO] at h
    split at h
    case h_2 => cases h
    rename_i x m' h1 h2
    cases h
    obtain ⟨a1, a2⟩ := mapO_ok h2
    refine ⟨by simp [a1], fun i d' hd => ?_⟩
    cases i with
    | zero => simp at hd; subst hd; exact ⟨x, rfl, h1⟩
    | succ i => simpa using a2 i d' (by simpa using hd)
def Sq.ofL : Sq → List D → Option Sq
  | .ints _, l => (mapO getInt l).map .ints | .bools _, l => (mapO getBool l).map .bools | .pairs _, l => (mapO getPair l).map .pairs | .intss _, l => (mapO getInts l).map .intss
  | .pairss _, l => (mapO getPairs l).map .pairss | .boolss _, l => (mapO getBools l).map .boolss | .raises _, l => (mapO getRaise l).map .raises | .strs _, l => (mapO getStr l).map .strs
theorem Sq.ofL_ok {k q : Sq} {l : List D} (h : k.ofL l = some q) : q.len = l.length ∧ q.sz = k.sz ∧ ∀ i d, l[i]? = some d → d.flat = true ∧ d.cells = q.elem true i := by
  cases k <;> simp only [Sq.ofL] at h <;> obtain ⟨m, hm, rfl⟩ := Option.map_eq_some_iff.1 h <;> obtain ⟨h1, h2⟩ := mapO_ok hm <;> refine ⟨h1, rfl, fun i d hd => ?_⟩ <;> obtain ⟨x, h3, h4⟩ := h2 i d hd
  · cases d <;> simp [getInt] at h4; subst h4; exact ⟨rfl, by simp [D.cells, Sq.elem, h3]⟩
  · unfold getPair at h4; split at h4 <;> simp at h4; subst h4; exact ⟨rfl, by simp [D.cells, Sq.elem, h3]⟩
  · cases d <;> simp [getBool] at h4; subst h4; exact ⟨rfl, by simp [D.cells, Sq.elem, h3]⟩
  · unfold getInts at h4; split at h4 <;> simp at h4; subst h4; exact ⟨rfl, by simp [D.cells, Sq.elem, h3]⟩
  · unfold getPairs at h4; split at h4 <;> simp at h4; subst h4; exact ⟨rfl, by simp [D.cells, Sq.elem, h3]⟩
  · unfold getBools at h4; split at h4 <;> simp at h4; subst h4; exact ⟨rfl, by simp [D.cells, Sq.elem, h3]⟩
  · unfold getRaise at h4; split at h4 <;> simp at h4; subst h4; exact ⟨rfl, by simp [D.cells, Sq.elem, h3]⟩
  · unfold getStr at h4; split at h4 <;> simp at h4; subst h4; exact ⟨rfl, by simp [D.cells, Sq.elem, h3]⟩

/-- the parts of a literal, in order -/
def partsD (s : PS) : Nat → List (Nat × Operand) → Option (List D)
  | _, [] => some []
  | i, (j, x) :: l => match Nat.beq i j, partsD s (i + 1) l with | true, some m => some (s.ev x :: m) | _, _ => none
theorem partsD_ok {w0 : World} {O0 : Hd} {n : Nat} {M : Mp} {s : PS} {a : Act} {w : World} (h : Rel w0 O0 n M s a w) : ∀ {l : List (Nat × Operand)} {i : Nat} {ds : List D}, partsD s i l = some ds →
    ∃ vs : List Value, l.map (fun p => (p.1, a.eval p.2)) = idxL i vs ∧ vs.length = ds.length ∧ ∀ j d, ds[j]? = some d → VR M (Ow (Fs w0 O0) M) w d (vs.getD j undef)
  | [], i, ds, hp => by simp [partsD] at hp; subst hp; exact ⟨[], rfl, rfl, by simp⟩
  | (j, x) :: l, i, ds, hp => by
    simp only [partsD] at hp
    split at hp
    case h_2 => cases hp
    rename_i m h1 h2
    cases hp
    obtain ⟨vs, g1, g2, g3⟩ := partsD_ok h h2
    have := Nat.eq_of_beq_eq_true h1
    subst this
    refine ⟨a.eval x :: vs, by simp [idxL, g1], by simp [g2], fun k d hd => ?_⟩
    cases k with
    | zero => simp at hd; subst hd; simpa using h.ev x
    | succ k => simpa using g3 k d (by simpa using hd)

theorem flatMap_get {sz : Nat} : ∀ (vs : List Value) (i j : Nat), (∀ v ∈ vs, v.cells.size = sz) → i < vs.length → j < sz → (vs.flatMap fun v => v.cells.toList)[i * sz + j]? = (vs.getD i undef).cells[j]?
  | [], i, j, _, h, _ => by simp at h
  | v :: vs, i, j, hv, hi, hj => by
    have hv0 := hv v (by simp)
    rw [List.flatMap_cons]
    cases i with
    | zero => rw [Nat.zero_mul, Nat.zero_add, List.getElem?_append_left (by simpa [hv0] using hj)]; simp
    | succ i =>
      rw [List.getElem?_append_right (by simp [hv0, Nat.add_mul]; omega)]
      have : (i + 1) * sz + j - v.cells.toList.length = i * sz + j := by simp [hv0, Nat.add_mul]; omega
      rw [this, flatMap_get vs i j (fun x hx => hv x (by simp [hx])) (by simpa using hi) hj]
      simp
theorem flatMap_len {sz : Nat} : ∀ (vs : List Value), (∀ v ∈ vs, v.cells.size = sz) → (vs.flatMap fun v => v.cells.toList).length = vs.length * sz
  | [], _ => by simp
  | v :: vs, hv => by rw [List.flatMap_cons, List.length_append, flatMap_len vs (fun x hx => hv x (by simp [hx]))]; simp [hv v (by simp), Nat.add_mul]; omega

section
variable {C : Cx} {ops : Array Oper} {K : PS → Prop} {o : Oper} {rest : List Oper} {s s' : PS} {TT : List (Nat × Ty)}
def rowN (r : Nat) (x : Option (Nat × Nat × Nat)) : Mp := ⟨fun _ => none, fun y => if y = r then some x else none⟩
def isR (r : Nat) : Nat → Bool := fun y => Nat.beq r y
theorem look_one {α : Type} (r : Nat) (x : α) (y : Nat) : look [(r, x)] y = if r = y then some x else none := by
  by_cases h : r = y
  · subst h; simp [look_cons_self]
  · rw [look_cons_ne h, if_neg h]; rfl
/-- One new row. -/
theorem Rel.newRow {w0 : World} {O0 : Hd} {n : Nat} {M : Mp} {s : PS} {a : Act} {w w' : World} (h : Rel w0 O0 n M s a w) {r m : Nat} {e : TypeId} {q : Sq} {cur : Array Value} (hq : q.len = m) (hm : m ≤ maxLen) (hc : cur.size = m * q.sz)
    (hw : w'.heap[w.heap.size]? = some (.cells cur e (0, 0))) (hos : w'.os = w.os) (ht : w'.tape = w.tape) (ho : w'.output = w.output) (hs : w.heap.size ≤ w'.heap.size) (hb : ∀ k, k < w.heap.size → w'.heap[k]? = w.heap[k]?)
    (hv : ∀ i j d, i < m → (q.elem true i)[j]? = some d → VR M (Ow (Fs w0 O0) M) w d (cur.getD (i * q.sz + j) undef)) (hf : Fresh s noB (isR r)) (hlo : r < 1000000) :
    ∃ M', Rel w0 O0 n M' (s.setR r (some (e, q))) a w' ∧ VR M' (Ow (Fs w0 O0) M') w' (.row r 0 m) (.slice (some ⟨w.heap.size, 0, none⟩) m m) := by
  subst hq
  let N := rowN r (some (w.heap.size, q.len, q.sz))
  have hNo : ∀ k, N.owned k → k = w.heap.size := by
    rintro k (⟨b, hb⟩ | ⟨y, c, z, hy⟩)
    · cases hb
    · simp only [N, rowN] at hy
      split at hy
      · cases hy; rfl
      · cases hy
  have hN : New N (fun f k => Ow (Fs w0 O0) M f k ∧ k < w.heap.size) w w' [(r, some (e, q))] := by
    refine ⟨hos, ht, ho, hs, hb, fun _ => rfl, fun y e' q' hy => ?_, fun y hy => ?_, fun k hk => by rw [hNo k hk]; exact Nat.le_refl _, fun y y' k c z c' z' h1 h2 => ?_⟩
    · rw [look_one] at hy
      split at hy
      · rename_i hry
        cases hy
        refine .inr ⟨w.heap.size, q.len, cur, by simp [N, rowN, hry], hw, Nat.le_refl _, hm, hc, fun i j d hi hd => (hv i j d hi hd).elem_any hd fun f b h1 h2 => ⟨⟨h2, h1⟩, by omega, hb b h1⟩⟩
      · cases hy
    · simp only [N, rowN]
      split
      · rename_i hyr; exact absurd (by rw [look_one, if_pos hyr.symm]) (hy (e, q))
      · rfl
    · simp only [N, rowN] at h1 h2
      split at h1 <;> split at h2 <;> simp_all
  have hfr : Fresh s (fun _ => false) (fun y => (look [(r, some (e, q))] y).isSome) := by
    have : (fun y => (look [(r, some (e, q))] y).isSome) = isR r := by
      funext y
      simp only [look, isR]
      cases Nat.beq r y <;> rfl
    rw [this]; exact hf
  obtain ⟨M', h1, h2⟩ := h.newRows hN (fun f k hk hA => ⟨⟨fun ho => by have := hNo k ho; omega, hA.1.1⟩, hA.1.2⟩) hfr (fun y hy => by rw [look_one] at hy; split at hy <;> first | omega | cases hy)
  refine ⟨M', h1, h2 _ _ (by simp [ment, mentA, mentS, look, Nat.beq_refl]) (.row _ _ _ _ rfl fun x hx => ?_)⟩
  simp [N, rowN] at hx
  subst hx
  exact ⟨by omega, some ⟨w.heap.size, 0, none⟩, by simp, fun _ => by simp⟩

theorem run_buildSlice {P : Program} {t e : TypeId} {k : Sq} {by' : Nat} (hty : TyOK P t (.sl e k by')) (w : World) (m : Nat) (ps : Array (Nat × Value)) (arr : Array Value) (hbig : m * k.sz ≤ 16777216)
    (hfill : ∀ cells : Array Value, cells.size = m * k.sz → Instr.fill (fun i => some (i * k.sz, k.sz)) cells ps.toList = some arr) :
    (Instr.buildSlice t m ps).run P w = .ok (.slice (some ⟨w.heap.size, 0, none⟩) m m) (w.alloc (.cells arr e)) := by
  have hs := ty_sl hty w
  have hz' := ty_size hty w
  obtain ⟨_, _, i, hi, hsz, _, z, hz, hzc⟩ := hty
  have hb2 : ¬ (2 ^ 24 < m * k.sz) := by omega
  have hnew : ∀ cs, (newRow e cs).run P w = .ok ⟨w.heap.size, 0, none⟩ (w.alloc (.cells cs e)) := fun _ => rfl
  have hzv : (zeroValue e).run P w = .ok z w := by simp [zeroValue, typeInfo, hi, hz, go_sem]
  have hpure : ∀ (x : Array Value), (pure x : Sem (Array Value)).run P w = .ok x w := fun _ => rfl
  unfold Instr.buildSlice
  rw [Sem.run_bind, hs]
  simp only [Result.andThen_ok, Sem.run_bind, hz', gt_iff_lt, hb2, if_false]
  by_cases h0 : m * k.sz = 0
  · have hf0 := hfill (Array.map (fun x => (#[] : Array Value)[x % (#[] : Array Value).size]!) (Array.range (m * k.sz))) (by simp)
    simp only [h0] at hf0
    simp only [h0, if_true, Sem.run_bind, hpure, Result.andThen_ok]
    rw [hf0]
    rfl
  · have hf0 := hfill (Array.map (fun x => z.cells[x % z.cells.size]!) (Array.range (m * k.sz))) (by simp)
    simp only [h0, if_false, Sem.run_bind, hzv, hpure, Result.andThen_ok]
    rw [hf0]
    rfl
theorem sBuildSlice (hT : TTOK C.P TT) {t e : TypeId} {k q : Sq} {by' m b : Nat} {parts : Array (Nat × Operand)} {ds : List D} (hop : o.op = .buildSlice t m parts) (hd : o.dst = some b) (hy : look TT t = some (.sl e k by')) (hp : partsD s 0 parts.toList = some ds)
    (hm : Nat.beq ds.length m = true) (hq : k.ofL ds = some q) (hbig : Nat.ble (m * k.sz) 16777216 = true) (hn : Nat.blt b C.n = true) (hf : Fresh s noB (isR b)) (h : K ((s.setR b (some (e, q))).put (some b) (.row b 0 m))) : Step C o s K := ⟨fun M a w Q K' hr hk => by
  have hty := hT t _ hy
  obtain ⟨_, _, i, hi, hsz, _, z, hz, hzc⟩ := hty
  obtain ⟨vs, g1, g2, g3⟩ := partsD_ok hr hp
  obtain ⟨q1, q2, q3⟩ := Sq.ofL_ok hq
  have hm' : ds.length = m := Nat.eq_of_beq_eq_true hm
  have hvs : ∀ v ∈ vs, v.cells.size = k.sz := fun v hv => by
    obtain ⟨j, hj, rfl⟩ := List.getElem_of_mem hv
    have h1 : ds[j]? = some ds[j] := List.getElem?_eq_getElem (by omega)
    obtain ⟨a1, a2⟩ := q3 j _ h1
    obtain ⟨c1, _⟩ := (g3 j _ h1).cells a1
    rw [a2, Sq.elem_len, q2] at c1
    simpa [hj] using c1.symm
  have hbig' := Nat.le_of_ble_eq_true hbig
  have hfill : ∀ cells : Array Value, cells.size = m * k.sz → Instr.fill (fun i => some (i * k.sz, k.sz)) cells (idxL 0 vs) = some (vs.flatMap fun v => v.cells.toList).toArray := fun cells hc => by
    have := fill_all k.sz vs 0 cells hvs (by rw [hc, g2, hm', Nat.zero_add])
    simpa using this
  have hrun : (execOp a.eval o).run C.P w = .ok (.value (.slice (some ⟨w.heap.size, 0, none⟩) m m)) (w.alloc (.cells (vs.flatMap fun v => v.cells.toList).toArray e)) := by
    have hparts : (parts.map fun (p : Nat × Operand) => (p.1, a.eval p.2)).toList = idxL 0 vs := by rw [← g1]; simp
    have := run_buildSlice (hT t _ hy) w m _ (vs.flatMap fun v => v.cells.toList).toArray (by omega) (fun cells hc => by rw [hparts]; exact hfill cells hc)
    unfold execOp
    rw [hop]
    simp only [Sem.run_bind, this, Result.andThen_ok]
    rfl
  obtain ⟨M', h1, h2⟩ := hr.newRow (r := b) (m := m) (e := e) (q := q) (cur := (vs.flatMap fun v => v.cells.toList).toArray) (w' := w.alloc (.cells (vs.flatMap fun v => v.cells.toList).toArray e)) (by omega) (by
      have : 0 < k.sz := k.sz_pos
      have h3 : m * 1 ≤ m * k.sz := Nat.mul_le_mul_left _ this
      unfold maxLen; omega) (by simp only [List.size_toArray]; rw [flatMap_len vs hvs, q2, g2, hm']) (heap_alloc_new w _) rfl rfl rfl (by simp) (fun k hk => Below.heap_alloc w _ k hk) (fun i j d hi hd => by
      have h4 : ds[i]? = some ds[i] := List.getElem?_eq_getElem (by omega)
      obtain ⟨a1, a2⟩ := q3 i _ h4
      obtain ⟨c1, c2, _⟩ := (g3 i _ h4).cells a1
      rw [a2] at c1 c2
      have hj : j < k.sz := by rw [← q2, ← Sq.elem_len true q i]; exact (List.getElem?_eq_some_iff.1 hd).1
      have := c2 j d hd
      rw [q2]
      have h5 := flatMap_get vs i j hvs (by omega) hj
      have h6 : (vs.flatMap fun v => v.cells.toList).toArray.getD (i * k.sz + j) undef = (vs.getD i undef).cells.getD j undef := by
        simp only [Array.getD_eq_getD_getElem?, List.getElem?_toArray, h5]
      rw [h6]; exact this) hf (by have h1000 := hr.nle; rw [Nat.blt_eq] at hn; omega)
  unfold Oper.wp
  rw [hrun]
  refine hk M' _ _ _ h ?_
  rw [hd]
  exact h1.put hn h2⟩
end
end Go.Proofs.Ytlmlfbjcpajinaa

/-! ## Vk -/
namespace Go.Proofs.Ytlmlfbjcpajinaa
open Go.RowKit Go.Deep
set_option linter.unusedSimpArgs false
set_option linter.unusedVariables false

theorem Sq.take_len (q : Sq) : q.take q.len = q := by cases q <;> simp [Sq.take, Sq.len]
theorem Sq.zeros_ok (k : Sq) (n : Nat) : (k.zeros n).len = n ∧ (k.zeros n).sz = k.sz := by cases k <;> simp [Sq.zeros, Sq.len, Sq.sz]
theorem Sq.zeros_elem (k : Sq) (n i : Nat) (h : i < n) {M : Mp} {A : Bool → Nat → Prop} {w : World} {j : Nat} {d : D} (hd : ((k.zeros n).elem true i)[j]? = some d) : VR M A w d (k.zero1.toArray.getD j undef) := by
  have nilr : ∀ q : Sq, q.len = 0 → VR M A w (.ro true q) (.slice none 0 0) := fun q hq => by
    have := VR.ro (M := M) (A := A) (w := w) true q none 0 0 0 (fun _ _ => undef) (by omega) (by omega) (by omega) (by intro i j d hi; omega) (by intro i j d hi; omega)
    rwa [hq] at this
  cases k <;> simp only [Sq.zeros, Sq.elem, List.getD_eq_getElem?_getD, List.getElem?_replicate, h, if_true, Option.getD_some] at hd <;> rcases j with _ | _ | j <;> simp at hd <;> subst hd <;> simp [Sq.zero1] <;>
    first | exact .int _ | exact .bool _ | exact .val _ rfl | exact nilr _ rfl

section
variable {C : Cx} {ops : Array Oper} {K : PS → Prop} {o : Oper} {rest : List Oper} {s s' : PS} {TT : List (Nat × Ty)}
theorem sMake (hT : TTOK C.P TT) {t e : TypeId} {k : Sq} {by' b : Nat} {x y : Operand} {n : Int} (hop : o.op = .makeSlice t x y) (hd : o.dst = some b) (hy : look TT t = some (.sl e k by')) (hx : s.ev x = .int n) (hyy : s.ev y = .int n)
    (hb : Nat.ble by' 32 = true) (hn : Nat.blt b C.n = true) (hf : Fresh s noB (isR b)) (hob : 0 ≤ n ∧ n ≤ 4294967296) (h : K ((s.setR b (some (e, k.zeros n.toNat))).put (some b) (.row b 0 (k.zeros n.toNat).len))) : Step C o s K := ⟨fun M a w Q K' hr hk => by
  have hty := hT t _ hy
  have hty' := hty
  obtain ⟨hu, _, i, hi, hsz, hby, z, hz, hzc⟩ := hty
  have e1 := hr.ev x
  have e2 := hr.ev y
  rw [hx] at e1
  rw [hyy] at e2
  have hb' := Nat.le_of_ble_eq_true hb
  obtain ⟨m, rfl⟩ : ∃ m : Nat, n = (m : Int) := ⟨n.toNat, by omega⟩
  have hmm : m ≤ 4294967296 := by omega
  obtain ⟨w', hrun, hown, hgr⟩ := run_make_full (P := C.P) w w.heap.size t e i z k.sz hu hi hz hsz .i64 .i64 m (by rw [hby]; have := Nat.mul_le_mul hb' hmm; omega) (by unfold maxLen; omega) (Nat.le_refl _)
  have hzs : z.cells.size = k.sz := by rw [hzc]; cases k <;> rfl
  have hheap : ∃ cur, w'.heap[w.heap.size]? = some (.cells cur e (0, 0)) ∧ cur.size = m * k.sz ∧ cur.toList = (madeCells z.cells (m * k.sz)).toList := by
    rcases hown.2 with ⟨h1, _⟩ | ⟨g, cap, cur, h1, _, h2, h3, h4, h5, h6⟩
    · cases h1
    · cases h1
      refine ⟨cur, h2, h5, ?_⟩
      rw [← h6, List.take_of_length_le (by simp [h5])]
  obtain ⟨cur, g1, g2, g3⟩ := hheap
  obtain ⟨z1, z2⟩ := Sq.zeros_ok k m
  obtain ⟨M', h1, h2⟩ := hr.newRow (r := b) (m := m) (e := e) (q := k.zeros m) (cur := cur) (w' := w') z1 (by unfold maxLen; omega) (by rw [z2]; exact g2) g1 hgr.os hgr.tape hgr.output hgr.size (fun k hk => hgr.block k hk (by simp)) (fun i j d hi hd => by
    have hj : j < k.sz := by rw [← z2, ← Sq.elem_len true (k.zeros m) i]; exact (List.getElem?_eq_some_iff.1 hd).1
    have hlt : i * k.sz + j < m * k.sz := by
      have : (i + 1) * k.sz ≤ m * k.sz := Nat.mul_le_mul_right _ hi
      rw [Nat.add_mul, Nat.one_mul] at this; omega
    have hget : cur.getD (i * (k.zeros m).sz + j) undef = k.zero1.toArray.getD j undef := by
      have hc : cur = madeCells z.cells (m * k.sz) := by rw [← Array.toList_inj]; exact g3
      have hzz : k.zero1.toArray.size = k.sz := by rw [← hzc, hzs]
      rw [z2, hc, ← hzc]
      have hmod : (i * k.sz + j) % k.sz = j := by rw [Nat.mul_comm, Nat.mul_add_mod, Nat.mod_eq_of_lt hj]
      simp [madeCells, hlt, hzs, hmod, hj]
    rw [hget]
    exact Sq.zeros_elem k m i hi hd) hf (by have h1000 := hr.nle; rw [Nat.blt_eq] at hn; omega)
  have hrun' : (execOp a.eval o).run C.P w = .ok (.value (.slice (some ⟨w.heap.size, 0, none⟩) m m)) w' := by
    unfold execOp
    rw [hop]
    simp only [Sem.run_bind, e1.int_inv, e2.int_inv, hrun, Result.andThen_ok]
    rfl
  unfold Oper.wp
  rw [hrun']
  refine hk M' _ _ _ h ?_
  rw [hd]
  simp only [Int.toNat_natCast, z1]
  exact h1.put hn h2⟩

theorem run_app {P : Program} {w w' : World} {a : Act} {o : Oper} {x y : Operand} {t : TypeId} {v : Value} (hop : o.op = .call { callee := .builtin .append, args := #[x, y], argTypes := #[t, t] })
    (h : (Builtin.append_ #[t, t] o.type #[a.eval x, a.eval y]).run P w = .ok v w') : (execOp a.eval o).run P w = .ok (.value v) w' := by
  unfold execOp
  rw [hop]
  show ((do let d ← resolve a.eval _ o.type; invoke d.target d.args : Sem Next)).run P w = _
  simp only [resolve, List.map_toArray, List.map_cons, List.map_nil]
  show ((do pure (Next.value (← Builtin.append_ #[t, t] o.type #[a.eval x, a.eval y])) : Sem Next)).run P w = _
  rw [Sem.run_bind, h]
  rfl

/-- append onto the whole of a row -/
theorem sAppend (hT : TTOK C.P TT) {t e : TypeId} {k q q2 q' : Sq} {by' b r m : Nat} {x y : Operand} {dy : D} {ob : Prop} (hop : o.op = .call { callee := .builtin .append, args := #[x, y], argTypes := #[t, t] }) (hd : o.dst = some b) (hy : look TT t = some (.sl e k by'))
    (hx : s.ev x = .row r 0 m) (hr : s.r r = some (e, q)) (hk : Nat.beq k.sz q.sz = true) (hyy : s.ev y = dy) (hs : srcSq s dy = some (ob, q2)) (happ : q.app q2 = some q') (hb : Nat.ble by' 32 = true) (hn : Nat.blt b C.n = true)
    (hm : m = q.len) (hob : ob) (hbd : q.len + q2.len ≤ 4294967296) (hlo : Nat.ble r 999999 = true) (h : K (((s.kill r).setR r (some (e, q'))).put (some b) (.row r 0 q'.len))) : Step C o s K := ⟨fun M a w Q K' hrl hkk => by
  have e1 := hrl.ev x
  have e2 := hrl.ev y
  rw [hx] at e1
  rw [hyy] at e2
  obtain ⟨news, hsrc⟩ := src_ok hrl e2 hs hob
  subst hm
  have hb' := Nat.le_of_ble_eq_true hb
  obtain ⟨v', w', M', h1, h2, h3, _⟩ := append_ok (P := C.P) (ty := o.type) hrl (hT t _ hy) (Nat.eq_of_beq_eq_true hk) hr e1 (Nat.le_refl _) hsrc (by rw [Sq.take_len]; exact happ) (by have := Nat.mul_le_mul hbd hb'; omega) (by unfold maxLen; omega) (by have := Nat.le_of_ble_eq_true hlo; omega)
  unfold Oper.wp
  rw [run_app hop h1]
  refine hkk M' _ _ _ h ?_
  rw [hd]
  rw [← (Sq.app_ok happ).1] at h3
  exact h2.put hn h3⟩
/-- append onto the first m of a row -/
theorem sAppendP (hT : TTOK C.P TT) {t e : TypeId} {k q q2 q' : Sq} {by' b r m : Nat} {x y : Operand} {dy : D} {ob : Prop} (hop : o.op = .call { callee := .builtin .append, args := #[x, y], argTypes := #[t, t] }) (hd : o.dst = some b) (hy : look TT t = some (.sl e k by'))
    (hx : s.ev x = .row r 0 m) (hr : s.r r = some (e, q)) (hk : Nat.beq k.sz q.sz = true) (hyy : s.ev y = dy) (hs : srcSq s dy = some (ob, q2)) (happ : (q.take m).app q2 = some q') (hb : Nat.ble by' 32 = true) (hn : Nat.blt b C.n = true)
    (hm : m ≤ q.len) (hob : ob) (hbd : m + q2.len ≤ 4294967296) (hlo : Nat.ble r 999999 = true) (h : K (((s.kill r).setR r (some (e, q'))).put (some b) (.row r 0 q'.len))) : Step C o s K := ⟨fun M a w Q K' hrl hkk => by
  have e1 := hrl.ev x
  have e2 := hrl.ev y
  rw [hx] at e1
  rw [hyy] at e2
  obtain ⟨news, hsrc⟩ := src_ok hrl e2 hs hob
  have hb' := Nat.le_of_ble_eq_true hb
  obtain ⟨v', w', M', h1, h2, h3, _⟩ := append_ok (P := C.P) (ty := o.type) hrl (hT t _ hy) (Nat.eq_of_beq_eq_true hk) hr e1 hm hsrc happ (by have := Nat.mul_le_mul hbd hb'; omega) (by unfold maxLen; omega) (by have := Nat.le_of_ble_eq_true hlo; omega)
  unfold Oper.wp
  rw [run_app hop h1]
  refine hkk M' _ _ _ h ?_
  rw [hd]
  have hl := (Sq.app_ok happ).1
  rw [Sq.len_take, Nat.min_eq_left hm] at hl
  rw [← hl] at h3
  exact h2.put hn h3⟩

/-- a nil row, named -/
theorem Rel.nilRow {w0 : World} {O0 : Hd} {n : Nat} {M : Mp} {s : PS} {a : Act} {w : World} (h : Rel w0 O0 n M s a w) {r : Nat} {e : TypeId} {q : Sq} (hq : q.len = 0) (hf : Fresh s noB (isR r)) (hlo : r < 1000000) :
    ∃ M', Rel w0 O0 n M' (s.setR r (some (e, q))) a w ∧ ∀ ao, VR M' (Ow (Fs w0 O0) M') w (.row r 0 0) (.slice ao 0 0) := by
  let N := rowN r none
  have hNo : ∀ k, ¬ N.owned k := by
    rintro k (⟨b, hb⟩ | ⟨y, c, z, hy⟩)
    · cases hb
    · simp only [N, rowN] at hy
      split at hy <;> cases hy
  have hN : New N (Ow (Fs w0 O0) M) w w [(r, some (e, q))] := by
    refine ⟨rfl, rfl, rfl, Nat.le_refl _, fun _ _ => rfl, fun _ => rfl, fun y e' q' hy => ?_, fun y hy => ?_, fun k hk => (hNo k hk).elim, fun y y' k c z c' z' h1 h2 => (hNo k (.inr ⟨y, c, z, h1⟩)).elim⟩
    · rw [look_one] at hy
      split at hy
      · rename_i hry; cases hy; exact .inl ⟨by simp [N, rowN, hry], hq⟩
      · cases hy
    · simp only [N, rowN]
      split
      · rename_i hyr; exact absurd (by rw [look_one, if_pos hyr.symm]) (hy (e, q))
      · rfl
  have hfr : Fresh s (fun _ => false) (fun y => (look [(r, some (e, q))] y).isSome) := by
    have : (fun y => (look [(r, some (e, q))] y).isSome) = isR r := by
      funext y
      simp only [look, isR]
      cases Nat.beq r y <;> rfl
    rw [this]; exact hf
  obtain ⟨M', h1, h2⟩ := h.newRows hN (fun f k hk hA => ⟨⟨hNo k, hA.1⟩, hA.2⟩) hfr (fun y hy => by rw [look_one] at hy; split at hy <;> first | omega | cases hy)
  refine ⟨M', h1, fun ao => h2 _ _ (by simp [ment, mentA, mentS, look, Nat.beq_refl]) (.row _ _ _ _ rfl fun x hx => ?_)⟩
  simp [N, rowN] at hx
  subst hx
  exact ⟨⟨_, rfl⟩, rfl, rfl⟩
/-- append onto nil -/
theorem sAppendNil (hT : TTOK C.P TT) {t e : TypeId} {k q2 q' : Sq} {by' b : Nat} {x y : Operand} {dy : D} {ob : Prop} (hop : o.op = .call { callee := .builtin .append, args := #[x, y], argTypes := #[t, t] }) (hd : o.dst = some b) (hy : look TT t = some (.sl e k by'))
    (hx : s.ev x = .nil) (hk0 : Nat.beq k.len 0 = true) (hf : Fresh s noB (isR b)) (hyy : s.ev y = dy) (hs : srcSq (s.setR b (some (e, k))) dy = some (ob, q2)) (happ : k.app q2 = some q') (hb : Nat.ble by' 32 = true) (hn : Nat.blt b C.n = true)
    (hob : ob) (hbd : q2.len ≤ 4294967296) (h : K ((((s.setR b (some (e, k))).kill b).setR b (some (e, q'))).put (some b) (.row b 0 q'.len))) : Step C o s K := ⟨fun M a w Q K' hrl hkk => by
  have e1 := hrl.ev x
  rw [hx] at e1
  have hkl := Nat.eq_of_beq_eq_true hk0
  obtain ⟨ao1, hao1⟩ := e1.nil_inv
  obtain ⟨M1, hr1, hv1'⟩ := hrl.nilRow (r := b) (e := e) (q := k) hkl hf (by have h1000 := hrl.nle; rw [Nat.blt_eq] at hn; omega)
  have hv1 := hv1' ao1
  have e2 := hr1.ev y
  have hyy' : (s.setR b (some (e, k))).ev y = dy := by rw [← hyy]; cases y <;> rfl
  rw [hyy'] at e2
  obtain ⟨news, hsrc⟩ := src_ok hr1 e2 hs hob
  have hb' := Nat.le_of_ble_eq_true hb
  have hbd' : k.len + q2.len ≤ 4294967296 := by omega
  obtain ⟨v', w', M', h1, h2, h3, _⟩ := append_ok (P := C.P) (ty := o.type) hr1 (hT t _ hy) rfl (r := b) (q := k) (by rw [PS.r_setR, if_pos rfl]) hv1 (Nat.zero_le _) hsrc (q' := q') (by rw [← hkl, Sq.take_len]; exact happ) (by rw [Nat.zero_add]; have := Nat.mul_le_mul hbd hb'; omega) (by unfold maxLen; omega) (by have h1000 := hrl.nle; rw [Nat.blt_eq] at hn; omega)
  rw [← hao1] at h1
  unfold Oper.wp
  rw [run_app hop h1]
  refine hkk M' _ _ _ h ?_
  rw [hd]
  have hl := (Sq.app_ok happ).1
  rw [hkl] at hl
  rw [← hl] at h3
  exact h2.put hn h3⟩

/-- A row given away: the slot t names it, and it is only read from here on. -/
theorem Rel.freeze {w0 : World} {O0 : Hd} {n : Nat} {M : Mp} {s : PS} {a : Act} {w : World} (h : Rel w0 O0 n M s a w) {t r m : Nat} {e : TypeId} {q : Sq} (ht : s.t t = .row r 0 m) (hr : s.r r = some (e, q)) (hm : m = q.len) :
    ∃ M', Rel w0 O0 n M' (((s.kill r).setR r none).put (some t) (.ro true q)) a w := by
  subst hm
  let M' : Mp := ⟨M.β, fun y => if y = r then none else M.γ y⟩
  have hown : ∀ k, M'.owned k → M.owned k := by
    rintro k (⟨b, hb⟩ | ⟨y, c, z, hy⟩)
    · exact .inl ⟨b, hb⟩
    · simp only [M'] at hy
      split at hy
      · cases hy
      · exact .inr ⟨y, c, z, hy⟩
  have hA : ∀ f b, b < w.heap.size → Ow (Fs w0 O0) M f b → Ow (Fs w0 O0) M' f b ∧ b < w.heap.size ∧ w.heap[b]? = w.heap[b]? := fun f b h1 h2 => ⟨⟨fun h3 => h2.1 (hown b h3), h2.2⟩, h1, rfl⟩
  have hγ : ∀ y z, y ≠ r → M'.γ y = some z → M.γ y = some z := fun y z h1 h2 => by simpa [M', h1] using h2
  have hβ : ∀ b k, M'.β b = some k → M.β b = some k := fun _ _ h => h
  have hlt : t < n ∨ n ≤ t := by omega
  have hv : VR M' (Ow (Fs w0 O0) M') w (.ro true q) (a.tmps.getD t undef) := by
    have h0 := h.tmp t
    rw [ht] at h0
    generalize a.tmps.getD t undef = v at h0 ⊢
    cases h0 with
    | row _ _ _ _ g1 g2 =>
      rcases h.row r e q hr with ⟨hg, h0⟩ | ⟨g, cap, cur, hg, hh, hl, hmx, hcs, hc⟩
      · have := g2 _ hg
        simp only [RowV] at this
        obtain ⟨⟨ao0, rfl⟩, _, _⟩ := this
        have := VR.ro (M := M') (A := Ow (Fs w0 O0) M') (w := w) true q ao0 0 0 0 (fun _ _ => undef) (by omega) (by omega) (by omega) (by intro i j d hi; omega) (by intro i j d hi; omega)
        rwa [h0] at this
      · have := g2 _ hg
        simp only [RowV] at this
        obtain ⟨h1, ao, h2, h3⟩ := this
        have h4 := h3 (.inr trivial)
        rw [Nat.zero_mul] at h4
        subst h2
        refine .ro true q ao _ g 0 (fun i j => cur.getD (i * q.sz + j) undef) (by omega) (by omega) (fun _ => ⟨h4, (Array.getElem?_eq_some_iff.1 hh).1, ?_, ?_⟩) (fun i j d hi hd => ?_) (fun i j d hi hd => (hc i j d hi hd).elem_any hd hA)
        · rintro (⟨b, hb⟩ | ⟨y, c, z, hy⟩)
          · exact h.inj3 _ _ _ _ _ hb hg
          · simp only [M'] at hy
            split at hy
            · cases hy
            · rename_i hyr; exact hyr (h.inj2 _ _ _ _ _ _ _ hy hg)
        · exact (h.low _ (.inr ⟨r, _, _, hg⟩)).imp_right (O0.sub _ _)
        · have hj : j < q.sz := by rw [← Sq.elem_len true q i]; exact (List.getElem?_eq_some_iff.1 hd).1
          have hlt : i * q.sz + j < cur.size := by
            rw [hcs]
            have h4 : (i + 1) * q.sz ≤ cap * q.sz := Nat.mul_le_mul_right _ (by omega)
            rw [Nat.add_mul, Nat.one_mul] at h4; omega
          rw [Nat.zero_add, cell_of_row w g _ cur e (0, 0) hh]
          simp [hlt]
  refine ⟨M', h.fr, h.dfr, h.sz, fun x => ?_, fun b cs hb => ?_, fun b hb => ?_, fun y e' p hy => ?_, fun y hy => ?_, fun k hk => h.low k (hown k hk), h.inj1, fun y y' k c z c' z' h1 h2 => ?_, fun b y k c z h1 h2 => ?_, h.nle, h.fxb, fun y u u' h1 h2 => ?_⟩
  · rw [PS.t_put]
    by_cases hx : some t = some x
    · rw [if_pos hx]; cases hx; exact hv
    · rw [if_neg hx]
      have : ((s.kill r).setR r none).t x = kl r (s.t x) := PS.t_kill s r x
      rw [this]; exact VR.kl hA hγ hβ (h.tmp x)
  · have hb' : (s.kill r).b b = some cs := hb
    rw [PS.b_kill] at hb'
    obtain ⟨cs0, h0, rfl⟩ := Option.map_eq_some_iff.1 hb'
    obtain ⟨k, cur, e2, a1, a2, a3, a4⟩ := h.box b cs0 h0
    refine ⟨k, cur, e2, a1, a2, by simpa using a3, fun j d hd => ?_⟩
    rw [List.getElem?_map] at hd
    obtain ⟨d0, h1, rfl⟩ := Option.map_eq_some_iff.1 hd
    exact VR.klS hA hγ hβ (a4 j d0 h1)
  · have hb' : (s.kill r).b b = none := hb
    rw [PS.b_kill] at hb'
    exact h.boxn b (by simpa using hb')
  · have hy : ((s.kill r).setR r none).r y = some (e', p) := hy
    rw [PS.r_setR] at hy
    by_cases hyr : r = y
    · rw [if_pos hyr] at hy; cases hy
    · rw [if_neg hyr] at hy
      rcases h.row y e' p hy with ⟨h1, h2⟩ | ⟨g, cap, cur, h1, h2, h3, h4, h5, h6⟩
      · exact .inl ⟨by simp [M', Ne.symm hyr, h1], h2⟩
      · exact .inr ⟨g, cap, cur, by simp [M', Ne.symm hyr, h1], h2, h3, h4, h5, fun i j d hi' hd => (h6 i j d hi' hd).elem_any hd hA⟩
  · have hy : ((s.kill r).setR r none).r y = none := hy
    rw [PS.r_setR] at hy
    by_cases hyr : r = y
    · simp [M', hyr]
    · rw [if_neg hyr] at hy
      simpa [M', Ne.symm hyr] using h.rown y hy
  · simp only [M'] at h1 h2
    split at h1 <;> split at h2 <;> first | (cases h1; done) | (cases h2; done) | exact h.inj2 _ _ _ _ _ _ _ h1 h2
  · simp only [M'] at h2
    split at h2
    · cases h2
    · exact h.inj3 _ _ _ _ _ h1 h2
  · simp only [M'] at h2
    split at h2
    · cases h2
    · exact h.fxr y u u' h1 h2
theorem vFreeze {t r m : Nat} {e : TypeId} {q : Sq} (ht : s.t t = .row r 0 m) (hr : s.r r = some (e, q)) (hm : m = q.len) (h : VO C ops K rest (((s.kill r).setR r none).put (some t) (.ro true q))) : VO C ops K rest s := ⟨fun M a w Q hrl hq => by
  obtain ⟨M', h'⟩ := hrl.freeze ht hr hm
  exact h.out M' a w Q h' hq⟩
end
end Go.Proofs.Ytlmlfbjcpajinaa
