/- Texts that the proof needs, put together: M3 M4 M5 M6 Vt Wr Shb Pa Pc G1 G4 G5 G6 G7 G2 G14 G8 G15 Pd Pe G17 Pf Ph G10. -/
import Derived.MapKept
import Derived.Laws.CopyRow
import Derived.Test.YtcljhpldfanhkaaChecked
import Derived.Laws.StructEq
import Derived.Test.YtcljhpldfanhkaaBJd2
set_option linter.unusedVariables false
set_option linter.unusedSimpArgs false
namespace Go.Proofs.Ytcljhpldfanhkaa
open Go.RowKit Go.Deep
def mp : List Nat → List Nat → Nat → Option Nat
 | k :: l, i :: m, r => match Nat.beq k r with | true => some i | false => mp l m r
 | _, _, _ => none
def asL {α : Type} : List Nat → List α → List (Nat × Option α)
 | k :: l, x :: m => (k, some x) :: asL l m
 | _, _ => []
theorem mp_cons_self (k i : Nat) (l m : List Nat) : mp (k :: l) (i :: m) k = some i := by simp [mp, Nat.beq_refl]
theorem mp_cons_ne {k r : Nat} (h : k ≠ r) (i : Nat) (l m : List Nat) : mp (k :: l) (i :: m) r = mp l m r := by
 have : Nat.beq k r = false := by
  cases hb : Nat.beq k r
  ·rfl
  ·exact absurd (Nat.eq_of_beq_eq_true hb) h
 simp [mp, this]
theorem mp_mem : ∀ {l m : List Nat} {r i : Nat}, mp l m r = some i → r ∈ l ∧ i ∈ m
 | [], m, r, i, h => by simp [mp] at h
 | k :: l, [], r, i, h => by simp [mp] at h
 | k :: l, j :: m, r, i, h => by
  by_cases hk : k = r
  ·subst hk; rw [mp_cons_self] at h; cases h; exact ⟨by simp, by simp⟩
  ·rw [mp_cons_ne hk] at h; have := mp_mem h; exact ⟨by simp [this.1], by simp [this.2]⟩
theorem nodupB_cons {x : Nat} {l : List Nat} (h : nodupB (x :: l) = true) : x ∉ l ∧ nodupB l = true := by
 simp only [nodupB, Bool.and_eq_true, List.all_eq_true] at h
 refine ⟨fun hx => ?_, h.2⟩
 have := h.1 x hx
 simp [Nat.beq_refl] at this
theorem mp_inv : ∀ {l m : List Nat} {r i : Nat}, nodupB m = true → mp l m r = some i → mp m l i = some r
 | [], m, r, i, hn, h => by simp [mp] at h
 | k :: l, [], r, i, hn, h => by simp [mp] at h
 | k :: l, j :: m, r, i, hn, h => by
  obtain ⟨hn1, hn2⟩ := nodupB_cons hn
  by_cases hk : k = r
  ·subst hk; rw [mp_cons_self] at h; cases h; rw [mp_cons_self]
  ·rw [mp_cons_ne hk] at h
   have h1 := mp_mem h
   rw [mp_cons_ne (fun e => hn1 (by subst e; exact h1.2))]
   exact mp_inv hn2 h
theorem mp_some : ∀ {l m : List Nat} {r : Nat}, l.length = m.length → r ∈ l → ∃ i, mp l m r = some i
 | [], m, r, hl, h => by simp at h
 | k :: l, [], r, hl, h => by simp at hl
 | k :: l, j :: m, r, hl, h => by
  by_cases hk : k = r
  ·subst hk; exact ⟨j, mp_cons_self _ _ _ _⟩
  ·rw [mp_cons_ne hk]; exact mp_some (by simpa using hl) (by simpa [Ne.symm hk] using h)
def pairOk {α : Type} (f : Nat → Option α) : List Nat → List α → Prop
 | [], [] => True
 | i :: l, x :: m => f i = some x ∧ pairOk f l m
 | _, _ => False
theorem pairOk_len {α : Type} {f : Nat → Option α} : ∀ {l : List Nat} {m : List α}, pairOk f l m → l.length = m.length
 | [], [], _ => rfl
 | _ :: l, _ :: m, h => by simp [pairOk_len h.2]
 | [], _ :: _, h => h.elim
 | _ :: _, [], h => h.elim
theorem asL_none {α : Type} : ∀ {k : List Nat} {x : List α} {r : Nat}, k.length = x.length → r ∉ k → look (asL k x) r = none
 | [], x, r, _, _ => by simp [asL, look]
 | k :: l, [], r, hl, _ => by simp at hl
 | k :: l, x :: m, r, hl, h => by
  rw [asL, look_cons_ne (fun e => h (by simp [e]))]
  exact asL_none (by simpa using hl) (fun hh => h (by simp [hh]))
theorem asL_look {α : Type} {f : Nat → Option α} : ∀ {k i : List Nat} {x : List α} {r : Nat}, k.length = i.length → pairOk f i x → (look (asL k x) r = none ∧ mp k i r = none) ∨ ∃ y j, look (asL k x) r = some (some y) ∧ mp k i r = some j ∧ f j = some y
 | [], [], [], r, _, _ => .inl ⟨rfl, rfl⟩
 | k :: l, j :: i, y :: x, r, hl, h => by
  by_cases hk : k = r
  ·subst hk; exact .inr ⟨y, j, by rw [asL, look_cons_self], mp_cons_self _ _ _ _, h.1⟩
  ·rw [asL, look_cons_ne hk, mp_cons_ne hk]
   exact asL_look (by simpa using hl) h.2
 | [], _ :: _, _, _, hl, _ => by simp at hl
 | _ :: _, [], _, _, hl, _ => by simp at hl
 | [], [], _ :: _, _, _, h => h.elim
 | _ :: _, _ :: _, [], _, _, h => h.elim
theorem asL_look2 {α : Type} : ∀ {k i : List Nat} {x : List α} {r : Nat}, k.length = i.length → i.length = x.length → (look (asL k x) r = none ∧ mp k i r = none) ∨ ∃ y j, look (asL k x) r = some (some y) ∧ mp k i r = some j ∧ ((nodupB i = true → look (asL i x) j = some (some y)))
 | [], [], [], r, _, _ => .inl ⟨rfl, rfl⟩
 | k :: l, j :: i, y :: x, r, hl, h => by
  by_cases hk : k = r
  ·subst hk; exact .inr ⟨y, j, by rw [asL, look_cons_self], mp_cons_self _ _ _ _, fun _ => by rw [asL, look_cons_self]⟩
  ·rw [asL, look_cons_ne hk, mp_cons_ne hk]
   rcases asL_look2 (r := r) (show l.length = i.length by simpa using hl) (show i.length = x.length by simpa using h) with h1 | ⟨y', j', h1, h2, h3⟩
   ·exact .inl h1
   ·refine .inr ⟨y', j', h1, h2, fun hn => ?_⟩
    obtain ⟨n1, n2⟩ := nodupB_cons hn
    rw [asL, look_cons_ne (fun e => n1 (by subst e; exact (mp_mem h2).2))]
    exact h3 n2
 | [], _ :: _, _, _, hl, _ => by simp at hl
 | _ :: _, [], _, _, hl, _ => by simp at hl
 | [], [], _ :: _, _, _, h => by simp at h
 | _ :: _, _ :: _, [], _, _, h => by simp at h
def famB : List Nat → List Nat → Bool
 | k :: l, i :: m => (match notF k, notF i with | true, true => true | _, _ => Nat.beq k i && Nat.blt k BIG) && famB l m
 | _, _ => true
theorem famB_ok : ∀ {l m : List Nat} {r i : Nat}, famB l m = true → mp l m r = some i → (notF r = true ∧ notF i = true) ∨ (r = i ∧ notF r = false ∧ r < BIG)
 | [], m, r, i, _, h => by simp [mp] at h
 | k :: l, [], r, i, _, h => by simp [mp] at h
 | k :: l, j :: m, r, i, hf, h => by
  unfold famB at hf
  rw [Bool.and_eq_true] at hf
  by_cases hk : k = r
  ·subst hk
   rw [mp_cons_self] at h
   cases h
   have h1 := hf.1
   split at h1
   ·rename_i a1 a2; exact .inl ⟨a1, a2⟩
   ·rename_i hno
    rw [Bool.and_eq_true, Nat.blt_eq] at h1
    have e := Nat.eq_of_beq_eq_true h1.1
    subst e
    refine .inr ⟨rfl, ?_, h1.2⟩
    cases hn : notF k with
    | false => rfl
    | true => exact (hno hn hn).elim
  ·rw [mp_cons_ne hk] at h
   exact famB_ok hf.2 h
theorem famB_lt {l m : List Nat} {r i : Nat} (hf : famB l m = true) (h : mp l m r = some i) : Nat.ble BIG r = false ∧ Nat.ble BIG i = false := by
 rcases famB_ok hf h with ⟨h1, h2⟩ | ⟨rfl, h1, h2⟩
 ·exact ⟨notF_big h1, notF_big h2⟩
 ·have : Nat.ble BIG r = false := by
   cases hb : Nat.ble BIG r with
   | false => rfl
   | true => have := Nat.le_of_ble_eq_true hb; omega
  exact ⟨this, this⟩
theorem notF_fk (u : Nat) : notF (FK + unF u) = false := by
 cases h : notF (FK + unF u) with
 | false => rfl
 | true => exact absurd rfl (notF_ne h (u - BIG))
theorem famB_fk {l m : List Nat} {u i : Nat} (hf : famB l m = true) (h : mp l m (FK + unF u) = some i) : i = FK + unF u := by
 rcases famB_ok hf h with ⟨h1, _⟩ | ⟨h1, _⟩
 ·rw [notF_fk] at h1; cases h1
 ·exact h1.symm
theorem famB_symm : ∀ {l m : List Nat}, famB l m = true → famB m l = true
 | [], m, _ => by cases m <;> rfl
 | k :: l, [], _ => rfl
 | k :: l, j :: m, h => by
  unfold famB at h ⊢
  rw [Bool.and_eq_true] at h ⊢
  refine ⟨?_, famB_symm h.2⟩
  have h1 := h.1
  split at h1
  ·rename_i a1 a2; rw [a1, a2]
  ·rename_i hno
   rw [Bool.and_eq_true] at h1
   have e := Nat.eq_of_beq_eq_true h1.1
   subst e
   split
   ·rename_i a1 _; exact (hno a1 a1).elim
   ·rw [Bool.and_eq_true]; exact ⟨Nat.beq_refl _, h1.2⟩
def mpI (l m : List Nat) (r : Nat) : Option Nat := match Nat.ble BIG r with | true => (match mp l m (FK + unF r) with | some _ => some r | none => none) | false => mp l m r
theorem mpI_lo {l m : List Nat} {r : Nat} (h : Nat.ble BIG r = false) : mpI l m r = mp l m r := by unfold mpI; rw [h]
theorem mpI_hi {l m : List Nat} {r : Nat} (h : Nat.ble BIG r = true) : mpI l m r = match mp l m (FK + unF r) with | some _ => some r | none => none := by unfold mpI; rw [h]
theorem mpI_mp {l m : List Nat} {r i : Nat} (hf : famB l m = true) (h : mp l m r = some i) : mpI l m r = some i := by rw [mpI_lo (famB_lt hf h).1]; exact h
theorem mpI_cases {l m : List Nat} {r i : Nat} (hf : famB l m = true) (h : mpI l m r = some i) : (Nat.ble BIG r = false ∧ Nat.ble BIG i = false ∧ mp l m r = some i) ∨ (Nat.ble BIG r = true ∧ i = r ∧ mp l m (FK + unF r) = some (FK + unF r)) := by
 cases hb : Nat.ble BIG r with
 | false => rw [mpI_lo hb] at h; exact .inl ⟨rfl, (famB_lt hf h).2, h⟩
 | true =>
  rw [mpI_hi hb] at h
  split at h
  ·rename_i j hj
   cases h
   rw [famB_fk hf hj] at hj
   exact .inr ⟨rfl, rfl, hj⟩
  ·cases h
theorem mpI_inv {l m : List Nat} {r i : Nat} (hf : famB l m = true) (hn : nodupB m = true) (h : mpI l m r = some i) : mpI m l i = some r := by
 rcases mpI_cases hf h with ⟨h1, h2, h3⟩ | ⟨h1, rfl, h3⟩
 ·rw [mpI_lo h2]; exact mp_inv hn h3
 ·rw [mpI_hi h1, mp_inv hn h3]
def isInL (l : List Nat) (x : Nat) : Bool := l.any fun k => Nat.beq k x
theorem isIn_mem {l : List Nat} {x : Nat} (h : isInL l x = true) : x ∈ l := by
 simp only [isInL, List.any_eq_true] at h
 obtain ⟨k, hk, hx⟩ := h
 rw [← Nat.eq_of_beq_eq_true hx]; exact hk
theorem mem_isIn {l : List Nat} {x : Nat} (h : x ∈ l) : isInL l x = true := by
 simp only [isInL, List.any_eq_true]
 exact ⟨x, h, Nat.beq_refl x⟩
def scS (rk bk : List Nat) : D → Bool
 | .int _ | .bool _ | .val _ | .nil | .ro _ _ | .dead => true
 | .row x _ _ => isInL rk x
 | .ptr x _ => isInL bk x
 | .clo _ bs => bs.all (isInL bk)
 | _ => false
def scA (rk bk : List Nat) : D → Bool
 | .agg l => l.all (scS rk bk)
 | d => scS rk bk d
def scT (rk bk : List Nat) : D → Bool
 | .tup l => l.all (scA rk bk)
 | d => scA rk bk d
def sgm (l m : List Nat) (r : Nat) : Nat := match mp l m r with | some i => i | none => 0
theorem sc_un {rk rids bk bids : List Nat} (hl : rk.length = rids.length) (hb : bk.length = bids.length) {N M : Mp} {A A' : Bool → Nat → Prop} {w w' : World}
  (hγ : ∀ r i x, mp rk rids r = some i → N.γ r = some x → M.γ i = some x) (hβ : ∀ r i x, mp bk bids r = some i → N.β r = some x → M.β i = some x)
  (hA : ∀ f b, b < w.heap.size → A f b → A' f b ∧ b < w'.heap.size ∧ w'.heap[b]? = w.heap[b]?) {d : D} {v : Value} (h : VR M A w (renS (sgm bk bids) (sgm rk rids) d) v) (hs : scS rk bk d = true) : VR N A' w' d v := by
 cases d <;> simp only [scS, Bool.false_eq_true] at hs <;> simp only [renS] at h
 case int => cases h; exact .int _
 case bool => cases h; exact .bool _
 case val => cases h with | val _ h => exact .val _ h
 case nil => cases h with | nil ao => exact .nil ao
 case dead => exact .dead _
 case ro f q => exact h.ro_any hA
 case row r off n =>
  obtain ⟨i, hi⟩ := mp_some hl (isIn_mem hs)
  cases h with
  | row _ _ _ _ h1 h =>
   refine .row _ _ _ _ h1 fun x hx => h x ?_
   simp only [sgm, hi]
   exact hγ r i x hi hx
 case ptr b off =>
  obtain ⟨i, hi⟩ := mp_some hb (isIn_mem hs)
  cases h with
  | ptr _ _ _ h1 h =>
   refine .ptr _ _ _ h1 fun x hx => h x ?_
   simp only [sgm, hi]
   exact hβ b i x hi hx
 case clo f bs =>
  cases h with
  | clo _ _ _ h1 h =>
   refine .clo _ _ _ h1 fun ks hk => h ks ?_
   have key : ∀ (bs : List Nat) (ks : List Nat), bs.all (isInL bk) = true → capsOf N.β bs = some ks → capsOf M.β (bs.map (sgm bk bids)) = some ks := by
    intro bs
    induction bs with
    | nil => intro ks _ h; exact h
    | cons b bs ih =>
     intro ks hs hk
     simp only [List.all_cons, Bool.and_eq_true] at hs
     simp only [List.map_cons, capsOf] at hk ⊢
     split at hk
     ·rename_i k ks' h1 h2
      cases hk
      obtain ⟨i, hi⟩ := mp_some hb (isIn_mem hs.1)
      have e1 : sgm bk bids b = i := by simp [sgm, hi]
      rw [e1, hβ b i k hi h1, ih ks' hs.2 h2]
     ·cases hk
   exact key bs ks hs hk
theorem sc_ren {rk pids bk bids : List Nat} (hl : rk.length = pids.length) (hb : bk.length = bids.length) {N M' : Mp} {A A' : Bool → Nat → Prop} {w w' : World}
  (hγ : ∀ r i x, mp rk pids r = some i → M'.γ i = some x → N.γ r = some x) (hβ : ∀ r i x, mp bk bids r = some i → M'.β i = some x → N.β r = some x)
  (hA : ∀ f b, b < w.heap.size → A f b → A' f b ∧ b < w'.heap.size ∧ w'.heap[b]? = w.heap[b]?) {d : D} {v : Value} (h : VR N A w d v) (hs : scS rk bk d = true) : VR M' A' w' (renS (sgm bk bids) (sgm rk pids) d) v := by
 cases h <;> simp only [scS, Bool.false_eq_true] at hs
 case int => exact .int _
 case bool => exact .bool _
 case val h => exact .val _ h
 case nil ao => exact .nil ao
 case dead => exact .dead _
 case ro f q ao cap b o u hn hc hao hu hv => exact VR.ro_any (.ro f q ao cap b o u hn hc hao hu hv) hA
 case row r off n h1 h =>
  obtain ⟨i, hi⟩ := mp_some hl (isIn_mem hs)
  have e : renS (sgm bk bids) (sgm rk pids) (.row r off n) = .row i off n := by simp [renS, sgm, hi]
  rw [e]
  exact .row _ off n _ h1 fun x hx => h x (hγ r i x hi hx)
 case ptr b off h1 h =>
  obtain ⟨i, hi⟩ := mp_some hb (isIn_mem hs)
  have e : renS (sgm bk bids) (sgm rk pids) (.ptr b off) = .ptr i off := by simp [renS, sgm, hi]
  rw [e]
  exact .ptr _ off _ h1 fun x hx => h x (hβ b i x hi hx)
 case clo f bs h1 h =>
  have e : renS (sgm bk bids) (sgm rk pids) (.clo f bs) = .clo f (bs.map (sgm bk bids)) := rfl
  rw [e]
  refine .clo _ _ _ h1 fun ks hk => h ks (capsOf_mono (τ := sgm bk bids) (fun b hb' k hk' => ?_) hk)
  simp only [List.all_eq_true] at hs
  obtain ⟨i, hi⟩ := mp_some hb (isIn_mem (hs b hb'))
  simp only [sgm, hi] at hk'
  exact hβ b i k hi hk'
theorem sc_renA {rk pids bk bids : List Nat} (hl : rk.length = pids.length) (hb : bk.length = bids.length) {N M' : Mp} {A A' : Bool → Nat → Prop} {w w' : World}
  (hγ : ∀ r i x, mp rk pids r = some i → M'.γ i = some x → N.γ r = some x) (hβ : ∀ r i x, mp bk bids r = some i → M'.β i = some x → N.β r = some x)
  (hA : ∀ f b, b < w.heap.size → A f b → A' f b ∧ b < w'.heap.size ∧ w'.heap[b]? = w.heap[b]?) {d : D} {v : Value} (h : VR N A w d v) (hs : scA rk bk d = true) : VR M' A' w' (renA (sgm bk bids) (sgm rk pids) d) v := by
 cases d with
 | agg l =>
  cases h with | agg _ us hl' h =>
  refine .agg _ us (by simpa using hl') fun i d hd => ?_
  rw [List.getElem?_map] at hd
  obtain ⟨d0, h0, rfl⟩ := Option.map_eq_some_iff.1 hd
  simp only [scA, List.all_eq_true] at hs
  exact sc_ren hl hb hγ hβ hA (h i d0 h0) (hs d0 (List.mem_of_getElem? h0))
 | _ => exact sc_ren hl hb hγ hβ hA h hs
theorem sc_renT {rk pids bk bids : List Nat} (hl : rk.length = pids.length) (hb : bk.length = bids.length) {N M' : Mp} {A A' : Bool → Nat → Prop} {w w' : World}
  (hγ : ∀ r i x, mp rk pids r = some i → M'.γ i = some x → N.γ r = some x) (hβ : ∀ r i x, mp bk bids r = some i → M'.β i = some x → N.β r = some x)
  (hA : ∀ f b, b < w.heap.size → A f b → A' f b ∧ b < w'.heap.size ∧ w'.heap[b]? = w.heap[b]?) {d : D} {v : Value} (h : VR N A w d v) (hs : scT rk bk d = true) : VR M' A' w' (ren (sgm bk bids) (sgm rk pids) d) v := by
 cases d with
 | tup l =>
  cases h with | tup _ us hl' h =>
  refine .tup _ us (by simpa using hl') fun i d hd => ?_
  rw [List.getElem?_map] at hd
  obtain ⟨d0, h0, rfl⟩ := Option.map_eq_some_iff.1 hd
  simp only [scT, List.all_eq_true] at hs
  exact sc_renA hl hb hγ hβ hA (h i d0 h0) (hs d0 (List.mem_of_getElem? h0))
 | _ => exact sc_renA hl hb hγ hβ hA h hs
def BoxA (A : Bool → Nat → Prop) (M : Mp) (w : World) (b : Nat) (cs : List D) : Prop :=
 ∃ k cur e, M.β b = some k ∧ w.heap[k]? = some (.cells cur e (0, 0)) ∧ cs.length = cur.size ∧ ∀ j d, cs[j]? = some d → VR M A w d (cur.getD j undef)
def RowA (A : Bool → Nat → Prop) (M : Mp) (w : World) (r : Nat) (e : TypeId) (q : Sq) : Prop :=
 (M.γ r = some none ∧ q.len = 0) ∨ ∃ g cap cur, M.γ r = some (some (g, cap, q.sz)) ∧ w.heap[g]? = some (.cells cur e (0, 0)) ∧ q.len ≤ cap ∧ cap ≤ maxLen ∧ cur.size = cap * q.sz ∧
  ∀ i j d, i < q.len → (q.relem i)[j]? = some d → VR M A w d (cur.getD (i * q.sz + j) undef)
structure HasM (A : Bool → Nat → Prop) (N : Mp) (s : PS) (w : World) : Prop where
 box : ∀ b cs, s.b b = some cs → BoxA A N w b cs
 boxn : ∀ b, s.b b = none → N.β b = none
 row : ∀ r e q, s.r r = some (e, q) → RowA A N w r e q
 rown : ∀ r, s.r r = none → N.γ r = none
 inj1 : ∀ b b' k, N.β b = some k → N.β b' = some k → b = b'
 inj2 : ∀ r r' k c z c' z', N.γ r = some (some (k, c, z)) → N.γ r' = some (some (k, c', z')) → r = r'
 inj3 : ∀ b r k c z, N.β b = some k → N.γ r = some (some (k, c, z)) → False
def ArgsM (A : Bool → Nat → Prop) (N : Mp) (w : World) (ds : List D) (args : Array Value) : Prop :=
 args.size = ds.length ∧ ∀ i d, ds[i]? = some d → VR N A w d (args.getD i undef)
def subM (M : Mp) (rk rids bk bids : List Nat) : Mp := ⟨fun b => match mp bk bids b with | some i => M.β i | none => none, fun r => match mpI rk rids r with | some i => M.γ i | none => none⟩
def A2 (A : Bool → Nat → Prop) (w : World) (N N' : Mp) : Bool → Nat → Prop := fun f k => (A f k ∨ w.heap.size ≤ k ∨ N.owned k) ∧ ¬ N'.owned k
def conB (rk bk : List Nat) (b : List (List D)) : Bool := b.all fun cs => cs.all (scS rk bk)
def Sq.refF : Sq → Option Nat
 | .irefs F _ | .rrefs F _ => some F
 | _ => none
theorem VR.relem_any2 {M M' : Mp} {A A' : Bool → Nat → Prop} {w w' : World} {q : Sq} {i j : Nat} {d : D} {v : Value} (hd : (q.relem i)[j]? = some d) (h : VR M A w d v) (hA : ∀ f b, b < w.heap.size → A f b → A' f b ∧ b < w'.heap.size ∧ w'.heap[b]? = w.heap[b]?)
  (hi : ∀ F, q.refF = some F → ∀ k x, M'.γ (inn F k) = some x → M.γ (inn F k) = some x) : VR M' A' w' d v := by
 cases q
 case irefs F l =>
  rcases j with _ | j <;> simp [Sq.relem] at hd
  subst hd
  cases h with | irow _ _ _ _ h1 h => exact .irow _ _ _ v h1 fun x hx => h x (hi F rfl _ x hx)
 case rrefs F l =>
  rcases j with _ | _ | j <;> simp [Sq.relem] at hd
  ·subst hd; cases h; exact .int _
  ·subst hd
   cases h with | irow _ _ _ _ h1 h => exact .irow _ _ _ v h1 fun x hx => h x (hi F rfl _ x hx)
 all_goals (rw [Sq.relem_eq rfl] at hd; exact h.elem_any (f := true) hd hA)
def conR (rk : List Nat) (r : List (TypeId × Sq)) : Bool := r.all fun x => match x.2.refF with | some F => isInL rk (FK + F % 4294967296) | none => true
structure MCall (P : Program) (f : FuncId) (ds : List D) (rk bk : List Nat) (r0 r1 : List (TypeId × Sq)) (b0 b1 : List (List D)) (d : D) : Prop where
 enter : ∀ args w, (callFunc f args).run P w = .ok (.enter f args) w
 len : rk.length = r0.length ∧ rk.length = r1.length ∧ bk.length = b0.length ∧ bk.length = b1.length
 con0 : conB rk bk b0 = true
 con1 : conB rk bk b1 = true
 conr : conR rk r1 = true
 nd : scT rk bk d = true
 ndk : nodupB rk = true ∧ nodupB bk = true
 run : ∀ w N args (A : Bool → Nat → Prop), (∀ f k, A f k → ¬ N.owned k) → (∀ k, A true k → A false k) → HasM A N ⟨[], asL rk r0, asL bk b0⟩ w → ArgsM A N w ds args → Calls P f args w fun e w' => ∃ v, e = .returned v ∧
  ∃ N', HasM (A2 A w N N') N' ⟨[], asL rk r1, asL bk b1⟩ w' ∧ (∀ b, N'.β b = N.β b) ∧ (∀ r, 1000000 ≤ r → r < BIG → N'.γ r = N.γ r) ∧
  (∀ k, N'.owned k → N.owned k ∨ w.heap.size ≤ k) ∧ w'.os = w.os ∧ w'.tape = w.tape ∧ w'.output = w.output ∧ w.heap.size ≤ w'.heap.size ∧ (∀ k, k < w.heap.size → ¬ N.owned k → w'.heap[k]? = w.heap[k]?) ∧ VR N' (A2 A w N N') w' d v
section
variable {w0 : World} {O0 : Hd} {n : Nat} {M : Mp} {s : PS} {a : Act} {w : World} {rk rids bk bids : List Nat}
theorem subM_owned {k : Nat} (h : (subM M rk rids bk bids).owned k) : (∃ b i, mp bk bids b = some i ∧ M.β i = some k) ∨ ∃ r i c z, mpI rk rids r = some i ∧ M.γ i = some (some (k, c, z)) := by
 rcases h with ⟨b, hb⟩ | ⟨r, c, z, hr⟩
 ·simp only [subM] at hb
  split at hb
  ·rename_i i hi; exact .inl ⟨b, i, hi, hb⟩
  ·cases hb
 ·simp only [subM] at hr
  split at hr
  ·rename_i i hi; exact .inr ⟨r, i, c, z, hi, hr⟩
  ·cases hr
theorem subM_own {k : Nat} (h : (subM M rk rids bk bids).owned k) : M.owned k := by
 rcases subM_owned h with ⟨b, i, _, h⟩ | ⟨r, i, c, z, _, h⟩
 ·exact .inl ⟨i, h⟩
 ·exact .inr ⟨i, c, z, h⟩
theorem look_asL_mem {α : Type} : ∀ {l : List Nat} {b : List α} {x : Nat} {y : α}, look (asL l b) x = some (some y) → y ∈ b
 | [], b, x, y, h => by simp [asL, look] at h
 | k :: l, [], x, y, h => by simp [asL, look] at h
 | k :: l, z :: b, x, y, h => by
  by_cases hk : k = x
  ·subst hk; rw [asL, look_cons_self] at h; cases h; simp
  ·rw [asL, look_cons_ne hk] at h; simp [look_asL_mem h]
theorem pair_box {f : Nat → Option (List D)} {g : D → D} {x : Nat} : ∀ {l i : List Nat} {b : List (List D)}, l.length = i.length → pairOk f i (b.map fun cs => cs.map g) → ∀ y, look (asL l b) x = some (some y) → ∃ j, mp l i x = some j ∧ f j = some (y.map g)
 | [], i, b, _, _, y, h => by simp [asL, look] at h
 | k :: l, i, [], _, _, y, h => by simp [asL, look] at h
 | k :: l, [], z :: b, hl, _, y, h => by simp at hl
 | k :: l, j :: i, z :: b, hl, hp, y, h => by
  by_cases hk : k = x
  ·subst hk; rw [asL, look_cons_self] at h; cases h; exact ⟨j, mp_cons_self _ _ _ _, hp.1⟩
  ·rw [asL, look_cons_ne hk] at h; rw [mp_cons_ne hk]; exact pair_box (by simpa using hl) hp.2 y h
theorem Rel.sub {A' : Bool → Nat → Prop} (h : Rel w0 O0 n M s a w) {r : List (TypeId × Sq)} {b : List (List D)} (hA : ∀ f k, k < w.heap.size → Ow (Fs w0 O0) M f k → A' f k) (hlr : rk.length = rids.length) (hlb : bk.length = bids.length) (hr : pairOk s.r rids r) (hb : pairOk s.b bids (b.map fun cs => cs.map (renS (sgm bk bids) (sgm rk rids)))) (hc : conB rk bk b = true)
  (hnr : nodupB rids = true) (hnb : nodupB bids = true) (hfam : famB rk rids = true) : HasM A' (subM M rk rids bk bids) ⟨[], asL rk r, asL bk b⟩ w := by
 have hbig : ∀ x y, BIG ≤ x → (subM M rk rids bk bids).γ x = some y → M.γ x = some y := fun x y hx h => by
  simp only [subM] at h
  split at h
  ·rename_i i hi
   rcases mpI_cases hfam hi with ⟨h1, _⟩ | ⟨_, rfl, _⟩
   ·rw [Nat.ble_eq_true_of_le hx] at h1; cases h1
   ·exact h
  ·cases h
 have hsr : ∀ {x y}, Nat.ble BIG x = false → PS.r ⟨[], asL rk r, asL bk b⟩ x = some y → ∃ j, mp rk rids x = some j ∧ s.r j = some y := fun {x y} hb hx => by
  rw [PS.r_lo _ hb] at hx
  rcases asL_look (k := rk) (i := rids) (x := r) (r := x) (f := s.r) hlr hr with ⟨h1, _⟩ | ⟨y', j, h1, h2, h3⟩
  ·simp [h1] at hx
  ·simp only [h1] at hx
   cases hx
   exact ⟨j, h2, h3⟩
 have hsr2 : ∀ {x y}, PS.r ⟨[], asL rk r, asL bk b⟩ x = some y → ∃ j, mpI rk rids x = some j ∧ s.r j = some y := fun {x y} hx => by
  cases hb : Nat.ble BIG x with
  | false => obtain ⟨j, h1, h2⟩ := hsr hb hx; exact ⟨j, by rw [mpI_lo hb]; exact h1, h2⟩
  | true =>
   rw [PS.r_hi _ hb, PS.inn_r] at hx
   cases h3 : PS.r ⟨[], asL rk r, asL bk b⟩ (FK + unF x) with
   | none => rw [h3] at hx; cases hx
   | some z =>
    obtain ⟨j, h1, h2⟩ := hsr (fk_big x) h3
    have e := famB_fk hfam h1
    rw [e] at h2
    refine ⟨x, by rw [mpI_hi hb, h1], ?_⟩
    rw [PS.r_hi _ hb, PS.inn_r, h2, ← h3]; exact hx
 have hsn : ∀ {x}, PS.r ⟨[], asL rk r, asL bk b⟩ x = none → (subM M rk rids bk bids).γ x = none := fun {x} hx => by
  cases hm : mpI rk rids x with
  | none => simp [subM, hm]
  | some i =>
   rcases mpI_cases hfam hm with ⟨h1, _, h2⟩ | ⟨h1, rfl, h2⟩
   ·rw [PS.r_lo _ h1] at hx
    rcases asL_look (k := rk) (i := rids) (x := r) (r := x) (f := s.r) hlr hr with ⟨_, h3⟩ | ⟨y', j, h3, _⟩
    ·rw [h3] at h2; cases h2
    ·simp [h3] at hx
   ·simp only [subM, hm]
    refine h.rown i ?_
    rw [PS.r_hi _ h1, PS.inn_r] at hx ⊢
    rcases asL_look (k := rk) (i := rids) (x := r) (r := FK + unF i) (f := s.r) hlr hr with ⟨_, h3⟩ | ⟨y', j, h3, h4, h5⟩
    ·rw [h3] at h2; cases h2
    ·rw [h2] at h4
     rw [← Option.some.inj h4] at h5
     rw [h5]
     rw [PS.r_lo _ (fk_big i)] at hx
     simpa [h3] using hx
 simp only [conB, List.all_eq_true] at hc
 have hlb' : bids.length = b.length := by have := pairOk_len hb; simpa using this
 have hA' : ∀ f k, k < w.heap.size → Ow (Fs w0 O0) M f k → A' f k ∧ k < w.heap.size ∧ w.heap[k]? = w.heap[k]? := fun f k h1 h2 => ⟨hA f k h1 h2, h1, rfl⟩
 refine ⟨fun x cs hx => ?_, fun x hx => ?_, fun x e q hx => ?_, fun x hx => ?_, fun x x' k h1 h2 => ?_, fun x x' k c z c' z' h1 h2 => ?_, fun x y k c z h1 h2 => ?_⟩
 ·simp only [PS.b] at hx
  cases hl : look (asL bk b) x with
  | none => rw [hl] at hx; cases hx
  | some y =>
   rw [hl] at hx
   simp only at hx
   subst hx
   obtain ⟨j, hj1, hj2⟩ := pair_box hlb hb cs hl
   obtain ⟨k, cur, e, g1, g2, g3, g4⟩ := h.box j _ hj2
   refine ⟨k, cur, e, by simp [subM, hj1, g1], g2, by simpa using g3, fun i d hd => ?_⟩
   have hcs := hc cs (look_asL_mem hl)
   refine sc_un hlr hlb (M := M) (fun r i x h1 h2 => by simpa [subM, mpI_mp hfam h1] using h2) (fun r i x h1 h2 => by simpa [subM, h1] using h2) hA' (g4 i (renS (sgm bk bids) (sgm rk rids) d) (by simp [hd])) (hcs d (List.mem_of_getElem? hd))
 ·rcases asL_look2 (k := bk) (i := bids) (x := b) (r := x) hlb hlb' with ⟨_, h2⟩ | ⟨y, j, h1, _⟩
  ·simp [subM, h2]
  ·simp [PS.b, h1] at hx
 ·obtain ⟨j, h2, h3⟩ := hsr2 hx
  rcases h.row j e q h3 with ⟨g1, g2⟩ | ⟨g, cap, cur, g1, g2, g3, g4, g5, g6⟩
  ·exact .inl ⟨by simp [subM, h2, g1], g2⟩
  ·exact .inr ⟨g, cap, cur, by simp [subM, h2, g1], g2, g3, g4, g5, fun i j d hi hd => (g6 i j d hi hd).relem_any hd hA' hbig⟩
 ·exact hsn hx
 ·simp only [subM] at h1 h2
  cases e1 : mp bk bids x with
  | none => simp [e1] at h1
  | some i =>
   cases e2 : mp bk bids x' with
   | none => simp [e2] at h2
   | some i' =>
    simp only [e1] at h1
    simp only [e2] at h2
    have := h.inj1 i i' k h1 h2
    subst this
    have a1 := mp_inv hnb e1
    rw [mp_inv hnb e2] at a1
    cases a1; rfl
 ·simp only [subM] at h1 h2
  cases e1 : mpI rk rids x with
  | none => simp [e1] at h1
  | some i =>
   cases e2 : mpI rk rids x' with
   | none => simp [e2] at h2
   | some i' =>
    simp only [e1] at h1
    simp only [e2] at h2
    have := h.inj2 i i' k _ _ _ _ h1 h2
    subst this
    have a1 := mpI_inv hfam hnr e1
    rw [mpI_inv hfam hnr e2] at a1
    cases a1; rfl
 ·simp only [subM] at h1 h2
  split at h1
  ·split at h2
   ·exact h.inj3 _ _ _ _ _ h1 h2
   ·cases h2
  ·cases h1
def anyFam (l : List Nat) : Bool := l.any fun k => !notF k
theorem anyFam_not {l : List Nat} (h : anyFam l = false) {u : Nat} (hm : FK + unF u ∈ l) : False := by
 simp only [anyFam, List.any_eq_false] at h
 have := h _ hm
 rw [notF_fk] at this
 exact this rfl
def newP (rids pids : List Nat) (x : Nat) : Bool := match Nat.ble BIG x with | true => anyFam rids | false => match mp pids rids x with | some i => !Nat.beq i x | none => false
theorem newP_big {rids pids : List Nat} (h : newP rids pids BIG = false) {x : Nat} (hx : BIG ≤ x) : newP rids pids x = false := by
 unfold newP at h ⊢
 rw [Nat.ble_eq_true_of_le hx]
 rw [Nat.ble_eq_true_of_le (Nat.le_refl BIG)] at h
 exact h
def isInI (l : List Nat) (r : Nat) : Bool := match Nat.ble BIG r with | true => isInL l (FK + unF r) | false => isInL l r
theorem isInI_lo {l : List Nat} {r : Nat} (h : Nat.ble BIG r = false) : isInI l r = isInL l r := by unfold isInI; rw [h]
theorem isInI_hi {l : List Nat} {r : Nat} (h : Nat.ble BIG r = true) : isInI l r = isInL l (FK + unF r) := by unfold isInI; rw [h]
theorem mpI_in {l m : List Nat} {r i : Nat} (hf : famB l m = true) (h : mpI l m r = some i) : isInI m i = true := by
 rcases mpI_cases hf h with ⟨h1, h2, h3⟩ | ⟨h1, rfl, h3⟩
 ·rw [isInI_lo h2]; exact mem_isIn (mp_mem h3).2
 ·rw [isInI_hi h1]; exact mem_isIn (mp_mem h3).2
theorem mpI_own {l m : List Nat} (hl : l.length = m.length) (hf : famB l m = true) (hn : nodupB m = true) {F x : Nat} (hF : isInL l (FK + F % 4294967296) = true) (hx : unF x = F % 4294967296) (hb : Nat.ble BIG x = true) : mpI m l x = some x := by
 rw [← hx] at hF
 obtain ⟨j, hj⟩ := mp_some hl (isIn_mem hF)
 have e2 := famB_fk hf hj
 rw [e2] at hj
 rw [mpI_hi hb, mp_inv hn hj]
def rfB (s : PS) (rids : List Nat) : Bool := match anyFam rids with
 | false => true
 | true => s.row.all fun p => isInL rids p.1 || (match p.2 with | some (_, q) => (match q.refF with | some G => Nat.blt G 4294967296 && !isInL rids (FK + G) | none => !q.isRefs) | none => true)
theorem famr_flat {x : Option (Option (TypeId × Sq))} {k : Nat} {e : TypeId} {q : Sq} (h : famr x k = some (e, q)) : q.isRefs = false := by
 unfold famr at h
 split at h
 ·split at h
  ·rename_i q0 _ c hc
   have e : q = c := by cases h; rfl
   rw [e]
   cases q0 <;> simp only [Fq.get] at hc <;> split at hc <;> first | (cases hc; done) | (rw [← Option.some.inj hc]; rfl)
  ·cases h
 ·cases h
theorem rfB_ok {s : PS} {rids : List Nat} (h : rfB s rids = true) (ha : anyFam rids = true) {r : Nat} {e : TypeId} {q : Sq} (hr : s.r r = some (e, q)) (hin : isInI rids r = false) : q.isRefs = false ∨ ∃ G, q.refF = some G ∧ G < 4294967296 ∧ isInL rids (FK + G) = false := by
 unfold rfB at h
 rw [ha] at h
 simp only [List.all_eq_true] at h
 cases hb : Nat.ble BIG r with
 | true => rw [PS.r_hi _ hb] at hr; exact .inl (famr_flat hr)
 | false =>
  rw [PS.r_lo _ hb] at hr
  rw [isInI_lo hb] at hin
  split at hr
  ·rename_i x hx
   subst hr
   have := h _ (look_mem hx)
   simp only [hin, Bool.false_or] at this
   split at this
   ·rename_i G hG
    rw [Bool.and_eq_true, Nat.blt_eq] at this
    exact .inr ⟨G, hG, this.1, by simpa using this.2⟩
   ·exact .inl (by simpa using this)
  ·cases hr
def fixB : List Nat → List Nat → List Nat → List Nat → Bool
 | k :: rk, r :: rids, p :: pids, all => (match Nat.ble 1000000 k with | true => Nat.beq r p | false => Nat.blt r 1000000 && Nat.blt p 1000000 && !isInL all p) && fixB rk rids pids all
 | _, _, _, _ => true
theorem fixB_ok {all : List Nat} : ∀ {rk rids pids : List Nat}, fixB rk rids pids all = true → rk.length = rids.length → rk.length = pids.length → nodupB rids = true → ∀ {k p}, mp pids rk p = some k →
  ∃ r, mp pids rids p = some r ∧ mp rids rk r = some k ∧ ((1000000 ≤ k ∧ r = p) ∨ (r < 1000000 ∧ p < 1000000 ∧ isInL all p = false))
 | [], [], [], _, _, _, _, k, p, h => by simp [mp] at h
 | k' :: rk, r :: rids, p' :: pids, h, hl, hl', hn, k, p, hm => by
  simp only [fixB, Bool.and_eq_true] at h
  obtain ⟨n1, n2⟩ := nodupB_cons hn
  by_cases hp : p' = p
  ·subst hp
   rw [mp_cons_self] at hm
   cases hm
   refine ⟨r, mp_cons_self _ _ _ _, mp_cons_self _ _ _ _, ?_⟩
   have h1 := h.1
   split at h1
   ·rename_i hb; exact .inl ⟨Nat.le_of_ble_eq_true hb, Nat.eq_of_beq_eq_true h1⟩
   ·simp only [Bool.and_eq_true, Nat.blt_eq, Bool.not_eq_true'] at h1
    exact .inr ⟨h1.1.1, h1.1.2, h1.2⟩
  ·rw [mp_cons_ne hp] at hm
   obtain ⟨r', h5, h6, h7⟩ := fixB_ok h.2 (by simpa using hl) (by simpa using hl') n2 hm
   exact ⟨r', by rw [mp_cons_ne hp]; exact h5, by rw [mp_cons_ne (fun e => n1 (by subst e; exact (mp_mem h6).1))]; exact h6, h7⟩
 | [], _ :: _, _, _, hl, _, _, _, _, _ => by simp at hl
 | [], [], _ :: _, _, _, hl, _, _, _, _ => by simp at hl
 | _ :: _, [], _, _, hl, _, _, _, _, _ => by simp at hl
 | _ :: _, _ :: _, [], _, _, hl, _, _, _, _ => by simp at hl
theorem asL_map {α β : Type} (g : α → β) (x : Nat) : ∀ (l : List Nat) (b : List α), look (asL l (b.map g)) x = (look (asL l b) x).map (Option.map g)
 | [], b => by cases b <;> rfl
 | k :: l, [] => rfl
 | k :: l, y :: b => by
  by_cases hk : k = x
  ·subst hk; simp [asL, look_cons_self]
  ·simp only [List.map_cons, asL, look_cons_ne hk]; exact asL_map g x l b
theorem nones_look {α : Type} (x : Nat) : ∀ (l : List Nat), look (l.map fun r => (r, (none : Option α))) x = if isInL l x then some none else none
 | [] => rfl
 | k :: l => by
  by_cases hk : k = x
  ·subst hk; simp [look_cons_self, isInL, Nat.beq_refl]
  ·have : Nat.beq k x = false := by
    cases hb : Nat.beq k x
    ·rfl
    ·exact absurd (Nat.eq_of_beq_eq_true hb) hk
   rw [List.map_cons, look_cons_ne hk, nones_look x l]
   simp [isInL, this]
def PS.after (s : PS) (rids pids : List Nat) (r1 : List (TypeId × Sq)) (bids : List Nat) (cells : List (List D)) : PS :=
 ⟨s.tmp, asL pids r1 ++ ((rids.map fun r => (r, none)) ++ s.row), asL bids cells ++ s.box⟩
theorem Rel.after {pids : List Nat} (h : Rel w0 O0 n M s a w) {N' : Mp} {w' : World} {r1 : List (TypeId × Sq)} {b1 : List (List D)}
  (hlr : rk.length = rids.length) (hlp : rk.length = pids.length) (hlb : bk.length = bids.length) (hl1 : rk.length = r1.length) (hl2 : bk.length = b1.length)
  (hnk : nodupB rk = true) (hnbk : nodupB bk = true) (hnr : nodupB rids = true) (hnb : nodupB bids = true) (hnp : nodupB pids = true) (hfix : fixB rk rids pids rids = true) (hf : Fresh s noB (newP rids pids)) (hc1 : conB rk bk b1 = true) (hcr : conR rk r1 = true) (hfam : famB rk rids = true) (hfamp : famB rk pids = true) (hrf : rfB s rids = true)
  (post : HasM (A2 (Ow (Fs w0 O0) M) w (subM M rk rids bk bids) N') N' ⟨[], asL rk r1, asL bk b1⟩ w') (hβ : ∀ b, N'.β b = (subM M rk rids bk bids).β b) (hγ : ∀ r, 1000000 ≤ r → r < BIG → N'.γ r = (subM M rk rids bk bids).γ r)
  (hown : ∀ k, N'.owned k → (subM M rk rids bk bids).owned k ∨ w.heap.size ≤ k) (hos : w'.os = w.os) (htp : w'.tape = w.tape) (hout : w'.output = w.output) (hsz : w.heap.size ≤ w'.heap.size)
  (hfr : ∀ k, k < w.heap.size → ¬ (subM M rk rids bk bids).owned k → w'.heap[k]? = w.heap[k]?) :
  ∃ M', Rel w0 O0 n M' (s.after rids pids r1 bids (b1.map fun cs => cs.map (renS (sgm bk bids) (sgm rk pids)))) a w' ∧ ∀ d v, scT rk bk d = true → VR N' (A2 (Ow (Fs w0 O0) M) w (subM M rk rids bk bids) N') w' d v → VR M' (Ow (Fs w0 O0) M') w' (ren (sgm bk bids) (sgm rk pids) d) v := by
 let M' : Mp := ⟨M.β, fun r => match mpI pids rk r with | some k => N'.γ k | none => if isInI rids r then none else M.γ r⟩
 have hfam' := famB_symm hfam
 have hfamp' := famB_symm hfamp
 have F1 : ∀ k, M'.owned k → M.owned k ∨ w.heap.size ≤ k := by
  rintro k (⟨b, hb⟩ | ⟨r, c, z, hr⟩)
  ·exact .inl (.inl ⟨b, hb⟩)
  ·simp only [M'] at hr
   split at hr
   ·exact (hown k (.inr ⟨_, c, z, hr⟩)).imp_left subM_own
   ·split at hr
    ·cases hr
    ·exact .inl (.inr ⟨r, c, z, hr⟩)
 have F0 : ∀ k, (subM M rk rids bk bids).owned k → ¬ N'.owned k → ¬ M'.owned k := by
  intro k hk hk' ho
  have hNb : ∀ b, M.β b = some k → (∃ x, mp bk bids x = some b) → False := by
   rintro b hb ⟨x, hx⟩
   exact hk' (.inl ⟨x, by rw [hβ]; simp [subM, hx, hb]⟩)
  have hcase := subM_owned hk
  rcases ho with ⟨b, hb⟩ | ⟨r, c, z, hr⟩
  ·rcases hcase with ⟨x, i, hx, hi⟩ | ⟨x, i, c', z', hx, hi⟩
   ·have := h.inj1 _ _ _ hb hi; subst this; exact hNb b hb ⟨x, hx⟩
   ·exact h.inj3 _ _ _ _ _ hb hi
  ·simp only [M'] at hr
   split at hr
   ·exact hk' (.inr ⟨_, c, z, hr⟩)
   ·split at hr
    ·cases hr
    ·rename_i hin
     rcases hcase with ⟨x, i, hx, hi⟩ | ⟨x, i, c', z', hx, hi⟩
     ·exact h.inj3 _ _ _ _ _ hi hr
     ·have := h.inj2 _ _ _ _ _ _ _ hr hi; subst this; exact hin (mpI_in hfam hx)
 have F2 : ∀ f k, k < w'.heap.size → A2 (Ow (Fs w0 O0) M) w (subM M rk rids bk bids) N' f k → Ow (Fs w0 O0) M' f k ∧ k < w'.heap.size ∧ w'.heap[k]? = w'.heap[k]? := by
  rintro f k hk ⟨h1, h2⟩
  refine ⟨?_, hk, rfl⟩
  rcases h1 with h1 | h1 | h1
  ·refine ⟨fun ho => ?_, h1.2⟩
   rcases ho with ⟨b, hb⟩ | ⟨r, c, z, hr⟩
   ·exact h1.1 (.inl ⟨b, hb⟩)
   ·simp only [M'] at hr
    split at hr
    ·exact h2 (.inr ⟨_, c, z, hr⟩)
    ·split at hr
     ·cases hr
     ·exact h1.1 (.inr ⟨r, c, z, hr⟩)
  ·refine ⟨fun ho => ?_, .inl (Nat.le_trans h.fr.size h1)⟩
   rcases ho with ⟨b, hb⟩ | ⟨r, c, z, hr⟩
   ·have := h.lt k (.inl ⟨b, hb⟩); omega
   ·simp only [M'] at hr
    split at hr
    ·exact h2 (.inr ⟨_, c, z, hr⟩)
    ·split at hr
     ·cases hr
     ·have := h.lt k (.inr ⟨r, c, z, hr⟩); omega
  ·exact ⟨F0 k h1 h2, (h.low k (subM_own h1)).imp_right (O0.sub f k)⟩
 have F3 : ∀ f k, k < w.heap.size → Ow (Fs w0 O0) M f k → Ow (Fs w0 O0) M' f k ∧ k < w'.heap.size ∧ w'.heap[k]? = w.heap[k]? := fun f k hk ho =>
  ⟨⟨fun h1 => (F1 k h1).elim ho.1 (fun h2 => by omega), ho.2⟩, by omega, hfr k hk fun h1 => ho.1 (subM_own h1)⟩
 have hfx : ∀ {p k}, mpI pids rk p = some k → ∃ r, mpI pids rids p = some r ∧ mpI rids rk r = some k ∧ ((1000000 ≤ k ∧ k < BIG ∧ r = p) ∨ (r < 1000000 ∧ p < 1000000 ∧ isInL rids p = false) ∨ (BIG ≤ p ∧ r = p ∧ isInI rids p = true)) := fun {p k} hm => by
  rcases mpI_cases hfamp' hm with ⟨a1, a2, a3⟩ | ⟨a1, rfl, a3⟩
  ·obtain ⟨r, b1, b2, b3⟩ := fixB_ok hfix hlr hlp hnr a3
   have hr0 := (famB_lt hfam' b2).1
   refine ⟨r, by rw [mpI_lo a1]; exact b1, by rw [mpI_lo hr0]; exact b2, ?_⟩
   rcases b3 with ⟨b4, b5⟩ | b4
   ·refine .inl ⟨b4, ?_, b5⟩
    rcases Nat.lt_or_ge k BIG with h | h
    ·exact h
    ·rw [Nat.ble_eq_true_of_le h] at a2; cases a2
   ·exact .inr (.inl b4)
  ·obtain ⟨r, b1, b2, b3⟩ := fixB_ok hfix hlr hlp hnr a3
   have e : FK + unF k = r := by
    rcases famB_ok hfam' b2 with ⟨_, c2⟩ | ⟨c1, _⟩
    ·rw [notF_fk] at c2; cases c2
    ·exact c1.symm
   subst e
   exact ⟨k, by rw [mpI_hi a1, b1], by rw [mpI_hi a1, b2], .inr (.inr ⟨Nat.le_of_ble_eq_true a1, rfl, by rw [isInI_hi a1]; exact mem_isIn (mp_mem b2).1⟩)⟩
 have hNγ : ∀ {r k}, mpI rids rk r = some k → (subM M rk rids bk bids).γ k = M.γ r := fun hm => by simp [subM, mpI_inv hfam' hnk hm]
 have F4 : ∀ x y, newP rids pids x = false → M'.γ x = some y → M.γ x = some y := by
  intro x y hx hy
  simp only [M'] at hy
  split at hy
  ·rename_i k hk
   obtain ⟨r, h1, h2, h3⟩ := hfx hk
   rcases h3 with ⟨h4, h5, rfl⟩ | ⟨_, h4', h4⟩ | ⟨h4, rfl, h5⟩
   ·rw [hγ k h4 h5, hNγ h2] at hy; exact hy
   ·have hb : Nat.ble BIG x = false := by
     cases hb : Nat.ble BIG x with
     | false => rfl
     | true =>
      have := Nat.le_of_ble_eq_true hb
      have h6 : BIG ≤ 1000000 := by omega
      exact absurd h6 (by decide)
    unfold newP at hx
    rw [hb] at hx
    rw [mpI_lo hb] at h1
    simp only [h1] at hx
    have hrx : r = x := Nat.eq_of_beq_eq_true (by simpa using hx)
    subst hrx
    have hin := mpI_in hfam (mpI_inv hfam' hnk h2)
    rw [isInI_lo hb, h4] at hin; cases hin
   ·have hb := Nat.ble_eq_true_of_le h4
    unfold newP at hx
    rw [hb] at hx
    rw [isInI_hi hb] at h5
    exact (anyFam_not hx (isIn_mem h5)).elim
  ·split at hy
   ·cases hy
   ·exact hy
 have F5 : ∀ x, Nat.ble BIG x = true → isInI rids x = false → ∀ y, M'.γ x = some y → M.γ x = some y := by
  intro x hb hin y hy
  simp only [M'] at hy
  split at hy
  ·rename_i k hk
   obtain ⟨r, h1, h2, h3⟩ := hfx hk
   have h4 := mpI_in hfam (mpI_inv hfam' hnk h2)
   rcases h3 with ⟨_, _, h5⟩ | ⟨_, h5, _⟩ | ⟨_, _, h5⟩
   ·rw [h5, hin] at h4; cases h4
   ·have := Nat.le_of_ble_eq_true hb
    have h6 : BIG ≤ 1000000 := by omega
    exact absurd h6 (by decide)
   ·rw [hin] at h5; cases h5
  ·split at hy
   ·cases hy
   ·exact hy
 have hother : ∀ k, M.owned k → ¬ (subM M rk rids bk bids).owned k → w'.heap[k]? = w.heap[k]? := fun k h1 h2 => hfr k (h.lt k h1) h2
 have hβM : ∀ {x j}, mp bids bk x = some j → N'.β j = M.β x := fun hm => by rw [hβ]; simp [subM, mp_inv hnbk hm]
 have hlb2 : bids.length = bk.length := hlb.symm
 have hNrow : ∀ {r k c z}, isInI rids r = false → M.γ r = some (some (k, c, z)) → ¬ (subM M rk rids bk bids).owned k := by
  intro r k c z hr hk ho
  rcases subM_owned ho with ⟨x, i, hx, hi⟩ | ⟨x, i, c', z', hx, hi⟩
  ·exact h.inj3 _ _ _ _ _ hi hk
  ·have := h.inj2 _ _ _ _ _ _ _ hk hi; subst this; rw [mpI_in hfam hx] at hr; cases hr
 have hNbox : ∀ {b k}, mp bids bk b = none → M.β b = some k → ¬ (subM M rk rids bk bids).owned k := by
  intro b k hb hk ho
  rcases subM_owned ho with ⟨x, i, hx, hi⟩ | ⟨x, i, c', z', hx, hi⟩
  ·have := h.inj1 _ _ _ hk hi; subst this
   obtain ⟨y, hy⟩ := mp_some hlb2 (mp_mem hx).2
   rw [hb] at hy; cases hy
  ·exact h.inj3 _ _ _ _ _ hk hi
 have alo : ∀ x, Nat.ble BIG x = false → (s.after rids pids r1 bids (b1.map fun cs => cs.map (renS (sgm bk bids) (sgm rk pids)))).r x = match mp pids rk x with | some j => PS.r ⟨[], asL rk r1, asL bk b1⟩ j | none => if isInL rids x then none else s.r x := fun x hb => by
  rw [PS.r_lo _ hb, show (s.after rids pids r1 bids (b1.map fun cs => cs.map (renS (sgm bk bids) (sgm rk pids)))).row = asL pids r1 ++ ((rids.map fun r => (r, none)) ++ s.row) from rfl, look_append, look_append, nones_look]
  rcases asL_look2 (k := pids) (i := rk) (x := r1) (r := x) hlp.symm hl1 with ⟨e1, e2⟩ | ⟨y, j, e1, e2, e3⟩
  ·rw [e1, e2]
   by_cases hin : isInL rids x = true
   ·simp [hin]
   ·simp only [hin, if_false, Bool.false_eq_true]
    rw [PS.r_lo _ hb]
  ·rw [e1, e2]
   simp only
   rw [PS.r_lo _ (famB_lt hfamp' e2).2]
   simp only [e3 hnk]
 have aall : ∀ x, (s.after rids pids r1 bids (b1.map fun cs => cs.map (renS (sgm bk bids) (sgm rk pids)))).r x = match mpI pids rk x with | some j => PS.r ⟨[], asL rk r1, asL bk b1⟩ j | none => if isInI rids x then none else s.r x := fun x => by
  cases hb : Nat.ble BIG x with
  | false => rw [alo x hb, mpI_lo hb, isInI_lo hb]
  | true =>
   rw [PS.r_hi _ hb, PS.inn_r, alo _ (fk_big x), mpI_hi hb, isInI_hi hb]
   cases hm : mp pids rk (FK + unF x) with
   | some j =>
    have e := famB_fk hfamp' hm
    simp only [e]
    rw [PS.r_hi _ hb, PS.inn_r]
   | none =>
    simp only
    by_cases hin : isInL rids (FK + unF x) = true
    ·simp only [hin, if_true]; rfl
    ·simp only [hin, if_false, Bool.false_eq_true]
     rw [PS.r_hi _ hb, PS.inn_r]
 have hMN : ∀ y, mpI pids rk y = some y → M'.γ y = N'.γ y := fun y hy => by simp only [M', hy]
 have hNbig : ∀ F, isInL rk (FK + F % 4294967296) = true → ∀ k x, M'.γ (inn F k) = some x → N'.γ (inn F k) = some x := fun F hF k x hx => by
  have := mpI_own hlp hfamp hnp hF (unF_inn F k) (Nat.ble_eq_true_of_le (inn_big F k))
  rw [hMN _ this] at hx
  exact hx
 have hkeep : ∀ {r e q i j d v}, s.r r = some (e, q) → isInI rids r = false → (q.relem i)[j]? = some d → VR M (Ow (Fs w0 O0) M) w d v → VR M' (Ow (Fs w0 O0) M') w' d v := fun {r e q i j d v} h1 h2 h3 h4 => by
  cases ha : anyFam rids with
  | false =>
   refine h4.relem_any h3 F3 fun x y hx hy => F4 x y ?_ hy
   unfold newP; rw [Nat.ble_eq_true_of_le hx]; exact ha
  | true =>
   rcases rfB_ok hrf ha h1 h2 with h5 | ⟨G, h5, h6, h7⟩
   ·rw [Sq.relem_eq h5] at h3
    exact h4.elem_any h3 F3
   ·refine h4.relem_any2 h3 F3 fun G' hG' k y hy => F5 _ (inn_hi G' k) ?_ y hy
    rw [h5] at hG'
    cases hG'
    rw [isInI_hi (inn_hi G k), unF_inn, Nat.mod_eq_of_lt h6]
    exact h7
 refine ⟨M', ⟨?_, h.dfr, h.sz, fun t => ?_, fun x cs hx => ?_, fun x hx => ?_, fun r e q hr => ?_, fun r hr => ?_, fun k hk => ?_, h.inj1, fun r r' k c z c' z' h1 h2 => ?_, fun b r k c z h1 h2 => ?_, h.nle, h.fxb, fun r x x' h1 h2 => ?_⟩, fun d v hd hv => ?_⟩
 ·refine h.fr.step hos htp hout hsz fun k hk h1 => hfr k (Nat.lt_of_lt_of_le hk h.fr.size) fun ho => ?_
  rcases h.low k (subM_own ho) with h2 | h2
  ·omega
  ·exact h1 h2
 ·exact VR.new (b := noB) (r := newP rids pids) F3 F4 (fun x k _ hx => hx) (hf.t t) (h.tmp t) (hi := fun h0 x y hx hy => F4 x y (newP_big h0 hx) hy)
 ·simp only [PS.after, PS.b, look_append] at hx
  rcases asL_look2 (k := bids) (i := bk) (x := b1.map fun cs => cs.map (renS (sgm bk bids) (sgm rk pids))) (r := x) hlb2 (by simpa using hl2) with ⟨e1, e2⟩ | ⟨y, j, e1, e2, e3⟩
  ·rw [e1] at hx
   have hx' : s.b x = some cs := hx
   obtain ⟨k, cur, e, g1, g2, g3, g4⟩ := h.box x cs hx'
   refine ⟨k, cur, e, g1, (hother k (.inl ⟨x, g1⟩) (hNbox e2 g1)).trans g2, g3, fun i d hd => ?_⟩
   have hm : ment noB (newP rids pids) d = false := by
    have := hf.b x cs hx' d (List.mem_of_getElem? hd)
    cases d <;> first | exact this | (simp [mentS] at this)
   exact VR.new (b := noB) (r := newP rids pids) F3 F4 (fun x k _ hx => hx) hm (g4 i d hd) (hi := fun h0 x y hx hy => F4 x y (newP_big h0 hx) hy)
  ·rw [e1] at hx
   simp only [Option.some.injEq] at hx
   subst hx
   have e4 := e3 hnbk
   rw [asL_map] at e4
   obtain ⟨y0, e5, e6⟩ := Option.map_eq_some_iff.1 e4
   cases y0 with
   | none => cases e6
   | some y0 =>
    simp only [Option.map_some, Option.some.injEq] at e6
    subst e6
    obtain ⟨k, cur, e, g1, g2, g3, g4⟩ := post.box j y0 (by simp [PS.b, e5])
    refine ⟨k, cur, e, by rw [← hβM e2]; exact g1, g2, by simpa using g3, fun i d hd => ?_⟩
    rw [List.getElem?_map] at hd
    obtain ⟨d0, hd0, rfl⟩ := Option.map_eq_some_iff.1 hd
    have hs : scS rk bk d0 = true := by
     simp only [conB, List.all_eq_true] at hc1
     exact hc1 y0 (look_asL_mem e5) d0 (List.mem_of_getElem? hd0)
    refine sc_ren hlp hlb (fun r i x hr hx => ?_) (fun r i x hr hx => ?_) F2 (g4 i d0 hd0) hs
    ·simp only [M', mpI_inv hfamp hnp (mpI_mp hfamp hr)] at hx; exact hx
    ·rw [hβ]; simp only [subM, hr]; exact hx
 ·simp only [PS.after, PS.b, look_append] at hx
  rcases asL_look2 (k := bids) (i := bk) (x := b1.map fun cs => cs.map (renS (sgm bk bids) (sgm rk pids))) (r := x) hlb2 (by simpa using hl2) with ⟨e1, e2⟩ | ⟨y, j, e1, e2, e3⟩
  ·rw [e1] at hx; exact h.boxn x hx
  ·rw [e1] at hx; cases hx
 ·rw [aall] at hr
  cases hm : mpI pids rk r with
  | none =>
   rw [hm] at hr
   by_cases hin : isInI rids r = true
   ·simp only [hin, if_true] at hr; cases hr
   ·have hin' : isInI rids r = false := by simpa using hin
    simp only [hin', if_false, Bool.false_eq_true] at hr
    have hM : M'.γ r = M.γ r := by simp [M', hm, hin']
    rcases h.row r e q hr with ⟨g1, g2⟩ | ⟨g, cap, cur, g1, g2, g3, g4, g5, g6⟩
    ·exact .inl ⟨hM.trans g1, g2⟩
    ·exact .inr ⟨g, cap, cur, hM.trans g1, (hother g (.inr ⟨r, _, _, g1⟩) (hNrow hin' g1)).trans g2, g3, g4, g5, fun i j d hi hd => hkeep hr hin' hd (g6 i j d hi hd)⟩
  | some j =>
   rw [hm] at hr
   simp only at hr
   have hM : M'.γ r = N'.γ j := by simp [M', hm]
   have hq : ∀ F, q.refF = some F → isInL rk (FK + F % 4294967296) = true := fun F hF => by
    cases hb : Nat.ble BIG j with
    | true =>
     rw [PS.r_hi _ hb] at hr
     have := famr_flat hr
     cases q <;> simp [Sq.refF, Sq.isRefs] at hF this
    | false =>
     rw [PS.r_lo _ hb] at hr
     split at hr
     ·rename_i x hx
      subst hr
      have := (List.all_eq_true.1 hcr) _ (look_asL_mem hx)
      simp only [hF] at this
      exact this
     ·cases hr
   rcases post.row j e q hr with ⟨g1, g2⟩ | ⟨g, cap, cur, g1, g2, g3, g4, g5, g6⟩
   ·exact .inl ⟨hM.trans g1, g2⟩
   ·exact .inr ⟨g, cap, cur, hM.trans g1, g2, g3, g4, g5, fun i j d hi hd => (g6 i j d hi hd).relem_any2 hd F2 fun F hF => hNbig F (hq F hF)⟩
 ·rw [aall] at hr
  cases hm : mpI pids rk r with
  | none =>
   rw [hm] at hr
   simp only [M', hm]
   split
   ·rfl
   ·rename_i hin
    have hin' : isInI rids r = false := by simpa using hin
    simp only [hin', if_false, Bool.false_eq_true] at hr
    exact h.rown r hr
  | some j =>
   rw [hm] at hr
   simp only [M', hm]
   exact post.rown j hr
 ·rcases F1 k hk with h1 | h1
  ·exact h.low k h1
  ·exact .inl (Nat.le_trans h.fr.size h1)
 ·simp only [M'] at h1 h2
  have mix : ∀ {r' k j : Nat} {c z c' z' : Nat}, N'.γ j = some (some (k, c, z)) → mpI pids rk r' = none → isInI rids r' = false → M.γ r' = some (some (k, c', z')) → False := by
   intro r' k j c z c' z' a1 a2 a3 a4
   rcases hown k (.inr ⟨j, _, _, a1⟩) with b1 | b1
   ·exact hNrow a3 a4 b1
   ·have := h.lt k (.inr ⟨r', _, _, a4⟩); omega
  cases e1 : mpI pids rk r with
  | none =>
   simp only [e1] at h1
   split at h1
   ·cases h1
   rename_i i1
   cases e2 : mpI pids rk r' with
   | none =>
    simp only [e2] at h2
    split at h2
    ·cases h2
    exact h.inj2 _ _ _ _ _ _ _ h1 h2
   | some j' =>
    simp only [e2] at h2
    exact (mix h2 e1 (by simpa using i1) h1).elim
  | some j =>
   simp only [e1] at h1
   cases e2 : mpI pids rk r' with
   | none =>
    simp only [e2] at h2
    split at h2
    ·cases h2
    rename_i i2
    exact (mix h1 e2 (by simpa using i2) h2).elim
   | some j' =>
    simp only [e2] at h2
    have := post.inj2 _ _ _ _ _ _ _ h1 h2
    subst this
    have a1 := mpI_inv hfamp' hnk e1
    rw [mpI_inv hfamp' hnk e2] at a1
    cases a1; rfl
 ·simp only [M'] at h1 h2
  split at h2
  ·rename_i j hj
   rcases hown k (.inr ⟨j, _, _, h2⟩) with b1 | b1
   ·rcases subM_owned b1 with ⟨x, i, hx, hi⟩ | ⟨x, i, c', z', hx, hi⟩
    ·have := h.inj1 _ _ _ h1 hi; subst this
     exact post.inj3 x j k c z (by rw [hβ]; simp [subM, hx, hi]) h2
    ·exact h.inj3 _ _ _ _ _ h1 hi
   ·have := h.lt k (.inl ⟨b, h1⟩); omega
  ·split at h2
   ·cases h2
   ·exact h.inj3 _ _ _ _ _ h1 h2
 ·obtain ⟨h3, h3'⟩ := O0.lor r x h1
  simp only [M'] at h2
  split at h2
  ·rename_i j hj
   obtain ⟨r', g1, g2, g3⟩ := hfx hj
   rcases g3 with ⟨g4, g5, rfl⟩ | ⟨_, g4, _⟩ | ⟨g4, _, _⟩
   ·rw [hγ j g4 g5, hNγ g2] at h2; exact h.fxr _ _ _ h1 h2
   ·omega
   ·omega
  ·split at h2
   ·cases h2
   ·exact h.fxr _ _ _ h1 h2
 ·refine sc_renT hlp hlb (fun r i x hr hx => ?_) (fun r i x hr hx => ?_) F2 hv hd
  ·simp only [M', mpI_inv hfamp hnp (mpI_mp hfamp hr)] at hx; exact hx
  ·rw [hβ]; simp only [subM, hr]; exact hx
def fitM1 (rk rids bk bids : List Nat) (c : D) : D → Prop
 | .ro f q => c = .ro f q ∨ (c = .ro true q ∧ f = false) ∨ (c = .nil ∧ q.len = 0)
 | .agg _ => False
 | .tup _ => False
 | d => c = renS (sgm bk bids) (sgm rk rids) d ∧ scS rk bk d = true
def fitML (rk rids bk bids : List Nat) : List D → List D → Prop
 | [], [] => True
 | a :: l, b :: m => fitM1 rk rids bk bids a b ∧ fitML rk rids bk bids l m
 | _, _ => False
def fitMA (rk rids bk bids : List Nat) : D → D → Prop
 | .agg l, .agg m => fitML rk rids bk bids l m
 | c, d => fitM1 rk rids bk bids c d
def fitsM (rk rids bk bids : List Nat) (s : PS) : List Operand → List D → Prop
 | [], [] => True
 | x :: l, b :: m => fitMA rk rids bk bids (s.ev x) b ∧ fitsM rk rids bk bids s l m
 | _, _ => False
theorem VR.unflag {A A' : Bool → Nat → Prop} (hA : ∀ f f' k, A f k → f' = f ∨ f' = false → A' f' k) {M M' : Mp} {w : World} {d : D} {v : Value} (h : VR M A w d v) : ∀ d', sameD d d' → (∀ f q f' q', d = .ro f q → d' = .ro f' q' → f' = f ∨ f' = false) → VR M' A' w d' v := by
 induction h with
 | ro f q ao cap b o u hn hc hao hu hv ih =>
  intro d' hd hf
  cases d' <;> simp only [sameD] at hd
  rename_i f' q'
  subst hd
  have hff := hf f q f' q rfl rfl
  refine .ro f' q ao cap b o u hn hc (fun h0 => ⟨(hao h0).1, (hao h0).2.1, hA f f' b (hao h0).2.2 hff⟩) (fun i j d' hi hd' => ?_) (fun i j d' hi hd' => ?_)
  ·obtain ⟨d, h1, _⟩ := elem_same f f' q i j d' hd'; exact hu i j d hi h1
  ·obtain ⟨d, h1, h2⟩ := elem_same f f' q i j d' hd'
   refine ih i j d hi h1 d' h2 fun g p g' p' e1 e2 => ?_
   subst e1 e2
   cases q <;> simp only [Sq.elem] at h1 hd' <;> rcases j with _ | _ | j <;> simp at h1 hd' <;> first | (obtain ⟨rfl, _⟩ := h1; obtain ⟨rfl, _⟩ := hd'; exact hff) | skip
 | int n => intro d' hd _; cases d' <;> simp only [sameD] at hd; subst hd; exact .int _
 | bool b => intro d' hd _; cases d' <;> simp only [sameD] at hd; subst hd; exact .bool _
 | val v h => intro d' hd _; cases d' <;> simp only [sameD] at hd; subst hd; exact .val _ h
 | any v h => intro d' hd _; cases d' <;> simp only [sameD] at hd; exact .any _ h
 | _ => intro d' hd; simp [sameD] at hd
theorem fitM1_ok {A : Bool → Nat → Prop} (hm : ∀ k, A true k → A false k) (hl : rk.length = rids.length) (hb : bk.length = bids.length) (hfam : famB rk rids = true) {c d : D} {v : Value} (hv : VR M A w c v) (hf : fitM1 rk rids bk bids c d) : VR (subM M rk rids bk bids) A w d v := by
 have hA : ∀ f b, b < w.heap.size → A f b → A f b ∧ b < w.heap.size ∧ w.heap[b]? = w.heap[b]? := fun f b h1 h2 => ⟨h2, h1, rfl⟩
 have go : c = renS (sgm bk bids) (sgm rk rids) d ∧ scS rk bk d = true → VR (subM M rk rids bk bids) A w d v := by
  rintro ⟨rfl, hs⟩
  exact sc_un hl hb (fun r i x h1 h2 => by simpa [subM, mpI_mp hfam h1] using h2) (fun r i x h1 h2 => by simpa [subM, h1] using h2) hA hv hs
 cases d with
 | ro f q =>
  rcases hf with rfl | ⟨rfl, rfl⟩ | ⟨rfl, h0⟩
  ·exact hv.ro_any hA
  ·refine hv.unflag (M' := subM M rk rids bk bids) (A' := A) (fun f f' k h1 h2 => ?_) (.ro false q) rfl (fun f q' f' q'' e1 e2 => by cases e1; cases e2; exact .inr rfl)
   rcases h2 with rfl | rfl
   ·exact h1
   ·cases f
    ·exact h1
    ·exact hm k h1
  ·obtain ⟨ao0, hao0⟩ := hv.nil_inv
   rw [hao0]
   have := VR.ro (M := subM M rk rids bk bids) (A := A) (w := w) f q ao0 0 0 0 (fun _ _ => undef) (by omega) (by omega) (by omega) (by intro i j d hi; omega) (by intro i j d hi; omega)
   rwa [h0] at this
 | agg l => exact hf.elim
 | tup l => exact hf.elim
 | _ => exact go hf
theorem fitML_ok {A : Bool → Nat → Prop} (hm : ∀ k, A true k → A false k) (hl : rk.length = rids.length) (hb : bk.length = bids.length) (hfam : famB rk rids = true) : ∀ {l m : List D}, fitML rk rids bk bids l m → l.length = m.length ∧ ∀ (i : Nat) (d' : D), m[i]? = some d' → ∃ d, l[i]? = some d ∧ ∀ v, VR M A w d v → VR (subM M rk rids bk bids) A w d' v
 | [], [], _ => ⟨rfl, by simp⟩
 | a :: l, b :: m, h => by
  obtain ⟨h1, h2⟩ := fitML_ok hm hl hb hfam h.2
  refine ⟨by simp [h1], fun i d' hd => ?_⟩
  cases i with
  | zero => simp at hd; subst hd; exact ⟨a, rfl, fun v hv => fitM1_ok hm hl hb hfam hv h.1⟩
  | succ i => exact h2 i d' (by simpa using hd)
 | [], _ :: _, h => h.elim
 | _ :: _, [], h => h.elim
theorem fitMA_ok {A : Bool → Nat → Prop} (hm : ∀ k, A true k → A false k) (hl : rk.length = rids.length) (hb : bk.length = bids.length) (hfam : famB rk rids = true) {c d : D} {v : Value} (hv : VR M A w c v) (hf : fitMA rk rids bk bids c d) : VR (subM M rk rids bk bids) A w d v := by
 cases d with
 | agg m =>
  cases c with
  | agg l =>
   obtain ⟨us, rfl, h1, h2⟩ := hv.agg_inv
   obtain ⟨g1, g2⟩ := fitML_ok (M := M) (w := w) hm hl hb hfam hf
   refine .agg _ us (by omega) fun i d' hd => ?_
   obtain ⟨d, h3, h4⟩ := g2 i d' hd
   exact h4 _ (h2 i d h3)
  | _ => exact hf.elim
 | _ => cases c <;> exact fitM1_ok hm hl hb hfam hv hf
theorem fitsM_ok {A : Bool → Nat → Prop} (hm : ∀ k, A true k → A false k) (hl : rk.length = rids.length) (hb : bk.length = bids.length) (hfam : famB rk rids = true) (hev : ∀ x, VR M A w (s.ev x) (a.eval x)) : ∀ {xs : List Operand} {ds : List D}, fitsM rk rids bk bids s xs ds → xs.length = ds.length ∧
  ∀ (i : Nat) (d : D), ds[i]? = some d → ∃ x, xs[i]? = some x ∧ VR (subM M rk rids bk bids) A w d (a.eval x)
 | [], [], _ => ⟨rfl, by simp⟩
 | x :: l, b :: m, h => by
  obtain ⟨h1, h2⟩ := fitsM_ok hm hl hb hfam hev h.2
  refine ⟨by simp [h1], fun i d' hd => ?_⟩
  cases i with
  | zero => simp at hd; subst hd; exact ⟨x, rfl, fitMA_ok hm hl hb hfam (hev x) h.1⟩
  | succ i => exact h2 i d' (by simpa using hd)
 | [], _ :: _, h => h.elim
 | _ :: _, [], h => h.elim
end
section
variable {C : Cx} {ops : Array Oper} {K : PS → Prop} {o : Oper} {rest : List Oper} {s s' : PS} {rk rids bk bids pids : List Nat}
def mchk (rk rids bk bids pids : List Nat) : Bool := Nat.beq rk.length rids.length && Nat.beq rk.length pids.length && Nat.beq bk.length bids.length && nodupB rids && nodupB bids && nodupB pids && fixB rk rids pids rids && famB rk rids && famB rk pids
theorem sMCallAny {f : FuncId} {ds : List D} {r0 r1 : List (TypeId × Sq)} {b0 b1 : List (List D)} {d : D} (hp : MCall C.P f ds rk bk r0 r1 b0 b1 d) (hds : dstOk C.n o.dst = true)
  (hrun : ∀ M a w, Rel C.w0 C.O0 C.n M s a w → ∃ args, (execOp a.eval o).run C.P w = .ok (.enter f args) w ∧ ArgsM (Ow (Fs C.w0 C.O0) M) (subM M rk rids bk bids) w ds args)
  (hchk : mchk rk rids bk bids pids = true) (hrf : rfB s rids = true) (hf : Fresh s noB (newP rids pids)) (hr : pairOk s.r rids r0) (hb : pairOk s.b bids (b0.map fun cs => cs.map (renS (sgm bk bids) (sgm rk rids))))
  (h : K ((s.after rids pids r1 bids (b1.map fun cs => cs.map (renS (sgm bk bids) (sgm rk pids)))).put o.dst (ren (sgm bk bids) (sgm rk pids) d))) : Step C o s K := ⟨fun M a w Q K' hrl hk => by
 simp only [mchk, Bool.and_eq_true] at hchk
 obtain ⟨⟨⟨⟨⟨⟨⟨⟨c1, c2⟩, c3⟩, c4⟩, c5⟩, c6⟩, c7⟩, c8⟩, c9⟩ := hchk
 have l1 := Nat.eq_of_beq_eq_true c1
 have l2 := Nat.eq_of_beq_eq_true c2
 have l3 := Nat.eq_of_beq_eq_true c3
 obtain ⟨args, hex, hargs⟩ := hrun M a w hrl
 unfold Oper.wp
 rw [hex]
 refine (hp.run w (subM M rk rids bk bids) args (Ow (Fs C.w0 C.O0) M) (fun f k ha ho => ha.1 (subM_own ho)) (fun k ha => ⟨ha.1, ha.2.imp_right (C.O0.mon k)⟩) (hrl.sub (fun _ _ _ h => h) l1 l3 hr hb hp.con0 c4 c5 c8) hargs).mono ?_
 rintro e w' ⟨v, rfl, N', p1, p2, p3, p4, p5, p6, p7, p8, p9, p10⟩
 obtain ⟨M', g1, g2⟩ := hrl.after l1 l2 l3 hp.len.2.1 hp.len.2.2.2 hp.ndk.1 hp.ndk.2 c4 c5 c6 c7 hf hp.con1 hp.conr c8 c9 hrf p1 p2 p3 p4 p5 p6 p7 p8 p9
 exact hk M' _ _ _ h (g1.put hds (g2 d v hp.nd p10))⟩
theorem Rel.mon {w0 : World} {O0 : Hd} {M : Mp} : ∀ k, Ow (Fs w0 O0) M true k → Ow (Fs w0 O0) M false k := fun k ha => ⟨ha.1, ha.2.imp_right (O0.mon k)⟩
theorem sMCall {f : FuncId} {args : Array Operand} {ts : Array TypeId} {ds : List D} {r0 r1 : List (TypeId × Sq)} {b0 b1 : List (List D)} {d : D} (hop : o.op = .call { callee := .value (.func f), args := args, argTypes := ts }) (hp : MCall C.P f ds rk bk r0 r1 b0 b1 d) (hds : dstOk C.n o.dst = true)
  (hchk : mchk rk rids bk bids pids = true) (hrf : rfB s rids = true) (hf : Fresh s noB (newP rids pids)) (hr : pairOk s.r rids r0) (hb : pairOk s.b bids (b0.map fun cs => cs.map (renS (sgm bk bids) (sgm rk rids)))) (hfit : fitsM rk rids bk bids s args.toList ds)
  (h : K ((s.after rids pids r1 bids (b1.map fun cs => cs.map (renS (sgm bk bids) (sgm rk pids)))).put o.dst (ren (sgm bk bids) (sgm rk pids) d))) : Step C o s K := by
 refine sMCallAny hp hds (fun M a w hr => ?_) hchk hrf hf hr hb h
 refine ⟨args.map a.eval, ?_, ?_⟩
 ·have := hp.enter (args.map a.eval) w
  unfold execOp
  rw [hop]
  show ((do let d ← resolve a.eval _ o.type; invoke d.target d.args : Sem Next)).run C.P w = _
  simp only [resolve]
  show ((callFunc f ((#[] ++ args.map a.eval) ++ #[])) : Sem Next).run C.P w = _
  rw [show (#[] ++ args.map a.eval) ++ #[] = args.map a.eval by simp]
  exact this
 ·simp only [mchk, Bool.and_eq_true] at hchk
  obtain ⟨g1, g2⟩ := fitsM_ok (M := M) (w := w) (a := a) Rel.mon (Nat.eq_of_beq_eq_true hchk.1.1.1.1.1.1.1.1) (Nat.eq_of_beq_eq_true hchk.1.1.1.1.1.1.2) hchk.1.2 hr.ev hfit
  refine ⟨by simpa using g1, fun i d hd => ?_⟩
  obtain ⟨x, h1, h2⟩ := g2 i d hd
  rw [Array.getElem?_toList] at h1
  have : (args.map a.eval).getD i undef = a.eval x := by simp [h1]
  rw [this]; exact h2
end
end Go.Proofs.Ytcljhpldfanhkaa
namespace Go.Proofs.Ytcljhpldfanhkaa
open Go.RowKit Go.Deep
section
variable {C : Cx} {ops : Array Oper} {K : PS → Prop} {o : Oper} {rest : List Oper} {s s' : PS} {rk rids bk bids pids : List Nat} {tm : List (Nat × D)} {rw' : List (Nat × Option (TypeId × Sq))} {bx : List (Nat × Option (List D))}
theorem oMCall {f : FuncId} {args : Array Operand} {ts : Array TypeId} {ds : List D} {r0 r1 : List (TypeId × Sq)} {b0 b1 : List (List D)} {d : D} (hp : MCall C.P f ds rk bk r0 r1 b0 b1 d) (rids bids pids : List Nat) (hg : o.guard = none) (hop : o.op = .call { callee := .value (.func f), args := args, argTypes := ts }) (hn : dstOk C.n o.dst = true)
  (hchk : mchk rk rids bk bids pids = true) (hf : frB ⟨tm, rw', bx⟩ noB (newP rids pids) = true)
  (hnf : nf ((PS.after ⟨tm, rw', bx⟩ rids pids r1 bids (b1.map fun cs => cs.map (renS (sgm bk bids) (sgm rk pids)))).put o.dst (ren (sgm bk bids) (sgm rk pids) d)) = some s')
  (hr : pairOk (PS.r ⟨tm, rw', bx⟩) rids r0) (hb : pairOk (PS.b ⟨tm, rw', bx⟩) bids (b0.map fun cs => cs.map (renS (sgm bk bids) (sgm rk rids)))) (hfit : fitsM rk rids bk bids ⟨tm, rw', bx⟩ args.toList ds) (h : VO C ops K rest s') (hrf : rfB ⟨tm, rw', bx⟩ rids = true := by rfl) : VO C ops K (o :: rest) ⟨tm, rw', bx⟩ :=
 vOp hg (sMCall hop hp hn hchk hrf (frB_ok hf) hr hb hfit (vNf hnf h))
theorem oMCallG {f : FuncId} {args : Array Operand} {ts : Array TypeId} {ds : List D} {r0 r1 : List (TypeId × Sq)} {b0 b1 : List (List D)} {d : D} (hp : MCall C.P f ds rk bk r0 r1 b0 b1 d) (rids bids pids : List Nat) {j y : Nat} {want b' : Bool} (hg : o.guard = some (j, want)) (hgd : gdst ops j = some y) (hy : Nat.blt y C.n = true) (hs : (PS.t ⟨tm, rw', bx⟩ y) = .bool b') (hbb : b' = want)
  (hop : o.op = .call { callee := .value (.func f), args := args, argTypes := ts }) (hn : dstOk C.n o.dst = true)
  (hchk : mchk rk rids bk bids pids = true) (hf : frB ⟨tm, rw', bx⟩ noB (newP rids pids) = true)
  (hnf : nf ((PS.after ⟨tm, rw', bx⟩ rids pids r1 bids (b1.map fun cs => cs.map (renS (sgm bk bids) (sgm rk pids)))).put o.dst (ren (sgm bk bids) (sgm rk pids) d)) = some s')
  (hr : pairOk (PS.r ⟨tm, rw', bx⟩) rids r0) (hb : pairOk (PS.b ⟨tm, rw', bx⟩) bids (b0.map fun cs => cs.map (renS (sgm bk bids) (sgm rk rids)))) (hfit : fitsM rk rids bk bids ⟨tm, rw', bx⟩ args.toList ds) (h : VO C ops K rest s') (hrf : rfB ⟨tm, rw', bx⟩ rids = true := by rfl) : VO C ops K (o :: rest) ⟨tm, rw', bx⟩ :=
 vOpG hg hgd hy hs hbb (sMCall hop hp hn hchk hrf (frB_ok hf) hr hb hfit (vNf hnf h))
theorem capsOf_all {β : Nat → Option Nat} : ∀ {bs : List Nat}, (∀ b ∈ bs, ∃ k, β b = some k) → ∃ ks, capsOf β bs = some ks ∧ ks.length = bs.length ∧ ∀ (i b : Nat), bs[i]? = some b → β b = ks[i]?
 | [], _ => ⟨[], rfl, rfl, by simp⟩
 | b :: bs, h => by
  obtain ⟨k, hk⟩ := h b (by simp)
  obtain ⟨ks, h1, h2, h3⟩ := capsOf_all (bs := bs) fun x hx => h x (by simp [hx])
  refine ⟨k :: ks, by simp [capsOf, hk, h1], by simp [h2], fun i x hx => ?_⟩
  cases i with
  | zero => simp at hx; subst hx; simpa using hk
  | succ i => simpa using h3 i x (by simpa using hx)
theorem sMClo {f : FuncId} {x : Operand} {args : Array Operand} {ts : Array TypeId} {bs cs : List Nat} {ds : List D} {r0 r1 : List (TypeId × Sq)} {b0 b1 : List (List D)} {d : D} (hop : o.op = .call { callee := .value x, args := args, argTypes := ts }) (hx : s.ev x = .clo f bs)
  (hp : MCall C.P f (ds ++ cs.map fun b => .ptr b 0) rk bk r0 r1 b0 b1 d) (hcs : cs.map (sgm bk bids) = bs) (hin : cs.all (isInL bk) = true) (hds : dstOk C.n o.dst = true)
  (hchk : mchk rk rids bk bids pids = true) (hrf : rfB s rids = true) (hf : Fresh s noB (newP rids pids)) (hr : pairOk s.r rids r0) (hb : pairOk s.b bids (b0.map fun cs => cs.map (renS (sgm bk bids) (sgm rk rids)))) (hfit : fitsM rk rids bk bids s args.toList ds)
  (h : K ((s.after rids pids r1 bids (b1.map fun cs => cs.map (renS (sgm bk bids) (sgm rk pids)))).put o.dst (ren (sgm bk bids) (sgm rk pids) d))) : Step C o s K := by
 refine sMCallAny hp hds (fun M a w hr' => ?_) hchk hrf hf hr hb h
 simp only [mchk, Bool.and_eq_true] at hchk
 have lb := Nat.eq_of_beq_eq_true hchk.1.1.1.1.1.1.2
 have hev := hr'.ev x
 rw [hx] at hev
 have hbox : ∀ {l : List Nat} {m : List (List D)}, pairOk s.b l m → ∀ b ∈ l, ∃ k, M.β b = some k := by
  intro l
  induction l with
  | nil => intro m _ b hb; simp at hb
  | cons i l ih =>
   intro m hm b hb
   cases m with
   | nil => exact hm.elim
   | cons y m =>
    rcases List.mem_cons.1 hb with rfl | hb
    ·obtain ⟨k, cur, e, g, _⟩ := hr'.box b y hm.1
     exact ⟨k, g⟩
    ·exact ih hm.2 b hb
 have hmem : ∀ c ∈ cs, ∃ i, mp bk bids c = some i ∧ i ∈ bids := fun c hc => by
  simp only [List.all_eq_true] at hin
  obtain ⟨i, hi⟩ := mp_some lb (isIn_mem (hin c hc))
  exact ⟨i, hi, (mp_mem hi).2⟩
 obtain ⟨ks, k1, k2, k3⟩ := capsOf_all (β := M.β) (bs := bs) fun b hb' => by
  rw [← hcs, List.mem_map] at hb'
  obtain ⟨c, hc, rfl⟩ := hb'
  obtain ⟨i, hi, hi'⟩ := hmem c hc
  simp only [sgm, hi]
  exact hbox hb i hi'
 have hv : a.eval x = cloV f ks := by cases hev with | clo _ _ _ h1 h2 => exact h2 ks k1
 refine ⟨args.map a.eval ++ (ks.map fun k => Value.pointer (some ⟨k, 0, none⟩)).toArray, ?_, ?_⟩
 ·have := hp.enter (args.map a.eval ++ (ks.map fun k => Value.pointer (some ⟨k, 0, none⟩)).toArray) w
  unfold execOp
  rw [hop]
  show ((do let d ← resolve a.eval _ o.type; invoke d.target d.args : Sem Next)).run C.P w = _
  simp only [resolve, hv, cloV, Deferred.ofValue]
  show ((callFunc f ((#[] ++ args.map a.eval) ++ (ks.map fun k => Value.pointer (some ⟨k, 0, none⟩)).toArray)) : Sem Next).run C.P w = _
  rw [show (#[] ++ args.map a.eval) = args.map a.eval by simp]
  exact this
 ·obtain ⟨g1, g2⟩ := fitsM_ok (M := M) (w := w) (a := a) Rel.mon (Nat.eq_of_beq_eq_true hchk.1.1.1.1.1.1.1.1) lb hchk.1.2 hr'.ev hfit
  have hk : ks.length = cs.length := by rw [k2, ← hcs]; simp
  refine ⟨by simp at g1; simp [g1, hk], fun i d hd => ?_⟩
  by_cases hi : i < ds.length
  ·rw [List.getElem?_append_left hi] at hd
   obtain ⟨x, h1, h2⟩ := g2 i d hd
   rw [Array.getElem?_toList] at h1
   have hi2 : i < args.size := (Array.getElem?_eq_some_iff.1 h1).1
   have : (args.map a.eval ++ (ks.map fun k => Value.pointer (some ⟨k, 0, none⟩)).toArray).getD i undef = a.eval x := by
    have e1 : (args.map a.eval ++ (ks.map fun k => Value.pointer (some ⟨k, 0, none⟩)).toArray)[i]? = some (a.eval x) := by
     rw [Array.getElem?_append_left (by simpa using hi2)]; simp [h1]
    simp [e1]
   rw [this]; exact h2
  ·rw [List.getElem?_append_right (by omega)] at hd
   rw [List.getElem?_map] at hd
   obtain ⟨c, hc, rfl⟩ := Option.map_eq_some_iff.1 hd
   obtain ⟨i', hi', _⟩ := hmem c (List.mem_of_getElem? hc)
   have h5 : bs[i - ds.length]? = some i' := by rw [← hcs]; simp [hc, sgm, hi']
   have h6 := k3 _ _ h5
   have hlt : i - ds.length < cs.length := (List.getElem?_eq_some_iff.1 hc).1
   have hlen : args.size = ds.length := by simpa using g1
   have e1 : (args.map a.eval ++ (ks.map fun k => Value.pointer (some ⟨k, 0, none⟩)).toArray)[i]? = some (.pointer (some ⟨ks[i - ds.length]'(by omega), 0, none⟩)) := by
    rw [Array.getElem?_append_right (by simp; omega)]
    simp [hlen, show i - ds.length < ks.length from by omega]
   have : (args.map a.eval ++ (ks.map fun k => Value.pointer (some ⟨k, 0, none⟩)).toArray).getD i undef = .pointer (some ⟨ks[i - ds.length]'(by omega), 0, none⟩) := by simp [e1]
   rw [this]
   refine .ptr _ _ _ rfl fun k hk' => ?_
   simp only [subM, hi'] at hk'
   rw [h6, List.getElem?_eq_getElem (by omega)] at hk'
   cases hk'; rfl
theorem sMakeFunc {fn : FuncId} {caps : Array Operand} {bs : List Nat} {cd : List D} {b : Nat} (hop : o.op = .makeFunc (.func fn) #[] caps) (hd : o.dst = some b) (hc : caps.toList.map s.ev = cd) (hcd : cd = bs.map fun b => .ptr b 0) (hn : Nat.blt b C.n = true) (h : K (s.put (some b) (.clo fn bs))) : Step C o s K := by
 refine sRun (fun M a w hr => ?_) (by rw [hd]; exact hn) (by rw [hd]; exact h)
 refine ⟨.func (.func fn) #[] (caps.map a.eval), ?_, ?_⟩
 ·unfold execOp
  rw [hop]
  show ((do pure (Next.value (← Instr.makeFunc (.func fn) ((#[] : Array Operand).map a.eval) (caps.map a.eval)))) : Sem Next).run C.P w = _
  rw [show (#[] : Array Operand).map a.eval = #[] from by simp]
  rfl
 ·refine .clo _ _ _ rfl fun ks hk => ?_
  subst hcd
  unfold cloV
  congr 1
  have key : ∀ (l : List Operand) (bs : List Nat) (ks : List Nat), l.map s.ev = bs.map (fun b => D.ptr b 0) → capsOf M.β bs = some ks → l.map a.eval = ks.map fun k => Value.pointer (some ⟨k, 0, none⟩) := by
   intro l
   induction l with
   | nil => intro bs ks h1 h2; cases bs <;> simp at h1; simp [capsOf] at h2; subst h2; rfl
   | cons x l ih =>
    intro bs ks h1 h2
    cases bs with
    | nil => simp at h1
    | cons b bs =>
     simp only [List.map_cons, List.cons.injEq] at h1
     simp only [capsOf] at h2
     split at h2
     ·rename_i k ks' e1 e2
      cases h2
      have hv := hr.ev x
      rw [h1.1] at hv
      cases hv with
      | ptr _ _ _ g1 g2 => simp only [List.map_cons]; rw [g2 k e1, ih bs ks' h1.2 e2]
     ·cases h2
  apply Array.ext'
  rw [Array.toList_map]
  exact key caps.toList bs ks hc hk
theorem oMakeFunc (hg : o.guard = none) {fn : FuncId} {caps : Array Operand} (bs : List Nat) {b : Nat} (hop : o.op = .makeFunc (.func fn) #[] caps) (hd : o.dst = some b) (hc : caps.toList.map (PS.ev ⟨tm, rw', bx⟩) = bs.map fun b => .ptr b 0) (hn : Nat.blt b C.n = true) (h : VO C ops K rest ⟨(b, .clo fn bs) :: tm, rw', bx⟩) : VO C ops K (o :: rest) ⟨tm, rw', bx⟩ :=
 vOp hg (sMakeFunc hop hd hc rfl hn h)
end
theorem sc_unA {rk rids bk bids : List Nat} (hl : rk.length = rids.length) (hb : bk.length = bids.length) {N M : Mp} {A A' : Bool → Nat → Prop} {w w' : World}
  (hγ : ∀ r i x, mp rk rids r = some i → N.γ r = some x → M.γ i = some x) (hβ : ∀ r i x, mp bk bids r = some i → N.β r = some x → M.β i = some x)
  (hA : ∀ f b, b < w.heap.size → A f b → A' f b ∧ b < w'.heap.size ∧ w'.heap[b]? = w.heap[b]?) {d : D} {v : Value} (h : VR M A w (renA (sgm bk bids) (sgm rk rids) d) v) (hs : scA rk bk d = true) : VR N A' w' d v := by
 cases d with
 | agg l =>
  cases h with | agg _ us hl' h =>
  refine .agg _ us (by simpa using hl') fun i d hd => ?_
  simp only [scA, List.all_eq_true] at hs
  exact sc_un hl hb hγ hβ hA (h i (renS (sgm bk bids) (sgm rk rids) d) (by rw [List.getElem?_map, hd]; rfl)) (hs d (List.mem_of_getElem? hd))
 | _ => exact sc_un hl hb hγ hβ hA h hs
theorem sc_unT {rk rids bk bids : List Nat} (hl : rk.length = rids.length) (hb : bk.length = bids.length) {N M : Mp} {A A' : Bool → Nat → Prop} {w w' : World}
  (hγ : ∀ r i x, mp rk rids r = some i → N.γ r = some x → M.γ i = some x) (hβ : ∀ r i x, mp bk bids r = some i → N.β r = some x → M.β i = some x)
  (hA : ∀ f b, b < w.heap.size → A f b → A' f b ∧ b < w'.heap.size ∧ w'.heap[b]? = w.heap[b]?) {d : D} {v : Value} (h : VR M A w (ren (sgm bk bids) (sgm rk rids) d) v) (hs : scT rk bk d = true) : VR N A' w' d v := by
 cases d with
 | tup l =>
  cases h with | tup _ us hl' h =>
  refine .tup _ us (by simpa using hl') fun i d hd => ?_
  simp only [scT, List.all_eq_true] at hs
  exact sc_unA hl hb hγ hβ hA (h i (renA (sgm bk bids) (sgm rk rids) d) (by rw [List.getElem?_map, hd]; rfl)) (hs d (List.mem_of_getElem? hd))
 | _ => exact sc_unA hl hb hγ hβ hA h hs
def fixI : List Nat → List Nat → Bool
 | k :: rk, i :: ids => (Nat.blt k 1000000 || Nat.beq k i) && fixI rk ids
 | _, _ => true
theorem fixI_ok : ∀ {rk ids : List Nat} {k i : Nat}, fixI rk ids = true → mp rk ids k = some i → 1000000 ≤ k → i = k
 | [], ids, k, i, _, h, _ => by simp [mp] at h
 | k' :: rk, [], k, i, _, h, _ => by simp [mp] at h
 | k' :: rk, i' :: ids, k, i, hf, h, hk => by
  simp only [fixI, Bool.and_eq_true, Bool.or_eq_true] at hf
  by_cases he : k' = k
  ·subst he
   rw [mp_cons_self] at h
   cases h
   rcases hf.1 with h1 | h1
   ·rw [Nat.blt_eq] at h1; omega
   ·exact (Nat.eq_of_beq_eq_true h1).symm
  ·rw [mp_cons_ne he] at h
   exact fixI_ok hf.2 h hk
def RetM (TT : List (Nat × Ty)) (res : List ResultVar) (rk bk : List Nat) (r1 : List (TypeId × Sq)) (b1 : List (List D)) (d : D) : Exit → PS → Prop := fun e s => match e with
 | .normal | .ret => ∃ ids, retD TT s res = some (ren (sgm bk bk) (sgm rk ids) d) ∧ pairOk s.r ids r1 ∧ pairOk s.b bk (b1.map fun cs => cs.map (renS (sgm bk bk) (sgm rk ids))) ∧ (Nat.beq rk.length ids.length && nodupB ids && fixI rk ids && famB rk ids) = true
 | _ => False
theorem pairOk_in {α : Type} {f : Nat → Option α} : ∀ {l : List Nat} {m : List α}, pairOk f l m → ∀ x ∈ l, ∃ y, f x = some y
 | [], _, _, x, h => by simp at h
 | i :: l, [], h, _, _ => h.elim
 | i :: l, y :: m, h, x, hx => by
  rcases List.mem_cons.1 hx with rfl | hx
  ·exact ⟨y, h.1⟩
  ·exact pairOk_in h.2 x hx
theorem mcall_intro {P : Program} {f : FuncId} {fn : Func} {c : Code} {TT : List (Nat × Ty)} {ds : List D} {rk bk : List Nat} {r0 r1 : List (TypeId × Sq)} {b0 b1 : List (List D)} {d : D} {n : Nat} {res : List ResultVar} (hT : TTOK P TT) (hf : P.funcs[f]? = some fn) (hb : fn.body = some c)
  (hname : (fn.name == "runtime.NumGoroutine") = false) (hn : fn.ntmps = n) (hres : fn.results.toList = res) (hds : Nat.ble ds.length n = true)
  (hlen : (Nat.beq rk.length r0.length && Nat.beq rk.length r1.length && Nat.beq bk.length b0.length && Nat.beq bk.length b1.length && nodupB rk && nodupB bk && bk.all (Nat.ble 1000000) && conR rk r1) = true) (hc0 : conB rk bk b0 = true) (hc1 : conB rk bk b1 = true) (hd : scT rk bk d = true)
  (h : ∀ w0 O0, VC ⟨P, w0, O0, n⟩ c (RetM TT res rk bk r1 b1 d) ⟨entL 0 ds, asL rk r0, asL bk b0⟩) (hn1000 : Nat.ble n 1000 = true := by rfl) : MCall P f ds rk bk r0 r1 b0 b1 d := by
 subst hn hres
 simp only [Bool.and_eq_true] at hlen
 obtain ⟨⟨⟨⟨⟨⟨⟨l1, l2⟩, l3⟩, l4⟩, l5⟩, l6⟩, l7⟩, l8⟩ := hlen
 have m1 := Nat.eq_of_beq_eq_true l1
 have m2 := Nat.eq_of_beq_eq_true l2
 have m3 := Nat.eq_of_beq_eq_true l3
 have m4 := Nat.eq_of_beq_eq_true l4
 refine ⟨callFunc_of hf hname (by simp [hb]), ⟨m1, m2, m3, m4⟩, hc0, hc1, l8, hd, ⟨l5, l6⟩, fun w0 N args A hAN hmon pre ⟨hsz, hargs⟩ => ?_⟩
 have hle := Nat.le_of_ble_eq_true hds
 let O0 : Hd := ⟨N.owned, fun f k => A f k ∨ N.owned k, fun _ _ h => .inr h, fun k h => h.imp_left (hmon k), fun b => if 1000000 ≤ b then N.β b else none, fun r => if 1000000 ≤ r ∧ r < BIG then N.γ r else none,
  (fun b k hk => by split at hk <;> first | assumption | cases hk), (fun r x hx => by split at hx <;> first | assumption | cases hx)⟩
 have hA : ∀ f b, b < w0.heap.size → A f b → Ow (Fs w0 O0) N f b ∧ b < w0.heap.size ∧ w0.heap[b]? = w0.heap[b]? := fun f b h1 h2 => ⟨⟨hAN f b h2, .inr (.inl h2)⟩, h1, rfl⟩
 have hent : Rel w0 O0 fn.ntmps N ⟨entL 0 ds, asL rk r0, asL bk b0⟩ { tmps := args ++ Array.replicate (fn.ntmps - args.size) undef, defers := [] } w0 := by
  refine ⟨⟨rfl, rfl, rfl, Nat.le_refl _, fun _ _ _ => rfl⟩, rfl, by simp; omega, fun t => ?_, fun b cs hb => ?_, pre.boxn, fun r e q hr => ?_, pre.rown, fun k hk => .inr hk, pre.inj1, pre.inj2, pre.inj3, Nat.le_of_ble_eq_true hn1000, fun b k k' h1 h2 => ?_, fun r x x' h1 h2 => ?_⟩
  ·simp only [PS.t, look_entL, Nat.zero_le, if_true, Nat.sub_zero]
   cases hd : ds[t]? with
   | none => exact .dead _
   | some d0 =>
    have hlt : t < args.size := by rw [hsz]; exact (List.getElem?_eq_some_iff.1 hd).1
    have h1 := hargs t d0 hd
    have h2 : (args ++ Array.replicate (fn.ntmps - args.size) undef).getD t undef = args.getD t undef := by
     simp [Array.getElem?_append_left hlt]
    rw [h2]
    exact h1.mono hA (fun _ _ h => h) (fun _ _ h => h)
  ·obtain ⟨k, cur, e, g1, g2, g3, g4⟩ := pre.box b cs hb
   exact ⟨k, cur, e, g1, g2, g3, fun j d hj => (g4 j d hj).mono hA (fun _ _ h => h) (fun _ _ h => h)⟩
  ·rcases pre.row r e q hr with ⟨g1, g2⟩ | ⟨g, cap, cur, g1, g2, g3, g4, g5, g6⟩
   ·exact .inl ⟨g1, g2⟩
   ·exact .inr ⟨g, cap, cur, g1, g2, g3, g4, g5, fun i j d hi hj => (g6 i j d hi hj).mono hA (fun _ _ h => h) (fun _ _ h => h)⟩
  ·simp only [O0] at h1
   split at h1
   ·rw [h1] at h2; cases h2; rfl
   ·cases h1
  ·simp only [O0] at h1
   split at h1
   ·rw [h1] at h2; cases h2; rfl
   ·cases h1
 refine calls_of_wp hf hb (Code.wp_mono ?_ ((h w0 O0).out N _ w0 hent))
 rintro e a' w' ⟨s', M', hq, hr⟩
 have fin : ∀ (hq : ∃ ids, retD TT s' fn.results.toList = some (ren (sgm bk bk) (sgm rk ids) d) ∧ pairOk s'.r ids r1 ∧ pairOk s'.b bk (b1.map fun cs => cs.map (renS (sgm bk bk) (sgm rk ids))) ∧ (Nat.beq rk.length ids.length && nodupB ids && fixI rk ids && famB rk ids) = true),
   a'.defers = [] ∧ ∃ v, (results fn a'.tmps).run P w' = .ok v w' ∧ ∃ v', Ending.returned v = .returned v' ∧ ∃ N', HasM (A2 A w0 N N') N' ⟨[], asL rk r1, asL bk b1⟩ w' ∧ (∀ b, N'.β b = N.β b) ∧ (∀ r, 1000000 ≤ r → r < BIG → N'.γ r = N.γ r) ∧
    (∀ k, N'.owned k → N.owned k ∨ w0.heap.size ≤ k) ∧ w'.os = w0.os ∧ w'.tape = w0.tape ∧ w'.output = w0.output ∧ w0.heap.size ≤ w'.heap.size ∧ (∀ k, k < w0.heap.size → ¬ N.owned k → w'.heap[k]? = w0.heap[k]?) ∧ VR N' (A2 A w0 N N') w' d v' := by
  rintro ⟨ids, h1, h2, h3, h4⟩
  obtain ⟨v, h6, h7⟩ := ret_ok hT hr h1
  simp only [Bool.and_eq_true] at h4
  have k1 := Nat.eq_of_beq_eq_true h4.1.1.1
  have hAA : ∀ f k, k < w'.heap.size → Ow (Fs w0 O0) M' f k → A2 A w0 N (subM M' rk ids bk bk) f k := fun f k _ ho => by
   refine ⟨?_, fun h => ho.1 (subM_own h)⟩
   rcases ho.2 with g | g | g
   ·exact .inr (.inl g)
   ·exact .inl g
   ·exact .inr (.inr g)
  have hs := hr.sub (A' := A2 A w0 N (subM M' rk ids bk bk)) hAA k1 rfl h2 h3 hc1 h4.1.1.2 l6 h4.2
  have hself : ∀ {l : List Nat} {x : Nat}, x ∈ l → mp l l x = some x := by
   intro l
   induction l with
   | nil => intro x hx; simp at hx
   | cons y l ih =>
    intro x hx
    by_cases hy : y = x
    ·subst hy; exact mp_cons_self _ _ _ _
    ·rw [mp_cons_ne hy]; exact ih (by simpa [Ne.symm hy] using hx)
  refine ⟨hr.dfr, v, h6, v, rfl, subM M' rk ids bk bk, hs, fun b => ?_, fun r hr1 hr2 => ?_, fun k hk => ?_, hr.fr.os, hr.fr.tape, hr.fr.output, hr.fr.size, fun k g1 g2 => hr.fr.block k g1 g2, ?_⟩
  ·by_cases hb' : b ∈ bk
   ·simp only [subM, hself hb']
    obtain ⟨y, hy⟩ := pairOk_in h3 b hb'
    obtain ⟨k, cur, e, g1, _⟩ := hr.box b y hy
    have hge : 1000000 ≤ b := by
     have := (List.all_eq_true.1 l7) b hb'
     exact Nat.le_of_ble_eq_true this
    obtain ⟨z, hz⟩ : ∃ z, (PS.b ⟨entL 0 ds, asL rk r0, asL bk b0⟩ b) = some z := by
     rcases asL_look2 (k := bk) (i := bk) (x := b0) (r := b) rfl m3 with ⟨_, e2⟩ | ⟨y, j, e1, _, _⟩
     ·rw [hself hb'] at e2; cases e2
     ·exact ⟨y, by simp [PS.b, e1]⟩
    obtain ⟨k', cur', e', g1', _⟩ := pre.box b z hz
    have := hr.fxb b k' k (by simp [O0, hge, g1']) g1
    rw [g1, g1', this]
   ·have e1 : mp bk bk b = none := by
     cases hm : mp bk bk b with
     | none => rfl
     | some i => exact absurd (mp_mem hm).1 hb'
    simp only [subM, e1]
    refine (pre.boxn b ?_).symm
    simp [PS.b, asL_none m3 hb']
  ·have hb0 : Nat.ble BIG r = false := by
    cases hb : Nat.ble BIG r with
    | false => rfl
    | true => have := Nat.le_of_ble_eq_true hb; omega
   by_cases hrk : r ∈ rk
   ·obtain ⟨i, hi⟩ := mp_some k1 hrk
    have := fixI_ok h4.1.2 hi hr1
    subst this
    simp only [subM, mpI_mp h4.2 hi]
    obtain ⟨⟨e0, q0⟩, hq0⟩ : ∃ z, (PS.r ⟨entL 0 ds, asL rk r0, asL bk b0⟩ i) = some z := by
     rcases asL_look2 (k := rk) (i := rk) (x := r0) (r := i) rfl m1 with ⟨_, e2⟩ | ⟨y, j, e1, _, _⟩
     ·rw [hself hrk] at e2; cases e2
     ·exact ⟨y, by rw [PS.r_lo _ hb0]; simp [e1]⟩
    obtain ⟨x, hx⟩ : ∃ x, N.γ i = some x := by
     rcases pre.row i e0 q0 hq0 with ⟨g1, _⟩ | ⟨g, cap, cur, g1, _⟩
     ·exact ⟨_, g1⟩
     ·exact ⟨_, g1⟩
    obtain ⟨⟨e1, q1⟩, hq1⟩ := pairOk_in h2 i (mp_mem hi).2
    obtain ⟨x', hx'⟩ : ∃ x, M'.γ i = some x := by
     rcases hr.row i e1 q1 hq1 with ⟨g1, _⟩ | ⟨g, cap, cur, g1, _⟩
     ·exact ⟨_, g1⟩
     ·exact ⟨_, g1⟩
    have := hr.fxr i x x' (by simp [O0, hr1, hr2, hx]) hx'
    rw [hx, hx', this]
   ·have e1 : mp rk ids r = none := by
     cases hm : mp rk ids r with
     | none => rfl
     | some i => exact absurd (mp_mem hm).1 hrk
    simp only [subM, mpI_lo hb0, e1]
    refine (pre.rown r ?_).symm
    rw [PS.r_lo _ hb0]
    simp [asL_none m1 hrk]
  ·exact (hr.low k (subM_own hk)).symm
  ·refine sc_unT (rk := rk) (rids := ids) (bk := bk) (bids := bk) k1 rfl (fun r i x g1 g2 => ?_) (fun r i x g1 g2 => ?_) (fun f k g1 g2 => ⟨hAA f k g1 g2, g1, rfl⟩) h7 hd
   ·simp only [subM, mpI_mp h4.2 g1] at g2; exact g2
   ·simp only [subM, g1] at g2; exact g2
 cases e with
 | normal => exact fin hq
 | ret => exact fin hq
 | _ => exact hq.elim
def sgI (l m : List Nat) (r : Nat) : Nat := match mp l m r with | some i => i | none => r
def eqT (s : PS) (τ : Nat → Nat) : List (Nat × D) → Prop
 | [] => True
 | (t, d) :: l => (d = .dead ∨ s.t t = ren id τ d) ∧ eqT s τ l
def eqR (s : PS) (τ : Nat → Nat) : List (Nat × Option (TypeId × Sq)) → Prop
 | [] => True
 | (r, x) :: l => (x = none ∨ s.r (τ r) = x) ∧ eqR s τ l
def eqC (τ : Nat → Nat) : List D → List D → Prop
 | [], [] => True
 | a :: l, b :: m => (b = .dead ∨ a = renS id τ b) ∧ eqC τ l m
 | _, _ => False
theorem eqC_ok {τ : Nat → Nat} : ∀ {l m : List D}, eqC τ l m → l.length = m.length ∧ ∀ (j : Nat) d, m[j]? = some d → d = .dead ∨ l[j]? = some (renS id τ d)
 | [], [], _ => ⟨rfl, by simp⟩
 | a :: l, b :: m, h => by
  obtain ⟨h1, h2⟩ := eqC_ok h.2
  refine ⟨by simp [h1], fun j d hd => ?_⟩
  cases j with
  | zero => simp at hd; subst hd; simpa using h.1
  | succ j => simpa using h2 j d (by simpa using hd)
 | [], _ :: _, h => h.elim
 | _ :: _, [], h => h.elim
def eqB (s : PS) (τ : Nat → Nat) : List (Nat × Option (List D)) → Prop
 | [] => True
 | (b, x) :: l => (x = none ∨ ∃ cs0 cs, x = some cs ∧ s.b b = some cs0 ∧ eqC τ cs0 cs) ∧ eqB s τ l
def tidy (s : PS) : Bool := s.tmp.all (fun p => !ment noB noB p.2) && s.box.all (fun p => match p.2 with | some cs => cs.all (fun d => !mentS noB noB d) | none => true)
theorem eqT_ok {s : PS} {τ : Nat → Nat} : ∀ {l : List (Nat × D)}, eqT s τ l → ∀ t d, look l t = some d → d = .dead ∨ s.t t = ren id τ d
 | [], _, t, d, h => by simp [look] at h
 | (k, x) :: l, h, t, d, hl => by
  by_cases hk : k = t
  ·subst hk; rw [look_cons_self] at hl; cases hl; exact h.1
  ·rw [look_cons_ne hk] at hl; exact eqT_ok h.2 t d hl
theorem eqR_ok {s : PS} {τ : Nat → Nat} : ∀ {l : List (Nat × Option (TypeId × Sq))}, eqR s τ l → ∀ r x, look l r = some (some x) → s.r (τ r) = some x
 | [], _, t, d, h => by simp [look] at h
 | (k, y) :: l, h, r, x, hl => by
  by_cases hk : k = r
  ·subst hk; rw [look_cons_self] at hl; cases hl; exact h.1.resolve_left (by simp)
  ·rw [look_cons_ne hk] at hl; exact eqR_ok h.2 r x hl
theorem eqB_ok' {s : PS} {τ : Nat → Nat} : ∀ {l : List (Nat × Option (List D))}, eqB s τ l → ∀ b cs, look l b = some (some cs) → ∃ cs0, s.b b = some cs0 ∧ eqC τ cs0 cs
 | [], _, t, d, h => by simp [look] at h
 | (k, y) :: l, h, b, cs, hl => by
  by_cases hk : k = b
  ·subst hk; rw [look_cons_self] at hl; cases hl
   rcases h.1 with h1 | ⟨cs0, cs', h1, h2, h3⟩
   ·cases h1
   ·cases h1; exact ⟨cs0, h2, h3⟩
  ·rw [look_cons_ne hk] at hl; exact eqB_ok' h.2 b cs hl
def renOk (l m : List Nat) (s' : PS) : Bool := tidy s' && nodupB (s'.row.map fun p => sgI l m p.1) && (s'.row.all fun p => (Nat.blt p.1 1000000 || Nat.beq (sgI l m p.1) p.1)) && l.all notF && m.all notF
theorem En.ren {C : Cx} {s s' : PS} (l m : List Nat) (hc : renOk l m s' = true) (h1 : eqT s (sgI l m) s'.tmp) (h2 : eqR s (sgI l m) s'.row) (h3 : eqB s (sgI l m) s'.box) : En C s s' := ⟨fun M a w h => by
 simp only [renOk, tidy, Bool.and_eq_true, List.all_eq_true] at hc
 obtain ⟨⟨⟨⟨⟨c1, c2⟩, c3⟩, c4⟩, c5⟩, c6⟩ := hc
 have hsb : ∀ x, Nat.ble BIG x = true → sgI l m x = x := fun x hb => by
  unfold sgI
  cases hm : mp l m x with
  | none => rfl
  | some i =>
   have := notF_big (c5 x (mp_mem hm).1)
   rw [hb] at this; cases this
 have hsl : ∀ x, Nat.ble BIG x = false → Nat.ble BIG (sgI l m x) = false := fun x hb => by
  unfold sgI
  cases hm : mp l m x with
  | none => exact hb
  | some i => exact notF_big (c6 i (mp_mem hm).2)
 let M' : Mp := ⟨fun b => if (s'.b b).isSome then M.β b else none, fun r => if (s'.r r).isSome then M.γ (sgI l m r) else none⟩
 have hβ : ∀ b k, M'.β b = some k → M.β (id b) = some k := fun b k hk => by simp only [M'] at hk; split at hk; exact hk; cases hk
 have hγ : ∀ r x, M'.γ r = some x → M.γ (sgI l m r) = some x := fun r x hx => by simp only [M'] at hx; split at hx; exact hx; cases hx
 have hown : ∀ k, M'.owned k → M.owned k := by
  rintro k (⟨b, hb⟩ | ⟨r, c, z, hr⟩)
  ·exact .inl ⟨b, hβ b k hb⟩
  ·exact .inr ⟨_, c, z, hγ r _ hr⟩
 have hA : ∀ f b, b < w.heap.size → Ow (Fs C.w0 C.O0) M f b → Ow (Fs C.w0 C.O0) M' f b := fun f b _ h1 => ⟨fun h => h1.1 (hown b h), h1.2⟩
 have hA' : ∀ f b, b < w.heap.size → Ow (Fs C.w0 C.O0) M f b → Ow (Fs C.w0 C.O0) M' f b ∧ b < w.heap.size ∧ w.heap[b]? = w.heap[b]? := fun f b h1 h2 => ⟨hA f b h1 h2, h1, rfl⟩
 have hrow : ∀ r x, Nat.ble BIG r = false → s'.r r = some x → look s'.row r = some (some x) := fun r x hb hx => by
  rw [PS.r_lo _ hb] at hx
  cases hl : look s'.row r with
  | none => rw [hl] at hx; cases hx
  | some y => rw [hl] at hx; simp only at hx; rw [hx]
 have hsr : ∀ r x, s'.r r = some x → s.r (sgI l m r) = some x := fun r x hx => by
  cases hb : Nat.ble BIG r with
  | false => exact eqR_ok h2 r x (hrow r x hb hx)
  | true =>
   rw [hsb r hb]
   rw [PS.r_hi _ hb, PS.inn_r] at hx ⊢
   cases h3 : s'.r (FK + unF r) with
   | none => rw [h3] at hx; cases hx
   | some z =>
    have g := hrow _ z (fk_big r) h3
    have g2 := eqR_ok h2 _ z g
    have g3 := c4 _ (look_mem g)
    simp only [Bool.or_eq_true, Nat.blt_eq] at g3
    have g4 : sgI l m (FK + unF r) = FK + unF r := by
     rcases g3 with g3 | g3
     ·have : FK ≤ FK + unF r := Nat.le_add_right _ _
      have h5 : FK < 1000000 := by omega
      exact absurd h5 (by decide)
     ·exact Nat.eq_of_beq_eq_true g3
    rw [g4] at g2
    rw [g2, ← h3]; exact hx
 have inj : ∀ r r', (s'.r r).isSome = true → (s'.r r').isSome = true → sgI l m r = sgI l m r' → r = r' := by
  intro r r' e1 e2 e3
  obtain ⟨x, hx⟩ := Option.isSome_iff_exists.1 e1
  obtain ⟨y, hy⟩ := Option.isSome_iff_exists.1 e2
  cases hb : Nat.ble BIG r with
  | true =>
   cases hb' : Nat.ble BIG r' with
   | true => rw [hsb r hb, hsb r' hb'] at e3; exact e3
   | false => have := hsl r' hb'; rw [← e3, hsb r hb, hb] at this; cases this
  | false =>
  cases hb' : Nat.ble BIG r' with
  | true => have := hsl r hb; rw [e3, hsb r' hb', hb'] at this; cases this
  | false =>
  have i1 := look_mem (hrow r x hb hx)
  have i2 := look_mem (hrow r' y hb' hy)
  obtain ⟨a1, b1, g1⟩ := List.getElem_of_mem i1
  obtain ⟨a2, b2, g2⟩ := List.getElem_of_mem i2
  have := nodupB_ok c3 a1 a2 (by simpa using b1) (by simpa using b2) (by simp [List.getD, b1, b2, g1, g2, e3])
  subst this
  rw [g1] at g2
  exact (Prod.mk.inj g2).1
 have hbig : ∀ x y, BIG ≤ x → M'.γ x = some y → M.γ x = some y := fun x y hx hy => by
  have := hγ x y hy
  rwa [hsb x (Nat.ble_eq_true_of_le hx)] at this
 refine ⟨M', h.fr, h.dfr, h.sz, fun t => ?_, fun b cs hb => ?_, fun b hb => ?_, fun r e q hr => ?_, fun r hr => ?_, fun k hk => h.low k (hown k hk), fun b b' k h1 h2 => h.inj1 b b' k (hβ _ _ h1) (hβ _ _ h2),
  fun r r' k c z c' z' g1 g2 => ?_, fun b r k c z h1 h2 => h.inj3 b _ k c z (hβ _ _ h1) (hγ _ _ h2), h.nle, fun b k k' h1 h2 => h.fxb b k k' h1 (hβ _ _ h2), fun r x x' g1 g2 => ?_⟩
 ·simp only [PS.t]
  cases hl : look s'.tmp t with
  | none => exact .dead _
  | some d =>
   rcases eqT_ok h1 t d hl with hd | hd
   ·rw [hd]; exact .dead _
   ·have hv := h.tmp t
    rw [hd] at hv
    have hm := c1 _ (look_mem hl)
    exact VR.unren (M := M') (M' := M) hγ hβ hA (by simpa using hm) hv hbig
 ·have hl : look s'.box b = some (some cs) := by
   simp only [PS.b] at hb
   cases hl : look s'.box b with
   | none => rw [hl] at hb; cases hb
   | some y => rw [hl] at hb; simp only at hb; rw [hb]
  obtain ⟨cs0, d1, d2⟩ := eqB_ok' h3 b cs hl
  obtain ⟨k, cur, e, a1, a2, a3, a4⟩ := h.box b _ d1
  obtain ⟨d3, d4⟩ := eqC_ok d2
  refine ⟨k, cur, e, by simp [M', hb, a1], a2, by omega, fun j d hd => ?_⟩
  have hm := c2 _ (look_mem hl)
  simp only [List.all_eq_true] at hm
  rcases d4 j d hd with d5 | d5
  ·rw [d5]; exact .dead _
  ·exact VR.unrenS (M := M') (M' := M) hγ hβ hA (by simpa using hm d (List.mem_of_getElem? hd)) (a4 j (renS id (sgI l m) d) d5) hbig
 ·simp [M', hb]
 ·have g := hsr r (e, q) hr
  rcases h.row _ e q g with ⟨a1, a2⟩ | ⟨gg, cap, cur, a1, a2, a3, a4, a5, a6⟩
  ·exact .inl ⟨by simp [M', hr, a1], a2⟩
  ·exact .inr ⟨gg, cap, cur, by simp [M', hr, a1], a2, a3, a4, a5, fun i j d hi hd => (a6 i j d hi hd).relem_any hd hA' hbig⟩
 ·simp [M', hr]
 ·have e1 : (s'.r r).isSome = true := by simp only [M'] at g1; split at g1; assumption; cases g1
  have e2 : (s'.r r').isSome = true := by simp only [M'] at g2; split at g2; assumption; cases g2
  exact inj r r' e1 e2 (h.inj2 _ _ _ _ _ _ _ (hγ _ _ g1) (hγ _ _ g2))
 ·obtain ⟨h5, h5'⟩ := C.O0.lor r x g1
  have hb : Nat.ble BIG r = false := by
   cases hb : Nat.ble BIG r with
   | false => rfl
   | true => have := Nat.le_of_ble_eq_true hb; omega
  have e1 : (s'.r r).isSome = true := by simp only [M'] at g2; split at g2; assumption; cases g2
  obtain ⟨y, hy⟩ := Option.isSome_iff_exists.1 e1
  have h6 := c4 _ (look_mem (hrow r y hb hy))
  simp only [Bool.or_eq_true, Nat.blt_eq] at h6
  rcases h6 with h6 | h6
  ·omega
  ·have h7 := hγ _ _ g2
   rw [Nat.eq_of_beq_eq_true h6] at h7
   exact h.fxr r x x' g1 h7⟩
theorem En.freeze {C : Cx} {tm : List (Nat × D)} {rw' : List (Nat × Option (TypeId × Sq))} {bx : List (Nat × Option (List D))} {s' : PS} (t : Nat) {r m : Nat} {e : TypeId} {q : Sq} (ht : (PS.t ⟨tm, rw', bx⟩ t) = .row r 0 m) (hr : (PS.r ⟨tm, rw', bx⟩ r) = some (e, q)) (hnf : nf ⟨(t, .ro true q) :: (PS.kill ⟨tm, rw', bx⟩ r).tmp, (r, none) :: rw', (PS.kill ⟨tm, rw', bx⟩ r).box⟩ = some s') (hm : m = q.len) (hF : notF r = true := by rfl) : En C ⟨tm, rw', bx⟩ s' := ⟨fun M a w hrl => by
 obtain ⟨M', h'⟩ := hrl.freeze ht hr hm hF
 rw [nf_ok hnf]
 exact ⟨M', h'⟩⟩
end Go.Proofs.Ytcljhpldfanhkaa
namespace Go.Proofs.Ytcljhpldfanhkaa
open Go.RowKit Go.Deep
section
variable {C : Cx} {ops : Array Oper} {K : PS → Prop} {o : Oper} {rest : List Oper} {s s' : PS} {TT : List (Nat × Ty)} {tm : List (Nat × D)} {rw' : List (Nat × Option (TypeId × Sq))} {bx : List (Nat × Option (List D))} {cr B : List Nat} {j : Nat}
theorem sEmpty (hT : TTOK C.P TT) {t e : TypeId} {k : Sq} {by' b : Nat} (hop : o.op = .buildSlice t 0 #[]) (hd : o.dst = some b) (hy : look TT t = some (.sl e k by')) (hn : Nat.blt b C.n = true) (h : K (s.put (some b) .nil)) : Step C o s K := ⟨fun M a w Q K' hr hk => by
 have hrun : (execOp a.eval o).run C.P w = .ok (.value (.slice (some ⟨w.heap.size, 0, none⟩) 0 0)) (w.alloc (.cells #[] e)) := by
  have := run_buildSlice (hT t _ hy) w 0 #[] #[] (by omega) (fun cells hc => by
   have : cells = #[] := by apply Array.eq_empty_of_size_eq_zero; simpa using hc
   subst this; rfl)
  unfold execOp
  rw [hop]
  show ((do pure (Next.value (← Instr.buildSlice t 0 ((#[] : Array (Nat × Operand)).map fun (p : Nat × Operand) => (p.1, a.eval p.2)))) : Sem Next)).run C.P w = _
  rw [show (#[] : Array (Nat × Operand)).map (fun (p : Nat × Operand) => (p.1, a.eval p.2)) = #[] from by simp, Sem.run_bind, this]
  rfl
 unfold Oper.wp
 rw [hrun]
 have h1 : Rel C.w0 C.O0 C.n M s a (w.alloc (.cells #[] e)) := hr.later rfl rfl rfl (by simp) fun k h1 => Below.heap_alloc w _ k h1
 exact hk M _ _ _ h (by rw [hd]; exact h1.put hn (.nil _))⟩
theorem klS_id {r : Nat} {d : D} (h : mentS noB (isR r) d = false) (hF : notF r = true) : klS r d = d := by
 have hb : ∀ x, isR r x = false → Nat.beq x r = false := fun x hx => by
  cases hh : Nat.beq x r with
  | false => rfl
  | true => rw [Nat.eq_of_beq_eq_true hh] at hx; simp [isR, Nat.beq_refl] at hx
 cases d <;> simp only [mentS] at h <;> try rfl
 ·simp [klS, hb _ h]
 ·simp [klS, hb _ h]
 ·cases h
 ·cases h
 ·simp only [klS, notF_big hF]
 ·simp only [klS, notF_big hF]
theorem klA_id {r : Nat} {d : D} (h : mentA noB (isR r) d = false) (hF : notF r = true) : klA r d = d := by
 cases d with
 | agg l =>
  simp only [mentA, List.any_eq_false] at h
  simp only [klA]
  congr 1
  conv => rhs; rw [← List.map_id l]
  exact List.map_congr_left fun x hx => klS_id (by simpa using h x hx) hF
 | _ => exact klS_id (by simpa only [mentA] using h) hF
theorem kl_id {r : Nat} {d : D} (h : ment noB (isR r) d = false) (hF : notF r = true) : kl r d = d := by
 cases d with
 | tup l =>
  simp only [ment, List.any_eq_false] at h
  simp only [kl]
  congr 1
  conv => rhs; rw [← List.map_id l]
  exact List.map_congr_left fun x hx => klA_id (by simpa using h x hx) hF
 | _ => exact klA_id (by simpa only [ment] using h) hF
theorem sAppNil (hT : TTOK C.P TT) {t e : TypeId} {k q2 q' : Sq} {by' b : Nat} {x y : Operand} {f : Bool} (hop : o.op = .call { callee := .builtin .append, args := #[x, y], argTypes := #[t, t] }) (hd : o.dst = some b) (hy : look TT t = some (.sl e k by'))
  (hx : s.ev x = .nil) (hk0 : Nat.beq k.len 0 = true) (hf : Fresh s noB (isR b)) (hyy : s.ev y = .ro f q2) (hs : ∀ s, srcSq s (.ro f q2) = some (True, q2)) (happ : k.app q2 = some q') (hb : Nat.ble by' 32 = true) (hn : Nat.blt b C.n = true)
  (hbd : q2.len ≤ 4294967296) (h : K ((s.setR b (some (e, q'))).put (some b) (.row b 0 q'.len))) : Step C o s K := ⟨fun M a w Q K' hrl hkk => by
 have e1 := hrl.ev x
 rw [hx] at e1
 have hkl := Nat.eq_of_beq_eq_true hk0
 have hb1000 : b < 1000000 := by have h1000 := hrl.nle; rw [Nat.blt_eq] at hn; omega
 obtain ⟨ao1, hao1⟩ := e1.nil_inv
 obtain ⟨M1, hr1, hv1'⟩ := hrl.nilRow (r := b) (e := e) (q := k) hkl hf hb1000
 have e2 := hr1.ev y
 have hyy' : (s.setR b (some (e, k))).ev y = .ro f q2 := by rw [← hyy]; cases y <;> rfl
 rw [hyy'] at e2
 obtain ⟨news, hsrc⟩ := src_ok hr1 e2 (hs _) trivial
 have hb' := Nat.le_of_ble_eq_true hb
 have hbd' : k.len + q2.len ≤ 4294967296 := by omega
 obtain ⟨v', w', M', h1, h2, h3, _⟩ := append_ok (P := C.P) (ty := o.type) hr1 (hT t _ hy) rfl (r := b) (q := k) (by rw [PS.r_setR _ _ _ _ (notF_lo hb1000), if_pos rfl]) (hv1' ao1) (Nat.zero_le _) hsrc (q' := q') (by rw [← hkl, Sq.take_len]; exact happ) (by rw [Nat.zero_add]; have := Nat.mul_le_mul hbd hb'; omega) (by unfold maxLen; omega) hb1000
 rw [← hao1] at h1
 unfold Oper.wp
 rw [run_app hop h1]
 refine hkk M' _ _ _ h ?_
 rw [hd]
 have hl := (Sq.app_ok happ).1
 rw [hkl] at hl
 rw [← hl] at h3
 have h4 := h2.put (o := some b) hn h3
 refine h4.same (fun x => ?_) (fun r => ?_) (fun c => ?_)
 ·rw [PS.t_put, PS.t_put]
  split
  ·rfl
  ·have : (((s.setR b (some (e, k))).kill b).setR b (some (e, q'))).t x = kl b (s.t x) := PS.t_kill (s.setR b (some (e, k))) b x
   rw [this, kl_id (hf.t x) (notF_lo hb1000)]; rfl
 ·rw [PS.r_put, PS.r_put, PS.r_setR _ _ _ _ (notF_lo hb1000), PS.r_setR _ _ _ _ (notF_lo hb1000)]
  split
  ·rfl
  ·rename_i hne
   have : ((s.setR b (some (e, k))).kill b).r r = (s.setR b (some (e, k))).r r := rfl
   rw [this, PS.r_setR _ _ _ _ (notF_lo hb1000), if_neg hne]
 ·rw [PS.b_put, PS.b_put]
  have : (((s.setR b (some (e, k))).kill b).setR b (some (e, q'))).b c = (s.b c).map fun cs => cs.map (klS b) := PS.b_kill (s.setR b (some (e, k))) b c
  rw [this]
  have hsb : (s.setR b (some (e, q'))).b c = s.b c := rfl
  rw [hsb]
  cases hc : s.b c with
  | none => rfl
  | some cs =>
   simp only [Option.map_some]
   congr 1
   conv => lhs; rw [← List.map_id cs]
   exact (List.map_congr_left fun d hd' => klS_id (hf.b c cs hc d hd') (notF_lo hb1000)).symm⟩
theorem oStepW (hw : Wanted C ops o s) (h : Step C o s (VO C ops K rest)) : VO C ops K (o :: rest) s := by
 rcases hw with hg | ⟨j, want, t, b, hg, hd, ht, hs, hb⟩
 ·exact vOp hg h
 ·exact vOpG hg hd ht hs hb h
theorem oEmpty (hT : TTOK C.P TT) (hw : Wanted C ops o ⟨tm, rw', bx⟩) {t e : TypeId} {k : Sq} {by' b : Nat} (hop : o.op = .buildSlice t 0 #[]) (hd : o.dst = some b) (hy : look TT t = some (.sl e k by')) (hn : Nat.blt b C.n = true) (h : VO C ops K rest ⟨(b, .nil) :: tm, rw', bx⟩) : VO C ops K (o :: rest) ⟨tm, rw', bx⟩ :=
 oStepW hw (sEmpty hT hop hd hy hn h)
theorem nEmpty (hT : TTOK C.P TT) (hw : Wanted C ops o ⟨tm, rw', bx⟩) {t e : TypeId} {k : Sq} {by' b : Nat} (hop : o.op = .buildSlice t 0 #[]) (hd : o.dst = some b) (hy : look TT t = some (.sl e k by')) (hn : Nat.blt b C.n = true)
  (hck : chkE ops cr B j ⟨.nil, [], []⟩ = true) (h : QN C ops cr B K (j + 1) rest ⟨(b, .nil) :: tm, rw', bx⟩) : QN C ops cr B K j (o :: rest) ⟨tm, rw', bx⟩ :=
 nStep (e := ⟨.nil, [], []⟩) hw hck (fun s1 hag => sEmpty hT hop hd hy hn (by rw [hd]; rfl)) (by rw [hd]; exact h)
theorem oAppNil (hT : TTOK C.P TT) (hw : Wanted C ops o ⟨tm, rw', bx⟩) {t e : TypeId} {k q2 q' q'' : Sq} {by' b m' : Nat} {x y : Operand} {f : Bool} (hop : o.op = .call { callee := .builtin .append, args := #[x, y], argTypes := #[t, t] }) (hd : o.dst = some b) (hy : look TT t = some (.sl e k by'))
  (hx : (PS.ev ⟨tm, rw', bx⟩ x) = .nil) (hk0 : Nat.beq k.len 0 = true) (hf : frB ⟨tm, rw', bx⟩ noB (isR b) = true) (hyy : (PS.ev ⟨tm, rw', bx⟩ y) = .ro f q2) (hs : ∀ s, srcSq s (.ro f q2) = some (True, q2)) (happ : k.app q2 = some q') (hb : Nat.ble by' 32 = true) (hn : Nat.blt b C.n = true)
  (hq' : fcQ q' some = some q'') (hm' : lenK q' some = some m') (hbd : q2.len ≤ 4294967296) (h : VO C ops K rest ⟨(b, .row b 0 m') :: tm, (b, some (e, q'')) :: rw', bx⟩) : VO C ops K (o :: rest) ⟨tm, rw', bx⟩ := by
 rw [fcQ_eq] at hq'
 rw [lenK_eq] at hm'
 cases hq'
 cases hm'
 exact oStepW hw (sAppNil hT hop hd hy hx hk0 (frB_ok hf) hyy hs happ hb hn hbd h)
theorem nAppNil (hT : TTOK C.P TT) (hw : Wanted C ops o ⟨tm, rw', bx⟩) {t e : TypeId} {k q2 q' q'' : Sq} {by' b m' : Nat} {x y : Operand} {f : Bool} (hop : o.op = .call { callee := .builtin .append, args := #[x, y], argTypes := #[t, t] }) (hd : o.dst = some b) (hy : look TT t = some (.sl e k by'))
  (hx : (PS.ev ⟨tm, rw', bx⟩ x) = .nil) (hk0 : Nat.beq k.len 0 = true) (hcr : cr.contains j = true) (hnm : nm ops j b = true) (hyy : (PS.ev ⟨tm, rw', bx⟩ y) = .ro f q2) (hs : ∀ s, srcSq s (.ro f q2) = some (True, q2)) (happ : k.app q2 = some q') (hb : Nat.ble by' 32 = true) (hn : Nat.blt b C.n = true)
  (hq' : fcQ q' some = some q'') (hm' : lenK q' some = some m') (hck : chkE ops cr B j ⟨.row b 0 m', [(b, some (e, q''))], []⟩ = true) (hbd : q2.len ≤ 4294967296) (h : QN C ops cr B K (j + 1) rest ⟨(b, .row b 0 m') :: tm, (b, some (e, q'')) :: rw', bx⟩) (hF : notF b = true := by rfl) : QN C ops cr B K j (o :: rest) ⟨tm, rw', bx⟩ := by
 rw [fcQ_eq] at hq'
 rw [lenK_eq] at hm'
 cases hq'
 cases hm'
 refine nStep (e := ⟨.row b 0 _, [(b, some (e, _))], []⟩) hw hck (fun s1 hag => ?_) (by rw [hd, PS.ap_eq _ _ _ _ _ (rowsN_one hF)]; exact h)
 have e1 := hag.ev x (by rw [hop]; simp [Op.operands, Call.operands])
 have e2 := hag.ev y (by rw [hop]; simp [Op.operands, Call.operands])
 exact sAppNil hT hop hd hy (e1.trans hx) hk0 (fresh_sub (hag.fr hcr) (fun x hx => by cases hx) (fun x hx => by rw [← Nat.eq_of_beq_eq_true hx]; exact hnm)) (e2.trans hyy) hs happ hb hn hbd (by rw [hd, PS.ap_eq _ _ _ _ _ (rowsN_one hF)]; rfl)
theorem Step.same (h : Step C o s (fun s' => ∃ s'', K s'' ∧ (∀ x, s''.t x = s'.t x) ∧ (∀ r, s''.r r = s'.r r) ∧ ∀ b, s''.b b = s'.b b)) : Step C o s K := ⟨fun M a w Q K' hr hk =>
 h.out M a w Q K' hr fun M' s' a' w' ⟨s'', h1, h2, h3, h4⟩ hr' => hk M' s'' a' w' h1 (hr'.same h2 h3 h4)⟩
theorem Step.weak {K2 : PS → Prop} (h : Step C o s K2) (hk : ∀ s', K2 s' → K s') : Step C o s K := ⟨fun M a w Q K' hr hK => h.out M a w Q K' hr fun M' s' a' w' h1 hr' => hK M' s' a' w' (hk s' h1) hr'⟩
theorem sAppMove (hT : TTOK C.P TT) {t e : TypeId} {k q q2 q' : Sq} {by' b r m : Nat} {x y : Operand} {dy : D} {ob : Prop} (hop : o.op = .call { callee := .builtin .append, args := #[x, y], argTypes := #[t, t] }) (hd : o.dst = some b) (hy : look TT t = some (.sl e k by'))
  (hx : s.ev x = .row r 0 m) (hr : s.r r = some (e, q)) (hk : Nat.beq k.sz q.sz = true) (hyy : s.ev y = dy) (hs : srcSq s dy = some (ob, q2)) (happ : q.app q2 = some q') (hb : Nat.ble by' 32 = true) (hn : Nat.blt b C.n = true) (hf : Fresh s noB (isR b)) (hbr : Nat.beq b r = false)
  (hm : m = q.len) (hob : ob) (hbd : q.len + q2.len ≤ 4294967296) (hlo : Nat.ble r 999999 = true) : Step C o s (fun s' => s' = s.ap (some b) ⟨.row b 0 q'.len, [(b, some (e, q')), (r, none)], []⟩) := ⟨fun M a w Q K' hrl hkk => by
 have e1 := hrl.ev x
 have e2 := hrl.ev y
 rw [hx] at e1
 rw [hyy] at e2
 obtain ⟨news, hsrc⟩ := src_ok hrl e2 hs hob
 subst hm
 have hb' := Nat.le_of_ble_eq_true hb
 have hne : b ≠ r := fun e => by subst e; rw [Nat.beq_refl] at hbr; cases hbr
 have hb1000 : b < 1000000 := by have h1000 := hrl.nle; rw [Nat.blt_eq] at hn; omega
 have hr1000 : r < 1000000 := by have := Nat.le_of_ble_eq_true hlo; omega
 obtain ⟨v', w', M', h1, h2, h3, h4⟩ := append_ok (P := C.P) (ty := o.type) hrl (hT t _ hy) (Nat.eq_of_beq_eq_true hk) hr e1 (Nat.le_refl _) hsrc (by rw [Sq.take_len]; exact happ) (by have := Nat.mul_le_mul hbd hb'; omega) (by unfold maxLen; omega) hr1000
 unfold Oper.wp
 rw [run_app hop h1]
 let M2 : Mp := ⟨M.β, fun y => if y = b then M'.γ r else if y = r then none else M.γ y⟩
 have o1 : ∀ k, M2.owned k → M'.owned k := by
  rintro k (⟨c, hc⟩ | ⟨y, c, z, hy'⟩)
  ·exact .inl ⟨c, by rw [h4.β]; exact hc⟩
  ·simp only [M2] at hy'
   split at hy'
   ·exact .inr ⟨r, c, z, hy'⟩
   ·split at hy'
    ·cases hy'
    ·rename_i _ hyr; exact .inr ⟨y, c, z, by rw [h4.γ y hyr]; exact hy'⟩
 have hA : ∀ f k, k < w.heap.size → Ow (Fs C.w0 C.O0) M f k → Ow (Fs C.w0 C.O0) M2 f k ∧ k < w'.heap.size ∧ w'.heap[k]? = w.heap[k]? := fun f k g1 g2 => by
  obtain ⟨g3, g4, g5⟩ := h4.old f k g1 g2
  exact ⟨⟨fun ho => g3.1 (o1 k ho), g3.2⟩, g4, g5⟩
 have hA' : ∀ f k, k < w'.heap.size → Ow (Fs C.w0 C.O0) M' f k → Ow (Fs C.w0 C.O0) M2 f k ∧ k < w'.heap.size ∧ w'.heap[k]? = w'.heap[k]? := fun f k g1 g2 => ⟨⟨fun ho => g2.1 (o1 k ho), g2.2⟩, g1, rfl⟩
 have hγ : ∀ y z, isR b y = false → M2.γ y = some z → M.γ y = some z := fun y z g1 g2 => by
  simp only [M2] at g2
  split at g2
  ·rename_i hyb; subst hyb; simp [isR, Nat.beq_refl] at g1
  ·split at g2
   ·cases g2
   ·exact g2
 have hrow : ∀ y, y ≠ b → y ≠ r → M2.γ y = M.γ y := fun y g1 g2 => by simp [M2, g1, g2]
 have hoth : ∀ y c z k, y ≠ r → M.γ y = some (some (k, c, z)) → w'.heap[k]? = w.heap[k]? := fun y c z k g1 g2 => h4.oth k (.inr ⟨y, c, z, g2⟩) fun c' z' g3 => g1 (hrl.inj2 _ _ _ _ _ _ _ g2 g3)
 have hPS : ∀ y, PS.r ⟨s.tmp, (b, some (e, q')) :: (r, none) :: s.row, s.box⟩ y = if b = y then some (e, q') else if r = y then none else s.r y := fun y => by
  have := PS.r_setR (s.setR r none) b (some (e, q')) y (notF_lo hb1000)
  rw [PS.r_setR _ _ _ _ (notF_lo hr1000)] at this
  exact this
 have hbg : ∀ {y}, BIG ≤ y → y ≠ b ∧ y ≠ r := fun {y} hy => by
  have h1 : (1000000 : Nat) < BIG := by decide
  constructor <;> omega
 have hbig1 : ∀ y u, BIG ≤ y → M2.γ y = some u → M'.γ y = some u := fun y u g1 g2 => by
  rw [hrow y (hbg g1).1 (hbg g1).2] at g2
  rw [h4.γ y (hbg g1).2]; exact g2
 have hbig2 : ∀ y u, BIG ≤ y → M2.γ y = some u → M.γ y = some u := fun y u g1 g2 => by
  rw [hrow y (hbg g1).1 (hbg g1).2] at g2; exact g2
 have hR : Rel C.w0 C.O0 C.n M2 ⟨s.tmp, (b, some (e, q')) :: (r, none) :: s.row, s.box⟩ a w' := by
  refine ⟨h2.fr, hrl.dfr, hrl.sz, fun x => ?_, fun c cs hc => ?_, fun c hc => hrl.boxn c hc, fun y e' p hy' => ?_, fun y hy' => ?_, fun k hk' => h2.low k (o1 k hk'), hrl.inj1, fun y y' k c z c' z' g1 g2 => ?_, fun c y k c' z g1 g2 => ?_, hrl.nle, hrl.fxb, fun y u u' g1 g2 => ?_⟩
  ·exact VR.new (b := noB) (r := isR b) hA hγ (fun _ _ _ h => h) (hf.t x) (hrl.tmp x) (hi := fun _ => hbig2)
  ·obtain ⟨k, cur, e', g1, g2, g3, g4⟩ := hrl.box c cs hc
   refine ⟨k, cur, e', g1, (h4.oth k (.inl ⟨c, g1⟩) fun c' z' g5 => hrl.inj3 _ _ _ _ _ g1 g5).trans g2, g3, fun i d hi => ?_⟩
   have hm' := hf.b c cs hc d (List.mem_of_getElem? hi)
   exact VR.newS (b := noB) (r := isR b) hA hγ (fun _ _ _ h => h) hm' (g4 i d hi) (hi := fun _ => hbig2)
  ·rw [hPS] at hy'
   by_cases hyb : b = y
   ·subst hyb
    rw [if_pos rfl] at hy'
    cases hy'
    have hM : M2.γ b = M'.γ r := by simp [M2]
    rcases h2.row r e q' (by rw [PS.r_setR _ _ _ _ (notF_lo hr1000), if_pos rfl]) with ⟨g1, g2⟩ | ⟨g, cap, cur, g1, g2, g3, g4, g5, g6⟩
    ·exact .inl ⟨hM.trans g1, g2⟩
    ·exact .inr ⟨g, cap, cur, hM.trans g1, g2, g3, g4, g5, fun i j d hi hd' => (g6 i j d hi hd').relem_any hd' hA' hbig1⟩
   ·rw [if_neg hyb] at hy'
    by_cases hyr : r = y
    ·rw [if_pos hyr] at hy'; cases hy'
    ·rw [if_neg hyr] at hy'
     rcases hrl.row y e' p hy' with ⟨g1, g2⟩ | ⟨g, cap, cur, g1, g2, g3, g4, g5, g6⟩
     ·exact .inl ⟨(hrow y (Ne.symm hyb) (Ne.symm hyr)).trans g1, g2⟩
     ·exact .inr ⟨g, cap, cur, (hrow y (Ne.symm hyb) (Ne.symm hyr)).trans g1, (hoth y _ _ g (Ne.symm hyr) g1).trans g2, g3, g4, g5, fun i j d hi hd' => (g6 i j d hi hd').relem_any hd' hA hbig2⟩
  ·rw [hPS] at hy'
   by_cases hyb : b = y
   ·rw [if_pos hyb] at hy'; cases hy'
   ·rw [if_neg hyb] at hy'
    by_cases hyr : r = y
    ·simp [M2, hyr, Ne.symm hyb]
    ·rw [if_neg hyr] at hy'
     rw [hrow y (Ne.symm hyb) (Ne.symm hyr)]; exact hrl.rown y hy'
  ·have case : ∀ y k c z, M2.γ y = some (some (k, c, z)) → (y = b ∧ M'.γ r = some (some (k, c, z))) ∨ (y ≠ b ∧ y ≠ r ∧ M'.γ y = some (some (k, c, z))) := fun y k c z g => by
    simp only [M2] at g
    split at g
    ·exact .inl ⟨by assumption, g⟩
    ·split at g
     ·cases g
     ·rename_i h5 h6; exact .inr ⟨h5, h6, by rw [h4.γ y h6]; exact g⟩
   rcases case _ _ _ _ g1 with ⟨rfl, g3⟩ | ⟨g3, g4, g5⟩
   ·rcases case _ _ _ _ g2 with ⟨rfl, _⟩ | ⟨_, g7, g8⟩
    ·rfl
    ·exact absurd (h2.inj2 _ _ _ _ _ _ _ g3 g8).symm g7
   ·rcases case _ _ _ _ g2 with ⟨rfl, g6⟩ | ⟨_, _, g8⟩
    ·exact absurd (h2.inj2 _ _ _ _ _ _ _ g5 g6) g4
    ·exact h2.inj2 _ _ _ _ _ _ _ g5 g8
  ·have g1' : M'.β c = some k := by rw [h4.β]; exact g1
   simp only [M2] at g2
   split at g2
   ·exact h2.inj3 _ _ _ _ _ g1' g2
   ·split at g2
    ·cases g2
    ·rename_i _ h6; exact h2.inj3 c y k c' z g1' (by rw [h4.γ y h6]; exact g2)
  ·have g3 := (C.O0.lor y u g1).1
   rw [hrow y (by omega) (by omega)] at g2
   exact hrl.fxr y u u' g1 g2
 refine hkk M2 _ _ _ rfl ?_
 rw [hd, PS.ap_eq _ _ _ _ _ (rowsN_two (notF_lo hb1000) (notF_lo hr1000))]
 have hl := (Sq.app_ok happ).1
 rw [← hl] at h3
 have hv : VR M2 (Ow (Fs C.w0 C.O0) M2) w' (.row b 0 q'.len) v' := by
  cases h3 with
  | row _ _ _ _ g1 g2 => exact .row _ _ _ _ g1 fun x hx => g2 x (by simpa [M2] using hx)
 exact hR.put (o := some b) hn hv⟩
theorem nAppMove (hT : TTOK C.P TT) (hw : Wanted C ops o ⟨tm, rw', bx⟩) {t e : TypeId} {k q q2 q' q'' : Sq} {by' b r m m' : Nat} {x y : Operand} {dy : D} {ob : Prop} (hop : o.op = .call { callee := .builtin .append, args := #[x, y], argTypes := #[t, t] }) (hd : o.dst = some b) (hy : look TT t = some (.sl e k by'))
  (hx : (PS.ev ⟨tm, rw', bx⟩ x) = .row r 0 m) (hr : (PS.r ⟨tm, rw', bx⟩ r) = some (e, q)) (hk : Nat.beq k.sz q.sz = true) (hyy : (PS.ev ⟨tm, rw', bx⟩ y) = dy) (hs : srcSq ⟨tm, rw', bx⟩ dy = some (ob, q2)) (happ : q.app q2 = some q') (hb : Nat.ble by' 32 = true) (hn : Nat.blt b C.n = true) (hcr : cr.contains j = true) (hnm : nm ops j b = true) (hbr : Nat.beq b r = false)
  (hlo : Nat.ble r 999999 = true) (hq' : fcQ q' some = some q'') (hm' : lenK q' some = some m') (hvis : visB ops cr B j ⟨tm, rw', bx⟩ [x, y] = true) (hck : chkE ops cr B j ⟨.row b 0 m', [(b, some (e, q'')), (r, none)], []⟩ = true) (hm : m = q.len) (hob : ob) (hbd : q.len + q2.len ≤ 4294967296)
  (h : QN C ops cr B K (j + 1) rest ⟨(b, .row b 0 m') :: tm, (b, some (e, q'')) :: (r, none) :: rw', bx⟩) (hF : notF b = true := by rfl) : QN C ops cr B K j (o :: rest) ⟨tm, rw', bx⟩ := by
 rw [fcQ_eq] at hq'
 rw [lenK_eq] at hm'
 cases hq'
 cases hm'
 have hFr : notF r = true := notF_lo (by have := Nat.le_of_ble_eq_true hlo; omega)
 refine nStep (e := ⟨.row b 0 _, [(b, some (e, _)), (r, none)], []⟩) hw hck (fun s1 hag => ?_) (by rw [hd, PS.ap_eq _ _ _ _ _ (rowsN_two hF hFr)]; exact h)
 have e1 := hag.ev x (by rw [hop]; simp [Op.operands, Call.operands])
 have e2 := hag.ev y (by rw [hop]; simp [Op.operands, Call.operands])
 have s1x := hag.same hvis x (by simp)
 have s1y := hag.same hvis y (by simp)
 rw [hx] at s1x
 rw [hyy] at s1y
 rw [hd]
 refine sAppMove hT hop hd hy (e1.trans hx) (by rw [s1x.row]; exact hr) hk (e2.trans hyy) ?_ happ hb hn (fresh_sub (hag.fr hcr) (fun x hx => by cases hx) (fun x hx => by rw [← Nat.eq_of_beq_eq_true hx]; exact hnm)) hbr hm hob hbd hlo
 cases dy <;> first | exact hs | (simp only [srcSq, s1y.row] at hs ⊢; exact hs)
theorem nMCall (hw : Wanted C ops o ⟨tm, rw', bx⟩) {rk rids bk bids pids : List Nat} {f : FuncId} {args : Array Operand} {ts : Array TypeId} {ds : List D} {r0 r1 : List (TypeId × Sq)} {b0 b1 : List (List D)} {d : D} (hp : MCall C.P f ds rk bk r0 r1 b0 b1 d) (rids bids pids : List Nat) {er : List (Nat × Option (TypeId × Sq))} {eb : List (Nat × Option (List D))} {b : Nat}
  (hop : o.op = .call { callee := .value (.func f), args := args, argTypes := ts }) (hd : o.dst = some b) (hn : Nat.blt b C.n = true) (hcr : cr.contains j = true)
  (hchk : mchk rk rids bk bids pids = true) (hown : (pids.all fun p => isInL rids p || nm ops j p) = true) (hvr : (rids.all fun r => !hidV ops cr B j r) = true) (hvb : (bids.all fun r => !hidV ops cr B j r) = true)
  (her : nfR (asL pids r1 ++ rids.map fun r => (r, none)) = some er) (heb : nfB (asL bids (b1.map fun cs => cs.map (renS (sgm bk bids) (sgm rk pids)))) = some eb) {d' : D} (hd' : fcD (ren (sgm bk bids) (sgm rk pids) d) some = some d') (hck : chkE ops cr B j ⟨d', er, eb⟩ = true)
  (hr : pairOk (PS.r ⟨tm, rw', bx⟩) rids r0) (hb : pairOk (PS.b ⟨tm, rw', bx⟩) bids (b0.map fun cs => cs.map (renS (sgm bk bids) (sgm rk rids)))) (hfit : fitsM rk rids bk bids ⟨tm, rw', bx⟩ args.toList ds) (h : QN C ops cr B K (j + 1) rest ⟨(b, d') :: tm, er ++ rw', eb ++ bx⟩) (hfa : anyFam rids = false := by rfl) (hF : rowsN er = er := by rfl) : QN C ops cr B K j (o :: rest) ⟨tm, rw', bx⟩ := by
 have her' := nfR_ok her
 have heb' := nfB_ok heb
 rw [fcD_eq] at hd'
 cases hd'
 subst her' heb'
 refine nStep (e := ⟨ren (sgm bk bids) (sgm rk pids) d, _, _⟩) hw hck (fun s1 hag => ?_) (by rw [hd, PS.ap_eq _ _ _ _ _ hF]; exact h)
 have hpr : ∀ {α : Type} {f g : Nat → Option α} {l : List Nat} {m : List α}, (∀ x ∈ l, g x = f x) → pairOk f l m → pairOk g l m := by
  intro α f g l
  induction l with
  | nil => intro m _ h; cases m; trivial; exact h.elim
  | cons x l ih =>
   intro m hx h
   cases m with
   | nil => exact h.elim
   | cons y m => exact ⟨(hx x (by simp)).trans h.1, ih (fun z hz => hx z (by simp [hz])) h.2⟩
 have hfm : ∀ {xs : List Operand} {ds : List D}, (∀ x ∈ xs, s1.ev x = PS.ev ⟨tm, rw', bx⟩ x) → fitsM rk rids bk bids ⟨tm, rw', bx⟩ xs ds → fitsM rk rids bk bids s1 xs ds := by
  intro xs
  induction xs with
  | nil => intro ds _ h; cases ds; trivial; exact h.elim
  | cons x l ih =>
   intro ds hx h
   cases ds with
   | nil => exact h.elim
   | cons y m => exact ⟨by rw [hx x (by simp)]; exact h.1, ih (fun z hz => hx z (by simp [hz])) h.2⟩
 simp only [List.all_eq_true] at hvr hvb hown
 rw [hd]
 refine Step.weak (sMCall (K := fun s' => s' = (s1.after rids pids r1 bids (b1.map fun cs => cs.map (renS (sgm bk bids) (sgm rk pids)))).put (some b) (ren (sgm bk bids) (sgm rk pids) d)) hop hp (by rw [hd]; exact hn) hchk (by unfold rfB; rw [hfa]) ?_ (hpr (fun x hx => hag.r x (by simpa using hvr x hx)) hr) (hpr (fun x hx => hag.b x (by simpa using hvb x hx)) hb) (hfm (fun x hx => hag.ev x (by rw [hop]; simp only [Op.operands, Call.operands]; exact Array.mem_append.2 (.inr (by simpa using hx)))) hfit) (by rw [hd])) fun s' hs' => ?_
 ·refine fresh_sub (hag.fr hcr) (fun x hx => by cases hx) fun x hx => ?_
  unfold newP at hx
  rw [hfa] at hx
  split at hx
  ·cases hx
  cases hm : mp pids rids x with
  | none => rw [hm] at hx; cases hx
  | some i =>
   rw [hm] at hx
   have := hown x (mp_mem hm).1
   rcases Bool.or_eq_true_iff.1 this with h1 | h1
   ·exfalso
    simp only [mchk, Bool.and_eq_true] at hchk
    obtain ⟨⟨hchk, _⟩, _⟩ := hchk
    obtain ⟨k, hk⟩ := mp_some (l := pids) (m := rk) (by rw [← Nat.eq_of_beq_eq_true hchk.1.1.1.1.1.2]) (mp_mem hm).1
    obtain ⟨r', g1, _, g3⟩ := fixB_ok hchk.2 (Nat.eq_of_beq_eq_true hchk.1.1.1.1.1.1) (Nat.eq_of_beq_eq_true hchk.1.1.1.1.1.2) hchk.1.1.1.2 hk
    rw [hm] at g1
    cases g1
    rcases g3 with ⟨_, rfl⟩ | ⟨_, _, g4⟩
    ·simp [Nat.beq_refl] at hx
    ·rw [h1] at g4; cases g4
   ·exact h1
 ·rw [hs', PS.ap_eq _ _ _ _ _ hF]
  simp [PS.after, PS.put, List.append_assoc]
def updB (off : Nat) : List D → Nat → List D → Option (List D)
 | cs, _, [] => some cs
 | cs, k, d :: l => match d.one, Nat.blt (off + k) cs.length with | true, true => updB off (cs.set (off + k) d) (k + 1) l | _, _ => none
theorem updB_ok {b off : Nat} : ∀ {l : List D} {cs cs' : List D} {k : Nat} {s : PS}, s.b b = some cs → updB off cs k l = some cs' → ∃ (ob : Prop) (s' : PS), ob ∧ wrL s (.ptr b off) k l = some (ob, s') ∧ (∀ x, s'.t x = s.t x) ∧ (∀ r, s'.r r = s.r r) ∧ ∀ x, s'.b x = if b = x then some cs' else s.b x
 | [], cs, cs', k, s, hb, h => by
  simp only [updB, Option.some.injEq] at h
  subst h
  refine ⟨True, s, trivial, rfl, fun _ => rfl, fun _ => rfl, fun x => ?_⟩
  split
  ·rename_i he; subst he; exact hb
  ·rfl
 | d :: l, cs, cs', k, s, hb, h => by
  simp only [updB] at h
  split at h
  ·rename_i h1 h2
   obtain ⟨ob, s', g1, g2, g3, g4, g5⟩ := updB_ok (s := s.setB b (cs.set (off + k) d)) (b := b) (by rw [PS.b_setB, if_pos rfl]) h
   refine ⟨True ∧ ob, s', ⟨trivial, g1⟩, ?_, g3, g4, fun x => ?_⟩
   ·simp only [wrL, wr, h1, hb, h2, g2]
   ·rw [g5 x, PS.b_setB]
    split <;> rfl
  ·cases h
theorem nStoreB (hT : TTOK C.P TT) (hw : Wanted C ops o ⟨tm, rw', bx⟩) {t : TypeId} {p x : Operand} {y : Ty} {b off : Nat} {d : D} {cs cs1 cs' : List D} (hop : o.op = .store t p x) (hd : o.dst = none) (hy : look TT t = some y) (hp : (PS.ev ⟨tm, rw', bx⟩ p) = .ptr b off) (hx : (fcD (PS.ev ⟨tm, rw', bx⟩ x) some) = some d) (hfl : d.flat = true) (hsz : Nat.beq d.cells.length (tySize y) = true)
  (hb : (PS.b ⟨tm, rw', bx⟩ b) = some cs) (hu : updB off cs 0 d.cells = some cs1) (hcs : fcL cs1 some = some cs') (hvis : visB ops cr B j ⟨tm, rw', bx⟩ [p] = true) (hck : chkE ops cr B j ⟨.tup [], [], [(b, some cs')]⟩ = true)
  (h : QN C ops cr B K (j + 1) rest ⟨tm, rw', (b, some cs') :: bx⟩) : QN C ops cr B K j (o :: rest) ⟨tm, rw', bx⟩ := by
 rw [fcD_eq] at hx
 rw [fcL_eq] at hcs
 cases hx
 cases hcs
 refine nStep (e := ⟨.tup [], [], [(b, some _)]⟩) hw hck (fun s1 hag => ?_) (by rw [hd]; exact h)
 have e1 := hag.ev p (by rw [hop]; simp [Op.operands])
 have e2 := hag.ev x (by rw [hop]; simp [Op.operands])
 have s1p := hag.same hvis p (by simp)
 rw [hp] at s1p
 have hb1 : s1.b b = some cs := by rw [s1p.ptr]; exact hb
 obtain ⟨ob, s', g1, g2, g3, g4, g5⟩ := updB_ok (s := s1) (off := off) hb1 hu
 refine Step.same (sStore hT hop hd hy (e1.trans hp) e2 hfl hsz g2 (by simp [Live, hb1]) g1 ⟨_, rfl, fun x => ?_, fun r => ?_, fun c => ?_⟩)
 ·rw [PS.t_ap, hd]; exact (g3 x).symm
 ·rw [PS.r_ap, g4]; rfl
 ·rw [PS.b_ap, g5]
  by_cases hc : b = c
  ·subst hc; simp [look_cons_self]
  ·simp [look_cons_ne hc, hc]
   rfl
section
variable {M : Mp} {A : Bool → Nat → Prop} {w : World} {b clock : Nat} {es : Array MapEntry} {ob : Obj}
end
end
end Go.Proofs.Ytcljhpldfanhkaa
namespace Go.Proofs.Ytcljhpldfanhkaa
open Go.RowKit Go.Deep
section
variable {P : Program} {w0 : World} {O0 : Hd} {n : Nat} {M : Mp} {s s' : PS} {a : Act} {w w' : World}
end
section
variable {C : Cx} {ops : Array Oper} {K : PS → Prop} {o : Oper} {rest : List Oper} {s s' : PS} {TT : List (Nat × Ty)} {tm : List (Nat × D)} {rw' : List (Nat × Option (TypeId × Sq))} {bx : List (Nat × Option (List D))}
end
end Go.Proofs.Ytcljhpldfanhkaa
namespace Go.Proofs.Ytcljhpldfanhkaa
open Go.RowKit
def TT : List (Nat × Ty) := [(1, .sc .nilFunc), (3, .sc (.int .i64 0)), (4, .sc (.bool false)), (5, .sc (.int .u8 0)), (9, .sc (.string ByteArray.empty)), (22, .sl 5 (.bytes []) 1), (23, .sc .nilFunc), (24, .sl 111 (.pairs []) 16), (26, .st [(0, 1), (1, 1)] [.int .i64 0, .slice none 0 0]), (27, .sl 3 (.ints []) 8), (29, .st [(0, 2), (2, 1)] [.int .i64 0, .slice none 0 0, .slice none 0 0]), (30, .sc .nilFunc), (31, .sl 39 (.raises []) 32), (33, .sc .nilFunc), (34, .sc .nilFunc), (35, .sc .nilFunc), (36, .sc .nilFunc), (37, .sc .nilFunc), (39, .st [(0, 1), (1, 1)] [.int .i64 0, .slice none 0 0]), (40, .sc .nilFunc), (41, .sc .nilFunc), (42, .sc .nilFunc), (44, .sc .nilFunc), (46, .sc .nilFunc), (47, .sc .nilFunc), (48, .sc .nilFunc), (50, .sc .nilFunc), (51, .sl 27 (.intss []) 24), (53, .sc .nilFunc), (54, .sc .nilFunc), (55, .sc .nilFunc), (56, .sc .nilFunc), (58, .sc .nilFunc), (60, .sc .nilFunc), (61, .sl 71 (.pairs []) 16), (62, .sc .nilFunc), (63, .sc .nilFunc), (64, .sc .nilFunc), (65, .sc .nilFunc), (66, .sc .nilFunc), (67, .sc .nilFunc), (68, .sc .nilFunc), (69, .sc .nilFunc), (71, .st [(0, 1), (1, 1)] [.int .i64 0, .int .i64 0]), (72, .sc .nilFunc), (74, .sc .nilFunc), (75, .sc .nilFunc), (77, .st [(0, 2), (2, 1)] [.int .i64 0, .slice none 0 0, .slice none 0 0]), (79, .st [(0, 3), (3, 1)] [.int .i64 0, .slice none 0 0, .slice none 0 0, .slice none 0 0]), (80, .sc .nilFunc), (81, .sl 61 (.pairss []) 24), (83, .sc .nilFunc), (84, .sc .nilFunc), (85, .sc .nilFunc), (86, .sc .nilFunc), (87, .sc .nilFunc), (88, .sc .nilFunc), (89, .sc .nilFunc), (91, .sc .nilFunc), (93, .sc .nilFunc), (95, .sc .nilFunc), (96, .sc .nilFunc), (98, .sc .nilFunc), (99, .sc .nilFunc), (100, .sc .nilFunc), (102, .sc .nilFunc), (103, .sc .nilFunc), (104, .sc .nilFunc), (105, .sl 9 (.strs []) 16), (106, .sc .nilFunc), (107, .sc .nilFunc), (108, .sc .nilFunc), (109, .sc .nilFunc), (111, .st [(0, 1), (1, 1)] [.int .i64 0, .int .i64 0]), (112, .sc .nilFunc), (113, .sc .nilFunc), (114, .sc .nilFunc), (115, .sc .nilFunc), (116, .sl 119 (.boolss []) 24), (118, .sc .nilFunc), (119, .sl 4 (.bools []) 1), (120, .sc .nilFunc), (121, .sc .nilFunc), (122, .sc .nilFunc), (123, .sc .nilFunc), (124, .sc .nilFunc), (125, .sc .nilFunc), (126, .sc .nilFunc), (127, .sc .nilFunc), (128, .sc .nilFunc), (129, .sc .nilFunc), (130, .sc .nilFunc), (131, .sc .nilFunc), (132, .sc .nilFunc), (133, .sc .nilFunc), (134, .sc .nilFunc), (135, .sc .nilFunc), (136, .sc .nilFunc), (137, .sc .nilFunc), (138, .sc .nilFunc), (140, .sc .nilFunc), (141, .sc .nilFunc), (142, .sc .nilFunc), (143, .sc .nilFunc), (144, .sc .nilFunc), (145, .sc .nilFunc), (146, .sc .nilFunc), (148, .sc .nilFunc), (149, .sc .nilFunc), (151, .st [(0, 1), (1, 1), (2, 1)] [.slice none 0 0, .int .i64 0, .int .i64 0]), (152, .sc .nilFunc), (153, .sc .nilFunc), (154, .sc .nilFunc), (155, .sc .nilFunc), (156, .sc .nilFunc), (157, .sc .nilFunc), (159, .st [(0, 1), (1, 1), (2, 1)] [.slice none 0 0, .slice none 0 0, .slice none 0 0]), (160, .sc .nilFunc), (162, .sc .nilFunc), (163, .sc .nilFunc), (164, .sc .nilFunc), (165, .sc .nilFunc), (167, .sc .nilFunc), (168, .sc .nilFunc), (169, .sc .nilFunc), (170, .sc .nilFunc), (171, .sc .nilFunc), (172, .sc .nilFunc), (174, .sc .nilFunc), (175, .sc .nilFunc), (176, .sc .nilFunc), (177, .sc .nilFunc), (179, .sc .nilFunc), (180, .sc .nilFunc), (181, .sc .nilFunc), (182, .sc .nilFunc), (183, .sc .nilFunc), (184, .sc .nilFunc), (185, .mp), (187, .sc .nilFunc), (193, .sc .nilFunc), (197, .sc .nilFunc)]
theorem tt : TTOK Try.prog TT := tt_ok (by kernel_rfl)
end Go.Proofs.Ytcljhpldfanhkaa
namespace Go.Proofs.Ytcljhpldfanhkaa
open Go.RowKit Go.Deep
def w64 (x : Int) : Int := IntKind.i64.wrap x
theorem w64_id {x : Int} (h1 : -9223372036854775808 ≤ x) (h2 : x ≤ 9223372036854775807) : w64 x = x := R64_wrap ⟨h1, h2⟩
theorem arW_out {C : Cx} {o : Oper} {s : PS} {op : BinOp} {t u : TypeId} {x y : Operand} {a b r : Int} (hop : o.op = .binOp op t x y u) (hx : s.ev x = .int a) (hy : s.ev y = .int b) (hr : (op = .add ∧ r = w64 (a + b)) ∨ (op = .sub ∧ r = w64 (a - b)) ∨ (op = .mul ∧ r = w64 (a * b))) : Pur C o s (.int r) :=
 ⟨fun s1 hs M ac w hr' => by
  have h1 := hr'.ev x
  have h2 := hr'.ev y
  rw [hs x (by rw [hop]; simp [Op.operands]), hx] at h1
  rw [hs y (by rw [hop]; simp [Op.operands]), hy] at h2
  have e1 := h1.int_inv
  have e2 := h2.int_inv
  rcases hr with ⟨rfl, rfl⟩ | ⟨rfl, rfl⟩ | ⟨rfl, rfl⟩
  ·refine ⟨_, ?_, .int _⟩
   simp only [execOp, hop, e1, e2]; simp [eqGuard, binOp, Op.intArith, go_sem] <;> rfl
  ·refine ⟨_, ?_, .int _⟩
   simp only [execOp, hop, e1, e2]; simp [eqGuard, binOp, Op.intArith, go_sem] <;> rfl
  ·refine ⟨_, ?_, .int _⟩
   simp only [execOp, hop, e1, e2]; simp [eqGuard, binOp, Op.intArith, go_sem] <;> rfl⟩
theorem pAddW {C : Cx} {o : Oper} {s : PS} {t u : TypeId} {x y : Operand} {a b : Int} (hop : o.op = .binOp .add t x y u) (hx : s.ev x = .int a) (hy : s.ev y = .int b) : Pur C o s (.int (w64 (a + b))) := arW_out hop hx hy (.inl ⟨rfl, rfl⟩)
theorem pSubW {C : Cx} {o : Oper} {s : PS} {t u : TypeId} {x y : Operand} {a b : Int} (hop : o.op = .binOp .sub t x y u) (hx : s.ev x = .int a) (hy : s.ev y = .int b) : Pur C o s (.int (w64 (a - b))) := arW_out hop hx hy (.inr (.inl ⟨rfl, rfl⟩))
theorem pMulW {C : Cx} {o : Oper} {s : PS} {t u : TypeId} {x y : Operand} {a b : Int} (hop : o.op = .binOp .mul t x y u) (hx : s.ev x = .int a) (hy : s.ev y = .int b) : Pur C o s (.int (w64 (a * b))) := arW_out hop hx hy (.inr (.inr ⟨rfl, rfl⟩))
end Go.Proofs.Ytcljhpldfanhkaa
namespace Go.Proofs.Ytcljhpldfanhkaa
open Go.RowKit
theorem eqP_impl_Place : EqP Try.prog 71 := by
 refine ⟨fun x y u v w => ?_, fun x y u v w => ?_, by kernel_rfl⟩
 all_goals
  cases hx : x == u
  all_goals
   cases hy : y == v
   all_goals simp [go_sem, hx, hy]
theorem eqP_impl_Bar : EqP Try.prog 111 := by
 refine ⟨fun x y u v w => ?_, fun x y u v w => ?_, by kernel_rfl⟩
 all_goals
  cases hx : x == u
  all_goals
   cases hy : y == v
   all_goals simp [go_sem, hx, hy]
theorem bld {t : TypeId} {places : List (Nat × Nat)} {zs : List Value} (h1 : (Try.prog.info? t).map (·.zero) = some (some (.agg zs.toArray)))
  (h2 : (match Try.prog.underlying t with | some (.struct fs) => fs.toList.mapM (fun f => (Try.prog.info? f.type).map fun i => (f.offset, i.size)) | _ => none) = some places) : BuildOK Try.prog t places zs := by
 obtain ⟨it, hit, hz⟩ := Option.map_eq_some_iff.1 h1
 split at h2
 ·rename_i fs hu; exact ⟨it, fs, hit, hu, hz, h2⟩
 ·cases h2
theorem bld_impl_Graph : BuildOK Try.prog 26 [(0, 1), (1, 1)] [.int .i64 0, .slice none 0 0] := bld (by kernel_rfl) (by kernel_rfl)
theorem bld_impl_Framework : BuildOK Try.prog 77 [(0, 2), (2, 1)] [.int .i64 0, .slice none 0 0, .slice none 0 0] := bld (by kernel_rfl) (by kernel_rfl)
theorem bld_impl_Bar : BuildOK Try.prog 111 [(0, 1), (1, 1)] [.int .i64 0, .int .i64 0] := bld (by kernel_rfl) (by kernel_rfl)
theorem bld_impl_Place : BuildOK Try.prog 71 [(0, 1), (1, 1)] [.int .i64 0, .int .i64 0] := bld (by kernel_rfl) (by kernel_rfl)
end Go.Proofs.Ytcljhpldfanhkaa
namespace Go.Proofs.Ytcljhpldfanhkaa
section
variable {α β : Type}
theorem grd_R {x : Int} (h1 : -9223372036854775808 ≤ x) (h2 : x ≤ 9223372036854775807) (y : Option α) : grd (Rg64 x) y = y := grd_pos ⟨h1, h2⟩ y
theorem grd_T [inst : Decidable True] (x : Option α) : grd True x = x := grd_pos trivial x
theorem cnd_dt {p : Prop} [Decidable p] (h : p) (x y : α) : cnd (decide p) x y = x := by rw [decide_eq_true h]; rfl
theorem cnd_df {p : Prop} [Decidable p] (h : ¬ p) (x y : α) : cnd (decide p) x y = y := by rw [decide_eq_false h]; rfl
theorem cnd_eqt {a b : Int} (h : a = b) (x y : α) : cnd (a == b) x y = x := by simp [h]
theorem cnd_eqf {a b : Int} (h : ¬ a = b) (x y : α) : cnd (a == b) x y = y := by rw [show (a == b) = false by simpa using h]; rfl
theorem cnd_net {a b : Int} (h : ¬ a = b) (x y : α) : cnd (a != b) x y = x := by rw [show (a != b) = true by simpa using h]; rfl
theorem cnd_nef {a b : Int} (h : a = b) (x y : α) : cnd (a != b) x y = y := by simp [h]
theorem cnd_not (b : Bool) (x y : α) : cnd (!b) x y = cnd b y x := by cases b <;> rfl
theorem cnd_or (a b : Bool) (x y : α) : cnd a x (cnd b x y) = cnd (a || b) x y := by cases a <;> rfl
theorem cnd_and (a b : Bool) (x y : α) : cnd a (cnd b x y) y = cnd (a && b) x y := by cases a <;> rfl
theorem cnd_same (b : Bool) (x : α) : cnd b x x = x := by cases b <;> rfl
theorem cnd_some (b : Bool) (x y : α) : cnd b (some x) (some y) = some (cnd b x y) := by cases b <;> rfl
theorem cnd_bool (b : Bool) : cnd b true false = b := by cases b <;> rfl
theorem tk0 (l : List α) : (l.take (0 + l.length)).drop 0 = l := by simp
theorem jn_def (k : α) (f : α → β) : jn k f = f k := rfl
end
theorem set_pair (l : List (Int × Int)) (i : Nat) (x y : Int) (h : i < l.length) : (l.set i (x, (l.getD i (0, 0)).2)).set i (((l.set i (x, (l.getD i (0, 0)).2)).getD i (0, 0)).1, y) = l.set i (x, y) := by
 rw [List.set_set]
 congr 2
 simp [List.getD_eq_getElem?_getD, h]
end Go.Proofs.Ytcljhpldfanhkaa
namespace Go.Proofs.Ytcljhpldfanhkaa
variable {R σ : Type}
theorem srchA {F : Nat → Int → Option R} {len : Nat} {ok : Nat → Bool} {bad fin : Option R}
  (hs : ∀ n i : Nat, i < len → (∀ j, j < i → ok j = true) → F (n + 1) (i : Int) = cnd (ok i) (F n ((i + 1 : Nat) : Int)) bad) (hf : ∀ n : Nat, (∀ j, j < len → ok j = true) → F (n + 1) (len : Int) = fin) :
  ∀ n i : Nat, i ≤ len → len < n + i → (∀ j, j < i → ok j = true) → F n (i : Int) = cnd ((List.range len).all ok) fin bad := by
 intro n
 induction n with
 | zero => intro i h1 h2; omega
 | succ n ih =>
  intro i h1 h2 h3
  by_cases hi : i < len
  ·rw [hs n i hi h3]
   cases ho : ok i with
   | true =>
    exact ih (i + 1) (by omega) (by omega) fun j hj => by
     rcases Nat.lt_or_ge j i with h | h
     ·exact h3 j h
     ·rw [show j = i by omega]; exact ho
   | false =>
    have : (List.range len).all ok = false := by
     rw [List.all_eq_false]; exact ⟨i, by simpa using hi, by simp [ho]⟩
    rw [this]; rfl
  ·obtain rfl : i = len := by omega
   rw [hf n h3]
   have : (List.range i).all ok = true := by
    rw [List.all_eq_true]; intro j hj; exact h3 j (by simpa using hj)
   rw [this]; rfl
theorem srch {F : Nat → Int → Option R} {N len : Nat} {ok : Nat → Bool} {bad fin : Option R} (hN : len < N)
  (hs : ∀ n i : Nat, i < len → (∀ j, j < i → ok j = true) → F (n + 1) (i : Int) = cnd (ok i) (F n ((i + 1 : Nat) : Int)) bad) (hf : ∀ n : Nat, (∀ j, j < len → ok j = true) → F (n + 1) (len : Int) = fin) :
  F N (0 : Int) = cnd ((List.range len).all ok) fin bad :=
 srchA hs hf N 0 (by omega) (by omega) (by omega)
theorem foldA {F : Nat → σ × Int → Option R} {len : Nat} {st : Nat → σ} {fin : Option R} (hs : ∀ n i : Nat, i < len → F (n + 1) (st i, (i : Int)) = F n (st (i + 1), ((i + 1 : Nat) : Int))) (hf : ∀ n : Nat, F (n + 1) (st len, (len : Int)) = fin) :
  ∀ n i : Nat, i ≤ len → len < n + i → F n (st i, (i : Int)) = fin := by
 intro n
 induction n with
 | zero => intro i h1 h2; omega
 | succ n ih =>
  intro i h1 h2
  by_cases hi : i < len
  ·rw [hs n i hi]; exact ih (i + 1) (by omega) (by omega)
  ·obtain rfl : i = len := by omega
   exact hf n
theorem fold {F : Nat → σ × Int → Option R} {N len : Nat} {st : Nat → σ} {fin : Option R} (hN : len < N) (hs : ∀ n i : Nat, i < len → F (n + 1) (st i, (i : Int)) = F n (st (i + 1), ((i + 1 : Nat) : Int))) (hf : ∀ n : Nat, F (n + 1) (st len, (len : Int)) = fin) :
  F N (st 0, (0 : Int)) = fin := foldA hs hf N 0 (by omega) (by omega)
theorem cnd_congr {α : Type} {a b : Bool} (h : a = b) (x y : α) : cnd a x y = cnd b x y := by rw [h]
theorem cnd_congr' {α : Type} {a b : Bool} (h : a = !b) (x y : α) : cnd a x y = cnd b y x := by subst h; cases b <;> rfl
theorem succ_cast (i : Nat) : ((i : Int) + 1) = ((i + 1 : Nat) : Int) := rfl
theorem range_all_not_contains (l : List Int) (x : Int) : ((List.range l.length).all fun i => !(l.getD i 0 == x)) = !l.contains x := by
 rw [Bool.eq_iff_iff, List.all_eq_true]
 simp only [List.mem_range, Bool.not_eq_true', beq_eq_false_iff_ne, List.contains_eq_mem, decide_eq_false_iff_not]
 constructor
 ·intro h hx
  obtain ⟨i, hi, he⟩ := List.mem_iff_getElem.1 hx
  exact h i hi (by simp [List.getD_eq_getElem?_getD, hi, he])
 ·intro h i hi he
  exact h (List.mem_iff_getElem.2 ⟨i, hi, by simpa [List.getD_eq_getElem?_getD, hi] using he⟩)
end Go.Proofs.Ytcljhpldfanhkaa
namespace Go.Proofs.Ytcljhpldfanhkaa
open Go.RowKit
def S_l1In (N : Nat) (x_0 : Int) (low_1 : Int) (high_2 : Int) : Option (Bool) :=
 cnd (decide (x_0 ≥ low_1)) (
  some (decide (x_0 ≤ high_2))) (
  some false)
set_option maxRecDepth 20000 in
set_option maxHeartbeats 1600000 in
theorem S_l1In_w (N : Nat) (x_0 : Int) (low_1 : Int) (high_2 : Int) (r : Bool) (h : S_l1In N x_0 low_1 high_2 = some r) : PCall Try.prog 182 [.int x_0, .int low_1, .int high_2] [] (.bool r) := by
 unfold S_l1In at h
 refine pcall_intro (TT := TT) tt Try.func182 rfl rfl Try.ntmps182 (congrArg Array.toList Try.results182) rfl rfl fun w0 => ?_
 refine vSeq ?_
 refine vRegion ?_
 refine oVal tt rfl rfl rfl rfl rfl trivial ?_
 refine vNil ?_
 change VC _ _ _ _
 refine vSeq ?_
 refine vRegion ?_
 iterate 4 refine oVal tt rfl rfl rfl rfl rfl trivial ?_
 refine oSplit rfl rfl rfl (fun hb1 => ?_) (fun hb1 => ?_)
 ·replace h := cnd_t hb1 h
  iterate 3 refine oValG tt rfl rfl rfl rfl rfl hb1 rfl rfl rfl trivial ?_
  refine oPick rfl rfl rfl rfl rfl hb1 rfl ?_
  refine oVal tt rfl rfl rfl rfl rfl trivial ?_
  refine vNil ?_
  change VC _ _ _ _
  refine vRet ?_
  change ∃ _, _
  cases h
  exact ⟨[], _, rfl, trivial, rfl, (.eq rfl), rfl⟩
 ·replace h := cnd_f hb1 h
  iterate 3 refine oNoT rfl rfl rfl rfl hb1 rfl rfl ?_
  refine oPickF rfl rfl rfl rfl rfl hb1 rfl ?_
  refine oVal tt rfl rfl rfl rfl rfl trivial ?_
  refine vNil ?_
  change VC _ _ _ _
  refine vRet ?_
  change ∃ _, _
  cases h
  exact ⟨[], _, rfl, trivial, rfl, (.eq rfl), rfl⟩
def I_within (N : Nat) (x_0 : Int) (lo_1 : Int) (hi_2 : Int) : Option (Bool) :=
 cnd (decide (x_0 ≥ lo_1)) (
  some (decide (x_0 ≤ hi_2))) (
  some false)
set_option maxRecDepth 20000 in
set_option maxHeartbeats 1600000 in
theorem I_within_w (N : Nat) (x_0 : Int) (lo_1 : Int) (hi_2 : Int) (r : Bool) (h : I_within N x_0 lo_1 hi_2 = some r) : PCall Try.prog 151 [.int x_0, .int lo_1, .int hi_2] [] (.bool r) := by
 unfold I_within at h
 refine pcall_intro (TT := TT) tt Try.func151 rfl rfl Try.ntmps151 (congrArg Array.toList Try.results151) rfl rfl fun w0 => ?_
 refine vSeq ?_
 refine vRegion ?_
 refine oVal tt rfl rfl rfl rfl rfl trivial ?_
 refine vNil ?_
 change VC _ _ _ _
 refine vSeq ?_
 refine vRegion ?_
 iterate 4 refine oVal tt rfl rfl rfl rfl rfl trivial ?_
 refine oSplit rfl rfl rfl (fun hb1 => ?_) (fun hb1 => ?_)
 ·replace h := cnd_t hb1 h
  iterate 3 refine oValG tt rfl rfl rfl rfl rfl hb1 rfl rfl rfl trivial ?_
  refine oPick rfl rfl rfl rfl rfl hb1 rfl ?_
  refine oVal tt rfl rfl rfl rfl rfl trivial ?_
  refine vNil ?_
  change VC _ _ _ _
  refine vRet ?_
  change ∃ _, _
  cases h
  exact ⟨[], _, rfl, trivial, rfl, (.eq rfl), rfl⟩
 ·replace h := cnd_f hb1 h
  iterate 3 refine oNoT rfl rfl rfl rfl hb1 rfl rfl ?_
  refine oPickF rfl rfl rfl rfl rfl hb1 rfl ?_
  refine oVal tt rfl rfl rfl rfl rfl trivial ?_
  refine vNil ?_
  change VC _ _ _ _
  refine vRet ?_
  change ∃ _, _
  cases h
  exact ⟨[], _, rfl, trivial, rfl, (.eq rfl), rfl⟩
end Go.Proofs.Ytcljhpldfanhkaa
namespace Go.Proofs.Ytcljhpldfanhkaa
open Go.RowKit
def S_l2After (N : Nat) (a_0 : Int × Int) (b_1 : Int × Int) : Option (Bool) :=
 cnd (decide (a_0.1 < b_1.1)) (
  some true) (
  cnd (a_0.1 == b_1.1) (
   some (decide (a_0.2 ≤ b_1.2))) (
   some false))
set_option maxRecDepth 20000 in
set_option maxHeartbeats 1600000 in
theorem S_l2After_w (N : Nat) (a_0 : Int × Int) (b_1 : Int × Int) (r : Bool) (h : S_l2After N a_0 b_1 = some r) : PCall Try.prog 198 [.agg [.int a_0.1, .int a_0.2], .agg [.int b_1.1, .int b_1.2]] [] (.bool r) := by
 unfold S_l2After at h
 refine pcall_intro (TT := TT) tt Try.func198 rfl rfl Try.ntmps198 (congrArg Array.toList Try.results198) rfl rfl fun w0 => ?_
 refine vSeq ?_
 refine vRegion ?_
 iterate 2 refine oBox rfl rfl rfl rfl rfl rfl rfl rfl rfl ?_
 refine oVal tt rfl rfl rfl rfl rfl trivial ?_
 refine vNil ?_
 change VC _ _ _ _
 refine vSeq ?_
 refine vRegion ?_
 iterate 6 refine oVal tt rfl rfl rfl rfl rfl trivial ?_
 refine oSplit rfl rfl rfl (fun hb1 => ?_) (fun hb1 => ?_)
 ·replace h := cnd_t hb1 h
  iterate 6 refine oNoF rfl rfl rfl rfl hb1 rfl rfl ?_
  iterate 5 refine oNoU rfl rfl rfl rfl rfl ?_
  refine oNoF rfl rfl rfl rfl hb1 rfl rfl ?_
  refine oPick rfl rfl rfl rfl rfl hb1 rfl ?_
  refine oVal tt rfl rfl rfl rfl rfl trivial ?_
  refine vNil ?_
  change VC _ _ _ _
  refine vRet ?_
  change ∃ _, _
  cases h
  exact ⟨[], _, rfl, trivial, rfl, (.eq rfl), rfl⟩
 ·replace h := cnd_f hb1 h
  iterate 6 refine oValG tt rfl rfl rfl rfl rfl hb1 rfl rfl rfl trivial ?_
  refine oSplit rfl rfl rfl (fun hb2 => ?_) (fun hb2 => ?_)
  ·replace h := cnd_t hb2 h
   iterate 5 refine oValG tt rfl rfl rfl rfl rfl hb2 rfl rfl rfl trivial ?_
   refine oPickGT rfl rfl rfl rfl hb1 rfl rfl rfl rfl hb2 rfl ?_
   refine oPickF rfl rfl rfl rfl rfl hb1 rfl ?_
   refine oVal tt rfl rfl rfl rfl rfl trivial ?_
   refine vNil ?_
   change VC _ _ _ _
   refine vRet ?_
   change ∃ _, _
   cases h
   exact ⟨[], _, rfl, trivial, rfl, (.eq rfl), rfl⟩
  ·replace h := cnd_f hb2 h
   iterate 5 refine oNoT rfl rfl rfl rfl hb2 rfl rfl ?_
   refine oPickGF rfl rfl rfl rfl hb1 rfl rfl rfl rfl hb2 rfl ?_
   refine oPickF rfl rfl rfl rfl rfl hb1 rfl ?_
   refine oVal tt rfl rfl rfl rfl rfl trivial ?_
   refine vNil ?_
   change VC _ _ _ _
   refine vRet ?_
   change ∃ _, _
   cases h
   exact ⟨[], _, rfl, trivial, rfl, (.eq rfl), rfl⟩
def S_IsGraph_l1 (N : Nat) (g_0 : Grf) (k : Unit → Option (Bool)) : Nat → Int → Option (Bool)
 | 0, _ => none
 | n + 1, i8 =>
  cnd (decide (i8 < (g_0.bars.length : Int))) (
   grd (0 ≤ i8 ∧ i8 < (g_0.bars.length : Int)) <|
   cnd (decide (((g_0.bars.getD ((i8).toNat) (0, 0)).1) < (0 : Int))) (
    some false) (
    cnd (decide (((g_0.bars.getD ((i8).toNat) (0, 0)).1) ≥ ((g_0.bars.getD ((i8).toNat) (0, 0)).2))) (
     some false) (
     cnd (decide (((g_0.bars.getD ((i8).toNat) (0, 0)).2) ≥ g_0.n)) (
      some false) (
      cnd (decide (i8 > (0 : Int))) (
       grd (Rg64 (i8 - (1 : Int))) <|
       grd (0 ≤ (i8 - (1 : Int)) ∧ (i8 - (1 : Int)) < (g_0.bars.length : Int)) <|
       (S_l2After N (g_0.bars.getD (((i8 - (1 : Int))).toNat) (0, 0)) (g_0.bars.getD ((i8).toNat) (0, 0))).bind fun v10 =>
       cnd (!v10) (
        some false) (
        grd (Rg64 (i8 + (1 : Int))) <|
        S_IsGraph_l1 N g_0 k n (i8 + (1 : Int)))) (
       grd (Rg64 (i8 + (1 : Int))) <|
       S_IsGraph_l1 N g_0 k n (i8 + (1 : Int))))))) (
   k ())
def S_IsGraph (N : Nat) (g_0 : Grf) : Option (Bool) :=
 (S_l1In N g_0.n (1 : Int) (8 : Int)).bind fun v1 =>
 cnd (!v1) (
  some false) (
  cnd (decide ((g_0.bars.length : Int) > (24 : Int))) (
   some false) (
   S_IsGraph_l1 N g_0 (fun (_ : Unit) =>
      some true) N (0 : Int)))
set_option maxRecDepth 20000 in
set_option maxHeartbeats 1600000 in
theorem S_IsGraph_w (N : Nat) (g_0 : Grf) (r : Bool) (h : S_IsGraph N g_0 = some r) : PCall Try.prog 178 [gD g_0] [] (.bool r) := by
 unfold S_IsGraph at h
 refine pcall_intro (TT := TT) tt Try.func178 rfl rfl Try.ntmps178 (congrArg Array.toList Try.results178) rfl rfl fun w0 => ?_
 refine vSeq ?_
 refine vRegion ?_
 refine oBox rfl rfl rfl rfl rfl rfl rfl rfl rfl ?_
 refine oVal tt rfl rfl rfl rfl rfl trivial ?_
 refine vNil ?_
 change VC _ _ _ _
 iterate 2 refine vSeq ?_
 refine vRegion ?_
 iterate 2 refine oVal tt rfl rfl rfl rfl rfl trivial ?_
 obtain ⟨v1, hc1, h⟩ := bind_inv h
 refine oCall (S_l1In_w N g_0.n (1 : Int) (8 : Int) v1 hc1) rfl rfl rfl rfl rfl rfl rfl rfl ⟨rfl, rfl, rfl, trivial⟩ ?_
 iterate 2 refine oVal tt rfl rfl rfl rfl rfl trivial ?_
 refine oSplit rfl rfl rfl (fun hb2 => ?_) (fun hb2 => ?_)
 ·replace h := cnd_t hb2 h
  iterate 4 refine oNoF rfl rfl rfl rfl hb2 rfl rfl ?_
  refine oPick rfl rfl rfl rfl rfl hb2 rfl ?_
  refine vNil ?_
  change VC _ _ _ _
  refine vCondT rfl rfl ?_
  refine vSeq ?_
  refine vRegion ?_
  refine oVal tt rfl rfl rfl rfl rfl trivial ?_
  refine vNil ?_
  change VC _ _ _ _
  refine vRet ?_
  change ∃ _, _
  cases h
  exact ⟨[], _, rfl, trivial, rfl, (.eq rfl), rfl⟩
 ·replace h := cnd_f hb2 h
  iterate 4 refine oValG tt rfl rfl rfl rfl rfl hb2 rfl rfl rfl trivial ?_
  refine oPickF rfl rfl rfl rfl rfl hb2 rfl ?_
  refine vNil ?_
  change VC _ _ _ _
  refine vCond rfl (fun hb3 => ?_) (fun hb3 => ?_)
  ·replace h := cnd_t hb3 h
   refine vSeq ?_
   refine vRegion ?_
   refine oVal tt rfl rfl rfl rfl rfl trivial ?_
   refine vNil ?_
   change VC _ _ _ _
   refine vRet ?_
   change ∃ _, _
   cases h
   exact ⟨[], _, rfl, trivial, rfl, (.eq rfl), rfl⟩
  ·replace h := cnd_f hb3 h
   refine vSkip ?_
   change VC _ _ _ _
   iterate 2 refine vSeq ?_
   refine vRegion ?_
   refine oVal tt rfl rfl rfl rfl rfl trivial ?_
   refine vNil ?_
   change VC _ _ _ _
   refine vJoin (F := fun k => S_IsGraph_l1 N g_0 k) h (α := Unit) (J := fun (_ : Unit) => (⟨[], [], []⟩ : PS)) ?_ ?_
   ·rintro ⟨⟩ h
    show VC _ _ _ (⟨[], [], []⟩ : PS)
    refine vSeq ?_
    refine vRegion ?_
    refine oVal tt rfl rfl rfl rfl rfl trivial ?_
    refine vNil ?_
    change VC _ _ _ _
    refine vRet ?_
    change ∃ _, _
    cases h
    exact ⟨[], _, rfl, trivial, rfl, (.eq rfl), rfl⟩
   ·intro k h
    refine vBlock ?_
    refine vLoopS (α := Int) (fun (i8 : Int) => (⟨[(1, .ptr 1 0), (3, .int i8)], [], [(1, some [.int g_0.n, .ro false (.pairs g_0.bars)])]⟩ : PS)) (S_IsGraph_l1 N g_0 k) h (En.of ⟨rfl, rfl, trivial⟩ trivial ⟨rfl, trivial⟩) (fun _ => rfl) ?_
    rintro n i8 h
    rw [S_IsGraph_l1] at h
    show VC _ _ _ (⟨[(1, .ptr 1 0), (3, .int i8)], [], [(1, some [.int g_0.n, .ro false (.pairs g_0.bars)])]⟩ : PS)
    iterate 2 refine vSeq ?_
    refine vRegion ?_
    iterate 5 refine oVal tt rfl rfl rfl rfl rfl trivial ?_
    refine vNil ?_
    change VC _ _ _ _
    refine vCond rfl (fun hb4 => ?_) (fun hb4 => ?_)
    ·replace h := cnd_t hb4 h
     refine vSkip ?_
     change VC _ _ _ _
     refine vSeq ?_
     refine vBlock ?_
     refine vSeq ?_
     refine vRegion ?_
     iterate 3 refine oVal tt rfl rfl rfl rfl rfl trivial ?_
     obtain ⟨hg5, h⟩ := grd_inv h
     refine oVal tt rfl rfl rfl rfl rfl hg5 ?_
     refine oVal tt rfl rfl rfl rfl rfl trivial ?_
     refine oAlloc tt rfl rfl rfl rfl rfl rfl rfl rfl rfl ?_
     refine oStore tt rfl rfl rfl rfl rfl rfl rfl rfl rfl rfl rfl ⟨trivial, trivial, trivial⟩ ?_
     refine vNil ?_
     change VC _ _ _ _
     refine vSeq ?_
     refine vRegionD (by kernel_rfl) (by kernel_rfl) ?_
     iterate 4 refine cVal tt rfl (wNone rfl) rfl rfl rfl trivial ?_
     refine cSplit rfl rfl rfl (fun hb6 => ?_) (fun hb6 => ?_)
     ·replace h := cnd_t hb6 h
      iterate 5 refine cNoF rfl rfl rfl rfl hb6 rfl rfl ?_
      refine cPickT rfl (wNone rfl) rfl rfl rfl hb6 rfl ?_
      refine cVal tt rfl (wNone rfl) rfl rfl rfl trivial ?_
      iterate 5 refine cNoF rfl rfl rfl rfl rfl rfl rfl ?_
      refine cPickT rfl (wNone rfl) rfl rfl rfl rfl rfl ?_
      refine cVal tt rfl (wNone rfl) rfl rfl rfl trivial ?_
      iterate 3 refine cNoF rfl rfl rfl rfl rfl rfl rfl ?_
      iterate 9 refine cNoU rfl rfl rfl rfl rfl ?_
      refine cNoF rfl rfl rfl rfl rfl rfl rfl ?_
      refine cPickT rfl (wNone rfl) rfl rfl rfl rfl rfl ?_
      refine cNil ?_
      change VC _ _ _ _
      refine vCondT rfl rfl ?_
      refine vSeq ?_
      refine vRegion ?_
      refine oVal tt rfl rfl rfl rfl rfl trivial ?_
      refine vNil ?_
      change VC _ _ _ _
      refine vRet ?_
      change ∃ _, _
      cases h
      exact ⟨[], _, rfl, trivial, rfl, (.eq rfl), rfl⟩
     ·replace h := cnd_f hb6 h
      iterate 5 refine cVal tt rfl (wSome rfl rfl rfl rfl hb6) rfl rfl rfl trivial ?_
      refine cPickF rfl (wNone rfl) rfl rfl rfl hb6 rfl ?_
      refine cVal tt rfl (wNone rfl) rfl rfl rfl trivial ?_
      refine cSplit rfl rfl rfl (fun hb7 => ?_) (fun hb7 => ?_)
      ·replace h := cnd_t hb7 h
       iterate 5 refine cNoF rfl rfl rfl rfl hb7 rfl rfl ?_
       refine cPickT rfl (wNone rfl) rfl rfl rfl hb7 rfl ?_
       refine cVal tt rfl (wNone rfl) rfl rfl rfl trivial ?_
       iterate 3 refine cNoF rfl rfl rfl rfl rfl rfl rfl ?_
       iterate 9 refine cNoU rfl rfl rfl rfl rfl ?_
       refine cNoF rfl rfl rfl rfl rfl rfl rfl ?_
       refine cPickT rfl (wNone rfl) rfl rfl rfl rfl rfl ?_
       refine cNil ?_
       change VC _ _ _ _
       refine vCondT rfl rfl ?_
       refine vSeq ?_
       refine vRegion ?_
       refine oVal tt rfl rfl rfl rfl rfl trivial ?_
       refine vNil ?_
       change VC _ _ _ _
       refine vRet ?_
       change ∃ _, _
       cases h
       exact ⟨[], _, rfl, trivial, rfl, (.eq rfl), rfl⟩
      ·replace h := cnd_f hb7 h
       iterate 5 refine cVal tt rfl (wSome rfl rfl rfl rfl hb7) rfl rfl rfl trivial ?_
       refine cPickF rfl (wNone rfl) rfl rfl rfl hb7 rfl ?_
       refine cVal tt rfl (wNone rfl) rfl rfl rfl trivial ?_
       refine cSplit rfl rfl rfl (fun hb8 => ?_) (fun hb8 => ?_)
       ·replace h := cnd_t hb8 h
        iterate 3 refine cNoF rfl rfl rfl rfl hb8 rfl rfl ?_
        iterate 9 refine cNoU rfl rfl rfl rfl rfl ?_
        refine cNoF rfl rfl rfl rfl hb8 rfl rfl ?_
        refine cPickT rfl (wNone rfl) rfl rfl rfl hb8 rfl ?_
        refine cNil ?_
        change VC _ _ _ _
        refine vCondT rfl rfl ?_
        refine vSeq ?_
        refine vRegion ?_
        refine oVal tt rfl rfl rfl rfl rfl trivial ?_
        refine vNil ?_
        change VC _ _ _ _
        refine vRet ?_
        change ∃ _, _
        cases h
        exact ⟨[], _, rfl, trivial, rfl, (.eq rfl), rfl⟩
       ·replace h := cnd_f hb8 h
        iterate 3 refine cVal tt rfl (wSome rfl rfl rfl rfl hb8) rfl rfl rfl trivial ?_
        refine cSplit rfl rfl rfl (fun hb9 => ?_) (fun hb9 => ?_)
        ·replace h := cnd_t hb9 h
         iterate 3 refine cVal tt rfl (wSome rfl rfl rfl rfl hb9) rfl rfl rfl trivial ?_
         obtain ⟨hg10, h⟩ := grd_inv h
         refine cVal tt rfl (wSome rfl rfl rfl rfl hb9) rfl rfl rfl hg10 ?_
         obtain ⟨hg11, h⟩ := grd_inv h
         refine cVal tt rfl (wSome rfl rfl rfl rfl hb9) rfl rfl rfl hg11 ?_
         iterate 2 refine cVal tt rfl (wSome rfl rfl rfl rfl hb9) rfl rfl rfl trivial ?_
         obtain ⟨v10, hc12, h⟩ := bind_inv h
         refine cCall (S_l2After_w N (g_0.bars.getD (((i8 - (1 : Int))).toNat) (0, 0)) (g_0.bars.getD ((i8).toNat) (0, 0)) v10 hc12) rfl (wSome rfl rfl rfl rfl hb9) rfl rfl rfl rfl rfl rfl ⟨⟨rfl, rfl, trivial⟩, ⟨rfl, rfl, trivial⟩, trivial⟩ ?_
         refine cVal tt rfl (wSome rfl rfl rfl rfl hb9) rfl rfl rfl trivial ?_
         refine cPickT rfl (wSome rfl rfl rfl rfl hb8) rfl rfl rfl hb9 rfl ?_
         refine cPickF rfl (wNone rfl) rfl rfl rfl hb8 rfl ?_
         refine cNil ?_
         change VC _ _ _ _
         refine vCond rfl (fun hb13 => ?_) (fun hb13 => ?_)
         ·replace h := cnd_t hb13 h
          refine vSeq ?_
          refine vRegion ?_
          refine oVal tt rfl rfl rfl rfl rfl trivial ?_
          refine vNil ?_
          change VC _ _ _ _
          refine vRet ?_
          change ∃ _, _
          cases h
          exact ⟨[], _, rfl, trivial, rfl, (.eq rfl), rfl⟩
         ·replace h := cnd_f hb13 h
          refine vSkip ?_
          change VC _ _ _ _
          refine vRegion ?_
          refine oVal tt rfl rfl rfl rfl rfl trivial ?_
          obtain ⟨hg14, h⟩ := grd_inv h
          refine oVal tt rfl rfl rfl rfl rfl hg14 ?_
          refine oVal tt rfl rfl rfl rfl rfl trivial ?_
          refine vNil ?_
          change ∃ _, _
          exact ⟨(i8 + (1 : Int)), (En.of ⟨rfl, rfl, trivial⟩ trivial ⟨rfl, trivial⟩), h⟩
        ·replace h := cnd_f hb9 h
         iterate 9 refine cNoT rfl rfl rfl rfl hb9 rfl rfl ?_
         refine cPickF rfl (wSome rfl rfl rfl rfl hb8) rfl rfl rfl hb9 rfl ?_
         refine cPickF rfl (wNone rfl) rfl rfl rfl hb8 rfl ?_
         refine cNil ?_
         change VC _ _ _ _
         refine vCondF rfl rfl ?_
         refine vSkip ?_
         change VC _ _ _ _
         refine vRegion ?_
         refine oVal tt rfl rfl rfl rfl rfl trivial ?_
         obtain ⟨hg15, h⟩ := grd_inv h
         refine oVal tt rfl rfl rfl rfl rfl hg15 ?_
         refine oVal tt rfl rfl rfl rfl rfl trivial ?_
         refine vNil ?_
         change ∃ _, _
         exact ⟨(i8 + (1 : Int)), (En.of ⟨rfl, rfl, trivial⟩ trivial ⟨rfl, trivial⟩), h⟩
    ·replace h := cnd_f hb4 h
     refine vExit ?_
     change ∃ _, _
     exact ⟨(), (En.of trivial trivial trivial), h⟩
end Go.Proofs.Ytcljhpldfanhkaa
namespace Go.Proofs.Ytcljhpldfanhkaa
open Go.RowKit
def S_l2Has_l1 (N : Nat) (l_0 : List Int) (x_1 : Int) (k : Unit → Option (Bool)) : Nat → Int → Option (Bool)
 | 0, _ => none
 | n + 1, i3 =>
  cnd (decide (i3 < (l_0.length : Int))) (
   grd (0 ≤ i3 ∧ i3 < (l_0.length : Int)) <|
   cnd ((l_0.getD ((i3).toNat) 0) == x_1) (
    some true) (
    grd (Rg64 (i3 + (1 : Int))) <|
    S_l2Has_l1 N l_0 x_1 k n (i3 + (1 : Int)))) (
   k ())
def S_l2Has (N : Nat) (l_0 : List Int) (x_1 : Int) : Option (Bool) :=
 S_l2Has_l1 N l_0 x_1 (fun (_ : Unit) =>
    some false) N (0 : Int)
set_option maxRecDepth 20000 in
set_option maxHeartbeats 1600000 in
theorem S_l2Has_w (N : Nat) (l_0 : List Int) (x_1 : Int) (r : Bool) (h : S_l2Has N l_0 x_1 = some r) : PCall Try.prog 113 [.ro false (.ints l_0), .int x_1] [] (.bool r) := by
 unfold S_l2Has at h
 refine pcall_intro (TT := TT) tt Try.func113 rfl rfl Try.ntmps113 (congrArg Array.toList Try.results113) rfl rfl fun w0 => ?_
 refine vSeq ?_
 refine vRegion ?_
 refine oVal tt rfl rfl rfl rfl rfl trivial ?_
 refine vNil ?_
 change VC _ _ _ _
 iterate 2 refine vSeq ?_
 refine vRegion ?_
 refine oVal tt rfl rfl rfl rfl rfl trivial ?_
 refine vNil ?_
 change VC _ _ _ _
 refine vJoin (F := fun k => S_l2Has_l1 N l_0 x_1 k) h (α := Unit) (J := fun (_ : Unit) => (⟨[], [], []⟩ : PS)) ?_ ?_
 ·rintro ⟨⟩ h
  show VC _ _ _ (⟨[], [], []⟩ : PS)
  refine vSeq ?_
  refine vRegion ?_
  refine oVal tt rfl rfl rfl rfl rfl trivial ?_
  refine vNil ?_
  change VC _ _ _ _
  refine vRet ?_
  change ∃ _, _
  cases h
  exact ⟨[], _, rfl, trivial, rfl, (.eq rfl), rfl⟩
 ·intro k h
  refine vBlock ?_
  refine vLoopS (α := Int) (fun (i3 : Int) => (⟨[(0, .ro false (.ints l_0)), (1, .int x_1), (5, .int i3)], [], []⟩ : PS)) (S_l2Has_l1 N l_0 x_1 k) h (En.of ⟨rfl, rfl, rfl, trivial⟩ trivial trivial) (fun _ => rfl) ?_
  rintro n i3 h
  rw [S_l2Has_l1] at h
  show VC _ _ _ (⟨[(0, .ro false (.ints l_0)), (1, .int x_1), (5, .int i3)], [], []⟩ : PS)
  iterate 2 refine vSeq ?_
  refine vRegion ?_
  iterate 4 refine oVal tt rfl rfl rfl rfl rfl trivial ?_
  refine vNil ?_
  change VC _ _ _ _
  refine vCond rfl (fun hb1 => ?_) (fun hb1 => ?_)
  ·replace h := cnd_t hb1 h
   refine vSkip ?_
   change VC _ _ _ _
   refine vSeq ?_
   refine vBlock ?_
   refine vSeq ?_
   refine vRegion ?_
   iterate 2 refine oVal tt rfl rfl rfl rfl rfl trivial ?_
   obtain ⟨hg2, h⟩ := grd_inv h
   refine oVal tt rfl rfl rfl rfl rfl hg2 ?_
   iterate 3 refine oVal tt rfl rfl rfl rfl rfl trivial ?_
   refine vNil ?_
   change VC _ _ _ _
   refine vCond rfl (fun hb3 => ?_) (fun hb3 => ?_)
   ·replace h := cnd_t hb3 h
    refine vSeq ?_
    refine vRegion ?_
    refine oVal tt rfl rfl rfl rfl rfl trivial ?_
    refine vNil ?_
    change VC _ _ _ _
    refine vRet ?_
    change ∃ _, _
    cases h
    exact ⟨[], _, rfl, trivial, rfl, (.eq rfl), rfl⟩
   ·replace h := cnd_f hb3 h
    refine vSkip ?_
    change VC _ _ _ _
    refine vRegion ?_
    refine oVal tt rfl rfl rfl rfl rfl trivial ?_
    obtain ⟨hg4, h⟩ := grd_inv h
    refine oVal tt rfl rfl rfl rfl rfl hg4 ?_
    refine oVal tt rfl rfl rfl rfl rfl trivial ?_
    refine vNil ?_
    change ∃ _, _
    exact ⟨(i3 + (1 : Int)), (En.of ⟨rfl, rfl, rfl, trivial⟩ trivial trivial), h⟩
  ·replace h := cnd_f hb1 h
   refine vExit ?_
   change ∃ _, _
   exact ⟨(), (En.of trivial trivial trivial), h⟩
end Go.Proofs.Ytcljhpldfanhkaa
namespace Go.Proofs.Ytcljhpldfanhkaa
open Go.RowKit
def M_Graph_has (N : Nat) (g_0 : Grf) (v_1 : Int) : Option (Bool) :=
 (I_within N v_1 (0 : Int) (w64 (g_0.n - (1 : Int)))).bind fun v1 =>
 some v1
set_option maxRecDepth 20000 in
set_option maxHeartbeats 1600000 in
theorem M_Graph_has_w (N : Nat) (g_0 : Grf) (v_1 : Int) (r : Bool) (h : M_Graph_has N g_0 v_1 = some r) : PCall Try.prog 149 [gD g_0, .int v_1] [] (.bool r) := by
 unfold M_Graph_has at h
 refine pcall_intro (TT := TT) tt Try.func149 rfl rfl Try.ntmps149 (congrArg Array.toList Try.results149) rfl rfl fun w0 => ?_
 refine vSeq ?_
 refine vRegion ?_
 refine oBox rfl rfl rfl rfl rfl rfl rfl rfl rfl ?_
 refine oVal tt rfl rfl rfl rfl rfl trivial ?_
 refine vNil ?_
 change VC _ _ _ _
 refine vSeq ?_
 refine vRegion ?_
 iterate 3 refine oVal tt rfl rfl rfl rfl rfl trivial ?_
 refine oPure (wNone rfl) (pSubW rfl rfl rfl) rfl rfl ?_
 obtain ⟨v1, hc1, h⟩ := bind_inv h
 refine oCall (I_within_w N v_1 (0 : Int) (w64 (g_0.n - (1 : Int))) v1 hc1) rfl rfl rfl rfl rfl rfl rfl rfl ⟨rfl, rfl, rfl, trivial⟩ ?_
 refine oVal tt rfl rfl rfl rfl rfl trivial ?_
 refine vNil ?_
 change VC _ _ _ _
 refine vRet ?_
 change ∃ _, _
 cases h
 exact ⟨[], _, rfl, trivial, rfl, (.eq rfl), rfl⟩
def I_compareInts (N : Nat) (a_0 : Int) (b_1 : Int) : Option (Int) :=
 cnd (decide (a_0 < b_1)) (
  some (-1 : Int)) (
  cnd (decide (a_0 > b_1)) (
   some (1 : Int)) (
   some (0 : Int)))
set_option maxRecDepth 20000 in
set_option maxHeartbeats 1600000 in
theorem I_compareInts_w (N : Nat) (a_0 : Int) (b_1 : Int) (r : Int) (h : I_compareInts N a_0 b_1 = some r) : PCall Try.prog 205 [.int a_0, .int b_1] [] (.int r) := by
 unfold I_compareInts at h
 refine pcall_intro (TT := TT) tt Try.func205 rfl rfl Try.ntmps205 (congrArg Array.toList Try.results205) rfl rfl fun w0 => ?_
 refine vSeq ?_
 refine vRegion ?_
 refine oVal tt rfl rfl rfl rfl rfl trivial ?_
 refine vNil ?_
 change VC _ _ _ _
 refine vSeq ?_
 refine vBlock ?_
 refine vSeq ?_
 refine vRegion ?_
 iterate 4 refine oVal tt rfl rfl rfl rfl rfl trivial ?_
 refine vNil ?_
 change VC _ _ _ _
 refine vCond rfl (fun hb1 => ?_) (fun hb1 => ?_)
 ·replace h := cnd_t hb1 h
  refine vSeq ?_
  refine vRegion ?_
  refine oVal tt rfl rfl rfl rfl rfl trivial ?_
  refine vNil ?_
  change VC _ _ _ _
  refine vRet ?_
  change ∃ _, _
  cases h
  exact ⟨[], _, rfl, trivial, rfl, (.eq rfl), rfl⟩
 ·replace h := cnd_f hb1 h
  refine vSeq ?_
  refine vRegion ?_
  iterate 4 refine oVal tt rfl rfl rfl rfl rfl trivial ?_
  refine vNil ?_
  change VC _ _ _ _
  refine vCond rfl (fun hb2 => ?_) (fun hb2 => ?_)
  ·replace h := cnd_t hb2 h
   refine vSeq ?_
   refine vRegion ?_
   refine oVal tt rfl rfl rfl rfl rfl trivial ?_
   refine vNil ?_
   change VC _ _ _ _
   refine vRet ?_
   change ∃ _, _
   cases h
   exact ⟨[], _, rfl, trivial, rfl, (.eq rfl), rfl⟩
  ·replace h := cnd_f hb2 h
   refine vSkip ?_
   change VC _ _ _ _
   refine vSeq ?_
   refine vRegion ?_
   refine oVal tt rfl rfl rfl rfl rfl trivial ?_
   refine vNil ?_
   change VC _ _ _ _
   refine vRet ?_
   change ∃ _, _
   cases h
   exact ⟨[], _, rfl, trivial, rfl, (.eq rfl), rfl⟩
def I_compareBars (N : Nat) (x_0 : Int × Int) (y_1 : Int × Int) : Option (Int) :=
 (I_compareInts N x_0.1 y_1.1).bind fun v1 =>
 cnd (v1 != (0 : Int)) (
  some v1) (
  (I_compareInts N x_0.2 y_1.2).bind fun v2 =>
  some v2)
set_option maxRecDepth 20000 in
set_option maxHeartbeats 1600000 in
theorem I_compareBars_w (N : Nat) (x_0 : Int × Int) (y_1 : Int × Int) (r : Int) (h : I_compareBars N x_0 y_1 = some r) : PCall Try.prog 186 [.agg [.int x_0.1, .int x_0.2], .agg [.int y_1.1, .int y_1.2]] [] (.int r) := by
 unfold I_compareBars at h
 refine pcall_intro (TT := TT) tt Try.func186 rfl rfl Try.ntmps186 (congrArg Array.toList Try.results186) rfl rfl fun w0 => ?_
 refine vSeq ?_
 refine vRegion ?_
 iterate 2 refine oBox rfl rfl rfl rfl rfl rfl rfl rfl rfl ?_
 refine oVal tt rfl rfl rfl rfl rfl trivial ?_
 refine vNil ?_
 change VC _ _ _ _
 iterate 2 refine vSeq ?_
 refine vRegion ?_
 iterate 4 refine oVal tt rfl rfl rfl rfl rfl trivial ?_
 obtain ⟨v1, hc1, h⟩ := bind_inv h
 refine oCall (I_compareInts_w N x_0.1 y_1.1 v1 hc1) rfl rfl rfl rfl rfl rfl rfl rfl ⟨rfl, rfl, trivial⟩ ?_
 refine oVal tt rfl rfl rfl rfl rfl trivial ?_
 refine vNil ?_
 change VC _ _ _ _
 refine vSeq ?_
 refine vRegion ?_
 iterate 2 refine oVal tt rfl rfl rfl rfl rfl trivial ?_
 refine vNil ?_
 change VC _ _ _ _
 refine vCond rfl (fun hb2 => ?_) (fun hb2 => ?_)
 ·replace h := cnd_t hb2 h
  refine vSeq ?_
  refine vRegion ?_
  iterate 2 refine oVal tt rfl rfl rfl rfl rfl trivial ?_
  refine vNil ?_
  change VC _ _ _ _
  refine vRet ?_
  change ∃ _, _
  cases h
  exact ⟨[], _, rfl, trivial, rfl, (.eq rfl), rfl⟩
 ·replace h := cnd_f hb2 h
  refine vSkip ?_
  change VC _ _ _ _
  refine vSeq ?_
  refine vRegion ?_
  iterate 4 refine oVal tt rfl rfl rfl rfl rfl trivial ?_
  obtain ⟨v2, hc3, h⟩ := bind_inv h
  refine oCall (I_compareInts_w N x_0.2 y_1.2 v2 hc3) rfl rfl rfl rfl rfl rfl rfl rfl ⟨rfl, rfl, trivial⟩ ?_
  refine oVal tt rfl rfl rfl rfl rfl trivial ?_
  refine vNil ?_
  change VC _ _ _ _
  refine vRet ?_
  change ∃ _, _
  cases h
  exact ⟨[], _, rfl, trivial, rfl, (.eq rfl), rfl⟩
end Go.Proofs.Ytcljhpldfanhkaa
namespace Go.Proofs.Ytcljhpldfanhkaa
open Go.RowKit
def I_IsGraph_l1 (N : Nat) (g_0 : Grf) (k : Unit → Option (Bool)) : Nat → Int → Option (Bool)
 | 0, _ => none
 | n + 1, x8 =>
  cnd (decide (x8 < (g_0.bars.length : Int))) (
   grd (0 ≤ x8 ∧ x8 < (g_0.bars.length : Int)) <|
   cnd (decide (((g_0.bars.getD ((x8).toNat) (0, 0)).1) < (0 : Int))) (
    some false) (
    cnd (decide (((g_0.bars.getD ((x8).toNat) (0, 0)).1) ≥ ((g_0.bars.getD ((x8).toNat) (0, 0)).2))) (
     some false) (
     cnd (decide (((g_0.bars.getD ((x8).toNat) (0, 0)).2) ≥ g_0.n)) (
      some false) (
      cnd (decide (x8 > (0 : Int))) (
       grd (Rg64 (x8 - (1 : Int))) <|
       grd (0 ≤ (x8 - (1 : Int)) ∧ (x8 - (1 : Int)) < (g_0.bars.length : Int)) <|
       (I_compareBars N (g_0.bars.getD (((x8 - (1 : Int))).toNat) (0, 0)) (g_0.bars.getD ((x8).toNat) (0, 0))).bind fun v10 =>
       cnd (decide (v10 > (0 : Int))) (
        some false) (
        grd (Rg64 (x8 + (1 : Int))) <|
        I_IsGraph_l1 N g_0 k n (x8 + (1 : Int)))) (
       grd (Rg64 (x8 + (1 : Int))) <|
       I_IsGraph_l1 N g_0 k n (x8 + (1 : Int))))))) (
   k ())
def I_IsGraph (N : Nat) (g_0 : Grf) : Option (Bool) :=
 (I_within N g_0.n (1 : Int) (8 : Int)).bind fun v1 =>
 cnd (!v1) (
  some false) (
  cnd (decide ((g_0.bars.length : Int) > (24 : Int))) (
   some false) (
   I_IsGraph_l1 N g_0 (fun (_ : Unit) =>
      some true) N (0 : Int)))
set_option maxRecDepth 20000 in
set_option maxHeartbeats 1600000 in
theorem I_IsGraph_w (N : Nat) (g_0 : Grf) (r : Bool) (h : I_IsGraph N g_0 = some r) : PCall Try.prog 147 [gD g_0] [] (.bool r) := by
 unfold I_IsGraph at h
 refine pcall_intro (TT := TT) tt Try.func147 rfl rfl Try.ntmps147 (congrArg Array.toList Try.results147) rfl rfl fun w0 => ?_
 refine vSeq ?_
 refine vRegion ?_
 refine oBox rfl rfl rfl rfl rfl rfl rfl rfl rfl ?_
 refine oVal tt rfl rfl rfl rfl rfl trivial ?_
 refine vNil ?_
 change VC _ _ _ _
 iterate 2 refine vSeq ?_
 refine vRegion ?_
 iterate 2 refine oVal tt rfl rfl rfl rfl rfl trivial ?_
 obtain ⟨v1, hc1, h⟩ := bind_inv h
 refine oCall (I_within_w N g_0.n (1 : Int) (8 : Int) v1 hc1) rfl rfl rfl rfl rfl rfl rfl rfl ⟨rfl, rfl, rfl, trivial⟩ ?_
 iterate 2 refine oVal tt rfl rfl rfl rfl rfl trivial ?_
 refine oSplit rfl rfl rfl (fun hb2 => ?_) (fun hb2 => ?_)
 ·replace h := cnd_t hb2 h
  iterate 4 refine oNoF rfl rfl rfl rfl hb2 rfl rfl ?_
  refine oPick rfl rfl rfl rfl rfl hb2 rfl ?_
  refine vNil ?_
  change VC _ _ _ _
  refine vCondT rfl rfl ?_
  refine vSeq ?_
  refine vRegion ?_
  refine oVal tt rfl rfl rfl rfl rfl trivial ?_
  refine vNil ?_
  change VC _ _ _ _
  refine vRet ?_
  change ∃ _, _
  cases h
  exact ⟨[], _, rfl, trivial, rfl, (.eq rfl), rfl⟩
 ·replace h := cnd_f hb2 h
  iterate 4 refine oValG tt rfl rfl rfl rfl rfl hb2 rfl rfl rfl trivial ?_
  refine oPickF rfl rfl rfl rfl rfl hb2 rfl ?_
  refine vNil ?_
  change VC _ _ _ _
  refine vCond rfl (fun hb3 => ?_) (fun hb3 => ?_)
  ·replace h := cnd_t hb3 h
   refine vSeq ?_
   refine vRegion ?_
   refine oVal tt rfl rfl rfl rfl rfl trivial ?_
   refine vNil ?_
   change VC _ _ _ _
   refine vRet ?_
   change ∃ _, _
   cases h
   exact ⟨[], _, rfl, trivial, rfl, (.eq rfl), rfl⟩
  ·replace h := cnd_f hb3 h
   refine vSkip ?_
   change VC _ _ _ _
   iterate 2 refine vSeq ?_
   refine vRegion ?_
   iterate 4 refine oVal tt rfl rfl rfl rfl rfl trivial ?_
   refine vNil ?_
   change VC _ _ _ _
   refine vJoin (F := fun k => I_IsGraph_l1 N g_0 k) h (α := Unit) (J := fun (_ : Unit) => (⟨[], [], []⟩ : PS)) ?_ ?_
   ·rintro ⟨⟩ h
    show VC _ _ _ (⟨[], [], []⟩ : PS)
    refine vSeq ?_
    refine vRegion ?_
    refine oVal tt rfl rfl rfl rfl rfl trivial ?_
    refine vNil ?_
    change VC _ _ _ _
    refine vRet ?_
    change ∃ _, _
    cases h
    exact ⟨[], _, rfl, trivial, rfl, (.eq rfl), rfl⟩
   ·intro k h
    refine vBlock ?_
    refine vLoopS (α := Int) (fun (x8 : Int) => (⟨[(1, .ptr 1 0), (16, .ro false (.pairs g_0.bars)), (17, .int (g_0.bars.length : Int)), (18, .int x8)], [], [(1, some [.int g_0.n, .ro false (.pairs g_0.bars)])]⟩ : PS)) (I_IsGraph_l1 N g_0 k) h (En.of ⟨rfl, rfl, rfl, rfl, trivial⟩ trivial ⟨rfl, trivial⟩) (fun _ => rfl) ?_
    rintro n x8 h
    rw [I_IsGraph_l1] at h
    show VC _ _ _ (⟨[(1, .ptr 1 0), (16, .ro false (.pairs g_0.bars)), (17, .int (g_0.bars.length : Int)), (18, .int x8)], [], [(1, some [.int g_0.n, .ro false (.pairs g_0.bars)])]⟩ : PS)
    refine vSeq ?_
    refine vRegion ?_
    refine oVal tt rfl rfl rfl rfl rfl trivial ?_
    refine vNil ?_
    change VC _ _ _ _
    refine vSeq ?_
    refine vCond rfl (fun hb4 => ?_) (fun hb4 => ?_)
    ·replace h := cnd_t hb4 h
     refine vSkip ?_
     change VC _ _ _ _
     refine vSeq ?_
     refine vBlock ?_
     refine vSeq ?_
     refine vRegion ?_
     refine oVal tt rfl rfl rfl rfl rfl trivial ?_
     obtain ⟨hg5, h⟩ := grd_inv h
     refine oVal tt rfl rfl rfl rfl rfl hg5 ?_
     refine oVal tt rfl rfl rfl rfl rfl trivial ?_
     refine oAlloc tt rfl rfl rfl rfl rfl rfl rfl rfl rfl ?_
     refine oVal tt rfl rfl rfl rfl rfl trivial ?_
     refine oStore tt rfl rfl rfl rfl rfl rfl rfl rfl rfl rfl rfl ⟨trivial, trivial, trivial⟩ ?_
     refine vNil ?_
     change VC _ _ _ _
     refine vSeq ?_
     refine vRegionD (by kernel_rfl) (by kernel_rfl) ?_
     iterate 4 refine cVal tt rfl (wNone rfl) rfl rfl rfl trivial ?_
     refine cSplit rfl rfl rfl (fun hb6 => ?_) (fun hb6 => ?_)
     ·replace h := cnd_t hb6 h
      iterate 5 refine cNoF rfl rfl rfl rfl hb6 rfl rfl ?_
      refine cPickT rfl (wNone rfl) rfl rfl rfl hb6 rfl ?_
      refine cVal tt rfl (wNone rfl) rfl rfl rfl trivial ?_
      iterate 5 refine cNoF rfl rfl rfl rfl rfl rfl rfl ?_
      refine cPickT rfl (wNone rfl) rfl rfl rfl rfl rfl ?_
      refine cVal tt rfl (wNone rfl) rfl rfl rfl trivial ?_
      iterate 3 refine cNoF rfl rfl rfl rfl rfl rfl rfl ?_
      iterate 9 refine cNoU rfl rfl rfl rfl rfl ?_
      refine cNoF rfl rfl rfl rfl rfl rfl rfl ?_
      refine cPickT rfl (wNone rfl) rfl rfl rfl rfl rfl ?_
      refine cNil ?_
      change VC _ _ _ _
      refine vCondT rfl rfl ?_
      refine vSeq ?_
      refine vRegion ?_
      refine oVal tt rfl rfl rfl rfl rfl trivial ?_
      refine vNil ?_
      change VC _ _ _ _
      refine vRet ?_
      change ∃ _, _
      cases h
      exact ⟨[], _, rfl, trivial, rfl, (.eq rfl), rfl⟩
     ·replace h := cnd_f hb6 h
      iterate 5 refine cVal tt rfl (wSome rfl rfl rfl rfl hb6) rfl rfl rfl trivial ?_
      refine cPickF rfl (wNone rfl) rfl rfl rfl hb6 rfl ?_
      refine cVal tt rfl (wNone rfl) rfl rfl rfl trivial ?_
      refine cSplit rfl rfl rfl (fun hb7 => ?_) (fun hb7 => ?_)
      ·replace h := cnd_t hb7 h
       iterate 5 refine cNoF rfl rfl rfl rfl hb7 rfl rfl ?_
       refine cPickT rfl (wNone rfl) rfl rfl rfl hb7 rfl ?_
       refine cVal tt rfl (wNone rfl) rfl rfl rfl trivial ?_
       iterate 3 refine cNoF rfl rfl rfl rfl rfl rfl rfl ?_
       iterate 9 refine cNoU rfl rfl rfl rfl rfl ?_
       refine cNoF rfl rfl rfl rfl rfl rfl rfl ?_
       refine cPickT rfl (wNone rfl) rfl rfl rfl rfl rfl ?_
       refine cNil ?_
       change VC _ _ _ _
       refine vCondT rfl rfl ?_
       refine vSeq ?_
       refine vRegion ?_
       refine oVal tt rfl rfl rfl rfl rfl trivial ?_
       refine vNil ?_
       change VC _ _ _ _
       refine vRet ?_
       change ∃ _, _
       cases h
       exact ⟨[], _, rfl, trivial, rfl, (.eq rfl), rfl⟩
      ·replace h := cnd_f hb7 h
       iterate 5 refine cVal tt rfl (wSome rfl rfl rfl rfl hb7) rfl rfl rfl trivial ?_
       refine cPickF rfl (wNone rfl) rfl rfl rfl hb7 rfl ?_
       refine cVal tt rfl (wNone rfl) rfl rfl rfl trivial ?_
       refine cSplit rfl rfl rfl (fun hb8 => ?_) (fun hb8 => ?_)
       ·replace h := cnd_t hb8 h
        iterate 3 refine cNoF rfl rfl rfl rfl hb8 rfl rfl ?_
        iterate 9 refine cNoU rfl rfl rfl rfl rfl ?_
        refine cNoF rfl rfl rfl rfl hb8 rfl rfl ?_
        refine cPickT rfl (wNone rfl) rfl rfl rfl hb8 rfl ?_
        refine cNil ?_
        change VC _ _ _ _
        refine vCondT rfl rfl ?_
        refine vSeq ?_
        refine vRegion ?_
        refine oVal tt rfl rfl rfl rfl rfl trivial ?_
        refine vNil ?_
        change VC _ _ _ _
        refine vRet ?_
        change ∃ _, _
        cases h
        exact ⟨[], _, rfl, trivial, rfl, (.eq rfl), rfl⟩
       ·replace h := cnd_f hb8 h
        iterate 3 refine cVal tt rfl (wSome rfl rfl rfl rfl hb8) rfl rfl rfl trivial ?_
        refine cSplit rfl rfl rfl (fun hb9 => ?_) (fun hb9 => ?_)
        ·replace h := cnd_t hb9 h
         iterate 3 refine cVal tt rfl (wSome rfl rfl rfl rfl hb9) rfl rfl rfl trivial ?_
         obtain ⟨hg10, h⟩ := grd_inv h
         refine cVal tt rfl (wSome rfl rfl rfl rfl hb9) rfl rfl rfl hg10 ?_
         obtain ⟨hg11, h⟩ := grd_inv h
         refine cVal tt rfl (wSome rfl rfl rfl rfl hb9) rfl rfl rfl hg11 ?_
         iterate 2 refine cVal tt rfl (wSome rfl rfl rfl rfl hb9) rfl rfl rfl trivial ?_
         obtain ⟨v10, hc12, h⟩ := bind_inv h
         refine cCall (I_compareBars_w N (g_0.bars.getD (((x8 - (1 : Int))).toNat) (0, 0)) (g_0.bars.getD ((x8).toNat) (0, 0)) v10 hc12) rfl (wSome rfl rfl rfl rfl hb9) rfl rfl rfl rfl rfl rfl ⟨⟨rfl, rfl, trivial⟩, ⟨rfl, rfl, trivial⟩, trivial⟩ ?_
         refine cVal tt rfl (wSome rfl rfl rfl rfl hb9) rfl rfl rfl trivial ?_
         refine cPickT rfl (wSome rfl rfl rfl rfl hb8) rfl rfl rfl hb9 rfl ?_
         refine cPickF rfl (wNone rfl) rfl rfl rfl hb8 rfl ?_
         refine cNil ?_
         change VC _ _ _ _
         refine vCond rfl (fun hb13 => ?_) (fun hb13 => ?_)
         ·replace h := cnd_t hb13 h
          refine vSeq ?_
          refine vRegion ?_
          refine oVal tt rfl rfl rfl rfl rfl trivial ?_
          refine vNil ?_
          change VC _ _ _ _
          refine vRet ?_
          change ∃ _, _
          cases h
          exact ⟨[], _, rfl, trivial, rfl, (.eq rfl), rfl⟩
         ·replace h := cnd_f hb13 h
          refine vSkip ?_
          change VC _ _ _ _
          refine vRegion ?_
          obtain ⟨hg14, h⟩ := grd_inv h
          refine oVal tt rfl rfl rfl rfl rfl hg14 ?_
          refine oVal tt rfl rfl rfl rfl rfl trivial ?_
          refine vNil ?_
          change ∃ _, _
          exact ⟨(x8 + (1 : Int)), (En.of ⟨rfl, rfl, rfl, rfl, trivial⟩ trivial ⟨rfl, trivial⟩), h⟩
        ·replace h := cnd_f hb9 h
         iterate 9 refine cNoT rfl rfl rfl rfl hb9 rfl rfl ?_
         refine cPickF rfl (wSome rfl rfl rfl rfl hb8) rfl rfl rfl hb9 rfl ?_
         refine cPickF rfl (wNone rfl) rfl rfl rfl hb8 rfl ?_
         refine cNil ?_
         change VC _ _ _ _
         refine vCondF rfl rfl ?_
         refine vSkip ?_
         change VC _ _ _ _
         refine vRegion ?_
         obtain ⟨hg15, h⟩ := grd_inv h
         refine oVal tt rfl rfl rfl rfl rfl hg15 ?_
         refine oVal tt rfl rfl rfl rfl rfl trivial ?_
         refine vNil ?_
         change ∃ _, _
         exact ⟨(x8 + (1 : Int)), (En.of ⟨rfl, rfl, rfl, rfl, trivial⟩ trivial ⟨rfl, trivial⟩), h⟩
    ·replace h := cnd_f hb4 h
     refine vExit ?_
     change ∃ _, _
     exact ⟨(), (En.of trivial trivial trivial), h⟩
def I_hasDoubles_l1 (N : Nat) (g_0 : Grf) (k : Unit → Option (Bool)) : Nat → Int → Option (Bool)
 | 0, _ => none
 | n + 1, i3 =>
  cnd (decide (i3 < (g_0.bars.length : Int))) (
   grd (Rg64 (i3 - (1 : Int))) <|
   grd (0 ≤ (i3 - (1 : Int)) ∧ (i3 - (1 : Int)) < (g_0.bars.length : Int)) <|
   grd (0 ≤ i3 ∧ i3 < (g_0.bars.length : Int)) <|
   cnd (((g_0.bars.getD (((i3 - (1 : Int))).toNat) (0, 0)).1 == (g_0.bars.getD ((i3).toNat) (0, 0)).1) && ((g_0.bars.getD (((i3 - (1 : Int))).toNat) (0, 0)).2 == (g_0.bars.getD ((i3).toNat) (0, 0)).2)) (
    some true) (
    grd (Rg64 (i3 + (1 : Int))) <|
    I_hasDoubles_l1 N g_0 k n (i3 + (1 : Int)))) (
   k ())
def I_hasDoubles (N : Nat) (g_0 : Grf) : Option (Bool) :=
 I_hasDoubles_l1 N g_0 (fun (_ : Unit) =>
    some false) N (1 : Int)
def M_Bar_other (N : Nat) (x_0 : Int × Int) (v_1 : Int) : Option (Int) :=
 cnd (x_0.1 == v_1) (
  some x_0.2) (
  some x_0.1)
end Go.Proofs.Ytcljhpldfanhkaa
namespace Go.Proofs.Ytcljhpldfanhkaa
open Go.RowKit
def I_copyInts (N : Nat) (l_0 : List Int) : Option (List Int) :=
 grd (l_0.length ≤ 4294967296) <|
 some (([] : List Int) ++ l_0)
set_option maxRecDepth 20000 in
set_option maxHeartbeats 1600000 in
theorem I_copyInts_w (N : Nat) (l_0 : List Int) (r : List Int) (h : I_copyInts N l_0 = some r) : PCall Try.prog 137 [.ro false (.ints l_0)] [(3, .ints r)] (.row 0 0 r.length) := by
 unfold I_copyInts at h
 refine pcall_intro (TT := TT) tt Try.func137 rfl rfl Try.ntmps137 (congrArg Array.toList Try.results137) rfl rfl fun w0 => ?_
 refine vSeq ?_
 refine vRegion ?_
 refine oVal tt rfl rfl rfl rfl rfl trivial ?_
 refine vNil ?_
 change VC _ _ _ _
 refine vSeq ?_
 refine vRegion ?_
 refine oEmpty tt (wNone rfl) rfl rfl rfl rfl ?_
 refine oVal tt rfl rfl rfl rfl rfl trivial ?_
 obtain ⟨hg1, h⟩ := grd_inv h
 refine oAppNil tt (wNone rfl) rfl rfl rfl rfl rfl rfl rfl (fun _ => rfl) rfl rfl rfl rfl rfl hg1 ?_
 refine oVal tt rfl rfl rfl rfl rfl trivial ?_
 refine vNil ?_
 change VC _ _ _ _
 refine vRet ?_
 change ∃ _, _
 cases h
 exact ⟨[5], _, rfl, ⟨rfl, trivial⟩, rfl, (.eq rfl), rfl⟩
end Go.Proofs.Ytcljhpldfanhkaa
namespace Go.Proofs.Ytcljhpldfanhkaa
open Go.RowKit
def S_IsPinned_l1 (N : Nat) (p_0 : Pin) (k : Unit → Option (Bool)) : Nat → Int → Option (Bool)
 | 0, _ => none
 | n + 1, i13 =>
  cnd (decide (i13 < (p_0.g.bars.length : Int))) (
   grd (0 ≤ i13 ∧ i13 < (p_0.g.bars.length : Int)) <|
   (S_l2Has N p_0.ground ((p_0.g.bars.getD ((i13).toNat) (0, 0)).1)).bind fun v16 =>
   cnd v16 (
    (S_l2Has N p_0.ground ((p_0.g.bars.getD ((i13).toNat) (0, 0)).2)).bind fun v17 =>
    cnd v17 (
     some false) (
     grd (Rg64 (i13 + (1 : Int))) <|
     S_IsPinned_l1 N p_0 k n (i13 + (1 : Int)))) (
    grd (Rg64 (i13 + (1 : Int))) <|
    S_IsPinned_l1 N p_0 k n (i13 + (1 : Int)))) (
   k ())
def G_Index_int_l1 (N : Nat) (s_0 : List Int) (v_1 : Int) (k : Unit → Option (Int)) : Nat → Int → Option (Int)
 | 0, _ => none
 | n + 1, x3 =>
  cnd (decide (x3 < (s_0.length : Int))) (
   grd (0 ≤ x3 ∧ x3 < (s_0.length : Int)) <|
   cnd (v_1 == (s_0.getD ((x3).toNat) 0)) (
    some x3) (
    grd (Rg64 (x3 + (1 : Int))) <|
    G_Index_int_l1 N s_0 v_1 k n (x3 + (1 : Int)))) (
   k ())
def G_Index_int (N : Nat) (s_0 : List Int) (v_1 : Int) : Option (Int) :=
 G_Index_int_l1 N s_0 v_1 (fun (_ : Unit) =>
    some (-1 : Int)) N (0 : Int)
set_option maxRecDepth 20000 in
set_option maxHeartbeats 1600000 in
theorem G_Index_int_w (N : Nat) (s_0 : List Int) (v_1 : Int) (r : Int) (h : G_Index_int N s_0 v_1 = some r) : PCall Try.prog 176 [.ro false (.ints s_0), .int v_1] [] (.int r) := by
 unfold G_Index_int at h
 refine pcall_intro (TT := TT) tt Try.func176 rfl rfl Try.ntmps176 (congrArg Array.toList Try.results176) rfl rfl fun w0 => ?_
 refine vSeq ?_
 refine vRegion ?_
 refine oVal tt rfl rfl rfl rfl rfl trivial ?_
 refine vNil ?_
 change VC _ _ _ _
 iterate 2 refine vSeq ?_
 refine vRegion ?_
 iterate 3 refine oVal tt rfl rfl rfl rfl rfl trivial ?_
 refine vNil ?_
 change VC _ _ _ _
 refine vJoin (F := fun k => G_Index_int_l1 N s_0 v_1 k) h (α := Unit) (J := fun (_ : Unit) => (⟨[], [], []⟩ : PS)) ?_ ?_
 ·rintro ⟨⟩ h
  show VC _ _ _ (⟨[], [], []⟩ : PS)
  refine vSeq ?_
  refine vRegion ?_
  refine oVal tt rfl rfl rfl rfl rfl trivial ?_
  refine vNil ?_
  change VC _ _ _ _
  refine vRet ?_
  change ∃ _, _
  cases h
  exact ⟨[], _, rfl, trivial, rfl, (.eq rfl), rfl⟩
 ·intro k h
  refine vBlock ?_
  refine vLoopS (α := Int) (fun (x3 : Int) => (⟨[(0, .ro false (.ints s_0)), (1, .int v_1), (7, .int (s_0.length : Int)), (8, .int x3)], [], []⟩ : PS)) (G_Index_int_l1 N s_0 v_1 k) h (En.of ⟨rfl, rfl, rfl, rfl, trivial⟩ trivial trivial) (fun _ => rfl) ?_
  rintro n x3 h
  rw [G_Index_int_l1] at h
  show VC _ _ _ (⟨[(0, .ro false (.ints s_0)), (1, .int v_1), (7, .int (s_0.length : Int)), (8, .int x3)], [], []⟩ : PS)
  refine vSeq ?_
  refine vRegion ?_
  refine oVal tt rfl rfl rfl rfl rfl trivial ?_
  refine vNil ?_
  change VC _ _ _ _
  refine vSeq ?_
  refine vCond rfl (fun hb1 => ?_) (fun hb1 => ?_)
  ·replace h := cnd_t hb1 h
   refine vSkip ?_
   change VC _ _ _ _
   refine vSeq ?_
   refine vBlock ?_
   refine vSeq ?_
   refine vRegion ?_
   iterate 2 refine oVal tt rfl rfl rfl rfl rfl trivial ?_
   refine vNil ?_
   change VC _ _ _ _
   refine vSeq ?_
   refine vRegion ?_
   iterate 3 refine oVal tt rfl rfl rfl rfl rfl trivial ?_
   obtain ⟨hg2, h⟩ := grd_inv h
   refine oVal tt rfl rfl rfl rfl rfl hg2 ?_
   iterate 2 refine oVal tt rfl rfl rfl rfl rfl trivial ?_
   refine vNil ?_
   change VC _ _ _ _
   refine vCond rfl (fun hb3 => ?_) (fun hb3 => ?_)
   ·replace h := cnd_t hb3 h
    refine vSeq ?_
    refine vRegion ?_
    iterate 2 refine oVal tt rfl rfl rfl rfl rfl trivial ?_
    refine vNil ?_
    change VC _ _ _ _
    refine vRet ?_
    change ∃ _, _
    cases h
    exact ⟨[], _, rfl, trivial, rfl, (.eq rfl), rfl⟩
   ·replace h := cnd_f hb3 h
    refine vSkip ?_
    change VC _ _ _ _
    refine vRegion ?_
    obtain ⟨hg4, h⟩ := grd_inv h
    refine oVal tt rfl rfl rfl rfl rfl hg4 ?_
    refine oVal tt rfl rfl rfl rfl rfl trivial ?_
    refine vNil ?_
    change ∃ _, _
    exact ⟨(x3 + (1 : Int)), (En.of ⟨rfl, rfl, rfl, rfl, trivial⟩ trivial trivial), h⟩
  ·replace h := cnd_f hb1 h
   refine vExit ?_
   change ∃ _, _
   exact ⟨(), (En.of trivial trivial trivial), h⟩
end Go.Proofs.Ytcljhpldfanhkaa
namespace Go.Proofs.Ytcljhpldfanhkaa
open Go.RowKit
end Go.Proofs.Ytcljhpldfanhkaa
namespace Go.Proofs.Ytcljhpldfanhkaa
open Go.RowKit
def G_Contains_int (N : Nat) (s_0 : List Int) (v_1 : Int) : Option (Bool) :=
 (G_Index_int N s_0 v_1).bind fun v1 =>
 some (decide (v1 ≥ (0 : Int)))
set_option maxRecDepth 20000 in
set_option maxHeartbeats 1600000 in
theorem G_Contains_int_w (N : Nat) (s_0 : List Int) (v_1 : Int) (r : Bool) (h : G_Contains_int N s_0 v_1 = some r) : PCall Try.prog 119 [.ro false (.ints s_0), .int v_1] [] (.bool r) := by
 unfold G_Contains_int at h
 refine pcall_intro (TT := TT) tt Try.func119 rfl rfl Try.ntmps119 (congrArg Array.toList Try.results119) rfl rfl fun w0 => ?_
 refine vSeq ?_
 refine vRegion ?_
 refine oVal tt rfl rfl rfl rfl rfl trivial ?_
 refine vNil ?_
 change VC _ _ _ _
 refine vSeq ?_
 refine vRegion ?_
 iterate 2 refine oVal tt rfl rfl rfl rfl rfl trivial ?_
 obtain ⟨v1, hc1, h⟩ := bind_inv h
 refine oCall (G_Index_int_w N s_0 v_1 v1 hc1) rfl rfl rfl rfl rfl rfl rfl rfl ⟨rfl, rfl, trivial⟩ ?_
 iterate 2 refine oVal tt rfl rfl rfl rfl rfl trivial ?_
 refine vNil ?_
 change VC _ _ _ _
 refine vRet ?_
 change ∃ _, _
 cases h
 exact ⟨[], _, rfl, trivial, rfl, (.eq rfl), rfl⟩
def I_IsPinned_l1 (N : Nat) (p_0 : Pin) (k : Unit → Option (Bool)) : Nat → Int → Option (Bool)
 | 0, _ => none
 | n + 1, x17 =>
  cnd (decide (x17 < (p_0.g.bars.length : Int))) (
   grd (0 ≤ x17 ∧ x17 < (p_0.g.bars.length : Int)) <|
   (G_Contains_int N p_0.ground ((p_0.g.bars.getD ((x17).toNat) (0, 0)).1)).bind fun v20 =>
   cnd v20 (
    (G_Contains_int N p_0.ground ((p_0.g.bars.getD ((x17).toNat) (0, 0)).2)).bind fun v21 =>
    cnd v21 (
     some false) (
     grd (Rg64 (x17 + (1 : Int))) <|
     I_IsPinned_l1 N p_0 k n (x17 + (1 : Int)))) (
    grd (Rg64 (x17 + (1 : Int))) <|
    I_IsPinned_l1 N p_0 k n (x17 + (1 : Int)))) (
   k ())
def I_IsPinned_l2 (N : Nat) (p_0 : Pin) (k : Unit → Option (Bool)) : Nat → Int → Option (Bool)
 | 0, _ => none
 | n + 1, x24 =>
  cnd (decide (x24 < (p_0.ground.length : Int))) (
   grd (0 ≤ x24 ∧ x24 < (p_0.ground.length : Int)) <|
   (M_Graph_has N p_0.g (p_0.ground.getD ((x24).toNat) 0)).bind fun v26 =>
   cnd (!v26) (
    some false) (
    cnd (decide (x24 > (0 : Int))) (
     grd (Rg64 (x24 - (1 : Int))) <|
     grd (0 ≤ (x24 - (1 : Int)) ∧ (x24 - (1 : Int)) < (p_0.ground.length : Int)) <|
     cnd (decide ((p_0.ground.getD (((x24 - (1 : Int))).toNat) 0) ≥ (p_0.ground.getD ((x24).toNat) 0))) (
      some false) (
      grd (Rg64 (x24 + (1 : Int))) <|
      I_IsPinned_l2 N p_0 k n (x24 + (1 : Int)))) (
     grd (Rg64 (x24 + (1 : Int))) <|
     I_IsPinned_l2 N p_0 k n (x24 + (1 : Int))))) (
   k ())
def I_IsPinned (N : Nat) (p_0 : Pin) : Option (Bool) :=
 (I_IsGraph N p_0.g).bind fun v1 =>
 cnd (!v1) (
  some false) (
  (I_hasDoubles N p_0.g).bind fun v2 =>
  cnd v2 (
   some false) (
   cnd (decide ((p_0.ground.length : Int) < (2 : Int))) (
    some false) (
    cnd (decide ((p_0.g.bars.length : Int) > (15 : Int))) (
     some false) (
     grd (Rg64 ((2 : Int) * (p_0.ground.length : Int))) <|
     grd (Rg64 ((p_0.g.bars.length : Int) + ((2 : Int) * (p_0.ground.length : Int)))) <|
     grd (Rg64 (((p_0.g.bars.length : Int) + ((2 : Int) * (p_0.ground.length : Int))) - (3 : Int))) <|
     cnd (decide ((((p_0.g.bars.length : Int) + ((2 : Int) * (p_0.ground.length : Int))) - (3 : Int)) > (24 : Int))) (
      some false) (
      I_IsPinned_l2 N p_0 (fun (_ : Unit) =>
         I_IsPinned_l1 N p_0 (fun (_ : Unit) =>
            some true) N (0 : Int)) N (0 : Int))))))
def I_InnerPoints_l1 (N : Nat) (p_0 : Pin) (k : (List Int) → Option (List Int)) : Nat → ((List Int) × Int) → Option (List Int)
 | 0, _ => none
 | n + 1, (l12, x13) =>
  cnd (decide (x13 < p_0.g.n)) (
   (G_Contains_int N p_0.ground x13).bind fun v15 =>
   cnd (!v15) (
    grd (l12.length + 1 ≤ 4294967296) <|
    grd (Rg64 (x13 + (1 : Int))) <|
    I_InnerPoints_l1 N p_0 k n ((l12 ++ ([x13] : List Int)), (x13 + (1 : Int)))) (
    grd (Rg64 (x13 + (1 : Int))) <|
    I_InnerPoints_l1 N p_0 k n (l12, (x13 + (1 : Int))))) (
   k l12)
def I_InnerPoints (N : Nat) (p_0 : Pin) : Option (List Int) :=
 (I_IsPinned N p_0).bind fun v1 =>
 cnd (!v1) (
  some ([] : List Int)) (
  I_InnerPoints_l1 N p_0 (fun (l8 : List Int) =>
     some l8) N (([] : List Int), (0 : Int)))
end Go.Proofs.Ytcljhpldfanhkaa
namespace Go.Proofs.Ytcljhpldfanhkaa
variable (N : Nat)
theorem l1In_s (x lo hi : Int) : S_l1In N x lo hi = some (inB x lo hi) := by
 unfold S_l1In inB
 rw [cnd_some]
 show some (cnd (decide (lo ≤ x)) _ _) = _
 cases decide (lo ≤ x) <;> rfl
theorem within_s (x lo hi : Int) : I_within N x lo hi = some (inB x lo hi) := by
 unfold I_within inB
 rw [cnd_some]
 show some (cnd (decide (lo ≤ x)) _ _) = _
 cases decide (lo ≤ x) <;> rfl
theorem l2Has_s (hN : 4000000 ≤ N) {l : List Int} (hl : l.length ≤ 3000000) (x : Int) : S_l2Has N l x = some (l.contains x) := by
 unfold S_l2Has
 refine (srch (len := l.length) (ok := fun i => !(l.getD i 0 == x)) (bad := some true) (fin := some false) (by omega) ?_ ?_).trans ?_
 ·intro n i hi _
  rw [S_l2Has_l1]
  simp (disch := omega) only [Int.toNat_natCast, tk0, List.length_cons, List.length_nil, grd_pos, grd_T, grd_R, cnd_dt, cnd_df, cnd_true, cnd_false, Option.bind_some, cnd_not, succ_cast]
 ·intro n _
  rw [S_l2Has_l1]
  simp (disch := omega) only [Int.toNat_natCast, tk0, List.length_cons, List.length_nil, grd_pos, grd_T, grd_R, cnd_dt, cnd_df, cnd_true, cnd_false, Option.bind_some]
 ·rw [range_all_not_contains, cnd_some]; cases l.contains x <;> rfl
theorem indexInt_l (hN : 4000000 ≤ N) {l : List Int} (hl : l.length ≤ 3000000) (x : Int) : ∀ n i : Nat, i ≤ l.length → l.length < n + i → ∃ r : Int, G_Index_int_l1 N l x (fun _ => some (-1)) n (i : Int) = some r ∧ (decide (r ≥ 0) = (l.drop i).contains x) := by
 intro n
 induction n with
 | zero => intro i h1 h2; omega
 | succ n ih =>
  intro i h1 h2
  rw [G_Index_int_l1]
  by_cases hi : i < l.length
  ·simp (disch := omega) only [Int.toNat_natCast, tk0, List.length_cons, List.length_nil, grd_pos, grd_T, grd_R, cnd_dt, cnd_df, cnd_true, cnd_false, Option.bind_some]
   rw [List.drop_eq_getElem_cons hi, List.contains_cons]
   have e : l.getD i 0 = l[i] := by simp [List.getD_eq_getElem?_getD, hi]
   rw [e]
   cases h : x == l[i] with
   | true => exact ⟨i, rfl, by simp⟩
   | false =>
    obtain ⟨r, h1, h2⟩ := ih (i + 1) (by omega) (by omega)
    exact ⟨r, h1, by rw [h2]; rfl⟩
  ·simp (disch := omega) only [Int.toNat_natCast, tk0, List.length_cons, List.length_nil, grd_pos, grd_T, grd_R, cnd_dt, cnd_df, cnd_true, cnd_false, Option.bind_some]
   exact ⟨-1, rfl, by rw [List.drop_eq_nil_of_le (by omega)]; rfl⟩
theorem contains_s (hN : 4000000 ≤ N) {l : List Int} (hl : l.length ≤ 3000000) (x : Int) : G_Contains_int N l x = some (l.contains x) := by
 unfold G_Contains_int G_Index_int
 obtain ⟨r, h1, h2⟩ := indexInt_l N hN hl x N 0 (by omega) (by omega)
 rw [show (0 : Int) = ((0 : Nat) : Int) from rfl, h1]
 show some (decide (r ≥ 0)) = _
 rw [h2]; rfl
theorem l2After_s (a b : Int × Int) : S_l2After N a b = some (barLeB a b) := by
 unfold S_l2After barLeB
 simp only [cnd_some]
 cases decide (a.1 < b.1) <;> cases a.1 == b.1 <;> rfl
theorem compareInts_s (a b : Int) : I_compareInts N a b = some (cmpI a b) := by
 unfold I_compareInts cmpI
 by_cases h : a < b
 ·simp (disch := omega) only [Int.toNat_natCast, tk0, List.length_cons, List.length_nil, grd_pos, grd_T, grd_R, cnd_dt, cnd_df, cnd_true, cnd_false, Option.bind_some, if_pos h]
 ·by_cases h' : b < a
  ·simp (disch := omega) only [Int.toNat_natCast, tk0, List.length_cons, List.length_nil, grd_pos, grd_T, grd_R, cnd_dt, cnd_df, cnd_true, cnd_false, Option.bind_some, if_neg h, if_pos h', gt_iff_lt]
  ·simp (disch := omega) only [Int.toNat_natCast, tk0, List.length_cons, List.length_nil, grd_pos, grd_T, grd_R, cnd_dt, cnd_df, cnd_true, cnd_false, Option.bind_some, if_neg h, if_neg h', gt_iff_lt]
theorem compareBars_s (a b : Int × Int) : I_compareBars N a b = some (cmpBar a b) := by
 unfold I_compareBars cmpBar
 simp only [compareInts_s, Option.bind_some]
 by_cases h : cmpI a.1 b.1 = 0
 ·rw [if_pos h, cnd_nef h]
 ·rw [if_neg h, cnd_net h]
theorem cmpBar_gt (a b : Int × Int) : decide (cmpBar a b > 0) = !barLeB a b := by
 have := cmpBar_pos a b
 cases h : barLeB a b with
 | true => rw [h] at this; simp at this; simp; omega
 | false => rw [h] at this; simp at this; simp; omega
theorem isGraphS_s (hN : 4000000 ≤ N) {g : Grf} : S_IsGraph N g = some (isGraph g) := by
 unfold S_IsGraph isGraph
 rw [l1In_s, Option.bind_some, cnd_not]
 cases h1 : inB g.n 1 8 with
 | false => rfl
 | true =>
  by_cases h2 : g.bars.length ≤ 24
  ·simp (disch := omega) only [Int.toNat_natCast, tk0, List.length_cons, List.length_nil, grd_pos, grd_T, grd_R, cnd_dt, cnd_df, cnd_true, cnd_false, Option.bind_some]
   refine (srch (len := g.bars.length) (ok := barAt g.n g.bars) (bad := some false) (fin := some true) (by omega) ?_ ?_).trans ?_
   ·intro n i hi _
    rw [S_IsGraph_l1]
    by_cases h0 : i = 0
    ·subst h0
     simp (disch := omega) only [Int.toNat_natCast, tk0, List.length_cons, List.length_nil, grd_pos, grd_T, grd_R, cnd_dt, cnd_df, cnd_true, cnd_false, Option.bind_some, l2After_s, cnd_or, cnd_and, succ_cast]
     refine cnd_congr' ?_ _ _
     simp only [barAt, barOkB]
     rw [Bool.eq_iff_iff]; simp; omega
    ·simp (disch := omega) only [Int.toNat_natCast, tk0, List.length_cons, List.length_nil, grd_pos, grd_T, grd_R, cnd_dt, cnd_df, cnd_true, cnd_false, Option.bind_some, l2After_s, cnd_or, cnd_and, succ_cast, show ((i : Int) - 1).toNat = i - 1 from by omega]
     refine cnd_congr' ?_ _ _
     simp only [barAt, barOkB, decide_eq_false h0, Bool.false_or]
     cases barLeB (g.bars.getD (i - 1) (0, 0)) (g.bars.getD i (0, 0)) <;> (rw [Bool.eq_iff_iff]; simp; try omega)
   ·intro n _
    rw [S_IsGraph_l1]
    simp (disch := omega) only [Int.toNat_natCast, tk0, List.length_cons, List.length_nil, grd_pos, grd_T, grd_R, cnd_dt, cnd_df, cnd_true, cnd_false, Option.bind_some]
   ·rw [cnd_some, cnd_bool]; simp [h2]
  ·simp (disch := omega) only [Int.toNat_natCast, tk0, List.length_cons, List.length_nil, grd_pos, grd_T, grd_R, cnd_dt, cnd_df, cnd_true, cnd_false, Option.bind_some]
   simp [h2]
theorem isGraphI_s (hN : 4000000 ≤ N) {g : Grf} : I_IsGraph N g = some (isGraph g) := by
 unfold I_IsGraph isGraph
 rw [within_s, Option.bind_some, cnd_not]
 cases h1 : inB g.n 1 8 with
 | false => rfl
 | true =>
  by_cases h2 : g.bars.length ≤ 24
  ·simp (disch := omega) only [Int.toNat_natCast, tk0, List.length_cons, List.length_nil, grd_pos, grd_T, grd_R, cnd_dt, cnd_df, cnd_true, cnd_false, Option.bind_some]
   refine (srch (len := g.bars.length) (ok := barAt g.n g.bars) (bad := some false) (fin := some true) (by omega) ?_ ?_).trans ?_
   ·intro n i hi _
    rw [I_IsGraph_l1]
    by_cases h0 : i = 0
    ·subst h0
     simp (disch := omega) only [Int.toNat_natCast, tk0, List.length_cons, List.length_nil, grd_pos, grd_T, grd_R, cnd_dt, cnd_df, cnd_true, cnd_false, Option.bind_some, compareBars_s, cmpBar_gt, cnd_or, cnd_and, succ_cast]
     refine cnd_congr' ?_ _ _
     simp only [barAt, barOkB]
     rw [Bool.eq_iff_iff]; simp; omega
    ·simp (disch := omega) only [Int.toNat_natCast, tk0, List.length_cons, List.length_nil, grd_pos, grd_T, grd_R, cnd_dt, cnd_df, cnd_true, cnd_false, Option.bind_some, compareBars_s, cmpBar_gt, cnd_or, cnd_and, succ_cast, show ((i : Int) - 1).toNat = i - 1 from by omega]
     refine cnd_congr' ?_ _ _
     simp only [barAt, barOkB, decide_eq_false h0, Bool.false_or]
     cases barLeB (g.bars.getD (i - 1) (0, 0)) (g.bars.getD i (0, 0)) <;> (rw [Bool.eq_iff_iff]; simp; try omega)
   ·intro n _
    rw [I_IsGraph_l1]
    simp (disch := omega) only [Int.toNat_natCast, tk0, List.length_cons, List.length_nil, grd_pos, grd_T, grd_R, cnd_dt, cnd_df, cnd_true, cnd_false, Option.bind_some]
   ·rw [cnd_some, cnd_bool]; simp [h2]
  ·simp (disch := omega) only [Int.toNat_natCast, tk0, List.length_cons, List.length_nil, grd_pos, grd_T, grd_R, cnd_dt, cnd_df, cnd_true, cnd_false, Option.bind_some]
   simp [h2]
end Go.Proofs.Ytcljhpldfanhkaa
namespace Go.Proofs.Ytcljhpldfanhkaa
variable (N : Nat)
theorem pair_eq (a b : Int × Int) : ((a.1 == b.1) && (a.2 == b.2)) = (a == b) := by
 obtain ⟨x, y⟩ := a; obtain ⟨u, v⟩ := b; rfl
theorem ghas_s {g : Grf} (h : 0 ≤ g.n) (h' : g.n ≤ 1048576) (x : Int) : M_Graph_has N g x = some (inB x 0 (g.n - 1)) := by
 unfold M_Graph_has
 rw [w64_id (by omega) (by omega)]
 simp (disch := omega) only [Int.toNat_natCast, tk0, List.length_cons, List.length_nil, grd_pos, grd_T, grd_R, cnd_dt, cnd_df, cnd_true, cnd_false, Option.bind_some, within_s]
end Go.Proofs.Ytcljhpldfanhkaa
namespace Go.Proofs.Ytcljhpldfanhkaa
open Go.RowKit
end Go.Proofs.Ytcljhpldfanhkaa
namespace Go.Proofs.Ytcljhpldfanhkaa
variable (N : Nat)
def outside (ground : List Int) (n : Nat) : List Int := ((List.range n).map Int.ofNat).filter fun i => !ground.contains i
theorem outside_succ (g : List Int) (n : Nat) : outside g (n + 1) = cnd (g.contains (n : Int)) (outside g n) (outside g n ++ [(n : Int)]) := by
 unfold outside
 rw [List.range_succ, List.map_append, List.filter_append]
 simp only [List.map_cons, List.map_nil, List.filter_cons, List.filter_nil]
 cases h : g.contains (n : Int) <;> simp_all
theorem outside_len (g : List Int) (n : Nat) : (outside g n).length ≤ n := by
 unfold outside
 exact Nat.le_trans (List.length_filter_le _ _) (by simp)
theorem outside_mem (g : List Int) (n : Nat) (x : Int) : (outside g n).contains x = (inB x 0 ((n : Int) - 1) && !g.contains x) := by
 rw [Bool.eq_iff_iff]
 simp only [List.contains_eq_mem, decide_eq_true_eq, outside, List.mem_filter, List.mem_map, List.mem_range, inB, Bool.and_eq_true]
 constructor
 ·rintro ⟨⟨i, hi, rfl⟩, h⟩
  refine ⟨⟨?_, ?_⟩, h⟩
  ·show (0 : Int) ≤ (i : Int); omega
  ·show (i : Int) ≤ _; omega
 ·rintro ⟨⟨h1, h2⟩, h⟩
  exact ⟨⟨x.toNat, by omega, by show ((x.toNat : Nat) : Int) = x; omega⟩, h⟩
end Go.Proofs.Ytcljhpldfanhkaa
namespace Go.Proofs.Ytcljhpldfanhkaa
variable (N : Nat)
end Go.Proofs.Ytcljhpldfanhkaa
namespace Go.Proofs.Ytcljhpldfanhkaa
open Go.RowKit
def S_IsFramework_l1 (N : Nat) (f_0 : Frm) (k : Unit → Option (Bool)) : Nat → Int → Option (Bool)
 | 0, _ => none
 | n + 1, i11 =>
  cnd (decide (i11 < (f_0.g.bars.length : Int))) (
   grd (0 ≤ i11 ∧ i11 < (f_0.g.bars.length : Int)) <|
   grd (0 ≤ ((f_0.g.bars.getD ((i11).toNat) (0, 0)).1) ∧ ((f_0.g.bars.getD ((i11).toNat) (0, 0)).1) < (f_0.places.length : Int)) <|
   grd (0 ≤ ((f_0.g.bars.getD ((i11).toNat) (0, 0)).2) ∧ ((f_0.g.bars.getD ((i11).toNat) (0, 0)).2) < (f_0.places.length : Int)) <|
   cnd (((f_0.places.getD (((f_0.g.bars.getD ((i11).toNat) (0, 0)).1).toNat) (0, 0)).1 == (f_0.places.getD (((f_0.g.bars.getD ((i11).toNat) (0, 0)).2).toNat) (0, 0)).1) && ((f_0.places.getD (((f_0.g.bars.getD ((i11).toNat) (0, 0)).1).toNat) (0, 0)).2 == (f_0.places.getD (((f_0.g.bars.getD ((i11).toNat) (0, 0)).2).toNat) (0, 0)).2)) (
    some false) (
    cnd (decide (i11 > (0 : Int))) (
     grd (Rg64 (i11 - (1 : Int))) <|
     grd (0 ≤ (i11 - (1 : Int)) ∧ (i11 - (1 : Int)) < (f_0.g.bars.length : Int)) <|
     cnd (((f_0.g.bars.getD (((i11 - (1 : Int))).toNat) (0, 0)).1 == (f_0.g.bars.getD ((i11).toNat) (0, 0)).1) && ((f_0.g.bars.getD (((i11 - (1 : Int))).toNat) (0, 0)).2 == (f_0.g.bars.getD ((i11).toNat) (0, 0)).2)) (
      some false) (
      grd (Rg64 (i11 + (1 : Int))) <|
      S_IsFramework_l1 N f_0 k n (i11 + (1 : Int)))) (
     grd (Rg64 (i11 + (1 : Int))) <|
     S_IsFramework_l1 N f_0 k n (i11 + (1 : Int))))) (
   k ())
def S_IsFramework_l2 (N : Nat) (f_0 : Frm) (k : Unit → Option (Bool)) : Nat → Int → Option (Bool)
 | 0, _ => none
 | n + 1, i15 =>
  cnd (decide (i15 < (f_0.places.length : Int))) (
   grd (0 ≤ i15 ∧ i15 < (f_0.places.length : Int)) <|
   (S_l1In N ((f_0.places.getD ((i15).toNat) (0, 0)).1) (0 : Int) (4 : Int)).bind fun v18 =>
   cnd (!v18) (
    some false) (
    (S_l1In N ((f_0.places.getD ((i15).toNat) (0, 0)).2) (0 : Int) (4 : Int)).bind fun v19 =>
    cnd (!v19) (
     some false) (
     grd (Rg64 (i15 + (1 : Int))) <|
     S_IsFramework_l2 N f_0 k n (i15 + (1 : Int))))) (
   k ())
def S_IsFramework (N : Nat) (f_0 : Frm) : Option (Bool) :=
 (S_IsGraph N f_0.g).bind fun v1 =>
 cnd (!v1) (
  some false) (
  cnd (decide (f_0.g.n > (6 : Int))) (
   some false) (
   cnd ((f_0.places.length : Int) != f_0.g.n) (
    some false) (
    cnd (decide ((f_0.g.bars.length : Int) > (15 : Int))) (
     some false) (
     S_IsFramework_l2 N f_0 (fun (_ : Unit) =>
        S_IsFramework_l1 N f_0 (fun (_ : Unit) =>
           some true) N (0 : Int)) N (0 : Int)))))
set_option maxRecDepth 20000 in
set_option maxHeartbeats 1600000 in
theorem S_IsFramework_w (N : Nat) (f_0 : Frm) (r : Bool) (h : S_IsFramework N f_0 = some r) : PCall Try.prog 189 [fD f_0] [] (.bool r) := by
 unfold S_IsFramework at h
 refine pcall_intro (TT := TT) tt Try.func189 rfl rfl Try.ntmps189 (congrArg Array.toList Try.results189) rfl rfl fun w0 => ?_
 refine vSeq ?_
 refine vRegion ?_
 refine oBox rfl rfl rfl rfl rfl rfl rfl rfl rfl ?_
 refine oVal tt rfl rfl rfl rfl rfl trivial ?_
 refine vNil ?_
 change VC _ _ _ _
 iterate 2 refine vSeq ?_
 refine vRegion ?_
 iterate 2 refine oVal tt rfl rfl rfl rfl rfl trivial ?_
 obtain ⟨v1, hc1, h⟩ := bind_inv h
 refine oCall (S_IsGraph_w N f_0.g v1 hc1) rfl rfl rfl rfl rfl rfl rfl rfl ⟨⟨rfl, rfl, trivial⟩, trivial⟩ ?_
 iterate 2 refine oVal tt rfl rfl rfl rfl rfl trivial ?_
 refine oSplit rfl rfl rfl (fun hb2 => ?_) (fun hb2 => ?_)
 ·replace h := cnd_t hb2 h
  iterate 4 refine oNoF rfl rfl rfl rfl hb2 rfl rfl ?_
  refine oPick rfl rfl rfl rfl rfl hb2 rfl ?_
  refine oVal tt rfl rfl rfl rfl rfl trivial ?_
  iterate 7 refine oNoF rfl rfl rfl rfl rfl rfl rfl ?_
  refine oPick rfl rfl rfl rfl rfl rfl rfl ?_
  refine oVal tt rfl rfl rfl rfl rfl trivial ?_
  iterate 5 refine oNoF rfl rfl rfl rfl rfl rfl rfl ?_
  refine oPick rfl rfl rfl rfl rfl rfl rfl ?_
  refine vNil ?_
  change VC _ _ _ _
  refine vCondT rfl rfl ?_
  refine vSeq ?_
  refine vRegion ?_
  refine oVal tt rfl rfl rfl rfl rfl trivial ?_
  refine vNil ?_
  change VC _ _ _ _
  refine vRet ?_
  change ∃ _, _
  cases h
  exact ⟨[], _, rfl, trivial, rfl, (.eq rfl), rfl⟩
 ·replace h := cnd_f hb2 h
  iterate 4 refine oValG tt rfl rfl rfl rfl rfl hb2 rfl rfl rfl trivial ?_
  refine oPickF rfl rfl rfl rfl rfl hb2 rfl ?_
  refine oVal tt rfl rfl rfl rfl rfl trivial ?_
  refine oSplit rfl rfl rfl (fun hb3 => ?_) (fun hb3 => ?_)
  ·replace h := cnd_t hb3 h
   iterate 7 refine oNoF rfl rfl rfl rfl hb3 rfl rfl ?_
   refine oPick rfl rfl rfl rfl rfl hb3 rfl ?_
   refine oVal tt rfl rfl rfl rfl rfl trivial ?_
   iterate 5 refine oNoF rfl rfl rfl rfl rfl rfl rfl ?_
   refine oPick rfl rfl rfl rfl rfl rfl rfl ?_
   refine vNil ?_
   change VC _ _ _ _
   refine vCondT rfl rfl ?_
   refine vSeq ?_
   refine vRegion ?_
   refine oVal tt rfl rfl rfl rfl rfl trivial ?_
   refine vNil ?_
   change VC _ _ _ _
   refine vRet ?_
   change ∃ _, _
   cases h
   exact ⟨[], _, rfl, trivial, rfl, (.eq rfl), rfl⟩
  ·replace h := cnd_f hb3 h
   iterate 7 refine oValG tt rfl rfl rfl rfl rfl hb3 rfl rfl rfl trivial ?_
   refine oPickF rfl rfl rfl rfl rfl hb3 rfl ?_
   refine oVal tt rfl rfl rfl rfl rfl trivial ?_
   refine oSplit rfl rfl rfl (fun hb4 => ?_) (fun hb4 => ?_)
   ·replace h := cnd_t hb4 h
    iterate 5 refine oNoF rfl rfl rfl rfl hb4 rfl rfl ?_
    refine oPick rfl rfl rfl rfl rfl hb4 rfl ?_
    refine vNil ?_
    change VC _ _ _ _
    refine vCondT rfl rfl ?_
    refine vSeq ?_
    refine vRegion ?_
    refine oVal tt rfl rfl rfl rfl rfl trivial ?_
    refine vNil ?_
    change VC _ _ _ _
    refine vRet ?_
    change ∃ _, _
    cases h
    exact ⟨[], _, rfl, trivial, rfl, (.eq rfl), rfl⟩
   ·replace h := cnd_f hb4 h
    iterate 5 refine oValG tt rfl rfl rfl rfl rfl hb4 rfl rfl rfl trivial ?_
    refine oPickF rfl rfl rfl rfl rfl hb4 rfl ?_
    refine vNil ?_
    change VC _ _ _ _
    refine vCond rfl (fun hb5 => ?_) (fun hb5 => ?_)
    ·replace h := cnd_t hb5 h
     refine vSeq ?_
     refine vRegion ?_
     refine oVal tt rfl rfl rfl rfl rfl trivial ?_
     refine vNil ?_
     change VC _ _ _ _
     refine vRet ?_
     change ∃ _, _
     cases h
     exact ⟨[], _, rfl, trivial, rfl, (.eq rfl), rfl⟩
    ·replace h := cnd_f hb5 h
     refine vSkip ?_
     change VC _ _ _ _
     iterate 2 refine vSeq ?_
     refine vRegion ?_
     refine oVal tt rfl rfl rfl rfl rfl trivial ?_
     refine vNil ?_
     change VC _ _ _ _
     refine vJoin (F := fun k => S_IsFramework_l2 N f_0 k) h (α := Unit) (J := fun (_ : Unit) => (⟨[(1, .ptr 1 0)], [], [(1, some [.int f_0.g.n, .ro false (.pairs f_0.g.bars), .ro false (.pairs f_0.places)])]⟩ : PS)) ?_ ?_
     ·rintro ⟨⟩ h
      show VC _ _ _ (⟨[(1, .ptr 1 0)], [], [(1, some [.int f_0.g.n, .ro false (.pairs f_0.g.bars), .ro false (.pairs f_0.places)])]⟩ : PS)
      iterate 2 refine vSeq ?_
      refine vRegion ?_
      refine oVal tt rfl rfl rfl rfl rfl trivial ?_
      refine vNil ?_
      change VC _ _ _ _
      refine vJoin (F := fun k => S_IsFramework_l1 N f_0 k) h (α := Unit) (J := fun (_ : Unit) => (⟨[], [], []⟩ : PS)) ?_ ?_
      ·rintro ⟨⟩ h
       show VC _ _ _ (⟨[], [], []⟩ : PS)
       refine vSeq ?_
       refine vRegion ?_
       refine oVal tt rfl rfl rfl rfl rfl trivial ?_
       refine vNil ?_
       change VC _ _ _ _
       refine vRet ?_
       change ∃ _, _
       cases h
       exact ⟨[], _, rfl, trivial, rfl, (.eq rfl), rfl⟩
      ·intro k h
       refine vBlock ?_
       refine vLoopS (α := Int) (fun (i11 : Int) => (⟨[(1, .ptr 1 0), (4, .int i11)], [], [(1, some [.int f_0.g.n, .ro false (.pairs f_0.g.bars), .ro false (.pairs f_0.places)])]⟩ : PS)) (S_IsFramework_l1 N f_0 k) h (En.of ⟨rfl, rfl, trivial⟩ trivial ⟨rfl, trivial⟩) (fun _ => rfl) ?_
       rintro n i11 h
       rw [S_IsFramework_l1] at h
       show VC _ _ _ (⟨[(1, .ptr 1 0), (4, .int i11)], [], [(1, some [.int f_0.g.n, .ro false (.pairs f_0.g.bars), .ro false (.pairs f_0.places)])]⟩ : PS)
       iterate 2 refine vSeq ?_
       refine vRegion ?_
       iterate 6 refine oVal tt rfl rfl rfl rfl rfl trivial ?_
       refine vNil ?_
       change VC _ _ _ _
       refine vCond rfl (fun hb6 => ?_) (fun hb6 => ?_)
       ·replace h := cnd_t hb6 h
        refine vSkip ?_
        change VC _ _ _ _
        refine vSeq ?_
        refine vBlock ?_
        refine vSeq ?_
        refine vRegion ?_
        iterate 4 refine oVal tt rfl rfl rfl rfl rfl trivial ?_
        obtain ⟨hg7, h⟩ := grd_inv h
        refine oVal tt rfl rfl rfl rfl rfl hg7 ?_
        refine oVal tt rfl rfl rfl rfl rfl trivial ?_
        refine oAlloc tt rfl rfl rfl rfl rfl rfl rfl rfl rfl ?_
        refine oStore tt rfl rfl rfl rfl rfl rfl rfl rfl rfl rfl rfl ⟨trivial, trivial, trivial⟩ ?_
        refine vNil ?_
        change VC _ _ _ _
        refine vSeq ?_
        refine vRegionD (by kernel_rfl) (by kernel_rfl) ?_
        iterate 4 refine cVal tt rfl (wNone rfl) rfl rfl rfl trivial ?_
        obtain ⟨hg8, h⟩ := grd_inv h
        refine cVal tt rfl (wNone rfl) rfl rfl rfl hg8 ?_
        iterate 5 refine cVal tt rfl (wNone rfl) rfl rfl rfl trivial ?_
        obtain ⟨hg9, h⟩ := grd_inv h
        refine cVal tt rfl (wNone rfl) rfl rfl rfl hg9 ?_
        refine cVal tt rfl (wNone rfl) rfl rfl rfl trivial ?_
        refine cPure (wNone rfl) (pEqP eqP_impl_Place rfl rfl rfl) rfl rfl ?_
        refine cVal tt rfl (wNone rfl) rfl rfl rfl trivial ?_
        refine cSplit rfl rfl rfl (fun hb10 => ?_) (fun hb10 => ?_)
        ·replace h := cnd_t hb10 h
         iterate 3 refine cNoF rfl rfl rfl rfl hb10 rfl rfl ?_
         iterate 9 refine cNoU rfl rfl rfl rfl rfl ?_
         refine cNoF rfl rfl rfl rfl hb10 rfl rfl ?_
         refine cPickT rfl (wNone rfl) rfl rfl rfl hb10 rfl ?_
         refine cNil ?_
         change VC _ _ _ _
         refine vCondT rfl rfl ?_
         refine vSeq ?_
         refine vRegion ?_
         refine oVal tt rfl rfl rfl rfl rfl trivial ?_
         refine vNil ?_
         change VC _ _ _ _
         refine vRet ?_
         change ∃ _, _
         cases h
         exact ⟨[], _, rfl, trivial, rfl, (.eq rfl), rfl⟩
        ·replace h := cnd_f hb10 h
         iterate 3 refine cVal tt rfl (wSome rfl rfl rfl rfl hb10) rfl rfl rfl trivial ?_
         refine cSplit rfl rfl rfl (fun hb11 => ?_) (fun hb11 => ?_)
         ·replace h := cnd_t hb11 h
          iterate 4 refine cVal tt rfl (wSome rfl rfl rfl rfl hb11) rfl rfl rfl trivial ?_
          obtain ⟨hg12, h⟩ := grd_inv h
          refine cVal tt rfl (wSome rfl rfl rfl rfl hb11) rfl rfl rfl hg12 ?_
          obtain ⟨hg13, h⟩ := grd_inv h
          refine cVal tt rfl (wSome rfl rfl rfl rfl hb11) rfl rfl rfl hg13 ?_
          iterate 2 refine cVal tt rfl (wSome rfl rfl rfl rfl hb11) rfl rfl rfl trivial ?_
          refine cPure (wSome rfl rfl rfl rfl hb11) (pEqP eqP_impl_Bar rfl rfl rfl) rfl rfl ?_
          refine cPickT rfl (wSome rfl rfl rfl rfl hb10) rfl rfl rfl hb11 rfl ?_
          refine cPickF rfl (wNone rfl) rfl rfl rfl hb10 rfl ?_
          refine cNil ?_
          change VC _ _ _ _
          refine vCond rfl (fun hb14 => ?_) (fun hb14 => ?_)
          ·replace h := cnd_t hb14 h
           refine vSeq ?_
           refine vRegion ?_
           refine oVal tt rfl rfl rfl rfl rfl trivial ?_
           refine vNil ?_
           change VC _ _ _ _
           refine vRet ?_
           change ∃ _, _
           cases h
           exact ⟨[], _, rfl, trivial, rfl, (.eq rfl), rfl⟩
          ·replace h := cnd_f hb14 h
           refine vSkip ?_
           change VC _ _ _ _
           refine vRegion ?_
           refine oVal tt rfl rfl rfl rfl rfl trivial ?_
           obtain ⟨hg15, h⟩ := grd_inv h
           refine oVal tt rfl rfl rfl rfl rfl hg15 ?_
           refine oVal tt rfl rfl rfl rfl rfl trivial ?_
           refine vNil ?_
           change ∃ _, _
           exact ⟨(i11 + (1 : Int)), (En.of ⟨rfl, rfl, trivial⟩ trivial ⟨rfl, trivial⟩), h⟩
         ·replace h := cnd_f hb11 h
          iterate 9 refine cNoT rfl rfl rfl rfl hb11 rfl rfl ?_
          refine cPickF rfl (wSome rfl rfl rfl rfl hb10) rfl rfl rfl hb11 rfl ?_
          refine cPickF rfl (wNone rfl) rfl rfl rfl hb10 rfl ?_
          refine cNil ?_
          change VC _ _ _ _
          refine vCondF rfl rfl ?_
          refine vSkip ?_
          change VC _ _ _ _
          refine vRegion ?_
          refine oVal tt rfl rfl rfl rfl rfl trivial ?_
          obtain ⟨hg16, h⟩ := grd_inv h
          refine oVal tt rfl rfl rfl rfl rfl hg16 ?_
          refine oVal tt rfl rfl rfl rfl rfl trivial ?_
          refine vNil ?_
          change ∃ _, _
          exact ⟨(i11 + (1 : Int)), (En.of ⟨rfl, rfl, trivial⟩ trivial ⟨rfl, trivial⟩), h⟩
       ·replace h := cnd_f hb6 h
        refine vExit ?_
        change ∃ _, _
        exact ⟨(), (En.of trivial trivial trivial), h⟩
     ·intro k h
      refine vBlock ?_
      refine vLoopS (α := Int) (fun (i15 : Int) => (⟨[(1, .ptr 1 0), (3, .int i15)], [], [(1, some [.int f_0.g.n, .ro false (.pairs f_0.g.bars), .ro false (.pairs f_0.places)])]⟩ : PS)) (S_IsFramework_l2 N f_0 k) h (En.of ⟨rfl, rfl, trivial⟩ trivial ⟨rfl, trivial⟩) (fun _ => rfl) ?_
      rintro n i15 h
      rw [S_IsFramework_l2] at h
      show VC _ _ _ (⟨[(1, .ptr 1 0), (3, .int i15)], [], [(1, some [.int f_0.g.n, .ro false (.pairs f_0.g.bars), .ro false (.pairs f_0.places)])]⟩ : PS)
      iterate 2 refine vSeq ?_
      refine vRegion ?_
      iterate 5 refine oVal tt rfl rfl rfl rfl rfl trivial ?_
      refine vNil ?_
      change VC _ _ _ _
      refine vCond rfl (fun hb17 => ?_) (fun hb17 => ?_)
      ·replace h := cnd_t hb17 h
       refine vSkip ?_
       change VC _ _ _ _
       refine vSeq ?_
       refine vBlock ?_
       refine vSeq ?_
       refine vRegion ?_
       iterate 3 refine oVal tt rfl rfl rfl rfl rfl trivial ?_
       obtain ⟨hg18, h⟩ := grd_inv h
       refine oVal tt rfl rfl rfl rfl rfl hg18 ?_
       iterate 2 refine oVal tt rfl rfl rfl rfl rfl trivial ?_
       obtain ⟨v18, hc19, h⟩ := bind_inv h
       refine oCall (S_l1In_w N ((f_0.places.getD ((i15).toNat) (0, 0)).1) (0 : Int) (4 : Int) v18 hc19) rfl rfl rfl rfl rfl rfl rfl rfl ⟨rfl, rfl, rfl, trivial⟩ ?_
       iterate 2 refine oVal tt rfl rfl rfl rfl rfl trivial ?_
       refine oSplit rfl rfl rfl (fun hb20 => ?_) (fun hb20 => ?_)
       ·replace h := cnd_t hb20 h
        iterate 8 refine oNoF rfl rfl rfl rfl hb20 rfl rfl ?_
        refine oPick rfl rfl rfl rfl rfl hb20 rfl ?_
        refine vNil ?_
        change VC _ _ _ _
        refine vCondT rfl rfl ?_
        refine vSeq ?_
        refine vRegion ?_
        refine oVal tt rfl rfl rfl rfl rfl trivial ?_
        refine vNil ?_
        change VC _ _ _ _
        refine vRet ?_
        change ∃ _, _
        cases h
        exact ⟨[], _, rfl, trivial, rfl, (.eq rfl), rfl⟩
       ·replace h := cnd_f hb20 h
        iterate 3 refine oValG tt rfl rfl rfl rfl rfl hb20 rfl rfl rfl trivial ?_
        refine oValG tt rfl rfl rfl rfl rfl hb20 rfl rfl rfl hg18 ?_
        iterate 2 refine oValG tt rfl rfl rfl rfl rfl hb20 rfl rfl rfl trivial ?_
        obtain ⟨v19, hc21, h⟩ := bind_inv h
        refine oCallG (S_l1In_w N ((f_0.places.getD ((i15).toNat) (0, 0)).2) (0 : Int) (4 : Int) v19 hc21) rfl rfl rfl rfl hb20 rfl rfl rfl rfl rfl rfl rfl ⟨rfl, rfl, rfl, trivial⟩ ?_
        refine oValG tt rfl rfl rfl rfl rfl hb20 rfl rfl rfl trivial ?_
        refine oPickF rfl rfl rfl rfl rfl hb20 rfl ?_
        refine vNil ?_
        change VC _ _ _ _
        refine vCond rfl (fun hb22 => ?_) (fun hb22 => ?_)
        ·replace h := cnd_t hb22 h
         refine vSeq ?_
         refine vRegion ?_
         refine oVal tt rfl rfl rfl rfl rfl trivial ?_
         refine vNil ?_
         change VC _ _ _ _
         refine vRet ?_
         change ∃ _, _
         cases h
         exact ⟨[], _, rfl, trivial, rfl, (.eq rfl), rfl⟩
        ·replace h := cnd_f hb22 h
         refine vSkip ?_
         change VC _ _ _ _
         refine vRegion ?_
         refine oVal tt rfl rfl rfl rfl rfl trivial ?_
         obtain ⟨hg23, h⟩ := grd_inv h
         refine oVal tt rfl rfl rfl rfl rfl hg23 ?_
         refine oVal tt rfl rfl rfl rfl rfl trivial ?_
         refine vNil ?_
         change ∃ _, _
         exact ⟨(i15 + (1 : Int)), (En.of ⟨rfl, rfl, trivial⟩ trivial ⟨rfl, trivial⟩), h⟩
      ·replace h := cnd_f hb17 h
       refine vExit ?_
       change ∃ _, _
       exact ⟨(), (En.of ⟨rfl, trivial⟩ trivial ⟨rfl, trivial⟩), h⟩
def S_IsLinkage_l1 (N : Nat) (l_0 : Lnk) (k : Unit → Option (Bool)) : Nat → Int → Option (Bool)
 | 0, _ => none
 | n + 1, i5 =>
  cnd (decide (i5 < (l_0.ground.length : Int))) (
   grd (0 ≤ i5 ∧ i5 < (l_0.ground.length : Int)) <|
   cnd (decide ((l_0.ground.getD ((i5).toNat) 0) < (0 : Int))) (
    some false) (
    cnd (decide ((l_0.ground.getD ((i5).toNat) 0) ≥ (l_0.f.places.length : Int))) (
     some false) (
     cnd (decide (i5 > (0 : Int))) (
      grd (Rg64 (i5 - (1 : Int))) <|
      grd (0 ≤ (i5 - (1 : Int)) ∧ (i5 - (1 : Int)) < (l_0.ground.length : Int)) <|
      cnd (decide ((l_0.ground.getD (((i5 - (1 : Int))).toNat) 0) ≥ (l_0.ground.getD ((i5).toNat) 0))) (
       some false) (
       grd (Rg64 (i5 + (1 : Int))) <|
       S_IsLinkage_l1 N l_0 k n (i5 + (1 : Int)))) (
      grd (Rg64 (i5 + (1 : Int))) <|
      S_IsLinkage_l1 N l_0 k n (i5 + (1 : Int)))))) (
   k ())
def S_IsLinkage (N : Nat) (l_0 : Lnk) : Option (Bool) :=
 grd (Rg64 ((l_0.f.places.length : Int) - (l_0.ground.length : Int))) <|
 S_IsLinkage_l1 N l_0 (fun (_ : Unit) =>
    (S_IsFramework N l_0.f).bind fun v2 =>
    cnd v2 (
     (S_l1In N ((l_0.f.places.length : Int) - (l_0.ground.length : Int)) (0 : Int) (2 : Int)).bind fun v3 =>
     cnd v3 (
      some (decide ((l_0.ground.length : Int) > (0 : Int)))) (
      some false)) (
     some false)) N (0 : Int)
set_option maxRecDepth 20000 in
set_option maxHeartbeats 1600000 in
theorem S_IsLinkage_w (N : Nat) (l_0 : Lnk) (r : Bool) (h : S_IsLinkage N l_0 = some r) : PCall Try.prog 155 [lD l_0] [] (.bool r) := by
 unfold S_IsLinkage at h
 refine pcall_intro (TT := TT) tt Try.func155 rfl rfl Try.ntmps155 (congrArg Array.toList Try.results155) rfl rfl fun w0 => ?_
 refine vSeq ?_
 refine vRegion ?_
 refine oBox rfl rfl rfl rfl rfl rfl rfl rfl rfl ?_
 refine oVal tt rfl rfl rfl rfl rfl trivial ?_
 refine vNil ?_
 change VC _ _ _ _
 refine vSeq ?_
 refine vRegion ?_
 iterate 7 refine oVal tt rfl rfl rfl rfl rfl trivial ?_
 obtain ⟨hg1, h⟩ := grd_inv h
 refine oVal tt rfl rfl rfl rfl rfl hg1 ?_
 refine oVal tt rfl rfl rfl rfl rfl trivial ?_
 refine vNil ?_
 change VC _ _ _ _
 iterate 2 refine vSeq ?_
 refine vRegion ?_
 refine oVal tt rfl rfl rfl rfl rfl trivial ?_
 refine vNil ?_
 change VC _ _ _ _
 refine vJoin (F := fun k => S_IsLinkage_l1 N l_0 k) h (α := Unit) (J := fun (_ : Unit) => (⟨[(1, .ptr 1 0), (3, .int ((l_0.f.places.length : Int) - (l_0.ground.length : Int)))], [], [(1, some [.int l_0.f.g.n, .ro false (.pairs l_0.f.g.bars), .ro false (.pairs l_0.f.places), .ro false (.ints l_0.ground)])]⟩ : PS)) ?_ ?_
 ·rintro ⟨⟩ h
  show VC _ _ _ (⟨[(1, .ptr 1 0), (3, .int ((l_0.f.places.length : Int) - (l_0.ground.length : Int)))], [], [(1, some [.int l_0.f.g.n, .ro false (.pairs l_0.f.g.bars), .ro false (.pairs l_0.f.places), .ro false (.ints l_0.ground)])]⟩ : PS)
  refine vSeq ?_
  refine vRegion ?_
  iterate 2 refine oVal tt rfl rfl rfl rfl rfl trivial ?_
  obtain ⟨v2, hc2, h⟩ := bind_inv h
  refine oCall (S_IsFramework_w N l_0.f v2 hc2) rfl rfl rfl rfl rfl rfl rfl rfl ⟨⟨rfl, rfl, rfl, trivial⟩, trivial⟩ ?_
  refine oVal tt rfl rfl rfl rfl rfl trivial ?_
  refine oSplit rfl rfl rfl (fun hb3 => ?_) (fun hb3 => ?_)
  ·replace h := cnd_t hb3 h
   refine oValG tt rfl rfl rfl rfl rfl hb3 rfl rfl rfl trivial ?_
   obtain ⟨v3, hc4, h⟩ := bind_inv h
   refine oCallG (S_l1In_w N ((l_0.f.places.length : Int) - (l_0.ground.length : Int)) (0 : Int) (2 : Int) v3 hc4) rfl rfl rfl rfl hb3 rfl rfl rfl rfl rfl rfl rfl ⟨rfl, rfl, rfl, trivial⟩ ?_
   refine oPick rfl rfl rfl rfl rfl hb3 rfl ?_
   refine oVal tt rfl rfl rfl rfl rfl trivial ?_
   refine oSplit rfl rfl rfl (fun hb5 => ?_) (fun hb5 => ?_)
   ·replace h := cnd_t hb5 h
    iterate 4 refine oValG tt rfl rfl rfl rfl rfl hb5 rfl rfl rfl trivial ?_
    refine oPick rfl rfl rfl rfl rfl hb5 rfl ?_
    refine oVal tt rfl rfl rfl rfl rfl trivial ?_
    refine vNil ?_
    change VC _ _ _ _
    refine vRet ?_
    change ∃ _, _
    cases h
    exact ⟨[], _, rfl, trivial, rfl, (.eq rfl), rfl⟩
   ·replace h := cnd_f hb5 h
    iterate 4 refine oNoT rfl rfl rfl rfl hb5 rfl rfl ?_
    refine oPickF rfl rfl rfl rfl rfl hb5 rfl ?_
    refine oVal tt rfl rfl rfl rfl rfl trivial ?_
    refine vNil ?_
    change VC _ _ _ _
    refine vRet ?_
    change ∃ _, _
    cases h
    exact ⟨[], _, rfl, trivial, rfl, (.eq rfl), rfl⟩
  ·replace h := cnd_f hb3 h
   iterate 2 refine oNoT rfl rfl rfl rfl hb3 rfl rfl ?_
   refine oPickF rfl rfl rfl rfl rfl hb3 rfl ?_
   refine oVal tt rfl rfl rfl rfl rfl trivial ?_
   iterate 4 refine oNoT rfl rfl rfl rfl rfl rfl rfl ?_
   refine oPickF rfl rfl rfl rfl rfl rfl rfl ?_
   refine oVal tt rfl rfl rfl rfl rfl trivial ?_
   refine vNil ?_
   change VC _ _ _ _
   refine vRet ?_
   change ∃ _, _
   cases h
   exact ⟨[], _, rfl, trivial, rfl, (.eq rfl), rfl⟩
 ·intro k h
  refine vBlock ?_
  refine vLoopS (α := Int) (fun (i5 : Int) => (⟨[(1, .ptr 1 0), (3, .int ((l_0.f.places.length : Int) - (l_0.ground.length : Int))), (4, .int i5)], [], [(1, some [.int l_0.f.g.n, .ro false (.pairs l_0.f.g.bars), .ro false (.pairs l_0.f.places), .ro false (.ints l_0.ground)])]⟩ : PS)) (S_IsLinkage_l1 N l_0 k) h (En.of ⟨rfl, rfl, rfl, trivial⟩ trivial ⟨rfl, trivial⟩) (fun _ => rfl) ?_
  rintro n i5 h
  rw [S_IsLinkage_l1] at h
  show VC _ _ _ (⟨[(1, .ptr 1 0), (3, .int ((l_0.f.places.length : Int) - (l_0.ground.length : Int))), (4, .int i5)], [], [(1, some [.int l_0.f.g.n, .ro false (.pairs l_0.f.g.bars), .ro false (.pairs l_0.f.places), .ro false (.ints l_0.ground)])]⟩ : PS)
  iterate 2 refine vSeq ?_
  refine vRegion ?_
  iterate 5 refine oVal tt rfl rfl rfl rfl rfl trivial ?_
  refine vNil ?_
  change VC _ _ _ _
  refine vCond rfl (fun hb6 => ?_) (fun hb6 => ?_)
  ·replace h := cnd_t hb6 h
   refine vSkip ?_
   change VC _ _ _ _
   refine vSeq ?_
   refine vBlock ?_
   refine vSeq ?_
   refine vRegionD (by kernel_rfl) (by kernel_rfl) ?_
   iterate 3 refine cVal tt rfl (wNone rfl) rfl rfl rfl trivial ?_
   obtain ⟨hg7, h⟩ := grd_inv h
   refine cVal tt rfl (wNone rfl) rfl rfl rfl hg7 ?_
   iterate 3 refine cVal tt rfl (wNone rfl) rfl rfl rfl trivial ?_
   refine cSplit rfl rfl rfl (fun hb8 => ?_) (fun hb8 => ?_)
   ·replace h := cnd_t hb8 h
    iterate 10 refine cNoF rfl rfl rfl rfl hb8 rfl rfl ?_
    refine cPickT rfl (wNone rfl) rfl rfl rfl hb8 rfl ?_
    refine cVal tt rfl (wNone rfl) rfl rfl rfl trivial ?_
    iterate 3 refine cNoF rfl rfl rfl rfl rfl rfl rfl ?_
    iterate 12 refine cNoU rfl rfl rfl rfl rfl ?_
    refine cNoF rfl rfl rfl rfl rfl rfl rfl ?_
    refine cPickT rfl (wNone rfl) rfl rfl rfl rfl rfl ?_
    refine cNil ?_
    change VC _ _ _ _
    refine vCondT rfl rfl ?_
    refine vSeq ?_
    refine vRegion ?_
    refine oVal tt rfl rfl rfl rfl rfl trivial ?_
    refine vNil ?_
    change VC _ _ _ _
    refine vRet ?_
    change ∃ _, _
    cases h
    exact ⟨[], _, rfl, trivial, rfl, (.eq rfl), rfl⟩
   ·replace h := cnd_f hb8 h
    iterate 3 refine cVal tt rfl (wSome rfl rfl rfl rfl hb8) rfl rfl rfl trivial ?_
    refine cVal tt rfl (wSome rfl rfl rfl rfl hb8) rfl rfl rfl hg7 ?_
    iterate 6 refine cVal tt rfl (wSome rfl rfl rfl rfl hb8) rfl rfl rfl trivial ?_
    refine cPickF rfl (wNone rfl) rfl rfl rfl hb8 rfl ?_
    refine cVal tt rfl (wNone rfl) rfl rfl rfl trivial ?_
    refine cSplit rfl rfl rfl (fun hb9 => ?_) (fun hb9 => ?_)
    ·replace h := cnd_t hb9 h
     iterate 3 refine cNoF rfl rfl rfl rfl hb9 rfl rfl ?_
     iterate 12 refine cNoU rfl rfl rfl rfl rfl ?_
     refine cNoF rfl rfl rfl rfl hb9 rfl rfl ?_
     refine cPickT rfl (wNone rfl) rfl rfl rfl hb9 rfl ?_
     refine cNil ?_
     change VC _ _ _ _
     refine vCondT rfl rfl ?_
     refine vSeq ?_
     refine vRegion ?_
     refine oVal tt rfl rfl rfl rfl rfl trivial ?_
     refine vNil ?_
     change VC _ _ _ _
     refine vRet ?_
     change ∃ _, _
     cases h
     exact ⟨[], _, rfl, trivial, rfl, (.eq rfl), rfl⟩
    ·replace h := cnd_f hb9 h
     iterate 3 refine cVal tt rfl (wSome rfl rfl rfl rfl hb9) rfl rfl rfl trivial ?_
     refine cSplit rfl rfl rfl (fun hb10 => ?_) (fun hb10 => ?_)
     ·replace h := cnd_t hb10 h
      iterate 3 refine cVal tt rfl (wSome rfl rfl rfl rfl hb10) rfl rfl rfl trivial ?_
      obtain ⟨hg11, h⟩ := grd_inv h
      refine cVal tt rfl (wSome rfl rfl rfl rfl hb10) rfl rfl rfl hg11 ?_
      obtain ⟨hg12, h⟩ := grd_inv h
      refine cVal tt rfl (wSome rfl rfl rfl rfl hb10) rfl rfl rfl hg12 ?_
      iterate 4 refine cVal tt rfl (wSome rfl rfl rfl rfl hb10) rfl rfl rfl trivial ?_
      refine cVal tt rfl (wSome rfl rfl rfl rfl hb10) rfl rfl rfl hg7 ?_
      iterate 2 refine cVal tt rfl (wSome rfl rfl rfl rfl hb10) rfl rfl rfl trivial ?_
      refine cPickT rfl (wSome rfl rfl rfl rfl hb9) rfl rfl rfl hb10 rfl ?_
      refine cPickF rfl (wNone rfl) rfl rfl rfl hb9 rfl ?_
      refine cNil ?_
      change VC _ _ _ _
      refine vCond rfl (fun hb13 => ?_) (fun hb13 => ?_)
      ·replace h := cnd_t hb13 h
       refine vSeq ?_
       refine vRegion ?_
       refine oVal tt rfl rfl rfl rfl rfl trivial ?_
       refine vNil ?_
       change VC _ _ _ _
       refine vRet ?_
       change ∃ _, _
       cases h
       exact ⟨[], _, rfl, trivial, rfl, (.eq rfl), rfl⟩
      ·replace h := cnd_f hb13 h
       refine vSkip ?_
       change VC _ _ _ _
       refine vRegion ?_
       refine oVal tt rfl rfl rfl rfl rfl trivial ?_
       obtain ⟨hg14, h⟩ := grd_inv h
       refine oVal tt rfl rfl rfl rfl rfl hg14 ?_
       refine oVal tt rfl rfl rfl rfl rfl trivial ?_
       refine vNil ?_
       change ∃ _, _
       exact ⟨(i5 + (1 : Int)), (En.of ⟨rfl, rfl, rfl, trivial⟩ trivial ⟨rfl, trivial⟩), h⟩
     ·replace h := cnd_f hb10 h
      iterate 12 refine cNoT rfl rfl rfl rfl hb10 rfl rfl ?_
      refine cPickF rfl (wSome rfl rfl rfl rfl hb9) rfl rfl rfl hb10 rfl ?_
      refine cPickF rfl (wNone rfl) rfl rfl rfl hb9 rfl ?_
      refine cNil ?_
      change VC _ _ _ _
      refine vCondF rfl rfl ?_
      refine vSkip ?_
      change VC _ _ _ _
      refine vRegion ?_
      refine oVal tt rfl rfl rfl rfl rfl trivial ?_
      obtain ⟨hg15, h⟩ := grd_inv h
      refine oVal tt rfl rfl rfl rfl rfl hg15 ?_
      refine oVal tt rfl rfl rfl rfl rfl trivial ?_
      refine vNil ?_
      change ∃ _, _
      exact ⟨(i5 + (1 : Int)), (En.of ⟨rfl, rfl, rfl, trivial⟩ trivial ⟨rfl, trivial⟩), h⟩
  ·replace h := cnd_f hb6 h
   refine vExit ?_
   change ∃ _, _
   exact ⟨(), (En.of ⟨rfl, rfl, trivial⟩ trivial ⟨rfl, trivial⟩), h⟩
end Go.Proofs.Ytcljhpldfanhkaa
