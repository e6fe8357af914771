/- Calls that write the boxes and rows that they are handed. -/
import Derived.Test.YtkpmijmlbpdknaaM2
namespace Go.Proofs.Ytkpmijmlbpdknaa
open Go.RowKit Go.Deep
set_option linter.unusedSimpArgs false
set_option linter.unusedVariables false

/-! ### names side by side -/
def mp : List Nat → List Nat → Nat → Option Nat
  | k :: l, i :: m, r => match Nat.beq k r with | true => some i | false => mp l m r
  | _, _, _ => none
def asL {α : Type} : List Nat → List α → List (Nat × Option α)
  | k :: l, x :: m => (k, some x) :: asL l m
  | _, _ => []
theorem mp_cons_self (k i : Nat) (l m : List Nat) : mp (k :: l) (i :: m) k = some i := by simp [mp, Nat.beq_refl]
theorem mp_cons_ne {k r : Nat} (h : k ≠ r) (i : Nat) (l m : List Nat) : mp (k :: l) (i :: m) r = mp l m r := by
  have : Nat.beq k r = false := by
    cases hb : Nat.beq k r
    · rfl
    · exact absurd (Nat.eq_of_beq_eq_true hb) h
  simp [mp, this]
theorem mp_mem : ∀ {l m : List Nat} {r i : Nat}, mp l m r = some i → r ∈ l ∧ i ∈ m
  | [], m, r, i, h => by simp [mp] at h
  | k :: l, [], r, i, h => by simp [mp] at h
  | k :: l, j :: m, r, i, h => by
    by_cases hk : k = r
    · subst hk; rw [mp_cons_self] at h; cases h; exact ⟨by simp, by simp⟩
    · rw [mp_cons_ne hk] at h; have := mp_mem h; exact ⟨by simp [this.1], by simp [this.2]⟩
theorem nodupB_cons {x : Nat} {l : List Nat} (h : nodupB (x :: l) = true) : x ∉ l ∧ nodupB l = true := by
  simp only [nodupB, Bool.and_eq_true, List.all_eq_true] at h
  refine ⟨fun hx => ?_, h.2⟩
  have := h.1 x hx
  simp [Nat.beq_refl] at this
theorem mp_inv : ∀ {l m : List Nat} {r i : Nat}, nodupB m = true → mp l m r = some i → mp m l i = some r
  | [], m, r, i, hn, h => by simp [mp] at h
  | k :: l, [], r, i, hn, h => by simp [mp] at h
  | k :: l, j :: m, r, i, hn, h => by
    obtain ⟨hn1, hn2⟩ := nodupB_cons hn
    by_cases hk : k = r
    · subst hk; rw [mp_cons_self] at h; cases h; rw [mp_cons_self]
    · rw [mp_cons_ne hk] at h
      have h1 := mp_mem h
      rw [mp_cons_ne (fun e => hn1 (by subst e; exact h1.2))]
      exact mp_inv hn2 h
theorem mp_some : ∀ {l m : List Nat} {r : Nat}, l.length = m.length → r ∈ l → ∃ i, mp l m r = some i
  | [], m, r, hl, h => by simp at h
  | k :: l, [], r, hl, h => by simp at hl
  | k :: l, j :: m, r, hl, h => by
    by_cases hk : k = r
    · subst hk; exact ⟨j, mp_cons_self _ _ _ _⟩
    · rw [mp_cons_ne hk]; exact mp_some (by simpa using hl) (by simpa [Ne.symm hk] using h)
/-- what is known of names, told at both sides -/
def pairOk {α : Type} (f : Nat → Option α) : List Nat → List α → Prop
  | [], [] => True
  | i :: l, x :: m => f i = some x ∧ pairOk f l m
  | _, _ => False
theorem pairOk_len {α : Type} {f : Nat → Option α} : ∀ {l : List Nat} {m : List α}, pairOk f l m → l.length = m.length
  | [], [], _ => rfl
  | _ :: l, _ :: m, h => by simp [pairOk_len h.2]
  | [], _ :: _, h => h.elim
  | _ :: _, [], h => h.elim
theorem asL_none {α : Type} : ∀ {k : List Nat} {x : List α} {r : Nat}, k.length = x.length → r ∉ k → look (asL k x) r = none
  | [], x, r, _, _ => by simp [asL, look]
  | k :: l, [], r, hl, _ => by simp at hl
  | k :: l, x :: m, r, hl, h => by
    rw [asL, look_cons_ne (fun e => h (by simp [e]))]
    exact asL_none (by simpa using hl) (fun hh => h (by simp [hh]))
theorem asL_look {α : Type} {f : Nat → Option α} : ∀ {k i : List Nat} {x : List α} {r : Nat}, k.length = i.length → pairOk f i x → (look (asL k x) r = none ∧ mp k i r = none) ∨ ∃ y j, look (asL k x) r = some (some y) ∧ mp k i r = some j ∧ f j = some y
  | [], [], [], r, _, _ => .inl ⟨rfl, rfl⟩
  | k :: l, j :: i, y :: x, r, hl, h => by
    by_cases hk : k = r
    · subst hk; exact .inr ⟨y, j, by rw [asL, look_cons_self], mp_cons_self _ _ _ _, h.1⟩
    · rw [asL, look_cons_ne hk, mp_cons_ne hk]
      exact asL_look (by simpa using hl) h.2
  | [], _ :: _, _, _, hl, _ => by simp at hl
  | _ :: _, [], _, _, hl, _ => by simp at hl
  | [], [], _ :: _, _, _, h => h.elim
  | _ :: _, _ :: _, [], _, _, h => h.elim
theorem asL_look2 {α : Type} : ∀ {k i : List Nat} {x : List α} {r : Nat}, k.length = i.length → i.length = x.length → (look (asL k x) r = none ∧ mp k i r = none) ∨ ∃ y j, look (asL k x) r = some (some y) ∧ mp k i r = some j ∧ ((nodupB i = true → look (asL i x) j = some (some y)))
  | [], [], [], r, _, _ => .inl ⟨rfl, rfl⟩
  | k :: l, j :: i, y :: x, r, hl, h => by
    by_cases hk : k = r
    · subst hk; exact .inr ⟨y, j, by rw [asL, look_cons_self], mp_cons_self _ _ _ _, fun _ => by rw [asL, look_cons_self]⟩
    · rw [asL, look_cons_ne hk, mp_cons_ne hk]
      rcases asL_look2 (r := r) (show l.length = i.length by simpa using hl) (show i.length = x.length by simpa using h) with h1 | ⟨y', j', h1, h2, h3⟩
      · exact .inl h1
      · refine .inr ⟨y', j', h1, h2, fun hn => ?_⟩
        obtain ⟨n1, n2⟩ := nodupB_cons hn
        rw [asL, look_cons_ne (fun e => n1 (by subst e; exact (mp_mem h2).2))]
        exact h3 n2
  | [], _ :: _, _, _, hl, _ => by simp at hl
  | _ :: _, [], _, _, hl, _ => by simp at hl
  | [], [], _ :: _, _, _, h => by simp at h
  | _ :: _, _ :: _, [], _, _, h => by simp at h

/-! ### what a box handed in may hold -/
def isInL (l : List Nat) (x : Nat) : Bool := l.any fun k => Nat.beq k x
theorem isIn_mem {l : List Nat} {x : Nat} (h : isInL l x = true) : x ∈ l := by
  simp only [isInL, List.any_eq_true] at h
  obtain ⟨k, hk, hx⟩ := h
  rw [← Nat.eq_of_beq_eq_true hx]; exact hk
theorem mem_isIn {l : List Nat} {x : Nat} (h : x ∈ l) : isInL l x = true := by
  simp only [isInL, List.any_eq_true]
  exact ⟨x, h, Nat.beq_refl x⟩
def scS (rk bk : List Nat) : D → Bool
  | .int _ | .bool _ | .val _ | .nil | .ro _ _ | .dead => true
  | .row x _ _ => isInL rk x
  | .ptr x _ => isInL bk x
  | .clo _ bs => bs.all (isInL bk)
  | _ => false
def sgm (l m : List Nat) (r : Nat) : Nat := match mp l m r with | some i => i | none => 0
/-- data told in the callee's names, from data told in the caller's -/
theorem sc_un {rk rids bk bids : List Nat} (hl : rk.length = rids.length) (hb : bk.length = bids.length) {N M : Mp} {A A' : Bool → Nat → Prop} {w w' : World}
    (hγ : ∀ r i x, mp rk rids r = some i → N.γ r = some x → M.γ i = some x) (hβ : ∀ r i x, mp bk bids r = some i → N.β r = some x → M.β i = some x)
    (hA : ∀ f b, b < w.heap.size → A f b → A' f b ∧ b < w'.heap.size ∧ w'.heap[b]? = w.heap[b]?) {d : D} {v : Value} (h : VR M A w (renS (sgm bk bids) (sgm rk rids) d) v) (hs : scS rk bk d = true) : VR N A' w' d v := by
  cases d <;> simp only [scS, Bool.false_eq_true] at hs <;> simp only [renS] at h
  case int => cases h; exact .int _
  case bool => cases h; exact .bool _
  case val => cases h with | val _ h => exact .val _ h
  case nil => cases h with | nil ao => exact .nil ao
  case dead => exact .dead _
  case ro f q => exact h.ro_any hA
  case row r off n =>
    obtain ⟨i, hi⟩ := mp_some hl (isIn_mem hs)
    cases h with
    | row _ _ _ _ h1 h =>
      refine .row _ _ _ _ h1 fun x hx => h x ?_
      simp only [sgm, hi]
      exact hγ r i x hi hx
  case ptr b off =>
    obtain ⟨i, hi⟩ := mp_some hb (isIn_mem hs)
    cases h with
    | ptr _ _ _ h1 h =>
      refine .ptr _ _ _ h1 fun x hx => h x ?_
      simp only [sgm, hi]
      exact hβ b i x hi hx
  case clo f bs =>
    cases h with
    | clo _ _ _ h1 h =>
      refine .clo _ _ _ h1 fun ks hk => h ks ?_
      have key : ∀ (bs : List Nat) (ks : List Nat), bs.all (isInL bk) = true → capsOf N.β bs = some ks → capsOf M.β (bs.map (sgm bk bids)) = some ks := by
        intro bs
        induction bs with
        | nil => intro ks _ h; exact h
        | cons b bs ih =>
          intro ks hs hk
          simp only [List.all_cons, Bool.and_eq_true] at hs
          simp only [List.map_cons, capsOf] at hk ⊢
          split at hk
          · rename_i k ks' h1 h2
            cases hk
            obtain ⟨i, hi⟩ := mp_some hb (isIn_mem hs.1)
            have e1 : sgm bk bids b = i := by simp [sgm, hi]
            rw [e1, hβ b i k hi h1, ih ks' hs.2 h2]
          · cases hk
      exact key bs ks hs hk
/-- and back -/
theorem sc_ren {rk pids bk bids : List Nat} (hl : rk.length = pids.length) (hb : bk.length = bids.length) {N M' : Mp} {A A' : Bool → Nat → Prop} {w w' : World}
    (hγ : ∀ r i x, mp rk pids r = some i → M'.γ i = some x → N.γ r = some x) (hβ : ∀ r i x, mp bk bids r = some i → M'.β i = some x → N.β r = some x)
    (hA : ∀ f b, b < w.heap.size → A f b → A' f b ∧ b < w'.heap.size ∧ w'.heap[b]? = w.heap[b]?) {d : D} {v : Value} (h : VR N A w d v) (hs : scS rk bk d = true) : VR M' A' w' (renS (sgm bk bids) (sgm rk pids) d) v := by
  cases h <;> simp only [scS, Bool.false_eq_true] at hs
  case int => exact .int _
  case bool => exact .bool _
  case val h => exact .val _ h
  case nil ao => exact .nil ao
  case dead => exact .dead _
  case ro f q ao cap b o u hn hc hao hu hv => exact VR.ro_any (.ro f q ao cap b o u hn hc hao hu hv) hA
  case row r off n h1 h =>
    obtain ⟨i, hi⟩ := mp_some hl (isIn_mem hs)
    have e : renS (sgm bk bids) (sgm rk pids) (.row r off n) = .row i off n := by simp [renS, sgm, hi]
    rw [e]
    exact .row _ off n _ h1 fun x hx => h x (hγ r i x hi hx)
  case ptr b off h1 h =>
    obtain ⟨i, hi⟩ := mp_some hb (isIn_mem hs)
    have e : renS (sgm bk bids) (sgm rk pids) (.ptr b off) = .ptr i off := by simp [renS, sgm, hi]
    rw [e]
    exact .ptr _ off _ h1 fun x hx => h x (hβ b i x hi hx)
  case clo f bs h1 h =>
    have e : renS (sgm bk bids) (sgm rk pids) (.clo f bs) = .clo f (bs.map (sgm bk bids)) := rfl
    rw [e]
    refine .clo _ _ _ h1 fun ks hk => h ks (capsOf_mono (τ := sgm bk bids) (fun b hb' k hk' => ?_) hk)
    simp only [List.all_eq_true] at hs
    obtain ⟨i, hi⟩ := mp_some hb (isIn_mem (hs b hb'))
    simp only [sgm, hi] at hk'
    exact hβ b i k hi hk'

/-! ### the memory handed in -/
def BoxA (A : Bool → Nat → Prop) (M : Mp) (w : World) (b : Nat) (cs : List D) : Prop :=
  ∃ k cur e, M.β b = some k ∧ w.heap[k]? = some (.cells cur e (0, 0)) ∧ cs.length = cur.size ∧ ∀ j d, cs[j]? = some d → VR M A w d (cur.getD j undef)
def RowA (A : Bool → Nat → Prop) (M : Mp) (w : World) (r : Nat) (e : TypeId) (q : Sq) : Prop :=
  (M.γ r = some none ∧ q.len = 0) ∨ ∃ g cap cur, M.γ r = some (some (g, cap, q.sz)) ∧ w.heap[g]? = some (.cells cur e (0, 0)) ∧ q.len ≤ cap ∧ cap ≤ maxLen ∧ cur.size = cap * q.sz ∧
    ∀ i j d, i < q.len → (q.elem true i)[j]? = some d → VR M A w d (cur.getD (i * q.sz + j) undef)
/-- The memory handed in: boxes and rows, where they lie (N). -/
structure HasM (A : Bool → Nat → Prop) (N : Mp) (s : PS) (w : World) : Prop where
  box : ∀ b cs, s.b b = some cs → BoxA A N w b cs
  boxn : ∀ b, s.b b = none → N.β b = none
  row : ∀ r e q, s.r r = some (e, q) → RowA A N w r e q
  rown : ∀ r, s.r r = none → N.γ r = none
  inj1 : ∀ b b' k, N.β b = some k → N.β b' = some k → b = b'
  inj2 : ∀ r r' k c z c' z', N.γ r = some (some (k, c, z)) → N.γ r' = some (some (k, c', z')) → r = r'
  inj3 : ∀ b r k c z, N.β b = some k → N.γ r = some (some (k, c, z)) → False
def ArgsM (A : Bool → Nat → Prop) (N : Mp) (w : World) (ds : List D) (args : Array Value) : Prop :=
  args.size = ds.length ∧ ∀ i d, ds[i]? = some d → VR N A w d (args.getD i undef)
def subM (M : Mp) (rk rids bk bids : List Nat) : Mp := ⟨fun b => match mp bk bids b with | some i => M.β i | none => none, fun r => match mp rk rids r with | some i => M.γ i | none => none⟩
/-- where memory that is only read may lie after a call -/
def A2 (A : Bool → Nat → Prop) (w : World) (N N' : Mp) : Bool → Nat → Prop := fun f k => (A f k ∨ w.heap.size ≤ k ∨ N.owned k) ∧ ¬ N'.owned k
def conB (rk bk : List Nat) (b : List (List D)) : Bool := b.all fun cs => cs.all (scS rk bk)
/-- **A call that writes what it is handed**: rows named rk (those from 1000000 on keep their place), boxes named bk. -/
structure MCall (P : Program) (f : FuncId) (ds : List D) (rk bk : List Nat) (r0 r1 : List (TypeId × Sq)) (b0 b1 : List (List D)) (d : D) : Prop where
  enter : ∀ args w, (callFunc f args).run P w = .ok (.enter f args) w
  len : rk.length = r0.length ∧ rk.length = r1.length ∧ bk.length = b0.length ∧ bk.length = b1.length
  con0 : conB rk bk b0 = true
  con1 : conB rk bk b1 = true
  nd : noIds d = true
  ndk : nodupB rk = true ∧ nodupB bk = true
  run : ∀ w N args (A : Bool → Nat → Prop), (∀ f k, A f k → ¬ N.owned k) → (∀ k, A true k → A false k) → HasM A N ⟨[], asL rk r0, asL bk b0⟩ w → ArgsM A N w ds args → Calls P f args w fun e w' => ∃ v, e = .returned v ∧
    ∃ N', HasM (A2 A w N N') N' ⟨[], asL rk r1, asL bk b1⟩ w' ∧ (∀ b, N'.β b = N.β b) ∧ (∀ r, 1000000 ≤ r → N'.γ r = N.γ r) ∧
    (∀ k, N'.owned k → N.owned k ∨ w.heap.size ≤ k) ∧ w'.os = w.os ∧ w'.tape = w.tape ∧ w'.output = w.output ∧ w.heap.size ≤ w'.heap.size ∧ (∀ k, k < w.heap.size → ¬ N.owned k → w'.heap[k]? = w.heap[k]?) ∧ VR N' (A2 A w N N') w' d v

section
variable {w0 : World} {O0 : Hd} {n : Nat} {M : Mp} {s : PS} {a : Act} {w : World} {rk rids bk bids : List Nat}
theorem subM_owned {k : Nat} (h : (subM M rk rids bk bids).owned k) : (∃ b i, mp bk bids b = some i ∧ M.β i = some k) ∨ ∃ r i c z, mp rk rids r = some i ∧ M.γ i = some (some (k, c, z)) := by
  rcases h with ⟨b, hb⟩ | ⟨r, c, z, hr⟩
  · simp only [subM] at hb
    split at hb
    · rename_i i hi; exact .inl ⟨b, i, hi, hb⟩
    · cases hb
  · simp only [subM] at hr
    split at hr
    · rename_i i hi; exact .inr ⟨r, i, c, z, hi, hr⟩
    · cases hr
theorem subM_own {k : Nat} (h : (subM M rk rids bk bids).owned k) : M.owned k := by
  rcases subM_owned h with ⟨b, i, _, h⟩ | ⟨r, i, c, z, _, h⟩
  · exact .inl ⟨i, h⟩
  · exact .inr ⟨i, c, z, h⟩
theorem look_asL_mem {α : Type} : ∀ {l : List Nat} {b : List α} {x : Nat} {y : α}, look (asL l b) x = some (some y) → y ∈ b
  | [], b, x, y, h => by simp [asL, look] at h
  | k :: l, [], x, y, h => by simp [asL, look] at h
  | k :: l, z :: b, x, y, h => by
    by_cases hk : k = x
    · subst hk; rw [asL, look_cons_self] at h; cases h; simp
    · rw [asL, look_cons_ne hk] at h; simp [look_asL_mem h]
theorem pair_box {f : Nat → Option (List D)} {g : D → D} {x : Nat} : ∀ {l i : List Nat} {b : List (List D)}, l.length = i.length → pairOk f i (b.map fun cs => cs.map g) → ∀ y, look (asL l b) x = some (some y) → ∃ j, mp l i x = some j ∧ f j = some (y.map g)
  | [], i, b, _, _, y, h => by simp [asL, look] at h
  | k :: l, i, [], _, _, y, h => by simp [asL, look] at h
  | k :: l, [], z :: b, hl, _, y, h => by simp at hl
  | k :: l, j :: i, z :: b, hl, hp, y, h => by
    by_cases hk : k = x
    · subst hk; rw [asL, look_cons_self] at h; cases h; exact ⟨j, mp_cons_self _ _ _ _, hp.1⟩
    · rw [asL, look_cons_ne hk] at h; rw [mp_cons_ne hk]; exact pair_box (by simpa using hl) hp.2 y h
/-- a part of what is known, under other names -/
theorem Rel.sub {A' : Bool → Nat → Prop} (h : Rel w0 O0 n M s a w) {r : List (TypeId × Sq)} {b : List (List D)} (hA : ∀ f k, k < w.heap.size → Ow (Fs w0 O0) M f k → A' f k) (hlr : rk.length = rids.length) (hlb : bk.length = bids.length) (hr : pairOk s.r rids r) (hb : pairOk s.b bids (b.map fun cs => cs.map (renS (sgm bk bids) (sgm rk rids)))) (hc : conB rk bk b = true)
    (hnr : nodupB rids = true) (hnb : nodupB bids = true) : HasM A' (subM M rk rids bk bids) ⟨[], asL rk r, asL bk b⟩ w := by
  simp only [conB, List.all_eq_true] at hc
  have hlb' : bids.length = b.length := by have := pairOk_len hb; simpa using this
  have hA' : ∀ f k, k < w.heap.size → Ow (Fs w0 O0) M f k → A' f k ∧ k < w.heap.size ∧ w.heap[k]? = w.heap[k]? := fun f k h1 h2 => ⟨hA f k h1 h2, h1, rfl⟩
  refine ⟨fun x cs hx => ?_, fun x hx => ?_, fun x e q hx => ?_, fun x hx => ?_, fun x x' k h1 h2 => ?_, fun x x' k c z c' z' h1 h2 => ?_, fun x y k c z h1 h2 => ?_⟩
  · simp only [PS.b] at hx
    cases hl : look (asL bk b) x with
    | none => rw [hl] at hx; cases hx
    | some y =>
      rw [hl] at hx
      simp only at hx
      subst hx
      obtain ⟨j, hj1, hj2⟩ := pair_box hlb hb cs hl
      obtain ⟨k, cur, e, g1, g2, g3, g4⟩ := h.box j _ hj2
      refine ⟨k, cur, e, by simp [subM, hj1, g1], g2, by simpa using g3, fun i d hd => ?_⟩
      have hcs := hc cs (look_asL_mem hl)
      refine sc_un hlr hlb (M := M) (fun r i x h1 h2 => by simpa [subM, h1] using h2) (fun r i x h1 h2 => by simpa [subM, h1] using h2) hA' (g4 i (renS (sgm bk bids) (sgm rk rids) d) (by simp [hd])) (hcs d (List.mem_of_getElem? hd))
  · rcases asL_look2 (k := bk) (i := bids) (x := b) (r := x) hlb hlb' with ⟨_, h2⟩ | ⟨y, j, h1, _⟩
    · simp [subM, h2]
    · simp [PS.b, h1] at hx
  · rcases asL_look (k := rk) (i := rids) (x := r) (r := x) (f := s.r) hlr hr with ⟨h1, _⟩ | ⟨y, j, h1, h2, h3⟩
    · simp [PS.r, h1] at hx
    · simp only [PS.r, h1] at hx
      cases hx
      rcases h.row j e q h3 with ⟨g1, g2⟩ | ⟨g, cap, cur, g1, g2, g3, g4, g5, g6⟩
      · exact .inl ⟨by simp [subM, h2, g1], g2⟩
      · exact .inr ⟨g, cap, cur, by simp [subM, h2, g1], g2, g3, g4, g5, fun i j d hi hd => (g6 i j d hi hd).elem_any hd hA'⟩
  · rcases asL_look (k := rk) (i := rids) (x := r) (r := x) (f := s.r) hlr hr with ⟨_, h2⟩ | ⟨y, j, h1, _⟩
    · simp [subM, h2]
    · simp [PS.r, h1] at hx
  · simp only [subM] at h1 h2
    cases e1 : mp bk bids x with
    | none => simp [e1] at h1
    | some i =>
      cases e2 : mp bk bids x' with
      | none => simp [e2] at h2
      | some i' =>
        simp only [e1] at h1
        simp only [e2] at h2
        have := h.inj1 i i' k h1 h2
        subst this
        have a1 := mp_inv hnb e1
        rw [mp_inv hnb e2] at a1
        cases a1; rfl
  · simp only [subM] at h1 h2
    cases e1 : mp rk rids x with
    | none => simp [e1] at h1
    | some i =>
      cases e2 : mp rk rids x' with
      | none => simp [e2] at h2
      | some i' =>
        simp only [e1] at h1
        simp only [e2] at h2
        have := h.inj2 i i' k _ _ _ _ h1 h2
        subst this
        have a1 := mp_inv hnr e1
        rw [mp_inv hnr e2] at a1
        cases a1; rfl
  · simp only [subM] at h1 h2
    split at h1
    · split at h2
      · exact h.inj3 _ _ _ _ _ h1 h2
      · cases h2
    · cases h1

/-! ### the call -/
/-- names that are new after the call -/
def newP (rids pids : List Nat) (x : Nat) : Bool := match mp pids rids x with | some i => !Nat.beq i x | none => false
def fixB : List Nat → List Nat → List Nat → List Nat → Bool
  | k :: rk, r :: rids, p :: pids, all => (match Nat.ble 1000000 k with | true => Nat.beq r p | false => Nat.blt r 1000000 && Nat.blt p 1000000 && !isInL all p) && fixB rk rids pids all
  | _, _, _, _ => true
theorem fixB_ok {all : List Nat} : ∀ {rk rids pids : List Nat}, fixB rk rids pids all = true → rk.length = rids.length → rk.length = pids.length → nodupB rids = true → ∀ {k p}, mp pids rk p = some k →
    ∃ r, mp pids rids p = some r ∧ mp rids rk r = some k ∧ ((1000000 ≤ k ∧ r = p) ∨ (r < 1000000 ∧ p < 1000000 ∧ isInL all p = false))
  | [], [], [], _, _, _, _, k, p, h => by simp [mp] at h
  | k' :: rk, r :: rids, p' :: pids, h, hl, hl', hn, k, p, hm => by
    simp only [fixB, Bool.and_eq_true] at h
    obtain ⟨n1, n2⟩ := nodupB_cons hn
    by_cases hp : p' = p
    · subst hp
      rw [mp_cons_self] at hm
      cases hm
      refine ⟨r, mp_cons_self _ _ _ _, mp_cons_self _ _ _ _, ?_⟩
      have h1 := h.1
      split at h1
      · rename_i hb; exact .inl ⟨Nat.le_of_ble_eq_true hb, Nat.eq_of_beq_eq_true h1⟩
      · simp only [Bool.and_eq_true, Nat.blt_eq, Bool.not_eq_true'] at h1
        exact .inr ⟨h1.1.1, h1.1.2, h1.2⟩
    · rw [mp_cons_ne hp] at hm
      obtain ⟨r', h5, h6, h7⟩ := fixB_ok h.2 (by simpa using hl) (by simpa using hl') n2 hm
      exact ⟨r', by rw [mp_cons_ne hp]; exact h5, by rw [mp_cons_ne (fun e => n1 (by subst e; exact (mp_mem h6).1))]; exact h6, h7⟩
  | [], _ :: _, _, _, hl, _, _, _, _, _ => by simp at hl
  | [], [], _ :: _, _, _, hl, _, _, _, _ => by simp at hl
  | _ :: _, [], _, _, hl, _, _, _, _, _ => by simp at hl
  | _ :: _, _ :: _, [], _, _, hl, _, _, _, _ => by simp at hl

theorem asL_map {α β : Type} (g : α → β) (x : Nat) : ∀ (l : List Nat) (b : List α), look (asL l (b.map g)) x = (look (asL l b) x).map (Option.map g)
  | [], b => by cases b <;> rfl
  | k :: l, [] => rfl
  | k :: l, y :: b => by
    by_cases hk : k = x
    · subst hk; simp [asL, look_cons_self]
    · simp only [List.map_cons, asL, look_cons_ne hk]; exact asL_map g x l b
theorem nones_look {α : Type} (x : Nat) : ∀ (l : List Nat), look (l.map fun r => (r, (none : Option α))) x = if isInL l x then some none else none
  | [] => rfl
  | k :: l => by
    by_cases hk : k = x
    · subst hk; simp [look_cons_self, isInL, Nat.beq_refl]
    · have : Nat.beq k x = false := by
        cases hb : Nat.beq k x
        · rfl
        · exact absurd (Nat.eq_of_beq_eq_true hb) hk
      rw [List.map_cons, look_cons_ne hk, nones_look x l]
      simp [isInL, this]
/-- what is known after a call that writes -/
def PS.after (s : PS) (rids pids : List Nat) (r1 : List (TypeId × Sq)) (bids : List Nat) (cells : List (List D)) : PS :=
  ⟨s.tmp, asL pids r1 ++ ((rids.map fun r => (r, none)) ++ s.row), asL bids cells ++ s.box⟩
theorem Rel.after {pids : List Nat} (h : Rel w0 O0 n M s a w) {N' : Mp} {w' : World} {r1 : List (TypeId × Sq)} {b1 : List (List D)}
    (hlr : rk.length = rids.length) (hlp : rk.length = pids.length) (hlb : bk.length = bids.length) (hl1 : rk.length = r1.length) (hl2 : bk.length = b1.length)
    (hnk : nodupB rk = true) (hnbk : nodupB bk = true) (hnr : nodupB rids = true) (hnb : nodupB bids = true) (hnp : nodupB pids = true) (hfix : fixB rk rids pids rids = true) (hf : Fresh s noB (newP rids pids)) (hc1 : conB rk bk b1 = true)
    (post : HasM (A2 (Ow (Fs w0 O0) M) w (subM M rk rids bk bids) N') N' ⟨[], asL rk r1, asL bk b1⟩ w') (hβ : ∀ b, N'.β b = (subM M rk rids bk bids).β b) (hγ : ∀ r, 1000000 ≤ r → N'.γ r = (subM M rk rids bk bids).γ r)
    (hown : ∀ k, N'.owned k → (subM M rk rids bk bids).owned k ∨ w.heap.size ≤ k) (hos : w'.os = w.os) (htp : w'.tape = w.tape) (hout : w'.output = w.output) (hsz : w.heap.size ≤ w'.heap.size)
    (hfr : ∀ k, k < w.heap.size → ¬ (subM M rk rids bk bids).owned k → w'.heap[k]? = w.heap[k]?) :
    ∃ M', Rel w0 O0 n M' (s.after rids pids r1 bids (b1.map fun cs => cs.map (renS (sgm bk bids) (sgm rk pids)))) a w' ∧ ∀ d v, noIds d = true → VR N' (A2 (Ow (Fs w0 O0) M) w (subM M rk rids bk bids) N') w' d v → VR M' (Ow (Fs w0 O0) M') w' d v := by
  let M' : Mp := ⟨M.β, fun r => match mp pids rk r with | some k => N'.γ k | none => if isInL rids r then none else M.γ r⟩
  have F1 : ∀ k, M'.owned k → M.owned k ∨ w.heap.size ≤ k := by
    rintro k (⟨b, hb⟩ | ⟨r, c, z, hr⟩)
    · exact .inl (.inl ⟨b, hb⟩)
    · simp only [M'] at hr
      split at hr
      · exact (hown k (.inr ⟨_, c, z, hr⟩)).imp_left subM_own
      · split at hr
        · cases hr
        · exact .inl (.inr ⟨r, c, z, hr⟩)
  -- what was handed in and is not owned any more
  have F0 : ∀ k, (subM M rk rids bk bids).owned k → ¬ N'.owned k → ¬ M'.owned k := by
    intro k hk hk' ho
    have hNb : ∀ b, M.β b = some k → (∃ x, mp bk bids x = some b) → False := by
      rintro b hb ⟨x, hx⟩
      exact hk' (.inl ⟨x, by rw [hβ]; simp [subM, hx, hb]⟩)
    have hcase := subM_owned hk
    rcases ho with ⟨b, hb⟩ | ⟨r, c, z, hr⟩
    · rcases hcase with ⟨x, i, hx, hi⟩ | ⟨x, i, c', z', hx, hi⟩
      · have := h.inj1 _ _ _ hb hi; subst this; exact hNb b hb ⟨x, hx⟩
      · exact h.inj3 _ _ _ _ _ hb hi
    · simp only [M'] at hr
      split at hr
      · exact hk' (.inr ⟨_, c, z, hr⟩)
      · split at hr
        · cases hr
        · rename_i hin
          rcases hcase with ⟨x, i, hx, hi⟩ | ⟨x, i, c', z', hx, hi⟩
          · exact h.inj3 _ _ _ _ _ hi hr
          · have := h.inj2 _ _ _ _ _ _ _ hr hi; subst this; exact hin (mem_isIn (mp_mem hx).2)
  have F2 : ∀ f k, k < w'.heap.size → A2 (Ow (Fs w0 O0) M) w (subM M rk rids bk bids) N' f k → Ow (Fs w0 O0) M' f k ∧ k < w'.heap.size ∧ w'.heap[k]? = w'.heap[k]? := by
    rintro f k hk ⟨h1, h2⟩
    refine ⟨?_, hk, rfl⟩
    rcases h1 with h1 | h1 | h1
    · refine ⟨fun ho => ?_, h1.2⟩
      rcases ho with ⟨b, hb⟩ | ⟨r, c, z, hr⟩
      · exact h1.1 (.inl ⟨b, hb⟩)
      · simp only [M'] at hr
        split at hr
        · exact h2 (.inr ⟨_, c, z, hr⟩)
        · split at hr
          · cases hr
          · exact h1.1 (.inr ⟨r, c, z, hr⟩)
    · refine ⟨fun ho => ?_, .inl (Nat.le_trans h.fr.size h1)⟩
      rcases ho with ⟨b, hb⟩ | ⟨r, c, z, hr⟩
      · have := h.lt k (.inl ⟨b, hb⟩); omega
      · simp only [M'] at hr
        split at hr
        · exact h2 (.inr ⟨_, c, z, hr⟩)
        · split at hr
          · cases hr
          · have := h.lt k (.inr ⟨r, c, z, hr⟩); omega
    · exact ⟨F0 k h1 h2, (h.low k (subM_own h1)).imp_right (O0.sub f k)⟩
  have F3 : ∀ f k, k < w.heap.size → Ow (Fs w0 O0) M f k → Ow (Fs w0 O0) M' f k ∧ k < w'.heap.size ∧ w'.heap[k]? = w.heap[k]? := fun f k hk ho =>
    ⟨⟨fun h1 => (F1 k h1).elim ho.1 (fun h2 => by omega), ho.2⟩, by omega, hfr k hk fun h1 => ho.1 (subM_own h1)⟩
  have hfx : ∀ {p k}, mp pids rk p = some k → ∃ r, mp pids rids p = some r ∧ mp rids rk r = some k ∧ ((1000000 ≤ k ∧ r = p) ∨ (r < 1000000 ∧ p < 1000000 ∧ isInL rids p = false)) := fun hm => fixB_ok hfix hlr hlp hnr hm
  have hNγ : ∀ {r k}, mp rids rk r = some k → (subM M rk rids bk bids).γ k = M.γ r := fun hm => by simp [subM, mp_inv hnk hm]
  have F4 : ∀ x y, newP rids pids x = false → M'.γ x = some y → M.γ x = some y := by
    intro x y hx hy
    simp only [M'] at hy
    split at hy
    · rename_i k hk
      obtain ⟨r, h1, h2, h3⟩ := hfx hk
      simp only [newP, h1] at hx
      have hrx : r = x := Nat.eq_of_beq_eq_true (by simpa using hx)
      subst hrx
      rcases h3 with ⟨h4, _⟩ | ⟨_, _, h4⟩
      · rw [hγ k h4, hNγ h2] at hy; exact hy
      · rw [mem_isIn (mp_mem h2).1] at h4; cases h4
    · split at hy
      · cases hy
      · exact hy
  have hother : ∀ k, M.owned k → ¬ (subM M rk rids bk bids).owned k → w'.heap[k]? = w.heap[k]? := fun k h1 h2 => hfr k (h.lt k h1) h2
  have hβM : ∀ {x j}, mp bids bk x = some j → N'.β j = M.β x := fun hm => by rw [hβ]; simp [subM, mp_inv hnbk hm]
  have hlb2 : bids.length = bk.length := hlb.symm
  have hNrow : ∀ {r k c z}, isInL rids r = false → M.γ r = some (some (k, c, z)) → ¬ (subM M rk rids bk bids).owned k := by
    intro r k c z hr hk ho
    rcases subM_owned ho with ⟨x, i, hx, hi⟩ | ⟨x, i, c', z', hx, hi⟩
    · exact h.inj3 _ _ _ _ _ hi hk
    · have := h.inj2 _ _ _ _ _ _ _ hk hi; subst this; rw [mem_isIn (mp_mem hx).2] at hr; cases hr
  have hNbox : ∀ {b k}, mp bids bk b = none → M.β b = some k → ¬ (subM M rk rids bk bids).owned k := by
    intro b k hb hk ho
    rcases subM_owned ho with ⟨x, i, hx, hi⟩ | ⟨x, i, c', z', hx, hi⟩
    · have := h.inj1 _ _ _ hk hi; subst this
      obtain ⟨y, hy⟩ := mp_some hlb2 (mp_mem hx).2
      rw [hb] at hy; cases hy
    · exact h.inj3 _ _ _ _ _ hk hi
  have hnotin : ∀ {r}, mp pids rk r = none → isInL rids r = false → True := fun _ _ => trivial
  refine ⟨M', ⟨?_, h.dfr, h.sz, fun t => ?_, fun x cs hx => ?_, fun x hx => ?_, fun r e q hr => ?_, fun r hr => ?_, fun k hk => ?_, h.inj1, fun r r' k c z c' z' h1 h2 => ?_, fun b r k c z h1 h2 => ?_, h.nle, h.fxb, fun r x x' h1 h2 => ?_⟩, fun d v hd hv => ?_⟩
  · refine h.fr.step hos htp hout hsz fun k hk h1 => hfr k (Nat.lt_of_lt_of_le hk h.fr.size) fun ho => ?_
    rcases h.low k (subM_own ho) with h2 | h2
    · omega
    · exact h1 h2
  · exact VR.new (b := noB) (r := newP rids pids) F3 F4 (fun x k _ hx => hx) (hf.t t) (h.tmp t)
  · simp only [PS.after, PS.b, look_append] at hx
    rcases asL_look2 (k := bids) (i := bk) (x := b1.map fun cs => cs.map (renS (sgm bk bids) (sgm rk pids))) (r := x) hlb2 (by simpa using hl2) with ⟨e1, e2⟩ | ⟨y, j, e1, e2, e3⟩
    · rw [e1] at hx
      have hx' : s.b x = some cs := hx
      obtain ⟨k, cur, e, g1, g2, g3, g4⟩ := h.box x cs hx'
      refine ⟨k, cur, e, g1, (hother k (.inl ⟨x, g1⟩) (hNbox e2 g1)).trans g2, g3, fun i d hd => ?_⟩
      have hm : ment noB (newP rids pids) d = false := by
        have := hf.b x cs hx' d (List.mem_of_getElem? hd)
        cases d <;> first | exact this | (simp [mentS] at this)
      exact VR.new (b := noB) (r := newP rids pids) F3 F4 (fun x k _ hx => hx) hm (g4 i d hd)
    · rw [e1] at hx
      simp only [Option.some.injEq] at hx
      subst hx
      have e4 := e3 hnbk
      rw [asL_map] at e4
      obtain ⟨y0, e5, e6⟩ := Option.map_eq_some_iff.1 e4
      cases y0 with
      | none => cases e6
      | some y0 =>
        simp only [Option.map_some, Option.some.injEq] at e6
        subst e6
        obtain ⟨k, cur, e, g1, g2, g3, g4⟩ := post.box j y0 (by simp [PS.b, e5])
        refine ⟨k, cur, e, by rw [← hβM e2]; exact g1, g2, by simpa using g3, fun i d hd => ?_⟩
        rw [List.getElem?_map] at hd
        obtain ⟨d0, hd0, rfl⟩ := Option.map_eq_some_iff.1 hd
        have hs : scS rk bk d0 = true := by
          simp only [conB, List.all_eq_true] at hc1
          exact hc1 y0 (look_asL_mem e5) d0 (List.mem_of_getElem? hd0)
        refine sc_ren hlp hlb (fun r i x hr hx => ?_) (fun r i x hr hx => ?_) F2 (g4 i d0 hd0) hs
        · simp only [M', mp_inv hnp hr] at hx; exact hx
        · rw [hβ]; simp only [subM, hr]; exact hx
  · simp only [PS.after, PS.b, look_append] at hx
    rcases asL_look2 (k := bids) (i := bk) (x := b1.map fun cs => cs.map (renS (sgm bk bids) (sgm rk pids))) (r := x) hlb2 (by simpa using hl2) with ⟨e1, e2⟩ | ⟨y, j, e1, e2, e3⟩
    · rw [e1] at hx; exact h.boxn x hx
    · rw [e1] at hx; cases hx
  · simp only [PS.after, PS.r, look_append, nones_look] at hr
    rcases asL_look2 (k := pids) (i := rk) (x := r1) (r := r) hlp.symm hl1 with ⟨e1, e2⟩ | ⟨y, j, e1, e2, e3⟩
    · rw [e1] at hr
      by_cases hin : isInL rids r = true
      · simp only [hin, if_true] at hr; cases hr
      · have hin' : isInL rids r = false := by simpa using hin
        simp only [hin', if_false, Bool.false_eq_true] at hr
        have hr' : s.r r = some (e, q) := hr
        have hM : M'.γ r = M.γ r := by simp [M', e2, hin']
        rcases h.row r e q hr' with ⟨g1, g2⟩ | ⟨g, cap, cur, g1, g2, g3, g4, g5, g6⟩
        · exact .inl ⟨hM.trans g1, g2⟩
        · exact .inr ⟨g, cap, cur, hM.trans g1, (hother g (.inr ⟨r, _, _, g1⟩) (hNrow hin' g1)).trans g2, g3, g4, g5, fun i j d hi hd => (g6 i j d hi hd).elem_any hd F3⟩
    · rw [e1] at hr
      simp only [Option.some.injEq] at hr
      subst hr
      have hM : M'.γ r = N'.γ j := by simp [M', e2]
      rcases post.row j e q (by simp [PS.r, e3 hnk]) with ⟨g1, g2⟩ | ⟨g, cap, cur, g1, g2, g3, g4, g5, g6⟩
      · exact .inl ⟨hM.trans g1, g2⟩
      · exact .inr ⟨g, cap, cur, hM.trans g1, g2, g3, g4, g5, fun i j d hi hd => (g6 i j d hi hd).elem_any hd F2⟩
  · simp only [PS.after, PS.r, look_append, nones_look] at hr
    rcases asL_look2 (k := pids) (i := rk) (x := r1) (r := r) hlp.symm hl1 with ⟨e1, e2⟩ | ⟨y, j, e1, e2, e3⟩
    · rw [e1] at hr
      simp only [M', e2]
      split
      · rfl
      · rename_i hin
        have hin' : isInL rids r = false := by simpa using hin
        simp only [hin', if_false, Bool.false_eq_true] at hr
        exact h.rown r hr
    · rw [e1] at hr; cases hr
  · rcases F1 k hk with h1 | h1
    · exact h.low k h1
    · exact .inl (Nat.le_trans h.fr.size h1)
  · simp only [M'] at h1 h2
    have mix : ∀ {r' k j : Nat} {c z c' z' : Nat}, N'.γ j = some (some (k, c, z)) → mp pids rk r' = none → isInL rids r' = false → M.γ r' = some (some (k, c', z')) → False := by
      intro r' k j c z c' z' a1 a2 a3 a4
      rcases hown k (.inr ⟨j, _, _, a1⟩) with b1 | b1
      · exact hNrow a3 a4 b1
      · have := h.lt k (.inr ⟨r', _, _, a4⟩); omega
    cases e1 : mp pids rk r with
    | none =>
      simp only [e1] at h1
      split at h1
      · cases h1
      rename_i i1
      cases e2 : mp pids rk r' with
      | none =>
        simp only [e2] at h2
        split at h2
        · cases h2
        exact h.inj2 _ _ _ _ _ _ _ h1 h2
      | some j' =>
        simp only [e2] at h2
        exact (mix h2 e1 (by simpa using i1) h1).elim
    | some j =>
      simp only [e1] at h1
      cases e2 : mp pids rk r' with
      | none =>
        simp only [e2] at h2
        split at h2
        · cases h2
        rename_i i2
        exact (mix h1 e2 (by simpa using i2) h2).elim
      | some j' =>
        simp only [e2] at h2
        have := post.inj2 _ _ _ _ _ _ _ h1 h2
        subst this
        have a1 := mp_inv hnk e1
        rw [mp_inv hnk e2] at a1
        cases a1; rfl
  · simp only [M'] at h1 h2
    split at h2
    · rename_i j hj
      rcases hown k (.inr ⟨j, _, _, h2⟩) with b1 | b1
      · rcases subM_owned b1 with ⟨x, i, hx, hi⟩ | ⟨x, i, c', z', hx, hi⟩
        · have := h.inj1 _ _ _ h1 hi; subst this
          exact post.inj3 x j k c z (by rw [hβ]; simp [subM, hx, hi]) h2
        · exact h.inj3 _ _ _ _ _ h1 hi
      · have := h.lt k (.inl ⟨b, h1⟩); omega
    · split at h2
      · cases h2
      · exact h.inj3 _ _ _ _ _ h1 h2
  · have h3 := O0.lor r x h1
    simp only [M'] at h2
    split at h2
    · rename_i j hj
      obtain ⟨r', g1, g2, g3⟩ := hfx hj
      rcases g3 with ⟨g4, rfl⟩ | ⟨_, g4, _⟩
      · rw [hγ j g4, hNγ g2] at h2; exact h.fxr _ _ _ h1 h2
      · omega
    · split at h2
      · cases h2
      · exact h.fxr _ _ _ h1 h2
  · exact VR.new (b := fun _ => true) (r := fun _ => true) F2 (fun x y hx => by simp at hx) (fun x y hx => by simp at hx) (by simpa [noIds] using hd) hv

/-! ### how what is handed over fits -/
def fitM1 (rk rids bk bids : List Nat) (c : D) : D → Prop
  | .ro f q => c = .ro f q ∨ (c = .ro true q ∧ f = false) ∨ (c = .nil ∧ q.len = 0)
  | .agg _ => False
  | .tup _ => False
  | d => c = renS (sgm bk bids) (sgm rk rids) d ∧ scS rk bk d = true
def fitML (rk rids bk bids : List Nat) : List D → List D → Prop
  | [], [] => True
  | a :: l, b :: m => fitM1 rk rids bk bids a b ∧ fitML rk rids bk bids l m
  | _, _ => False
def fitMA (rk rids bk bids : List Nat) : D → D → Prop
  | .agg l, .agg m => fitML rk rids bk bids l m
  | c, d => fitM1 rk rids bk bids c d
def fitsM (rk rids bk bids : List Nat) (s : PS) : List Operand → List D → Prop
  | [], [] => True
  | x :: l, b :: m => fitMA rk rids bk bids (s.ev x) b ∧ fitsM rk rids bk bids s l m
  | _, _ => False
theorem VR.unflag {A A' : Bool → Nat → Prop} (hA : ∀ f f' k, A f k → f' = f ∨ f' = false → A' f' k) {M M' : Mp} {w : World} {d : D} {v : Value} (h : VR M A w d v) : ∀ d', sameD d d' → (∀ f q f' q', d = .ro f q → d' = .ro f' q' → f' = f ∨ f' = false) → VR M' A' w d' v := by
  induction h with
  | ro f q ao cap b o u hn hc hao hu hv ih =>
    intro d' hd hf
    cases d' <;> simp only [sameD] at hd
    rename_i f' q'
    subst hd
    have hff := hf f q f' q rfl rfl
    refine .ro f' q ao cap b o u hn hc (fun h0 => ⟨(hao h0).1, (hao h0).2.1, hA f f' b (hao h0).2.2 hff⟩) (fun i j d' hi hd' => ?_) (fun i j d' hi hd' => ?_)
    · obtain ⟨d, h1, _⟩ := elem_same f f' q i j d' hd'; exact hu i j d hi h1
    · obtain ⟨d, h1, h2⟩ := elem_same f f' q i j d' hd'
      refine ih i j d hi h1 d' h2 fun g p g' p' e1 e2 => ?_
      subst e1 e2
      cases q <;> simp only [Sq.elem] at h1 hd' <;> rcases j with _ | _ | j <;> simp at h1 hd' <;> first | (obtain ⟨rfl, _⟩ := h1; obtain ⟨rfl, _⟩ := hd'; exact hff) | skip
  | int n => intro d' hd _; cases d' <;> simp only [sameD] at hd; subst hd; exact .int _
  | bool b => intro d' hd _; cases d' <;> simp only [sameD] at hd; subst hd; exact .bool _
  | val v h => intro d' hd _; cases d' <;> simp only [sameD] at hd; subst hd; exact .val _ h
  | _ => intro d' hd; simp [sameD] at hd
theorem fitM1_ok {A : Bool → Nat → Prop} (hm : ∀ k, A true k → A false k) (hl : rk.length = rids.length) (hb : bk.length = bids.length) {c d : D} {v : Value} (hv : VR M A w c v) (hf : fitM1 rk rids bk bids c d) : VR (subM M rk rids bk bids) A w d v := by
  have hA : ∀ f b, b < w.heap.size → A f b → A f b ∧ b < w.heap.size ∧ w.heap[b]? = w.heap[b]? := fun f b h1 h2 => ⟨h2, h1, rfl⟩
  have go : c = renS (sgm bk bids) (sgm rk rids) d ∧ scS rk bk d = true → VR (subM M rk rids bk bids) A w d v := by
    rintro ⟨rfl, hs⟩
    exact sc_un hl hb (fun r i x h1 h2 => by simpa [subM, h1] using h2) (fun r i x h1 h2 => by simpa [subM, h1] using h2) hA hv hs
  cases d with
  | ro f q =>
    rcases hf with rfl | ⟨rfl, rfl⟩ | ⟨rfl, h0⟩
    · exact hv.ro_any hA
    · refine hv.unflag (M' := subM M rk rids bk bids) (A' := A) (fun f f' k h1 h2 => ?_) (.ro false q) rfl (fun f q' f' q'' e1 e2 => by cases e1; cases e2; exact .inr rfl)
      rcases h2 with rfl | rfl
      · exact h1
      · cases f
        · exact h1
        · exact hm k h1
    · obtain ⟨ao0, hao0⟩ := hv.nil_inv
      rw [hao0]
      have := VR.ro (M := subM M rk rids bk bids) (A := A) (w := w) f q ao0 0 0 0 (fun _ _ => undef) (by omega) (by omega) (by omega) (by intro i j d hi; omega) (by intro i j d hi; omega)
      rwa [h0] at this
  | agg l => exact hf.elim
  | tup l => exact hf.elim
  | _ => exact go hf
theorem fitML_ok {A : Bool → Nat → Prop} (hm : ∀ k, A true k → A false k) (hl : rk.length = rids.length) (hb : bk.length = bids.length) : ∀ {l m : List D}, fitML rk rids bk bids l m → l.length = m.length ∧ ∀ (i : Nat) (d' : D), m[i]? = some d' → ∃ d, l[i]? = some d ∧ ∀ v, VR M A w d v → VR (subM M rk rids bk bids) A w d' v
  | [], [], _ => ⟨rfl, by simp⟩
  | a :: l, b :: m, h => by
    obtain ⟨h1, h2⟩ := fitML_ok hm hl hb h.2
    refine ⟨by simp [h1], fun i d' hd => ?_⟩
    cases i with
    | zero => simp at hd; subst hd; exact ⟨a, rfl, fun v hv => fitM1_ok hm hl hb hv h.1⟩
    | succ i => exact h2 i d' (by simpa using hd)
  | [], _ :: _, h => h.elim
  | _ :: _, [], h => h.elim
theorem fitMA_ok {A : Bool → Nat → Prop} (hm : ∀ k, A true k → A false k) (hl : rk.length = rids.length) (hb : bk.length = bids.length) {c d : D} {v : Value} (hv : VR M A w c v) (hf : fitMA rk rids bk bids c d) : VR (subM M rk rids bk bids) A w d v := by
  cases d with
  | agg m =>
    cases c with
    | agg l =>
      obtain ⟨us, rfl, h1, h2⟩ := hv.agg_inv
      obtain ⟨g1, g2⟩ := fitML_ok (M := M) (w := w) hm hl hb hf
      refine .agg _ us (by omega) fun i d' hd => ?_
      obtain ⟨d, h3, h4⟩ := g2 i d' hd
      exact h4 _ (h2 i d h3)
    | _ => exact hf.elim
  | _ => cases c <;> exact fitM1_ok hm hl hb hv hf
theorem fitsM_ok {A : Bool → Nat → Prop} (hm : ∀ k, A true k → A false k) (hl : rk.length = rids.length) (hb : bk.length = bids.length) (hev : ∀ x, VR M A w (s.ev x) (a.eval x)) : ∀ {xs : List Operand} {ds : List D}, fitsM rk rids bk bids s xs ds → xs.length = ds.length ∧
    ∀ (i : Nat) (d : D), ds[i]? = some d → ∃ x, xs[i]? = some x ∧ VR (subM M rk rids bk bids) A w d (a.eval x)
  | [], [], _ => ⟨rfl, by simp⟩
  | x :: l, b :: m, h => by
    obtain ⟨h1, h2⟩ := fitsM_ok hm hl hb hev h.2
    refine ⟨by simp [h1], fun i d' hd => ?_⟩
    cases i with
    | zero => simp at hd; subst hd; exact ⟨x, rfl, fitMA_ok hm hl hb (hev x) h.1⟩
    | succ i => exact h2 i d' (by simpa using hd)
  | [], _ :: _, h => h.elim
  | _ :: _, [], h => h.elim
end

section
variable {C : Cx} {ops : Array Oper} {K : PS → Prop} {o : Oper} {rest : List Oper} {s s' : PS} {rk rids bk bids pids : List Nat}
/-- the names of a call fit together -/
def mchk (rk rids bk bids pids : List Nat) : Bool := Nat.beq rk.length rids.length && Nat.beq rk.length pids.length && Nat.beq bk.length bids.length && nodupB rids && nodupB bids && nodupB pids && fixB rk rids pids rids
theorem sMCallAny {f : FuncId} {ds : List D} {r0 r1 : List (TypeId × Sq)} {b0 b1 : List (List D)} {d : D} (hp : MCall C.P f ds rk bk r0 r1 b0 b1 d) (hds : dstOk C.n o.dst = true)
    (hrun : ∀ M a w, Rel C.w0 C.O0 C.n M s a w → ∃ args, (execOp a.eval o).run C.P w = .ok (.enter f args) w ∧ ArgsM (Ow (Fs C.w0 C.O0) M) (subM M rk rids bk bids) w ds args)
    (hchk : mchk rk rids bk bids pids = true) (hf : Fresh s noB (newP rids pids)) (hr : pairOk s.r rids r0) (hb : pairOk s.b bids (b0.map fun cs => cs.map (renS (sgm bk bids) (sgm rk rids))))
    (h : K ((s.after rids pids r1 bids (b1.map fun cs => cs.map (renS (sgm bk bids) (sgm rk pids)))).put o.dst d)) : Step C o s K := ⟨fun M a w Q K' hrl hk => by
  simp only [mchk, Bool.and_eq_true] at hchk
  obtain ⟨⟨⟨⟨⟨⟨c1, c2⟩, c3⟩, c4⟩, c5⟩, c6⟩, c7⟩ := hchk
  have l1 := Nat.eq_of_beq_eq_true c1
  have l2 := Nat.eq_of_beq_eq_true c2
  have l3 := Nat.eq_of_beq_eq_true c3
  obtain ⟨args, hex, hargs⟩ := hrun M a w hrl
  unfold Oper.wp
  rw [hex]
  refine (hp.run w (subM M rk rids bk bids) args (Ow (Fs C.w0 C.O0) M) (fun f k ha ho => ha.1 (subM_own ho)) (fun k ha => ⟨ha.1, ha.2.imp_right (C.O0.mon k)⟩) (hrl.sub (fun _ _ _ h => h) l1 l3 hr hb hp.con0 c4 c5) hargs).mono ?_
  rintro e w' ⟨v, rfl, N', p1, p2, p3, p4, p5, p6, p7, p8, p9, p10⟩
  obtain ⟨M', g1, g2⟩ := hrl.after l1 l2 l3 hp.len.2.1 hp.len.2.2.2 hp.ndk.1 hp.ndk.2 c4 c5 c6 c7 hf hp.con1 p1 p2 p3 p4 p5 p6 p7 p8 p9
  exact hk M' _ _ _ h (g1.put hds (g2 d v hp.nd p10))⟩
theorem Rel.mon {w0 : World} {O0 : Hd} {M : Mp} : ∀ k, Ow (Fs w0 O0) M true k → Ow (Fs w0 O0) M false k := fun k ha => ⟨ha.1, ha.2.imp_right (O0.mon k)⟩
theorem sMCall {f : FuncId} {args : Array Operand} {ts : Array TypeId} {ds : List D} {r0 r1 : List (TypeId × Sq)} {b0 b1 : List (List D)} {d : D} (hop : o.op = .call { callee := .value (.func f), args := args, argTypes := ts }) (hp : MCall C.P f ds rk bk r0 r1 b0 b1 d) (hds : dstOk C.n o.dst = true)
    (hchk : mchk rk rids bk bids pids = true) (hf : Fresh s noB (newP rids pids)) (hr : pairOk s.r rids r0) (hb : pairOk s.b bids (b0.map fun cs => cs.map (renS (sgm bk bids) (sgm rk rids)))) (hfit : fitsM rk rids bk bids s args.toList ds)
    (h : K ((s.after rids pids r1 bids (b1.map fun cs => cs.map (renS (sgm bk bids) (sgm rk pids)))).put o.dst d)) : Step C o s K := by
  refine sMCallAny hp hds (fun M a w hr => ?_) hchk hf hr hb h
  refine ⟨args.map a.eval, ?_, ?_⟩
  · have := hp.enter (args.map a.eval) w
    unfold execOp
    rw [hop]
    show ((do let d ← resolve a.eval _ o.type; invoke d.target d.args : Sem Next)).run C.P w = _
    simp only [resolve]
    show ((callFunc f ((#[] ++ args.map a.eval) ++ #[])) : Sem Next).run C.P w = _
    rw [show (#[] ++ args.map a.eval) ++ #[] = args.map a.eval by simp]
    exact this
  · simp only [mchk, Bool.and_eq_true] at hchk
    obtain ⟨g1, g2⟩ := fitsM_ok (M := M) (w := w) (a := a) Rel.mon (Nat.eq_of_beq_eq_true hchk.1.1.1.1.1.1) (Nat.eq_of_beq_eq_true hchk.1.1.1.1.2) hr.ev hfit
    refine ⟨by simpa using g1, fun i d hd => ?_⟩
    obtain ⟨x, h1, h2⟩ := g2 i d hd
    rw [Array.getElem?_toList] at h1
    have : (args.map a.eval).getD i undef = a.eval x := by simp [h1]
    rw [this]; exact h2
end
end Go.Proofs.Ytkpmijmlbpdknaa
