/- Texts that the proof needs, put together: M8 M9 M10 M11 M12 M13 M14 M17 M18 G32 G31 G33 G34 G30 G35 G38 G56 G71 G72 G73 G75 G19 G20 G17 G22 G64 G65 G66 G67 G40 G74 G76 G77 G78 G101 G105 G110 G112 Rc G69 Pbr G113. -/
import Derived.Laws.Strings
import Derived.Laws.BytesArg
import Derived.Test.YtkklfgcelmeccaaBGb2
set_option linter.unusedVariables false
set_option linter.unusedSimpArgs false
namespace Go.Proofs.Ytkklfgcelmeccaa
open Go.RowKit Go.Deep
def klXS (r : Nat) : D → D
 | .row x o n => match (Nat.beq x r || !notF x) with | true => .dead | false => .row x o n
 | .eptr x i o => match (Nat.beq x r || !notF x) with | true => .dead | false => .eptr x i o
 | .agg _ | .tup _ | .irow _ _ _ | .iptr _ _ _ _ => .dead
 | d => d
def klXA (r : Nat) : D → D
 | .agg l => .agg (l.map (klXS r))
 | d => klXS r d
def klX (r : Nat) : D → D
 | .tup l => .tup (l.map (klXA r))
 | d => klXA r d
def PS.killX (s : PS) (r : Nat) : PS := ⟨s.tmp.map fun p => (p.1, klX r p.2), s.row, s.box.map fun p => (p.1, p.2.map fun cs => cs.map (klXS r))⟩
section
variable {M M' : Mp} {A A' : Bool → Nat → Prop} {w w' : World} {r : Nat} {s : PS}
theorem VR.klXS (hA : ∀ f b, b < w.heap.size → A f b → A' f b ∧ b < w'.heap.size ∧ w'.heap[b]? = w.heap[b]?) (hγ : ∀ x y, x ≠ r → notF x = true → M'.γ x = some y → M.γ x = some y) (hβ : ∀ b k, M'.β b = some k → M.β b = some k)
  {d : D} {v : Value} (h : VR M A w d v) : VR M' A' w' (klXS r d) v := by
 cases h with
 | dead v => exact .dead v
 | int n => exact .int n
 | bool b => exact .bool b
 | val v h => exact .val v h
 | nil ao => exact .nil ao
 | ro f q ao cap b o u hn hc hao hu hv => exact VR.ro_any (.ro f q ao cap b o u hn hc hao hu hv) hA
 | row x off n v h1 h =>
  simp only [Ytkklfgcelmeccaa.klXS]
  split
  ·exact .dead _
  ·rename_i hx
   rw [Bool.or_eq_false_iff] at hx
   exact .row _ off n v h1 fun y hy => h y (hγ _ y (fun e => by subst e; rw [Nat.beq_refl] at hx; cases hx.1) (by simpa using hx.2) hy)
 | ptr b off v h1 h => exact .ptr _ off v h1 fun k hk => h k (hβ b k hk)
 | eptr x i off v h =>
  simp only [Ytkklfgcelmeccaa.klXS]
  split
  ·exact .dead _
  ·rename_i hx
   rw [Bool.or_eq_false_iff] at hx
   exact .eptr _ i off v fun g c z hg => h g c z (hγ _ _ (fun e => by subst e; rw [Nat.beq_refl] at hx; cases hx.1) (by simpa using hx.2) hg)
 | rptr f q i off b o u hb hA' hu hv => exact VR.rptr_any (.rptr f q i off b o u hb hA' hu hv) hA
 | agg l us hl h => exact .dead _
 | tup l us hl h => exact .dead _
 | clo f bs v h1 h => exact .clo f bs v h1 fun ks hk => h ks (capsOf_mono' (fun b _ => hβ b) hk)
 | map k l es clock h hl hk => obtain ⟨a1, a2, a3⟩ := hA _ k (heap_lt h) hk; exact .map k l es clock (a3.trans h) hl a1
 | any v h1 => exact .any v h1
 | irow F k n v h1 h => exact .dead _
 | iptr F k i off v h => exact .dead _
 | fam te q v => exact .fam te q v
theorem VR.klXA (hA : ∀ f b, b < w.heap.size → A f b → A' f b ∧ b < w'.heap.size ∧ w'.heap[b]? = w.heap[b]?) (hγ : ∀ x y, x ≠ r → notF x = true → M'.γ x = some y → M.γ x = some y) (hβ : ∀ b k, M'.β b = some k → M.β b = some k)
  {d : D} {v : Value} (h : VR M A w d v) : VR M' A' w' (klXA r d) v := by
 cases d with
 | agg l =>
  cases h with | agg _ us hl h =>
  refine .agg _ us (by simpa using hl) fun i d hd => ?_
  rw [List.getElem?_map] at hd
  obtain ⟨d0, h0, rfl⟩ := Option.map_eq_some_iff.1 hd
  exact (h i d0 h0).klXS hA hγ hβ
 | _ => exact VR.klXS hA hγ hβ h
theorem VR.klX (hA : ∀ f b, b < w.heap.size → A f b → A' f b ∧ b < w'.heap.size ∧ w'.heap[b]? = w.heap[b]?) (hγ : ∀ x y, x ≠ r → notF x = true → M'.γ x = some y → M.γ x = some y) (hβ : ∀ b k, M'.β b = some k → M.β b = some k)
  {d : D} {v : Value} (h : VR M A w d v) : VR M' A' w' (klX r d) v := by
 cases d with
 | tup l =>
  cases h with | tup _ us hl h =>
  refine .tup _ us (by simpa using hl) fun i d hd => ?_
  rw [List.getElem?_map] at hd
  obtain ⟨d0, h0, rfl⟩ := Option.map_eq_some_iff.1 hd
  exact (h i d0 h0).klXA hA hγ hβ
 | _ => exact VR.klXA hA hγ hβ h
theorem PS.t_killX (s : PS) (r t : Nat) : (s.killX r).t t = klX r (s.t t) := by
 unfold PS.t PS.killX
 simp only [look_map (klX r)]
 cases look s.tmp t <;> rfl
theorem PS.b_killX (s : PS) (r b : Nat) : (s.killX r).b b = (s.b b).map fun cs => cs.map (klXS r) := by
 unfold PS.b PS.killX
 simp only [look_map (fun (x : Option (List D)) => x.map fun cs => cs.map (Ytkklfgcelmeccaa.klXS r))]
 cases look s.box b <;> rfl
end
def lone (s : PS) (R F : Nat) : Bool := s.row.all fun p => Nat.beq p.1 R || (match s.r p.1 with | some (_, q) => (match q.refF with | some G => !Nat.beq G F && Nat.blt G 4294967296 | none => true) | none => true)
theorem lone_ok {s : PS} {R F : Nat} (hl : lone s R F = true) {x : Nat} {e : TypeId} {q : Sq} {G : Nat} (hx : s.r x = some (e, q)) (hG : q.refF = some G) : x = R ∨ (G ≠ F ∧ G < 4294967296) := by
 cases hb : Nat.ble BIG x with
 | true =>
  rw [PS.r_hi _ hb] at hx
  have := famr_flat hx
  cases q <;> simp [Sq.refF, Sq.isRefs] at hG this
 | false =>
  have hx' := hx
  rw [PS.r_lo _ hb] at hx'
  split at hx'
  ·rename_i y hy
   have := (List.all_eq_true.1 hl) _ (look_mem hy)
   simp only [hx, hG, Bool.or_eq_true, Bool.and_eq_true, Bool.not_eq_true', Nat.blt_eq] at this
   rcases this with h1 | ⟨h1, h2⟩
   ·exact .inl (Nat.eq_of_beq_eq_true h1)
   ·exact .inr ⟨fun e => (by rw [e, Nat.beq_refl] at h1; cases h1), h2⟩
  ·cases hx'
section
variable {w0 : World} {O0 : Hd} {n : Nat} {M : Mp} {s : PS} {a : Act} {w : World}
theorem Rel.remap (h : Rel w0 O0 n M s a w) {M' : Mp} {s' : PS} (r F : Nat) (hF : F < 4294967296) (hβ : ∀ b, M'.β b = M.β b) (hsub : ∀ x k c z, M'.γ x = some (some (k, c, z)) → ∃ y, M.γ y = some (some (k, c, z)))
  (hinj : ∀ x y k c z c' z', M'.γ x = some (some (k, c, z)) → M'.γ y = some (some (k, c', z')) → x = y)
  (hγ' : ∀ x y, x ≠ r → notF x = true → M'.γ x = some y → M.γ x = some y) (hγk : ∀ x y, x ≠ FK + F → notF x = false → Nat.ble BIG x = false → M'.γ x = some y → M.γ x = some y) (hrr : r < 1000000 ∨ M'.γ r = none) (hfk : ∀ u u', O0.fr (FK + F) = some u → M'.γ (FK + F) = some u' → u' = u)
  (hbg : ∀ G k y, G < 4294967296 → G ≠ F → M'.γ (inn G k) = some y → M.γ (inn G k) = some y)
  (ht : ∀ t, VR M' (Ow (Fs w0 O0) M') w (s'.t t) (a.tmps.getD t undef)) (hb : ∀ b, s'.b b = (s.b b).map fun cs => cs.map (klXS r))
  (hrow : ∀ x e q, s'.r x = some (e, q) → (s.r x = some (e, q) ∧ M'.γ x = M.γ x ∧ ∀ G, q.refF = some G → G ≠ F ∧ G < 4294967296) ∨ RowAt (Fs w0 O0) M' w x e q) (hrown : ∀ x, s'.r x = none → M'.γ x = none) : Rel w0 O0 n M' s' a w := by
 have hown : ∀ k, M'.owned k → M.owned k := by
  rintro k (⟨b, hb⟩ | ⟨y, c, z, hy⟩)
  ·exact .inl ⟨b, by rw [← hβ]; exact hb⟩
  ·obtain ⟨x, hx⟩ := hsub _ _ _ _ hy; exact .inr ⟨x, c, z, hx⟩
 have hA : ∀ f b, b < w.heap.size → Ow (Fs w0 O0) M f b → Ow (Fs w0 O0) M' f b ∧ b < w.heap.size ∧ w.heap[b]? = w.heap[b]? := fun f b h1 h2 => ⟨⟨fun h3 => h2.1 (hown b h3), h2.2⟩, h1, rfl⟩
 refine ⟨h.fr, h.dfr, h.sz, ht, fun b cs hx => ?_, fun b hx => ?_, fun x e q hx => ?_, hrown, fun k hk => h.low k (hown k hk), fun b b' k h1 h2 => h.inj1 b b' k (by rw [← hβ]; exact h1) (by rw [← hβ]; exact h2), hinj, fun b x k c z h1 h2 => ?_, h.nle, fun b k k' h1 h2 => h.fxb b k k' h1 (by rw [← hβ]; exact h2), fun x u u' h1 h2 => ?_⟩
 ·rw [hb] at hx
  obtain ⟨cs0, h0, rfl⟩ := Option.map_eq_some_iff.1 hx
  obtain ⟨k, cur, e2, a1, a2, a3, a4⟩ := h.box b cs0 h0
  refine ⟨k, cur, e2, by rw [hβ]; exact a1, a2, by simpa using a3, fun j d hd => ?_⟩
  rw [List.getElem?_map] at hd
  obtain ⟨d0, h1, rfl⟩ := Option.map_eq_some_iff.1 hd
  exact VR.klXS hA hγ' (fun b k hk => by rw [← hβ]; exact hk) (a4 j d0 h1)
 ·rw [hb] at hx
  rw [hβ]; exact h.boxn b (by simpa using hx)
 ·rcases hrow x e q hx with ⟨h1, h2, h3⟩ | h1
  ·rcases h.row x e q h1 with ⟨g1, g2⟩ | ⟨g, cap, cur, g1, g2, g3, g4, g5, g6⟩
   ·exact .inl ⟨h2.trans g1, g2⟩
   ·refine .inr ⟨g, cap, cur, h2.trans g1, g2, g3, g4, g5, fun i j d hi hd => (g6 i j d hi hd).relem_any2 hd hA fun G hG k y hy => ?_⟩
    exact hbg G k y (h3 G hG).2 (h3 G hG).1 hy
  ·exact h1
 ·obtain ⟨y, hy⟩ := hsub _ _ _ _ h2
  exact h.inj3 _ _ _ _ _ (by rw [← hβ]; exact h1) hy
 ·obtain ⟨h3, h4⟩ := O0.lor x u h1
  have hb1 : Nat.ble BIG x = false := by
   cases hb : Nat.ble BIG x with
   | false => rfl
   | true => have := Nat.le_of_ble_eq_true hb; omega
  by_cases hxr : x = r
  ·subst hxr
   rcases hrr with h5 | h5
   ·omega
   ·rw [h5] at h2; cases h2
  ·cases hn : notF x with
   | true => exact h.fxr x u u' h1 (hγ' x u' hxr hn h2)
   | false =>
    by_cases hxf : x = FK + F
    ·rw [hxf] at h1 h2; exact hfk u u' h1 h2
    ·exact h.fxr x u u' h1 (hγk x u' hxf hn hb1 h2)
end
end Go.Proofs.Ytkklfgcelmeccaa
namespace Go.Proofs.Ytkklfgcelmeccaa
open Go.RowKit Go.Deep
def Fq.len : Fq → Nat
 | .ints L => L.length | .pairs L => L.length | .bools L => L.length
def Fq.push : Fq → Sq → Option Fq
 | .ints L, .ints c => some (.ints (L ++ [some c])) | .pairs L, .pairs c => some (.pairs (L ++ [some c])) | .bools L, .bools c => some (.bools (L ++ [some c]))
 | _, _ => none
def Fq.hole : Fq → Nat → Fq
 | .ints L, k => .ints (L.set k none) | .pairs L, k => .pairs (L.set k none) | .bools L, k => .bools (L.set k none)
theorem getD_snoc {α : Type} (L : List (Option α)) (c : α) (k : Nat) : (L ++ [some c]).getD k none = if k = L.length then some c else L.getD k none := by
 by_cases h : k = L.length
 ·subst h; simp
 ·rw [if_neg h]
  by_cases h2 : k < L.length
  ·simp [List.getElem?_append_left h2]
  ·have h3 : L.length < k := by omega
   simp [List.getElem?_append_right (show L.length ≤ k by omega), List.getElem?_eq_none (show L.length ≤ k by omega), List.getElem?_eq_none (show [some c].length ≤ k - L.length by simp; omega)]
theorem Fq.get_push {fq fq' : Fq} {c : Sq} (h : fq.push c = some fq') (k : Nat) : fq'.get k = if k = fq.len then some c else fq.get k := by
 cases fq <;> cases c <;> simp only [Fq.push, reduceCtorEq, Option.some.injEq] at h <;> subst h <;> simp only [Fq.get, Fq.len, getD_snoc] <;> (rename_i L l; by_cases hk : k = L.length <;> simp [hk])
theorem Fq.get_flat {fq : Fq} {k : Nat} {c : Sq} (h : fq.get k = some c) : c.isRefs = false := by
 cases fq <;> simp only [Fq.get] at h <;> split at h <;> first | (cases h; done) | (cases h; rfl)
theorem inn_of {x : Nat} (h : Nat.ble BIG x = true) : inn (unF x) (unK x) = x := by
 have h1 := Nat.le_of_ble_eq_true h
 have e : ∀ y : Nat, y / 4294967296 * 4294967296 + y % 4294967296 % 4294967296 = y := fun y => by omega
 have := e (x - BIG)
 unfold inn unF unK
 rw [this]
 omega
theorem fam_r {s : PS} {F : Nat} (hF : F < 4294967296) {te : TypeId} {fq : Fq} (hf : s.r (FK + F) = some (te, .fam fq)) (i : Nat) : s.r (inn F i) = match fq.get i with | some c => some (te, c) | none => none := by
 rw [PS.r_hi _ (inn_hi F i), PS.inn_r, fk_unF hF, hf, unK_inn]
 rfl
def famM (M : Mp) (r F : Nat) (fq : Fq) (g : Nat → Nat) : Mp := ⟨M.β, fun x => match Nat.ble BIG x with
 | true => if unF x = F then (match fq.get (unK x) with | some _ => M.γ (g (unK x)) | none => none) else M.γ x
 | false => if x = r then none else M.γ x⟩
theorem famM_hi (M : Mp) (r F : Nat) (fq : Fq) (g : Nat → Nat) {x : Nat} (hb : Nat.ble BIG x = true) (hu : unF x = F) : (famM M r F fq g).γ x = match fq.get (unK x) with | some _ => M.γ (g (unK x)) | none => none := by
 simp only [famM]
 rw [hb]
 simp [hu]
theorem famM_hi2 (M : Mp) (r F : Nat) (fq : Fq) (g : Nat → Nat) {x : Nat} (hb : Nat.ble BIG x = true) (hu : unF x ≠ F) : (famM M r F fq g).γ x = M.γ x := by
 simp only [famM]
 rw [hb]
 simp [hu]
theorem famM_inn (M : Mp) (r F : Nat) (fq : Fq) (g : Nat → Nat) (hF : F < 4294967296) (k : Nat) : (famM M r F fq g).γ (inn F k) = match fq.get k with | some _ => M.γ (g k) | none => none := by
 have := famM_hi M r F fq g (inn_hi F k) (by rw [unF_inn, Nat.mod_eq_of_lt hF])
 rw [unK_inn] at this
 exact this
theorem famM_inn2 (M : Mp) (r F : Nat) (fq : Fq) (g : Nat → Nat) {G : Nat} (hG : G < 4294967296) (hne : G ≠ F) (k : Nat) : (famM M r F fq g).γ (inn G k) = M.γ (inn G k) :=
 famM_hi2 M r F fq g (inn_hi G k) (by rw [unF_inn, Nat.mod_eq_of_lt hG]; exact hne)
theorem famM_lo (M : Mp) (r F : Nat) (fq : Fq) (g : Nat → Nat) {x : Nat} (hb : Nat.ble BIG x = false) (hx : x ≠ r) : (famM M r F fq g).γ x = M.γ x := by
 simp only [famM]
 rw [hb]
 simp [hx]
theorem famM_r (M : Mp) (r F : Nat) (fq : Fq) (g : Nat → Nat) (hb : Nat.ble BIG r = false) : (famM M r F fq g).γ r = none := by
 simp only [famM]
 rw [hb]
 simp
theorem VR.irow_mv {M M' : Mp} {A A' : Bool → Nat → Prop} {w w' : World} {F F' k k' n : Nat} {v : Value} (hv : VR M A w (.irow F k n) v) (h : ∀ x, M'.γ (inn F' k') = some x → M.γ (inn F k) = some x) : VR M' A' w' (.irow F' k' n) v := by
 cases hv with | irow _ _ _ _ h1 h2 => exact .irow _ _ _ _ h1 fun x hx => h2 x (h x hx)
theorem VR.irow_of {M M' : Mp} {A A' : Bool → Nat → Prop} {w w' : World} {F' r k' n : Nat} {v : Value} (hv : VR M A w (.row r 0 n) v) (h : ∀ x, M'.γ (inn F' k') = some x → M.γ r = some x) : VR M' A' w' (.irow F' k' n) v := by
 cases hv with | row _ _ _ _ h1 h2 => exact .irow _ _ _ _ h1 fun x hx => h2 x (h x hx)
theorem RowAt.mv {F : Bool → Nat → Prop} {M M' : Mp} {w : World} {x y : Nat} {e : TypeId} {q : Sq} (h : RowAt F M w x e q) (hq : q.isRefs = false) (hγ : M'.γ y = M.γ x) (hA : ∀ f b, b < w.heap.size → Ow F M f b → Ow F M' f b ∧ b < w.heap.size ∧ w.heap[b]? = w.heap[b]?) : RowAt F M' w y e q := by
 rcases h with ⟨g1, g2⟩ | ⟨g, cap, cur, g1, g2, g3, g4, g5, g6⟩
 ·exact .inl ⟨hγ.trans g1, g2⟩
 ·refine .inr ⟨g, cap, cur, hγ.trans g1, g2, g3, g4, g5, fun i j d hi hd => ?_⟩
  have hd' := hd
  rw [Sq.relem_eq hq] at hd'
  exact (g6 i j d hi hd).elem_any hd' hA
section
variable {w0 : World} {O0 : Hd} {n : Nat} {M : Mp} {s : PS} {a : Act} {w : World}
theorem Rel.refam (h : Rel w0 O0 n M s a w) {s' : PS} (r R F : Nat) (hF : F < 4294967296) {te : TypeId} {fq fq' : Fq} (g : Nat → Nat) {yR : Option (TypeId × Sq)}
  (hr : r < 1000000) (hR : notF R = true) (hrR : r ≠ R) (hf : s.r (FK + F) = some (te, .fam fq)) (hl : lone s R F = true)
  (hg : ∀ k c, fq'.get k = some c → s.r (g k) = some (te, c)) (hinj : ∀ k k' c c', fq'.get k = some c → fq'.get k' = some c' → g k = g k' → k = k') (hsrc : ∀ k c, fq'.get k = some c → g k = r ∨ ∃ j, g k = inn F j)
  (hs : ∀ x, s'.r x = match Nat.ble BIG x with | true => (if unF x = F then famr (some (some (te, .fam fq'))) (unK x) else s.r x) | false => if x = r then none else if x = FK + F then some (te, .fam fq') else if x = R then yR else s.r x)
  (hyR : ∀ e q, yR = some (e, q) → RowAt (Fs w0 O0) (famM M r F fq' g) w R e q) (hyn : yR = none → M.γ R = none)
  (ht : ∀ t, VR (famM M r F fq' g) (Ow (Fs w0 O0) (famM M r F fq' g)) w (s'.t t) (a.tmps.getD t undef)) (hb : ∀ b, s'.b b = (s.b b).map fun cs => cs.map (klXS r)) : Rel w0 O0 n (famM M r F fq' g) s' a w := by
 have hrb : Nat.ble BIG r = false := notF_big (notF_lo hr)
 have hRb : Nat.ble BIG R = false := notF_big hR
 have hfr : FK + F ≠ r := fun e => by have := notF_lo hr; rw [← e] at this; have h2 := notF_fk (inn F 0); rw [fk_unF hF] at h2; rw [h2] at this; cases this
 have hfR : FK + F ≠ R := fun e => by rw [← e] at hR; have h2 := notF_fk (inn F 0); rw [fk_unF hF] at h2; rw [h2] at hR; cases hR
 have cases3 : ∀ x y, (famM M r F fq' g).γ x = some y → (∃ k c, x = inn F k ∧ fq'.get k = some c ∧ M.γ (g k) = some y) ∨ (M.γ x = some y ∧ x ≠ r ∧ ∀ j, x ≠ inn F j) := fun x y hx => by
  cases hbx : Nat.ble BIG x with
  | true =>
   by_cases hu : unF x = F
   ·have hxe : x = inn F (unK x) := by rw [← hu]; exact (inn_of hbx).symm
    rw [hxe, famM_inn _ _ _ _ _ hF] at hx
    split at hx
    ·rename_i c hc; exact .inl ⟨_, c, hxe, hc, hx⟩
    ·cases hx
   ·simp only [famM, hbx, hu, if_false] at hx
    refine .inr ⟨hx, fun e => (by rw [e, hrb] at hbx; cases hbx), fun j e => hu (by rw [e, unF_inn, Nat.mod_eq_of_lt hF])⟩
  | false =>
   simp only [famM, hbx] at hx
   split at hx
   ·cases hx
   ·rename_i hxr
    exact .inr ⟨hx, hxr, fun j e => by rw [e, inn_hi] at hbx; cases hbx⟩
 have hsub : ∀ x k c z, (famM M r F fq' g).γ x = some (some (k, c, z)) → ∃ y, M.γ y = some (some (k, c, z)) := fun x k c z hx => by
  rcases cases3 x _ hx with ⟨_, _, _, _, h1⟩ | ⟨h1, _⟩
  ·exact ⟨_, h1⟩
  ·exact ⟨_, h1⟩
 have hown : ∀ k, (famM M r F fq' g).owned k → M.owned k := by
  rintro k (⟨b, hb⟩ | ⟨y, c, z, hy⟩)
  ·exact .inl ⟨b, hb⟩
  ·obtain ⟨x, hx⟩ := hsub _ _ _ _ hy; exact .inr ⟨x, c, z, hx⟩
 have hA : ∀ f b, b < w.heap.size → Ow (Fs w0 O0) M f b → Ow (Fs w0 O0) (famM M r F fq' g) f b ∧ b < w.heap.size ∧ w.heap[b]? = w.heap[b]? := fun f b h1 h2 => ⟨⟨fun h3 => h2.1 (hown b h3), h2.2⟩, h1, rfl⟩
 refine h.remap (s' := s') r F hF (fun _ => rfl) hsub (fun x y k c z c' z' h1 h2 => ?_) (fun x y h1 h2 h3 => ?_) (fun x y h1 h2 h3 h4 => ?_) (.inl hr) (fun u u' h1 h2 => ?_) (fun G k y h1 h2 h3 => ?_) ht hb (fun x e q hx => ?_) fun x hx => ?_
 ·rcases cases3 x _ h1 with ⟨k1, c1, rfl, g1, g2⟩ | ⟨g1, g2, g3⟩
  ·rcases cases3 y _ h2 with ⟨k2, c2, rfl, g4, g5⟩ | ⟨g4, g5, g6⟩
   ·have := h.inj2 _ _ _ _ _ _ _ g2 g5
    rw [hinj k1 k2 c1 c2 g1 g4 this]
   ·exfalso
    have := h.inj2 _ _ _ _ _ _ _ g2 g4
    rcases hsrc k1 c1 g1 with h5 | ⟨j, h5⟩
    ·exact g5 (by rw [← this, h5])
    ·exact g6 j (by rw [← this, h5])
  ·rcases cases3 y _ h2 with ⟨k2, c2, rfl, g4, g5⟩ | ⟨g4, g5, g6⟩
   ·exfalso
    have := h.inj2 _ _ _ _ _ _ _ g1 g5
    rcases hsrc k2 c2 g4 with h5 | ⟨j, h5⟩
    ·exact g2 (by rw [this, h5])
    ·exact g3 j (by rw [this, h5])
   ·exact h.inj2 _ _ _ _ _ _ _ g1 g4
 ·rw [famM_lo _ _ _ _ _ (notF_big h2) h1] at h3; exact h3
 ·by_cases hxr : x = r
  ·rw [hxr, famM_r _ _ _ _ _ hrb] at h4; cases h4
  ·rw [famM_lo _ _ _ _ _ h3 hxr] at h4; exact h4
 ·rw [famM_lo _ _ _ _ _ (fk_lo hF) hfr] at h2
  exact h.fxr _ _ _ h1 h2
 ·rw [famM_inn2 _ _ _ _ _ h1 h2] at h3; exact h3
 ·rw [hs] at hx
  cases hbx : Nat.ble BIG x with
  | true =>
   rw [hbx] at hx
   by_cases hu : unF x = F
   ·have hxe : x = inn F (unK x) := by rw [← hu]; exact (inn_of hbx).symm
    simp only [hu, if_true, famr] at hx
    split at hx
    ·rename_i c hc
     cases hx
     right
     have h1 := h.row _ _ _ (hg _ _ hc)
     refine h1.mv (Fq.get_flat hc) ?_ hA
     rw [hxe, famM_inn _ _ _ _ _ hF, unK_inn, hc]
    ·cases hx
   ·simp only [hu, if_false] at hx
    refine .inl ⟨hx, by simp only [famM, hbx, hu, if_false], fun G hG => ?_⟩
    rcases lone_ok hl hx hG with h1 | h1
    ·rw [h1, hRb] at hbx; cases hbx
    ·exact h1
  | false =>
   rw [hbx] at hx
   simp only at hx
   split at hx
   ·cases hx
   rename_i hxr
   split at hx
   ·rename_i hxf
    cases hx
    right
    rcases h.row _ _ _ hf with ⟨g1, g2⟩ | ⟨gg, cap, cur, g1, g2, g3, g4, g5, g6⟩
    ·exact .inl ⟨by rw [hxf, famM_lo _ _ _ _ _ (fk_lo hF) hfr]; exact g1, rfl⟩
    ·exact .inr ⟨gg, cap, cur, by rw [hxf, famM_lo _ _ _ _ _ (fk_lo hF) hfr]; exact g1, g2, Nat.zero_le _, g4, g5, fun i j d hi hd => absurd hi (Nat.not_lt_zero _)⟩
   rename_i hxf
   split at hx
   ·rename_i hxR
    right
    rw [hxR]; exact hyR e q hx
   rename_i hxR
   refine .inl ⟨hx, famM_lo _ _ _ _ _ hbx hxr, fun G hG => ?_⟩
   rcases lone_ok hl hx hG with h1 | h1
   ·exact absurd h1 hxR
   ·exact h1
 ·rw [hs] at hx
  cases hbx : Nat.ble BIG x with
  | true =>
   rw [hbx] at hx
   by_cases hu : unF x = F
   ·have hxe : x = inn F (unK x) := by rw [← hu]; exact (inn_of hbx).symm
    simp only [hu, if_true, famr] at hx
    rw [hxe, famM_inn _ _ _ _ _ hF]
    split at hx
    ·cases hx
    ·rename_i hc; rw [hc]
   ·simp only [hu, if_false] at hx
    simp only [famM, hbx, hu, if_false]
    exact h.rown x hx
  | false =>
   rw [hbx] at hx
   simp only at hx
   split at hx
   ·rename_i hxr; rw [hxr]; exact famM_r _ _ _ _ _ hrb
   rename_i hxr
   split at hx
   ·cases hx
   rename_i hxf
   split at hx
   ·rename_i hxR
    rw [hxR, famM_lo _ _ _ _ _ hRb (Ne.symm hrR)]; exact hyn hx
   rename_i hxR
   rw [famM_lo _ _ _ _ _ hbx hxr]; exact h.rown x hx
end
end Go.Proofs.Ytkklfgcelmeccaa
namespace Go.Proofs.Ytkklfgcelmeccaa
open Go.RowKit Go.Deep
theorem PS.r_app {s s' : PS} {l : List (Nat × Option (TypeId × Sq))} (h : s'.row = l ++ s.row) (x : Nat) : s'.r x = match Nat.ble BIG x with | true => (match look l (FK + unF x) with | some y => famr (some y) (unK x) | none => s.r x) | false => (match look l x with | some y => y | none => s.r x) := by
 cases hb : Nat.ble BIG x with
 | true =>
  rw [PS.r_hi _ hb, PS.r_hi _ hb]
  unfold PS.inn
  rw [h, look_append]
  cases look l (FK + unF x) <;> rfl
 | false =>
  rw [PS.r_lo _ hb, PS.r_lo _ hb, h, look_append]
  cases look l x <;> rfl
def famOf : Sq → Fq
 | .intss X => .ints (X.map some) | .pairss X => .pairs (X.map some) | .boolss X => .bools (X.map some) | .raises X => .ints (X.map fun x => some x.2) | _ => .ints []
theorem dF_fam (q : Sq) : dF q = .fam (famOf q) := by cases q <;> rfl
theorem famOf_get {q : Sq} (hq : q.deep = true) (i : Nat) : (famOf q).get i = if i < q.len then some (q.nn i) else none := by
 have := famr_dF hq 0 i
 rw [dF_fam] at this
 simp only [famr] at this
 cases h : (famOf q).get i with
 | none => rw [h] at this; split at this <;> simp_all
 | some c => rw [h] at this; split at this <;> simp_all
theorem fk_ne {F r : Nat} (hF : F < 4294967296) (hr : notF r = true) : FK + F ≠ r := fun e => by
 have h2 := notF_fk (inn F 0)
 rw [fk_unF hF, e] at h2
 rw [h2] at hr; cases hr
theorem look_one' {α : Type} (k : Nat) (x : α) (i : Nat) : look [(k, x)] i = if k = i then some x else none := by
 by_cases h : k = i
 ·subst h; rw [look_cons_self, if_pos rfl]
 ·rw [look_cons_ne h, if_neg h]; rfl
theorem look_two' {α : Type} (k l : Nat) (x y : α) (i : Nat) : look [(k, x), (l, y)] i = if k = i then some x else if l = i then some y else none := by
 by_cases h : k = i
 ·subst h; rw [look_cons_self, if_pos rfl]
 ·rw [look_cons_ne h, if_neg h]; exact look_one' l y i
section
variable {C : Cx} {tm : List (Nat × D)} {rw' : List (Nat × Option (TypeId × Sq))} {bx : List (Nat × Option (List D))} {s' : PS}
end
end Go.Proofs.Ytkklfgcelmeccaa
namespace Go.Proofs.Ytkklfgcelmeccaa
open Go.RowKit Go.Deep
structure ReOK (F : Nat) (qR : Sq) (fq : Fq) (q' : Sq) : Prop where
 deep : q'.deep = true
 len : q'.len = qR.len
 sz : q'.sz = qR.sz
 κ : ∃ κ : Nat → Nat, (∀ i, i < q'.len → fq.get (κ i) = some (q'.nn i)) ∧ (∀ i j, i < q'.len → j < q'.len → κ i = κ j → i = j) ∧
  ∀ (i j n : Nat), i < q'.len → (((dR F q').relem i)[j]? = some (D.irow F i n) → (qR.relem i)[j]? = some (D.irow F (κ i) n)) ∧ ∀ x : Int, ((dR F q').relem i)[j]? = some (D.int x) → (qR.relem i)[j]? = some (D.int x)
section
variable {C : Cx} {tm : List (Nat × D)} {rw' : List (Nat × Option (TypeId × Sq))} {bx : List (Nat × Option (List D))} {s' : PS}
theorem En.re (R F : Nat) {et te : TypeId} {qR q' : Sq} {fq : Fq} (hR : PS.r ⟨tm, rw', bx⟩ R = some (et, qR)) (hf : PS.r ⟨tm, rw', bx⟩ (FK + F) = some (te, .fam fq)) (hre : ReOK F qR fq q') (hl : lone ⟨tm, rw', bx⟩ R F = true) (h9 : PS.r ⟨tm, rw', bx⟩ 999999 = none)
  (hnf : nf ⟨(PS.killX ⟨tm, rw', bx⟩ 999999).tmp, (R, some (et, dR F q')) :: (FK + F, some (te, dF q')) :: rw', (PS.killX ⟨tm, rw', bx⟩ 999999).box⟩ = some s') (hF : Nat.blt F 4294967296 = true := by rfl) (hFR : notF R = true := by rfl) (hrR : Nat.beq R 999999 = false := by rfl) : En C ⟨tm, rw', bx⟩ s' := ⟨fun M a w h => by
 rw [nf_ok hnf]
 rw [Nat.blt_eq] at hF
 obtain ⟨hq, hlen, hsz, κ, k1, k2, k3⟩ := hre
 have hne : (999999 : Nat) ≠ R := fun e => by rw [← e, Nat.beq_refl] at hrR; cases hrR
 have h9n : notF 999999 = true := notF_lo (by decide)
 let g : Nat → Nat := fun k => inn F (κ k)
 have hget := famOf_get hq
 have hown : ∀ k, (famM M 999999 F (famOf q') g).owned k → M.owned k := by
  rintro k (⟨b, hb⟩ | ⟨y, c, z, hy⟩)
  ·exact .inl ⟨b, hb⟩
  ·simp only [famM] at hy
   split at hy
   ·split at hy
    ·split at hy
     ·exact .inr ⟨_, c, z, hy⟩
     ·cases hy
    ·exact .inr ⟨_, c, z, hy⟩
   ·split at hy
    ·cases hy
    ·exact .inr ⟨_, c, z, hy⟩
 have hA : ∀ f b, b < w.heap.size → Ow (Fs C.w0 C.O0) M f b → Ow (Fs C.w0 C.O0) (famM M 999999 F (famOf q') g) f b ∧ b < w.heap.size ∧ w.heap[b]? = w.heap[b]? := fun f b h1 h2 => ⟨⟨fun h3 => h2.1 (hown b h3), h2.2⟩, h1, rfl⟩
 have hγ' : ∀ x y, x ≠ 999999 → notF x = true → (famM M 999999 F (famOf q') g).γ x = some y → M.γ x = some y := fun x y h1 h2 h3 => by rw [famM_lo _ _ _ _ _ (notF_big h2) h1] at h3; exact h3
 rw [dF_fam]
 refine ⟨_, h.refam 999999 R F hF (fq' := famOf q') g (yR := some (et, dR F q')) (by decide) hFR hne hf hl (fun k c' hc => ?_) (fun k k' c1 c2 h1 h2 h3 => ?_) (fun k c' hc => .inr ⟨κ k, rfl⟩) (fun x => ?_) (fun e p hx => ?_) (fun hx => by cases hx) (fun t' => ?_) fun b => ?_⟩
 ·rw [hget] at hc
  split at hc
  ·rename_i hk
   cases hc
   show PS.r _ (inn F (κ k)) = _
   rw [fam_r hF hf, k1 k hk]
  ·cases hc
 ·rw [hget] at h1 h2
  split at h1
  ·split at h2
   ·rename_i a1 a2; exact k2 k k' a1 a2 (inn_inj h3).2
   ·cases h2
  ·cases h1
 ·rw [PS.r_app (s := ⟨tm, rw', bx⟩) (l := [(R, some (et, dR F q')), (FK + F, some (te, .fam (famOf q')))]) rfl, look_two', look_two']
  cases hbx : Nat.ble BIG x with
  | true =>
   have h1 : R ≠ FK + unF x := fun e => by have := notF_fk x; rw [← e, hFR] at this; cases this
   simp only [h1, if_false]
   by_cases hu : unF x = F
   ·simp [hu]
   ·simp [hu, Ne.symm hu]
  | false =>
   simp only
   by_cases hx9 : x = 999999
   ·subst hx9
    have h2 : FK + F ≠ 999999 := fk_ne hF h9n
    simp [Ne.symm hne, h2, h9]
   ·simp only [hx9, if_false]
    by_cases hxR : R = x
    ·subst hxR
     have h2 : R ≠ FK + F := Ne.symm (fk_ne hF hFR)
     simp [h2]
    ·simp only [hxR, if_false, Ne.symm hxR]
     by_cases hxf : FK + F = x
     ·simp [hxf]
     ·simp [hxf, Ne.symm hxf]
 ·cases hx
  rcases h.row _ _ _ hR with ⟨g1, g2⟩ | ⟨gg, cap, cur, g1, g2, g3, g4, g5, g6⟩
  ·exact .inl ⟨by rw [famM_lo _ _ _ _ _ (notF_big hFR) (Ne.symm hne)]; exact g1, by rw [dR_len, hlen]; exact g2⟩
  ·refine .inr ⟨gg, cap, cur, by rw [famM_lo _ _ _ _ _ (notF_big hFR) (Ne.symm hne), dR_sz, hsz]; exact g1, g2, by rw [dR_len, hlen]; exact g3, g4, by rw [dR_sz, hsz]; exact g5, fun i j d hi hd => ?_⟩
   rw [dR_len] at hi
   rw [dR_sz, hsz]
   rcases dR_relem hq hi hd with ⟨rfl, _⟩ | ⟨x, rfl, _⟩
   ·have h1 := (k3 i j _ hi).1 hd
    have hv := g6 i j _ (by omega) h1
    refine hv.irow_mv fun x hx => ?_
    rw [famM_inn _ _ _ _ _ hF, hget, if_pos hi] at hx
    exact hx
   ·have h1 := (k3 i j 0 hi).2 x hd
    rw [(g6 i j _ (by omega) h1).int_inv]; exact .int _
 ·have : PS.t ⟨(PS.killX ⟨tm, rw', bx⟩ 999999).tmp, (R, some (et, dR F q')) :: (FK + F, some (te, .fam (famOf q'))) :: rw', (PS.killX ⟨tm, rw', bx⟩ 999999).box⟩ t' = klX 999999 (PS.t ⟨tm, rw', bx⟩ t') := PS.t_killX ⟨tm, rw', bx⟩ 999999 t'
  rw [this]
  exact VR.klX hA hγ' (fun _ _ h => h) (h.tmp t')
 ·exact PS.b_killX ⟨tm, rw', bx⟩ 999999 b⟩
end
end Go.Proofs.Ytkklfgcelmeccaa
namespace Go.Proofs.Ytkklfgcelmeccaa
open Go.RowKit Go.Deep
section
variable {w0 : World} {O0 : Hd} {n : Nat} {M : Mp} {s : PS} {a : Act} {w : World}
end
section
variable {C : Cx} {ops : Array Oper} {K : PS → Prop} {o : Oper} {rest : List Oper} {s : PS} {TT : List (Nat × Ty)} {tm : List (Nat × D)} {rw' : List (Nat × Option (TypeId × Sq))} {bx : List (Nat × Option (List D))}
end
end Go.Proofs.Ytkklfgcelmeccaa
namespace Go.Proofs.Ytkklfgcelmeccaa
open Go.RowKit Go.Deep
section
variable {P : Program} {w0 : World} {O0 : Hd} {n : Nat} {M : Mp} {s : PS} {a : Act} {w w' : World}
end
section
variable {C : Cx} {ops : Array Oper} {K : PS → Prop} {o : Oper} {rest : List Oper} {s : PS} {TT : List (Nat × Ty)} {tm : List (Nat × D)} {rw' : List (Nat × Option (TypeId × Sq))} {bx : List (Nat × Option (List D))} {cr B : List Nat} {j : Nat}
end
end Go.Proofs.Ytkklfgcelmeccaa
namespace Go.Proofs.Ytkklfgcelmeccaa
open Go.RowKit Go.Deep
section
variable {C : Cx} {ops : Array Oper} {K : PS → Prop} {o : Oper} {rest : List Oper} {s : PS} {TT : List (Nat × Ty)} {tm : List (Nat × D)} {rw' : List (Nat × Option (TypeId × Sq))} {bx : List (Nat × Option (List D))}
end
end Go.Proofs.Ytkklfgcelmeccaa
namespace Go.Proofs.Ytkklfgcelmeccaa
open Go.RowKit Go.Deep
structure NewD (N : Mp) (A : Bool → Nat → Prop) (w w' : World) (B F : Nat) (et te : TypeId) (q : Sq) : Prop where
 os : w'.os = w.os
 tape : w'.tape = w.tape
 output : w'.output = w.output
 size : w.heap.size ≤ w'.heap.size
 block : ∀ k, k < w.heap.size → w'.heap[k]? = w.heap[k]?
 noβ : ∀ b, N.β b = none
 outer : (N.γ B = some none ∧ q.len = 0) ∨ ∃ g cap cur, N.γ B = some (some (g, cap, q.sz)) ∧ w'.heap[g]? = some (.cells cur et (0, 0)) ∧ q.len ≤ cap ∧ cap ≤ maxLen ∧ cur.size = cap * q.sz ∧ ∀ i j d, i < q.len → ((dR F q).relem i)[j]? = some d → VR N A w' d (cur.getD (i * q.sz + j) undef)
 inner : ∀ i, i < q.len → (N.γ (inn F i) = some none ∧ (q.nn i).len = 0) ∨ ∃ g cap cur, N.γ (inn F i) = some (some (g, cap, (q.nn i).sz)) ∧ w'.heap[g]? = some (.cells cur te (0, 0)) ∧ (q.nn i).len ≤ cap ∧ cap ≤ maxLen ∧ cur.size = cap * (q.nn i).sz ∧ ∀ i' j d, i' < (q.nn i).len → ((q.nn i).relem i')[j]? = some d → VR N A w' d (cur.getD (i' * (q.nn i).sz + j) undef)
 none : ∀ x, x ≠ B → (∀ i, i < q.len → x ≠ inn F i) → N.γ x = none
 low : ∀ k, N.owned k → w.heap.size ≤ k
 inj : ∀ r r' k c z c' z', N.γ r = some (some (k, c, z)) → N.γ r' = some (some (k, c', z')) → r = r'
structure PCallD (P : Program) (f : FuncId) (ds : List D) (et te : TypeId) (q : Sq) (d : D) : Prop where
 enter : ∀ args w, (callFunc f args).run P w = .ok (.enter f args) w
 deep : q.deep = true
 run : ∀ w args, ArgsOK w ds args → Calls P f args w fun e w' => ∃ v, e = .returned v ∧ ∀ B F, B ≤ 500000 → F < 4294967296 → ∃ N, NewD N (Rs w N) w w' B F et te q ∧ VR N (Rs w N) w' (ren id (fun j => B + j) d) v
section
variable {C : Cx} {ops : Array Oper} {K : PS → Prop} {o : Oper} {rest : List Oper} {s s' : PS} {TT : List (Nat × Ty)} {tm : List (Nat × D)} {rw' : List (Nat × Option (TypeId × Sq))} {bx : List (Nat × Option (List D))}
theorem Rel.newDeep {w0 : World} {O0 : Hd} {n : Nat} {M N : Mp} {A : Bool → Nat → Prop} {a : Act} {w w' : World} {B F : Nat} {et te : TypeId} {q : Sq} (h : Rel w0 O0 n M ⟨tm, rw', bx⟩ a w) (hq : q.deep = true) (hN : NewD N A w w' B F et te q) (hF : F < 4294967296) (hB : B < 1000000)
  (hA : ∀ f k, k < w'.heap.size → A f k → (¬ N.owned k ∧ ¬ M.owned k) ∧ Fs w0 O0 f k) (hf : Fresh ⟨tm, rw', bx⟩ (fun _ => false) (fun r => Nat.beq r B || !notF r)) (hl : lone ⟨tm, rw', bx⟩ 999999 F = true) (h9 : PS.r ⟨tm, rw', bx⟩ 999999 = none) (hfn : PS.r ⟨tm, rw', bx⟩ (FK + F) = none) (hO : ∀ u, O0.fr (FK + F) ≠ some u) :
  ∃ M', Rel w0 O0 n M' ⟨tm, (B, some (et, dR F q)) :: (FK + F, some (te, dF q)) :: rw', bx⟩ a w' ∧ ∀ d v, ment (fun _ => true) (fun r => !Nat.beq r B) d = false → VR N A w' d v → VR M' (Ow (Fs w0 O0) M') w' d v := by
 have hBF := notF_lo hB
 have hBb := notF_big hBF
 have hne : FK + F ≠ B := fk_ne hF hBF
 let M' : Mp := ⟨M.β, fun x => match Nat.ble BIG x with
  | true => if unF x = F then N.γ x else M.γ x
  | false => if x = B then N.γ B else if x = FK + F then some none else M.γ x⟩
 have mB : M'.γ B = N.γ B := by simp [M', hBb]
 have mF : M'.γ (FK + F) = some none := by simp [M', fk_lo hF, hne]
 have mI : ∀ i, M'.γ (inn F i) = N.γ (inn F i) := fun i => by
  have e : ∀ x, Nat.ble BIG x = true → unF x = F → M'.γ x = N.γ x := fun x h1 h2 => by simp [M', h1, h2]
  exact e _ (inn_hi F i) (by rw [unF_inn, Nat.mod_eq_of_lt hF])
 have mG : ∀ x, Nat.ble BIG x = true → unF x ≠ F → M'.γ x = M.γ x := fun x h1 h2 => by simp [M', h1, h2]
 have mL : ∀ x, Nat.ble BIG x = false → x ≠ B → x ≠ FK + F → M'.γ x = M.γ x := fun x h1 h2 h3 => by simp [M', h1, h2, h3]
 have hfi : ∀ k, M.γ (inn F k) = none := fun k => h.rown _ (by rw [PS.r_hi _ (inn_hi F k), PS.inn_r, fk_unF hF, hfn]; rfl)
 have cases4 : ∀ x y, M'.γ x = some y → N.γ x = some y ∨ (M.γ x = some y ∧ x ≠ FK + F) ∨ (x = FK + F ∧ y = none) := fun x y hx => by
  cases hb : Nat.ble BIG x with
  | true =>
   by_cases hu : unF x = F
   ·have : M'.γ x = N.γ x := by simp [M', hb, hu]
    rw [this] at hx; exact .inl hx
   ·rw [mG x hb hu] at hx
    exact .inr (.inl ⟨hx, fun e => by rw [e, fk_lo hF] at hb; cases hb⟩)
  | false =>
   by_cases h1 : x = B
   ·rw [h1, mB] at hx; rw [h1]; exact .inl hx
   ·by_cases h2 : x = FK + F
    ·rw [h2, mF] at hx; cases hx; exact .inr (.inr ⟨h2, rfl⟩)
    ·rw [mL x hb h1 h2] at hx; exact .inr (.inl ⟨hx, h2⟩)
 have hown : ∀ k, M'.owned k → M.owned k ∨ N.owned k := by
  rintro k (⟨x, hx⟩ | ⟨r, c, z, hr⟩)
  ·exact .inl (.inl ⟨x, hx⟩)
  ·rcases cases4 r _ hr with h1 | ⟨h1, _⟩ | ⟨_, h1⟩
   ·exact .inr (.inr ⟨r, c, z, h1⟩)
   ·exact .inl (.inr ⟨r, c, z, h1⟩)
   ·cases h1
 have hA0 : ∀ f k, k < w.heap.size → Ow (Fs w0 O0) M f k → Ow (Fs w0 O0) M' f k ∧ k < w'.heap.size ∧ w'.heap[k]? = w.heap[k]? := fun f k h1 h2 =>
  ⟨⟨fun h3 => by rcases hown k h3 with h4 | h4; exact h2.1 h4; have := hN.low k h4; omega, h2.2⟩, by have := hN.size; omega, hN.block k h1⟩
 have hA1 : ∀ f k, k < w'.heap.size → A f k → Ow (Fs w0 O0) M' f k ∧ k < w'.heap.size ∧ w'.heap[k]? = w'.heap[k]? := fun f k h1 h2 =>
  ⟨⟨fun h3 => by rcases hown k h3 with h4 | h4; exact (hA f k h1 h2).1.2 h4; exact (hA f k h1 h2).1.1 h4, (hA f k h1 h2).2⟩, h1, rfl⟩
 have hγ : ∀ x y, (Nat.beq x B || !notF x) = false → M'.γ x = some y → M.γ x = some y := fun x y h1 h2 => by
  rw [Bool.or_eq_false_iff] at h1
  have hn : notF x = true := by simpa using h1.2
  rw [mL x (notF_big hn) (fun e => by rw [e, Nat.beq_refl] at h1; cases h1.1) (fun e => fk_ne hF hn e.symm)] at h2
  exact h2
 have hbf : (Nat.beq BIG B || !notF BIG) = true := by
  have : notF BIG = false := by decide
  rw [this]; simp
 have oldrow : ∀ x e p, PS.r ⟨tm, rw', bx⟩ x = some (e, p) → M'.γ x = M.γ x → RowAt (Fs w0 O0) M' w' x e p := fun x e p hx hm => by
  rcases h.row x e p hx with ⟨g1, g2⟩ | ⟨g, cap, cur, g1, g2, g3, g4, g5, g6⟩
  ·exact .inl ⟨hm.trans g1, g2⟩
  ·have hlt := (Array.getElem?_eq_some_iff.1 g2).1
   refine .inr ⟨g, cap, cur, hm.trans g1, (hN.block g hlt).trans g2, g3, g4, g5, fun i j d hi hd => (g6 i j d hi hd).relem_any2 hd hA0 fun G hG k y hy => ?_⟩
   rcases lone_ok hl hx hG with h1 | ⟨h1, h2⟩
   ·rw [h1, h9] at hx; cases hx
   ·rw [mG _ (inn_hi G k) (by rw [unF_inn, Nat.mod_eq_of_lt h2]; exact h1)] at hy; exact hy
 have hPS : ∀ x, PS.r ⟨tm, (B, some (et, dR F q)) :: (FK + F, some (te, dF q)) :: rw', bx⟩ x = match Nat.ble BIG x with | true => (if unF x = F then famr (some (some (te, dF q))) (unK x) else PS.r ⟨tm, rw', bx⟩ x) | false => if x = B then some (et, dR F q) else if x = FK + F then some (te, dF q) else PS.r ⟨tm, rw', bx⟩ x := fun x => by
  rw [PS.r_app (s := ⟨tm, rw', bx⟩) (s' := ⟨tm, (B, some (et, dR F q)) :: (FK + F, some (te, dF q)) :: rw', bx⟩) (l := [(B, some (et, dR F q)), (FK + F, some (te, dF q))]) rfl, look_two', look_two']
  cases hbx : Nat.ble BIG x with
  | true =>
   have h1 : B ≠ FK + unF x := fun e => by have := notF_fk x; rw [← e, hBF] at this; cases this
   by_cases hu : unF x = F
   ·simp [hu, Ne.symm hne]
   ·simp [hu, Ne.symm hu, h1]
  | false =>
   by_cases hx : B = x
   ·subst hx; simp
   ·by_cases hxf : FK + F = x
    ·rw [← hxf, if_neg (Ne.symm hne), if_pos rfl, if_neg hne, if_pos rfl]
    ·simp [hx, hxf, Ne.symm hx, Ne.symm hxf]
 refine ⟨M', ⟨?_, h.dfr, h.sz, fun t => ?_, fun x ds hx => ?_, fun x hx => h.boxn x hx, fun x e p hx => ?_, fun x hx => ?_, fun k hk => ?_, h.inj1, fun x y k c z c' z' h1 h2 => ?_, fun x y k c z h1 h2 => ?_, h.nle, h.fxb, fun x u u' h1 h2 => ?_⟩, fun d v hd hv => ?_⟩
 ·exact h.fr.step hN.os hN.tape hN.output hN.size fun k h1 _ => hN.block k (Nat.lt_of_lt_of_le h1 h.fr.size)
 ·exact VR.new (b := fun _ => false) (r := fun r => Nat.beq r B || !notF r) hA0 hγ (fun _ _ _ h => h) (hf.t t) (h.tmp t) (hi := fun h0 => by rw [hbf] at h0; cases h0)
 ·obtain ⟨k, cur', e', h1, h2, h3, h4⟩ := h.box x ds hx
  have hlt := (Array.getElem?_eq_some_iff.1 h2).1
  exact ⟨k, cur', e', h1, (hN.block k hlt).trans h2, h3, fun j d hd => VR.newS (b := fun _ => false) (r := fun r => Nat.beq r B || !notF r) hA0 hγ (fun _ _ _ h => h) (hf.b _ _ hx d (List.mem_of_getElem? hd)) (h4 j d hd) (hi := fun h0 => by rw [hbf] at h0; cases h0)⟩
 ·rw [hPS] at hx
  cases hbx : Nat.ble BIG x with
  | true =>
   rw [hbx] at hx
   by_cases hu : unF x = F
   ·have hxe : x = inn F (unK x) := by rw [← hu]; exact (inn_of hbx).symm
    simp only [hu, if_true] at hx
    rw [famr_dF hq] at hx
    generalize unK x = k0 at hx hxe
    split at hx
    ·rename_i hk
     cases hx
     rw [hxe]
     rcases hN.inner _ hk with ⟨g1, g2⟩ | ⟨g, cap, cur, g1, g2, g3, g4, g5, g6⟩
     ·exact .inl ⟨(mI _).trans g1, g2⟩
     ·refine .inr ⟨g, cap, cur, (mI _).trans g1, g2, g3, g4, g5, fun i j d hi hd => ?_⟩
      have hd2 := hd
      rw [Sq.relem_eq (nn_refs q _)] at hd2
      exact (g6 i j d hi hd).elem_any hd2 hA1
    ·cases hx
   ·simp only [hu, if_false] at hx
    exact oldrow x e p hx (mG x hbx hu)
  | false =>
   rw [hbx] at hx
   simp only at hx
   split at hx
   ·rename_i hxB
    cases hx
    subst hxB
    rcases hN.outer with ⟨g1, g2⟩ | ⟨g, cap, cur, g1, g2, g3, g4, g5, g6⟩
    ·exact .inl ⟨mB.trans g1, by rw [dR_len]; exact g2⟩
    ·refine .inr ⟨g, cap, cur, by rw [mB, dR_sz]; exact g1, g2, by rw [dR_len]; exact g3, g4, by rw [dR_sz]; exact g5, fun i j d hi hd => ?_⟩
     rw [dR_len] at hi
     rw [dR_sz]
     have hv := g6 i j d hi hd
     rcases dR_relem hq hi hd with ⟨rfl, _⟩ | ⟨y, rfl, _⟩
     ·exact hv.irow_mv fun y hy => by rw [mI] at hy; exact hy
     ·rw [hv.int_inv]; exact .int _
   rename_i hxB
   split at hx
   ·rename_i hxf
    cases hx
    rw [hxf]
    exact .inl ⟨mF, dF_len q⟩
   ·rename_i hxf
    exact oldrow x e p hx (mL x hbx hxB hxf)
 ·rw [hPS] at hx
  cases hbx : Nat.ble BIG x with
  | true =>
   rw [hbx] at hx
   by_cases hu : unF x = F
   ·have hxe : x = inn F (unK x) := by rw [← hu]; exact (inn_of hbx).symm
    simp only [hu, if_true] at hx
    rw [famr_dF hq] at hx
    split at hx
    ·cases hx
    ·rename_i hk
     rw [hxe, mI]
     refine hN.none _ (fun e => by have := inn_hi F (unK x); rw [e, hBb] at this; cases this) fun i hi e => hk ?_
     rw [(inn_inj e).2]; exact hi
   ·simp only [hu, if_false] at hx
    rw [mG x hbx hu]; exact h.rown x hx
  | false =>
   rw [hbx] at hx
   simp only at hx
   split at hx
   ·cases hx
   rename_i hxB
   split at hx
   ·cases hx
   rename_i hxf
   rw [mL x hbx hxB hxf]; exact h.rown x hx
 ·rcases hown k hk with h1 | h1
  ·exact h.low k h1
  ·exact .inl (Nat.le_trans h.fr.size (hN.low k h1))
 ·have hx : ∀ r r' k c z c' z', M.γ r = some (some (k, c, z)) → N.γ r' = some (some (k, c', z')) → False := fun r r' k c z c' z' a1 a2 => by
   have := h.lt _ (.inr ⟨r, c, z, a1⟩); have := hN.low _ (.inr ⟨r', c', z', a2⟩); omega
  rcases cases4 x _ h1 with g1 | ⟨g1, _⟩ | ⟨_, g1⟩
  ·rcases cases4 y _ h2 with g2 | ⟨g2, _⟩ | ⟨_, g2⟩
   ·exact hN.inj _ _ _ _ _ _ _ g1 g2
   ·exact (hx _ _ _ _ _ _ _ g2 g1).elim
   ·cases g2
  ·rcases cases4 y _ h2 with g2 | ⟨g2, _⟩ | ⟨_, g2⟩
   ·exact (hx _ _ _ _ _ _ _ g1 g2).elim
   ·exact h.inj2 _ _ _ _ _ _ _ g1 g2
   ·cases g2
  ·cases g1
 ·rcases cases4 y _ h2 with g2 | ⟨g2, _⟩ | ⟨_, g2⟩
  ·have := h.lt _ (.inl ⟨x, h1⟩); have := hN.low _ (.inr ⟨y, c, z, g2⟩); omega
  ·exact h.inj3 _ _ _ _ _ h1 g2
  ·cases g2
 ·obtain ⟨h3, h4⟩ := O0.lor x u h1
  have hb1 : Nat.ble BIG x = false := by
   cases hb : Nat.ble BIG x with
   | false => rfl
   | true => have := Nat.le_of_ble_eq_true hb; omega
  by_cases hxf : x = FK + F
  ·rw [hxf] at h1; exact absurd h1 (hO u)
  ·rw [mL x hb1 (by omega) hxf] at h2; exact h.fxr x u u' h1 h2
 ·refine VR.new (b := fun _ => true) (r := fun r => !Nat.beq r B) hA1 (fun x y h1 h2 => ?_) (fun x k hx => by simp at hx) hd hv (hi := fun h0 => ?_)
  ·have : x = B := Nat.eq_of_beq_eq_true (by simpa using h1)
   rw [this, mB] at h2; rw [this]; exact h2
  ·have : BIG = B := Nat.eq_of_beq_eq_true (by simpa using h0)
   rw [← this] at hBb
   exact absurd hBb (by decide)
theorem oCallD (F : Nat) {f : FuncId} {args : Array Operand} {ts : Array TypeId} {ds : List D} {et te : TypeId} {q : Sq} {d d' : D} (hp : PCallD C.P f ds et te q d) (hg : o.guard = none) (hop : o.op = .call { callee := .value (.func f), args := args, argTypes := ts }) {b : Nat} (hd : o.dst = some b) (hn : Nat.blt b C.n = true) (hno : (ds.all noIds) = true)
  (hm : ment (fun _ => true) (fun r => !Nat.beq r (rowB b)) (ren id (fun j => rowB b + j) d) = false) (hx : (fcD (ren id (fun j => rowB b + j) d) some) = some d') (hf : frB ⟨tm, rw', bx⟩ (fun _ => false) (fun r => Nat.beq r (rowB b) || !notF r) = true) (hl : lone ⟨tm, rw', bx⟩ 999999 F = true) (h9 : PS.r ⟨tm, rw', bx⟩ 999999 = none) (hfn : PS.r ⟨tm, rw', bx⟩ (FK + F) = none) (hO : ∀ u, C.O0.fr (FK + F) ≠ some u) (hfit : fits ⟨tm, rw', bx⟩ args.toList ds)
  (h : VO C ops K rest ⟨(b, d') :: tm, (rowB b, some (et, dR F q)) :: (FK + F, some (te, dF q)) :: rw', bx⟩) (hF : Nat.blt F 4294967296 = true := by rfl) : VO C ops K (o :: rest) ⟨tm, rw', bx⟩ := by
 refine vOp hg ⟨fun M a w Q K' hr hk => ?_⟩
 rw [Nat.blt_eq] at hF
 rw [fcD_eq] at hx
 cases hx
 have hb1000 : b < 1000 := by have := hr.nle; rw [Nat.blt_eq] at hn; omega
 have hrun : (execOp a.eval o).run C.P w = .ok (.enter f (args.map a.eval)) w := by
  have := hp.enter (args.map a.eval) w
  unfold execOp
  rw [hop]
  show ((do let d ← resolve a.eval _ o.type; invoke d.target d.args : Sem Next)).run C.P w = _
  simp only [resolve]
  show ((callFunc f ((#[] ++ args.map a.eval) ++ #[])) : Sem Next).run C.P w = _
  rw [show (#[] ++ args.map a.eval) ++ #[] = args.map a.eval by simp]
  exact this
 unfold Oper.wp
 rw [hrun]
 refine (hp.run w _ (fits_args hr hfit hno)).mono ?_
 rintro e w' ⟨v, rfl, hB⟩
 obtain ⟨N, hN, hv⟩ := hB (rowB b) F (by simp only [rowB]; omega) hF
 obtain ⟨M', h1, h2⟩ := hr.newDeep hp.deep hN hF (by simp only [rowB]; omega) (fun f k hk hA => ⟨⟨hA.2, fun ho => by have := hr.lt k ho; have := hA.1; omega⟩, .inl (Nat.le_trans hr.fr.size hA.1)⟩) (frB_ok hf) hl h9 hfn hO
 refine hk M' _ _ _ h ?_
 rw [hd]
 exact h1.put (o := some b) hn (h2 _ _ hm hv)
end
end Go.Proofs.Ytkklfgcelmeccaa
namespace Go.Proofs.Ytkklfgcelmeccaa
open Go.RowKit Go.Deep
theorem mentA_ne {b r : Nat → Bool} {d : D} (h : ∀ l, d ≠ .agg l) : mentA b r d = mentS b r d := by cases d <;> first | rfl | exact absurd rfl (h _)
theorem ment_ne {b r : Nat → Bool} {d : D} (h : ∀ l, d ≠ .tup l) : ment b r d = mentA b r d := by cases d <;> first | rfl | exact absurd rfl (h _)
theorem renA_ne {τ σ : Nat → Nat} {d : D} (h : ∀ l, d ≠ .agg l) : renA τ σ d = renS τ σ d := by cases d <;> first | rfl | exact absurd rfl (h _)
theorem ren_ne {τ σ : Nat → Nat} {d : D} (h : ∀ l, d ≠ .tup l) : ren τ σ d = renA τ σ d := by cases d <;> first | rfl | exact absurd rfl (h _)
theorem renS_agg {τ σ : Nat → Nat} (d : D) : ∀ l, renS τ σ d ≠ .agg l := by cases d <;> intro l h <;> cases h
theorem renA_tup {τ σ : Nat → Nat} (d : D) : ∀ l, renA τ σ d ≠ .tup l := by cases d <;> intro l h <;> cases h
theorem ment_one {B : Nat} : ∀ d : D, ment (fun _ => true) (fun j => !Nat.blt j 1) d = false → ment (fun _ => true) (fun r => !Nat.beq r B) (ren id (fun j => B + j) d) = false := by
 have keyS : ∀ d : D, mentS (fun _ => true) (fun j => !Nat.blt j 1) d = false → mentS (fun _ => true) (fun r => !Nat.beq r B) (renS id (fun j => B + j) d) = false := fun d hd => by
  cases d <;> simp only [mentS, renS] at hd ⊢ <;> try (first | exact hd | rfl)
  ·rename_i x _ _
   have h1 : x < 1 := by simpa using hd
   have : x = 0 := by omega
   subst this; simp [Nat.beq_refl]
  ·rename_i x _ _
   have h1 : x < 1 := by simpa using hd
   have : x = 0 := by omega
   subst this; simp [Nat.beq_refl]
  ·rename_i f bs
   simpa using hd
  ·exact absurd hd (by decide)
  ·exact absurd hd (by decide)
 have keyA : ∀ d : D, mentA (fun _ => true) (fun j => !Nat.blt j 1) d = false → mentA (fun _ => true) (fun r => !Nat.beq r B) (renA id (fun j => B + j) d) = false := fun d hd => by
  by_cases ha : ∃ l, d = .agg l
  ·obtain ⟨l, rfl⟩ := ha
   simp only [mentA, renA, List.any_eq_false, List.mem_map] at hd ⊢
   rintro x ⟨y, hy, rfl⟩
   have := keyS y (by simpa using hd y hy)
   simp [this]
  ·have hne : ∀ l, d ≠ .agg l := fun l e => ha ⟨l, e⟩
   rw [mentA_ne hne] at hd
   rw [renA_ne hne, mentA_ne (renS_agg d)]
   exact keyS d hd
 intro d hd
 by_cases ha : ∃ l, d = .tup l
 ·obtain ⟨l, rfl⟩ := ha
  simp only [ment, ren, List.any_eq_false, List.mem_map] at hd ⊢
  rintro x ⟨y, hy, rfl⟩
  have := keyA y (by simpa using hd y hy)
  simp [this]
 ·have hne : ∀ l, d ≠ .tup l := fun l e => ha ⟨l, e⟩
  rw [ment_ne hne] at hd
  rw [ren_ne hne, ment_ne (renA_tup d)]
  exact keyA d hd
def RetPD (TT : List (Nat × Ty)) (res : List ResultVar) (et te : TypeId) (q : Sq) (d : D) : Exit → PS → Prop := fun e s => match e with
 | .normal | .ret => ∃ R F d', Nat.blt F 4294967296 = true ∧ retD TT s res = some d' ∧ s.r R = some (et, dR F q) ∧ s.r (FK + F) = some (te, dF q) ∧ notF R = true ∧ Wk d' (ren id (fun _ => R) d) ∧ okD 1 d = true
 | _ => False
theorem pcallD_intro {P : Program} {f : FuncId} {fn : Func} {c : Code} {TT : List (Nat × Ty)} {ds : List D} {et te : TypeId} {q : Sq} {d : D} {n : Nat} {res : List ResultVar} (hT : TTOK P TT) (hf : P.funcs[f]? = some fn) (hb : fn.body = some c)
  (hname : (fn.name == "runtime.NumGoroutine") = false) (hn : fn.ntmps = n) (hres : fn.results.toList = res) (hds : Nat.ble ds.length n = true) (hno : (ds.all fun d => noIds d && nwD false d) = true) (hq : q.deep = true)
  (h : ∀ w0, VC ⟨P, w0, Hd.no, n⟩ c (RetPD TT res et te q d) ⟨entL 0 ds, [], []⟩) (hn1000 : Nat.ble n 1000 = true := by rfl) : PCallD P f ds et te q d := by
 subst hn hres
 refine ⟨callFunc_of hf hname (by simp [hb]), hq, fun w0 args ⟨hsz, hargs⟩ => ?_⟩
 have hle := Nat.le_of_ble_eq_true hds
 have hent : Rel w0 Hd.no fn.ntmps M0 ⟨entL 0 ds, [], []⟩ { tmps := args ++ Array.replicate (fn.ntmps - args.size) undef, defers := [] } w0 := by
  refine ⟨⟨rfl, rfl, rfl, Nat.le_refl _, fun _ _ _ => rfl⟩, rfl, by simp; omega, fun t => ?_, fun b cs hb => by simp [PS.b, look] at hb, fun _ _ => rfl, fun r e q hr => (by rw [r_ent] at hr; cases hr), fun _ _ => rfl, ?_, by simp, by simp, by simp, Nat.le_of_ble_eq_true hn1000, by simp, by simp⟩
  ·simp only [PS.t, look_entL, Nat.zero_le, if_true, Nat.sub_zero]
   cases hd : ds[t]? with
   | none => exact .dead _
   | some d0 =>
    have hlt : t < args.size := by rw [hsz]; exact (List.getElem?_eq_some_iff.1 hd).1
    have h1 := hargs t d0 hd
    have h2 : (args ++ Array.replicate (fn.ntmps - args.size) undef).getD t undef = args.getD t undef := by
     simp [Array.getElem?_append_left hlt]
    rw [h2]
    have h4 := (List.all_eq_true.1 hno) d0 (List.mem_of_getElem? hd)
    simp only [Bool.and_eq_true] at h4
    refine VR.new (b := fun _ => true) (r := fun _ => true) (A := fun f _ => True ∧ f = false) (fun f b hb hf => ⟨⟨?_, .inr hf.2⟩, hb, rfl⟩) (fun x y hx => by simp at hx) (fun x y hx => by simp at hx) ?_ (h1.flag h4.2)
    ·simpa [noIds] using h4.1
    ·rintro (⟨x, hx⟩ | ⟨x, c, z, hx⟩) <;> simp at hx
  ·rintro k (⟨x, hx⟩ | ⟨x, c, z, hx⟩) <;> simp at hx
 refine calls_of_wp hf hb (Code.wp_mono ?_ ((h w0).out M0 _ w0 hent))
 rintro e a' w' ⟨s', M', hqq, hr⟩
 have fin : ∀ (hq' : ∃ R F d', Nat.blt F 4294967296 = true ∧ retD TT s' fn.results.toList = some d' ∧ s'.r R = some (et, dR F q) ∧ s'.r (FK + F) = some (te, dF q) ∧ notF R = true ∧ Wk d' (ren id (fun _ => R) d) ∧ okD 1 d = true),
   a'.defers = [] ∧ ∃ v, (results fn a'.tmps).run P w' = .ok v w' ∧ ∃ v', Ending.returned v = .returned v' ∧ ∀ B F, B ≤ 500000 → F < 4294967296 → ∃ N, NewD N (Rs w0 N) w0 w' B F et te q ∧ VR N (Rs w0 N) w' (ren id (fun j => B + j) d) v' := by
  rintro ⟨R, F0, d', hF0, h1, hR, hf0, hFR, h4, h5⟩
  rw [Nat.blt_eq] at hF0
  obtain ⟨v, h6, h7⟩ := ret_ok hT hr h1
  replace h7 := h7.wk h4
  refine ⟨hr.dfr, v, h6, v, rfl, fun B F hB0 hF => ?_⟩
  have hB : B < 1000000 := by omega
  have hBb := notF_big (notF_lo hB)
  simp only [okD, Bool.and_eq_true, Bool.not_eq_true'] at h5
  obtain ⟨⟨k1, k2⟩, k3⟩ := h5
  let M1 : Mp := ⟨fun _ => none, fun j => if j = 0 then M'.γ R else none⟩
  let N : Mp := ⟨fun _ => none, fun y => if y = B then M'.γ R else if Nat.ble BIG y = true ∧ unF y = F ∧ unK y < q.len then M'.γ (inn F0 (unK y)) else none⟩
  have nB : N.γ B = M'.γ R := by simp [N]
  have nI : ∀ i, i < q.len → N.γ (inn F i) = M'.γ (inn F0 i) := fun i hi => by
   have e : ∀ x, x ≠ B → (Nat.ble BIG x = true ∧ unF x = F ∧ unK x < q.len) → N.γ x = M'.γ (inn F0 (unK x)) := fun x h1 h2 => by simp [N, h1, h2]
   have := e (inn F i) (fun e => by have := inn_hi F i; rw [e, hBb] at this; cases this) ⟨inn_hi F i, by rw [unF_inn, Nat.mod_eq_of_lt hF], by rw [unK_inn]; exact hi⟩
   rwa [unK_inn] at this
  have nC : ∀ y z, N.γ y = some z → (y = B ∧ M'.γ R = some z) ∨ ∃ i, i < q.len ∧ y = inn F i ∧ M'.γ (inn F0 i) = some z := fun y z hy => by
   by_cases hyB : y = B
   ·rw [hyB, nB] at hy; exact .inl ⟨hyB, hy⟩
   ·simp only [N, hyB, if_false] at hy
    split at hy
    ·rename_i hc
     exact .inr ⟨_, hc.2.2, by rw [← hc.2.1]; exact (inn_of hc.1).symm, hy⟩
    ·cases hy
  have hNo : ∀ k, N.owned k → M'.owned k := by
   rintro k (⟨b, hb⟩ | ⟨y, c, z, hy⟩)
   ·cases hb
   ·rcases nC y _ hy with ⟨_, h1⟩ | ⟨i, _, _, h1⟩
    ·exact .inr ⟨_, c, z, h1⟩
    ·exact .inr ⟨_, c, z, h1⟩
  have hlow : ∀ k, M'.owned k → w0.heap.size ≤ k := fun k hk => (hr.low k hk).resolve_right (fun h => h)
  have hA : ∀ f b, b < w'.heap.size → (Ow (Fs w0 Hd.no) M' f b ∧ f = true) → Rs w0 N f b ∧ b < w'.heap.size ∧ w'.heap[b]? = w'.heap[b]? := fun f b hb hh =>
   ⟨⟨hh.1.2.resolve_right (fun h => by rw [hh.2] at h; cases h), fun ho => hh.1.1 (hNo b ho)⟩, hb, rfl⟩
  have hdeep := deep_r hF0 hq hf0
  have hRb := notF_big hFR
  refine ⟨N, ⟨hr.fr.os, hr.fr.tape, hr.fr.output, hr.fr.size, fun k hk => hr.fr.block k hk (fun h => h), fun _ => rfl, ?_, fun i hi => ?_, fun x hx hxi => ?_, fun k hk => hlow k (hNo k hk), fun r r' k c z c' z' a1 a2 => ?_⟩, ?_⟩
  ·rcases hr.row _ _ _ hR with ⟨b1, b2⟩ | ⟨g, cap, cur, b1, b2, b3, b4, b5, b6⟩
   ·exact .inl ⟨nB.trans b1, by rw [dR_len] at b2; exact b2⟩
   ·rw [dR_len] at b3 b6
    rw [dR_sz] at b1 b5 b6
    refine .inr ⟨g, cap, cur, nB.trans b1, b2, b3, b4, b5, fun i j d0 hi hd => ?_⟩
    rcases dR_relem hq hi hd with ⟨rfl, hro⟩ | ⟨y, rfl, hro⟩
    ·have : ((dR F0 q).relem i)[j]? = some (.irow F0 i (q.nn i).len) := by
      rcases dR_elem (F := F0) hq hi (hro true) with ⟨_, h2⟩ | ⟨y, h2, _⟩
      ·exact h2
      ·cases h2
     exact (b6 i j _ hi this).irow_mv fun y hy => by rw [nI i hi] at hy; exact hy
    ·have : ((dR F0 q).relem i)[j]? = some (.int y) := by
      rcases dR_elem (F := F0) hq hi (hro true) with ⟨h2, _⟩ | ⟨y', h2, h3⟩
      ·cases h2
      ·cases h2; exact h3
     rw [(b6 i j _ hi this).int_inv]; exact .int _
  ·have hin := hdeep i
   rw [if_pos hi] at hin
   rcases hr.row _ _ _ hin with ⟨b1, b2⟩ | ⟨g, cap, cur, b1, b2, b3, b4, b5, b6⟩
   ·exact .inl ⟨(nI i hi).trans b1, b2⟩
   ·refine .inr ⟨g, cap, cur, (nI i hi).trans b1, b2, b3, b4, b5, fun i' j d0 hi' hd => ?_⟩
    have h8 := b6 i' j d0 hi' hd
    rw [Sq.relem_eq (nn_refs q i)] at hd
    have hfl : nwS true d0 = true ∧ sameD d0 d0 := elem_new true (q.nn i) i' j d0 hd
    exact (h8.flagE (M' := M') hfl.2 hfl.1).elem_any hd hA
  ·cases hx' : N.γ x with
   | none => rfl
   | some z =>
    rcases nC x z hx' with ⟨h1, _⟩ | ⟨i, h1, h2, _⟩
    ·exact absurd h1 hx
    ·exact absurd h2 (hxi i h1)
  ·rcases nC r _ a1 with ⟨e1, b1⟩ | ⟨i, i1, e1, b1⟩
   ·rcases nC r' _ a2 with ⟨e2, b2⟩ | ⟨i', i2, e2, b2⟩
    ·rw [e1, e2]
    ·have := hr.inj2 _ _ _ _ _ _ _ b1 b2
     have h9 := inn_hi F0 i'
     rw [← this, hRb] at h9; cases h9
   ·rcases nC r' _ a2 with ⟨e2, b2⟩ | ⟨i', i2, e2, b2⟩
    ·have := hr.inj2 _ _ _ _ _ _ _ b1 b2
     have h9 := inn_hi F0 i
     rw [this, hRb] at h9; cases h9
    ·have := hr.inj2 _ _ _ _ _ _ _ b1 b2
     rw [e1, e2, (inn_inj this).2]
  ·have h8 : VR M1 (Ow (Fs w0 Hd.no) M') w' d v := VR.unren (M' := M') (A' := Ow (Fs w0 Hd.no) M') (τ := id) (σ := fun _ => R) (fun r x hx => by
    simp only [M1] at hx
    split at hx
    ·exact hx
    ·cases hx) (fun b k hb => by simp [M1] at hb) (fun _ _ _ h => h) k2 h7 (hi := fun r x hr1 hx => by
    simp only [M1] at hx
    split at hx
    ·rename_i h0
     subst h0
     exact absurd hr1 (by decide)
    ·cases hx)
   have hbk : ∀ r x, BIG ≤ r → M1.γ r = some x → False := fun r x hr1 hx => by
    simp only [M1] at hx
    split at hx
    ·rename_i h0; subst h0; exact absurd hr1 (by decide)
    ·cases hx
   have hment : ment (fun _ => true) (fun j => !Nat.blt j 1) d = false := k1
   have h9 : VR N (Rs w0 N) w' (ren id (fun j => B + j) d) v := by
    let N1 : Mp := ⟨fun _ => none, fun y => if y = B then M'.γ R else none⟩
    have h10 : VR N1 (Rs w0 N) w' (ren id (fun j => B + j) d) v := VR.ren (M := M1) hA (fun r x hx => by
     simp only [N1] at hx
     split at hx
     ·rename_i h0
      have : r = 0 := by omega
      simp only [M1, this, if_true]
      exact hx
     ·cases hx) (fun b k hb => by simp [N1] at hb) (h8.flag k3) (hi := fun r x hr1 hx => by
     simp only [N1] at hx
     split at hx
     ·rename_i h0
      rw [← h0, Nat.ble_eq_true_of_le hr1] at hBb; cases hBb
     ·cases hx)
    have hm2 : ment (fun _ => true) (fun r => !Nat.beq r B) (ren id (fun j => B + j) d) = false := ment_one d hment
    refine VR.new (b := fun _ => true) (r := fun r => !Nat.beq r B) (fun f b hb ha => ⟨ha, hb, rfl⟩) (fun x y hx hy => ?_) (fun x k hx => by simp at hx) hm2 h10 (hi := fun h0 => ?_)
    ·have : x = B := Nat.eq_of_beq_eq_true (by simpa using hx)
     rw [this, nB] at hy
     simp only [N1, this, if_true]; exact hy
    ·have : BIG = B := Nat.eq_of_beq_eq_true (by simpa using h0)
     rw [← this] at hBb; exact absurd hBb (by decide)
   exact h9
 cases e with
 | normal => exact fin hqq
 | ret => exact fin hqq
 | _ => exact hqq.elim
end Go.Proofs.Ytkklfgcelmeccaa
namespace Go.Proofs.Ytkklfgcelmeccaa
open Go.RowKit Go.Deep
theorem getD_set_eq {α : Type} (X : List α) (i j : Nat) (c z : α) (hi : i < X.length) : (X.set i c).getD j z = if j = i then c else X.getD j z := by
 by_cases h : j = i
 ·subst h; simp [hi]
 ·simp [List.getD_eq_getElem?_getD, List.getElem?_set, Ne.symm h, h]
theorem idr_set (X : List (Int × List Int)) (i : Nat) (p : Int) (c : List Int) (hi : i < X.length) : idr (X.set i (p, c)) = (idr X).set i (p, i, c.length) := by
 apply List.ext_getElem
 ·simp [idr]
 ·intro j h1 h2
  simp only [idr, List.length_map, List.length_zipIdx, List.length_set] at h1 h2
  by_cases h : i = j
  ·subst h; simp [idr]
  ·simp [idr, List.getElem_set, h]
theorem re_gen {F : Nat} {qR q' : Sq} {fq : Fq} {i m : Nat} (hd : q'.deep = true) (hlen : q'.len = qR.len) (hsz : q'.sz = qR.sz) (hm : q'.len ≤ m) (h1 : ∀ j, j < q'.len → j ≠ i → fq.get j = some (q'.nn j)) (h2 : i < q'.len → fq.get m = some (q'.nn i))
  (h3 : ∀ (j k : Nat), j < q'.len → j ≠ i → (qR.relem j)[k]? = ((dR F q').relem j)[k]?) (h4 : ∀ (k n : Nat), i < q'.len → (((dR F q').relem i)[k]? = some (D.irow F i n) → (qR.relem i)[k]? = some (D.irow F m n)) ∧ ∀ x : Int, ((dR F q').relem i)[k]? = some (D.int x) → (qR.relem i)[k]? = some (D.int x)) : ReOK F qR fq q' := by
 refine ⟨hd, hlen, hsz, fun j => if j = i then m else j, fun j hj => ?_, fun j k hj hk e => ?_, fun j k n hj => ?_⟩
 ·by_cases h : j = i
  ·subst h; simp only [if_true]; exact h2 hj
  ·simp only [h, if_false]; exact h1 j hj h
 ·simp only at e
  split at e <;> split at e <;> omega
 ·by_cases h : j = i
  ·subst h; simp only [if_true]; exact h4 k n hj
  ·simp only [h, if_false]
   rw [h3 j k hj h]
   exact ⟨fun h => h, fun _ h => h⟩
theorem idr_two (X : List (Int × List Int)) (i m n : Nat) (p : Int) (hi : i < X.length) : (((idr X).set i (p, ((idr X).getD i (0, NIL, 0)).2)).set i ((((idr X).set i (p, ((idr X).getD i (0, NIL, 0)).2)).getD i (0, NIL, 0)).1, m, n)) = (idr X).set i (p, m, n) := by
 rw [getD_set_eq _ _ _ _ _ (by rw [idr_len]; exact hi), if_pos rfl, List.set_set]
theorem reR (F : Nat) (X : List (Int × List Int)) (i : Nat) (p : Int) (c : List Int) (L : List (Option (List Int))) (hi : i < X.length) (hL : ∀ j, j ≠ i → L.getD j none = (X.map fun x => some x.2).getD j none) (hl : L.length = X.length) :
  ReOK F (.rrefs F (((idr X).set i (p, ((idr X).getD i (0, NIL, 0)).2)).set i ((((idr X).set i (p, ((idr X).getD i (0, NIL, 0)).2)).getD i (0, NIL, 0)).1, L.length, c.length))) (.ints (L ++ [some c])) (.raises (X.set i (p, c))) := by
 rw [idr_two _ _ _ _ _ hi]
 have hidn : ∀ j, ((idr X).set i (p, L.length, c.length)).getD j (0, NIL, 0) = if j = i then (p, L.length, c.length) else (idr X).getD j (0, NIL, 0) := fun j => getD_set_eq _ _ _ _ _ (by rw [idr_len]; exact hi)
 refine re_gen (i := i) (m := L.length) rfl (by simp [Sq.len, idr_len]) rfl (by simp [Sq.len, hl]) (fun j hj hne => ?_) (fun _ => ?_) (fun j k hj hne => ?_) fun k n _ => ⟨fun h => ?_, fun x h => ?_⟩
 ·simp only [Sq.len, List.length_set] at hj
  have : (L ++ [some c]).getD j none = (X.map fun x => some x.2).getD j none := by rw [getD_snoc, if_neg (by omega), hL j hne]
  simp only [Fq.get, this]
  simp [Sq.nn, hj, List.getElem_set, Ne.symm hne]
 ·simp [Fq.get, Sq.nn, getD_snoc, hi]
 ·simp only [Sq.len, List.length_set] at hj
  simp only [dR, Sq.relem, hidn, hne, if_false]
  rw [idr_set _ _ _ _ hi, getD_set_eq _ _ _ _ _ (by rw [idr_len]; exact hi), if_neg hne]
 ·simp only [dR, Sq.relem] at h ⊢
  rw [idr_set _ _ _ _ hi, getD_set_eq _ _ _ _ _ (by rw [idr_len]; exact hi), if_pos rfl] at h
  rw [hidn, if_pos rfl]
  rcases k with _ | _ | k
  ·simp at h
  ·simp at h ⊢; exact h
  ·simp at h
 ·simp only [dR, Sq.relem] at h ⊢
  rw [idr_set _ _ _ _ hi, getD_set_eq _ _ _ _ _ (by rw [idr_len]; exact hi), if_pos rfl] at h
  rw [hidn, if_pos rfl]
  rcases k with _ | _ | k
  ·simp at h ⊢; exact h
  ·simp at h
  ·simp at h
section
variable {C : Cx} {ops : Array Oper} {K : PS → Prop} {o : Oper} {rest : List Oper} {s : PS} {TT : List (Nat × Ty)} {tm : List (Nat × D)} {rw' : List (Nat × Option (TypeId × Sq))} {bx : List (Nat × Option (List D))} {cr B : List Nat} {j : Nat}
end
end Go.Proofs.Ytkklfgcelmeccaa
namespace Go.Proofs.Ytkklfgcelmeccaa
open Go.RowKit Go.Deep
section
variable {C : Cx} {tm : List (Nat × D)} {rw' : List (Nat × Option (TypeId × Sq))} {bx : List (Nat × Option (List D))} {s' : PS}
theorem En.adoptA (t p r R F : Nat) {n : Nat} {dl : List D} {et te : TypeId} {c q : Sq} {fq fq' : Fq} (ht : PS.t ⟨tm, rw', bx⟩ t = .agg dl) (hp0 : dl[p]? = some (.row r 0 n)) (hr : PS.r ⟨tm, rw', bx⟩ r = some (te, c)) (hn : n = c.len) (hf : PS.r ⟨tm, rw', bx⟩ (FK + F) = some (te, .fam fq)) (hR : PS.r ⟨tm, rw', bx⟩ R = some (et, dR F q))
  (hq : q.deep = true) (hlen : q.len = fq.len) (hp : fq.push c = some fq') (hl : lone ⟨tm, rw', bx⟩ R F = true) {dl' : List D} (hd' : dl' = (dl.map (klXS r)).set p (.irow F fq.len n))
  (hnf : nf ⟨(t, .agg dl') :: (PS.killX ⟨tm, rw', bx⟩ r).tmp, (r, none) :: (FK + F, some (te, .fam fq')) :: rw', (PS.killX ⟨tm, rw', bx⟩ r).box⟩ = some s') (hF : Nat.blt F 4294967296 = true := by rfl) (hr1 : Nat.blt r 1000000 = true := by rfl) (hFR : notF R = true := by rfl) (hrR : Nat.beq r R = false := by rfl) : En C ⟨tm, rw', bx⟩ s' := ⟨fun M a w h => by
 rw [nf_ok hnf]
 rw [Nat.blt_eq] at hF hr1
 subst hn hd'
 have hne : r ≠ R := fun e => by subst e; rw [Nat.beq_refl] at hrR; cases hrR
 have hget := Fq.get_push hp
 have hrn := notF_lo hr1
 let g : Nat → Nat := fun k => if k = fq.len then r else inn F k
 have hinnr : ∀ k, inn F k ≠ r := fun k e => by have := inn_hi F k; rw [e, notF_big hrn] at this; cases this
 have hown : ∀ k, (famM M r F fq' g).owned k → M.owned k := by
  rintro k (⟨b, hb⟩ | ⟨y, c, z, hy⟩)
  ·exact .inl ⟨b, hb⟩
  ·simp only [famM] at hy
   split at hy
   ·split at hy
    ·split at hy
     ·exact .inr ⟨_, c, z, hy⟩
     ·cases hy
    ·exact .inr ⟨_, c, z, hy⟩
   ·split at hy
    ·cases hy
    ·exact .inr ⟨_, c, z, hy⟩
 have hA : ∀ f b, b < w.heap.size → Ow (Fs C.w0 C.O0) M f b → Ow (Fs C.w0 C.O0) (famM M r F fq' g) f b ∧ b < w.heap.size ∧ w.heap[b]? = w.heap[b]? := fun f b h1 h2 => ⟨⟨fun h3 => h2.1 (hown b h3), h2.2⟩, h1, rfl⟩
 have hγ' : ∀ x y, x ≠ r → notF x = true → (famM M r F fq' g).γ x = some y → M.γ x = some y := fun x y h1 h2 h3 => by rw [famM_lo _ _ _ _ _ (notF_big h2) h1] at h3; exact h3
 have hgM : ∀ k, k ≠ fq.len → ∀ y, (famM M r F fq' g).γ (inn F k) = some y → M.γ (inn F k) = some y := fun k hk y hy => by
  rw [famM_inn _ _ _ _ _ hF] at hy
  split at hy
  ·simpa [g, hk] using hy
  ·cases hy
 refine ⟨_, h.refam r R F hF (fq' := fq') g (yR := some (et, dR F q)) hr1 hFR hne hf hl (fun k c' hc => ?_) (fun k k' c1 c2 h1 h2 h3 => ?_) (fun k c' hc => ?_) (fun x => ?_) (fun e p hx => ?_) (fun hx => by cases hx) (fun t' => ?_) fun b => ?_⟩
 ·rw [hget] at hc
  by_cases hk : k = fq.len
  ·rw [if_pos hk] at hc
   cases hc
   simp [g, hk, hr]
  ·rw [if_neg hk] at hc
   simp only [g, hk, if_false]
   rw [fam_r hF hf, hc]
 ·simp only [g] at h3
  split at h3 <;> split at h3
  ·omega
  ·exact absurd h3.symm (hinnr _)
  ·exact absurd h3 (hinnr _)
  ·exact (inn_inj h3).2
 ·by_cases hk : k = fq.len
  ·exact .inl (by simp [g, hk])
  ·exact .inr ⟨k, by simp [g, hk]⟩
 ·rw [PS.r_app (s := ⟨tm, rw', bx⟩) (l := [(r, none), (FK + F, some (te, .fam fq'))]) rfl, look_two', look_two']
  cases hbx : Nat.ble BIG x with
  | true =>
   have h1 : r ≠ FK + unF x := fun e => by have := notF_fk x; rw [← e, hrn] at this; cases this
   simp only [h1, if_false]
   by_cases hu : unF x = F
   ·simp [hu]
   ·simp [hu, Ne.symm hu]
  | false =>
   simp only
   by_cases hxr : r = x
   ·simp [hxr]
   ·simp only [hxr, if_false, Ne.symm hxr]
    by_cases hxf : FK + F = x
    ·simp [hxf]
    ·simp only [hxf, if_false, Ne.symm hxf]
     by_cases hxR : x = R
     ·simp [hxR, hR]
     ·simp [hxR]
 ·cases hx
  rcases h.row _ _ _ hR with ⟨g1, g2⟩ | ⟨gg, cap, cur, g1, g2, g3, g4, g5, g6⟩
  ·exact .inl ⟨by rw [famM_lo _ _ _ _ _ (notF_big hFR) (Ne.symm hne)]; exact g1, g2⟩
  ·refine .inr ⟨gg, cap, cur, by rw [famM_lo _ _ _ _ _ (notF_big hFR) (Ne.symm hne)]; exact g1, g2, g3, g4, g5, fun i j d hi hd => ?_⟩
   have hv := g6 i j d hi hd
   rw [dR_len] at hi
   rcases dR_relem hq hi hd with ⟨rfl, _⟩ | ⟨x, rfl, _⟩
   ·exact hv.irow_mv (hgM i (by omega))
   ·rw [hv.int_inv]; exact .int _
 ·have hk := PS.t_killX ⟨tm, rw', bx⟩ r t'
  by_cases htt : t = t'
  ·subst htt
   have : PS.t ⟨(t, .agg ((dl.map (klXS r)).set p (.irow F fq.len c.len))) :: (PS.killX ⟨tm, rw', bx⟩ r).tmp, (r, none) :: (FK + F, some (te, .fam fq')) :: rw', (PS.killX ⟨tm, rw', bx⟩ r).box⟩ t = .agg ((dl.map (klXS r)).set p (.irow F fq.len c.len)) := by simp [PS.t, look_cons_self]
   rw [this]
   have hv := h.tmp t
   rw [ht] at hv
   generalize a.tmps.getD t undef = v at hv ⊢
   cases hv with
   | agg _ us hl hd =>
    refine .agg _ us (by simpa using hl) fun j d hj => ?_
    rw [List.getElem?_set] at hj
    by_cases hij : p = j
    ·subst hij
     have hlt := (List.getElem?_eq_some_iff.1 hp0).1
     rw [if_pos rfl, if_pos (by simpa using hlt)] at hj
     cases hj
     refine (hd p _ hp0).irow_of fun x hx => ?_
     rw [famM_inn _ _ _ _ _ hF] at hx
     split at hx
     ·simpa [g] using hx
     ·cases hx
    ·rw [if_neg hij, List.getElem?_map] at hj
     obtain ⟨d0, hd0, rfl⟩ := Option.map_eq_some_iff.1 hj
     exact VR.klXS hA hγ' (fun _ _ h => h) (hd j d0 hd0)
  ·have : PS.t ⟨(t, .agg ((dl.map (klXS r)).set p (.irow F fq.len c.len))) :: (PS.killX ⟨tm, rw', bx⟩ r).tmp, (r, none) :: (FK + F, some (te, .fam fq')) :: rw', (PS.killX ⟨tm, rw', bx⟩ r).box⟩ t' = PS.t (PS.killX ⟨tm, rw', bx⟩ r) t' := by simp [PS.t, look_cons_ne htt]
   rw [this, hk]
   exact VR.klX hA hγ' (fun _ _ h => h) (h.tmp t')
 ·exact PS.b_killX ⟨tm, rw', bx⟩ r b⟩
end
theorem Rel.newFamN {C : Cx} {tm : List (Nat × D)} {rw' : List (Nat × Option (TypeId × Sq))} {bx : List (Nat × Option (List D))} {M : Mp} {a : Act} {w : World} (h : Rel C.w0 C.O0 C.n M ⟨tm, rw', bx⟩ a w) (F : Nat) (te : TypeId) (fq : Fq) (h0 : ∀ k c, fq.get k = some c → c.len = 0) (hl : lone ⟨tm, rw', bx⟩ 999999 F = true) (hl2 : PS.r ⟨tm, rw', bx⟩ 999999 = none) (hN : PS.r ⟨tm, rw', bx⟩ (FK + F) = none) (hO : ∀ u, C.O0.fr (FK + F) ≠ some u)
  (hF : F < 4294967296) : ∃ M' : Mp, Rel C.w0 C.O0 C.n M' ⟨(PS.killX ⟨tm, rw', bx⟩ 999999).tmp, (FK + F, some (te, .fam fq)) :: rw', (PS.killX ⟨tm, rw', bx⟩ 999999).box⟩ a w ∧ ∀ k c, fq.get k = some c → M'.γ (inn F k) = some none := by
 let M' : Mp := ⟨M.β, fun x => if x = FK + F then some none else if Nat.ble BIG x = true ∧ unF x = F ∧ (fq.get (unK x)).isSome = true then some none else M.γ x⟩
 have hMi : ∀ G k, G < 4294967296 → G ≠ F → M'.γ (inn G k) = M.γ (inn G k) := fun G k hG hne => by
  have : inn G k ≠ FK + F := fun e => by have h1 := inn_hi G k; rw [e, fk_lo hF] at h1; cases h1
  have h2 : unF (inn G k) ≠ F := by rw [unF_inn, Nat.mod_eq_of_lt hG]; exact hne
  simp [M', this, h2]
 have hMF : ∀ x, Nat.ble BIG x = false → x ≠ FK + F → M'.γ x = M.γ x := fun x h1 h2 => by simp only [M', h1, h2, if_false]; simp
 have hsub : ∀ x k c z, M'.γ x = some (some (k, c, z)) → M.γ x = some (some (k, c, z)) := fun x k c z hx => by
  simp only [M'] at hx
  split at hx
  ·cases hx
  ·split at hx
   ·cases hx
   ·exact hx
 have hown : ∀ k, M'.owned k → M.owned k := by
  rintro k (⟨b, hb⟩ | ⟨y, c, z, hy⟩)
  ·exact .inl ⟨b, hb⟩
  ·exact .inr ⟨y, c, z, hsub _ _ _ _ hy⟩
 have hA : ∀ f b, b < w.heap.size → Ow (Fs C.w0 C.O0) M f b → Ow (Fs C.w0 C.O0) M' f b ∧ b < w.heap.size ∧ w.heap[b]? = w.heap[b]? := fun f b h1 h2 => ⟨⟨fun h3 => h2.1 (hown b h3), h2.2⟩, h1, rfl⟩
 have hγ' : ∀ x y, x ≠ 999999 → notF x = true → M'.γ x = some y → M.γ x = some y := fun x y _ h2 h3 => by
  rw [hMF x (notF_big h2) (fun e => fk_ne hF h2 e.symm)] at h3
  exact h3
 refine ⟨M', ?_, fun k c hc => by
  have h1 : inn F k ≠ FK + F := fun e => by have h1 := inn_hi F k; rw [e, fk_lo hF] at h1; cases h1
  have h2 : unF (inn F k) = F := by rw [unF_inn, Nat.mod_eq_of_lt hF]
  simp [M', h1, h2, inn_hi, unK_inn, hc]⟩
 refine h.remap 999999 F hF (fun _ => rfl) (fun x k c z hx => ⟨x, hsub _ _ _ _ hx⟩) (fun x y k c z c' z' h1 h2 => h.inj2 _ _ _ _ _ _ _ (hsub _ _ _ _ h1) (hsub _ _ _ _ h2)) hγ' (fun x y h1 h2 h3 h4 => ?_) (.inl (by decide)) (fun u u' h1 _ => absurd h1 (hO u)) (fun G k y h1 h2 h3 => by rw [← hMi G k h1 h2]; exact h3) (fun t => ?_) (fun b => ?_) (fun x e q hx => ?_) fun x hx => ?_
 ·rw [hMF x h3 h1] at h4
  exact h4
 ·have : PS.t ⟨(PS.killX ⟨tm, rw', bx⟩ 999999).tmp, (FK + F, some (te, .fam fq)) :: rw', (PS.killX ⟨tm, rw', bx⟩ 999999).box⟩ t = klX 999999 (PS.t ⟨tm, rw', bx⟩ t) := PS.t_killX ⟨tm, rw', bx⟩ 999999 t
  rw [this]
  exact VR.klX hA hγ' (fun _ _ h => h) (h.tmp t)
 ·exact PS.b_killX ⟨tm, rw', bx⟩ 999999 b
 ·rw [PS.r_app (s := ⟨tm, rw', bx⟩) (l := [(FK + F, some (te, .fam fq))]) rfl, look_one', look_one'] at hx
  cases hbx : Nat.ble BIG x with
  | true =>
   rw [hbx] at hx
   have hxf : x ≠ FK + F := fun e => by rw [e, fk_lo hF] at hbx; cases hbx
   by_cases hu : FK + F = FK + unF x
   ·simp only [hu, if_true, famr] at hx
    split at hx
    ·rename_i c hc
     cases hx
     have hu' : unF x = F := by omega
     exact .inr (.inl ⟨by simp [M', hxf, hbx, hu', hc], h0 _ _ hc⟩)
    ·cases hx
   ·have hu' : unF x ≠ F := fun e => hu (by rw [e])
    have hMx : M'.γ x = M.γ x := by simp [M', hxf, hu']
    simp only [hu, if_false] at hx
    refine .inl ⟨hx, hMx, fun G hG => ?_⟩
    rcases lone_ok hl hx hG with h1 | h1
    ·rw [h1, hl2] at hx; cases hx
    ·exact h1
  | false =>
   rw [hbx] at hx
   by_cases hxf : FK + F = x
   ·subst hxf
    simp only [if_true] at hx
    cases hx
    exact .inr (.inl ⟨by simp [M'], rfl⟩)
   ·simp only [hxf, if_false] at hx
    refine .inl ⟨hx, hMF x hbx (Ne.symm hxf), fun G hG => ?_⟩
    rcases lone_ok hl hx hG with h1 | h1
    ·rw [h1, hl2] at hx; cases hx
    ·exact h1
 ·rw [PS.r_app (s := ⟨tm, rw', bx⟩) (l := [(FK + F, some (te, .fam fq))]) rfl, look_one', look_one'] at hx
  cases hbx : Nat.ble BIG x with
  | true =>
   rw [hbx] at hx
   have hxf : x ≠ FK + F := fun e => by rw [e, fk_lo hF] at hbx; cases hbx
   by_cases hu : FK + F = FK + unF x
   ·simp only [hu, if_true, famr] at hx
    split at hx
    ·cases hx
    ·rename_i hc
     have hMx : M'.γ x = M.γ x := by simp [M', hxf, hc]
     rw [hMx]
     refine h.rown x ?_
     rw [PS.r_hi _ hbx, PS.inn_r, ← hu, hN]; rfl
   ·have hu' : unF x ≠ F := fun e => hu (by rw [e])
    have hMx : M'.γ x = M.γ x := by simp [M', hxf, hu']
    rw [hMx]
    simp only [hu, if_false] at hx; exact h.rown x hx
  | false =>
   rw [hbx] at hx
   by_cases hxf : FK + F = x
   ·simp only [hxf, if_true] at hx; cases hx
   ·simp only [hxf, if_false] at hx
    rw [hMF x hbx (Ne.symm hxf)]
    exact h.rown x hx
theorem Rel.newRowW {w0 : World} {O0 : Hd} {n : Nat} {M : Mp} {s : PS} {a : Act} {w w' : World} (h : Rel w0 O0 n M s a w) {r m : Nat} {e : TypeId} {q : Sq} {cur : Array Value} (hq : q.len = m) (hm : m ≤ maxLen) (hc : cur.size = m * q.sz) (g1 : w'.heap[w.heap.size]? = some (.cells cur e (0, 0))) (ho : w'.os = w.os) (htp : w'.tape = w.tape) (hou : w'.output = w.output) (hsi : w.heap.size ≤ w'.heap.size) (hbl : ∀ k, k < w.heap.size → w'.heap[k]? = w.heap[k]?)
  (hv : ∀ i j d, i < m → (q.relem i)[j]? = some d → VR M (Ow (Fs w0 O0) M) w d (cur.getD (i * q.sz + j) undef)) (hf : Fresh s noB (isR r)) (hlo : r < 1000000) :
  ∃ M', Rel w0 O0 n M' (s.setR r (some (e, q))) a w' ∧ VR M' (Ow (Fs w0 O0) M') w' (.row r 0 m) (.slice (some ⟨w.heap.size, 0, none⟩) m m) := by
 have hF := notF_lo hlo
 let M' : Mp := ⟨M.β, fun x => if x = r then some (some (w.heap.size, m, q.sz)) else M.γ x⟩
 have m1 : M'.γ r = some (some (w.heap.size, m, q.sz)) := by simp [M']
 have m2 : ∀ x, x ≠ r → M'.γ x = M.γ x := fun x hx => by simp [M', hx]
 have hown : ∀ k, M'.owned k → M.owned k ∨ k = w.heap.size := by
  rintro k (⟨x, hx⟩ | ⟨y, c, z, hy⟩)
  ·exact .inl (.inl ⟨x, hx⟩)
  ·by_cases hyr : y = r
   ·rw [hyr, m1] at hy; cases hy; exact .inr rfl
   ·rw [m2 y hyr] at hy; exact .inl (.inr ⟨y, c, z, hy⟩)
 have hA : ∀ f k, k < w.heap.size → Ow (Fs w0 O0) M f k → Ow (Fs w0 O0) M' f k ∧ k < w'.heap.size ∧ w'.heap[k]? = w.heap[k]? := fun f k h1 h2 =>
  ⟨⟨fun h3 => by rcases hown k h3 with h4 | h4; exact h2.1 h4; omega, h2.2⟩, by omega, hbl k h1⟩
 have hγ : ∀ x y, isR r x = false → M'.γ x = some y → M.γ x = some y := fun x y h1 h2 => by
  rw [m2 x (fun e => by subst e; simp [isR, Nat.beq_refl] at h1)] at h2; exact h2
 have hrb := notF_big hF
 have hbig : ∀ x y, BIG ≤ x → M'.γ x = some y → M.γ x = some y := fun x y hx h2 => by
  rw [m2 x (fun e => by rw [← e, Nat.ble_eq_true_of_le hx] at hrb; cases hrb)] at h2; exact h2
 have hno : ∀ y c z, M.γ y ≠ some (some (w.heap.size, c, z)) := fun y c z hy => by have := h.lt _ (.inr ⟨y, c, z, hy⟩); omega
 refine ⟨M', ⟨?_, h.dfr, h.sz, fun t => ?_, fun x ds hx => ?_, fun x hx => h.boxn x hx, fun x e' p hx => ?_, fun x hx => ?_, fun k hk => ?_, h.inj1, fun x y k c z c' z' h1 h2 => ?_, fun x y k c z h1 h2 => ?_, h.nle, h.fxb, fun x u u' h1 h2 => ?_⟩, ?_⟩
 ·exact h.fr.step ho htp hou hsi fun k h1 _ => hbl k (Nat.lt_of_lt_of_le h1 h.fr.size)
 ·exact VR.new (b := noB) (r := isR r) hA hγ (fun _ _ _ h => h) (hf.t t) (h.tmp t) (hi := fun _ => hbig)
 ·obtain ⟨k, cur', e', h1, h2, h3, h4⟩ := h.box x ds hx
  have hlt := (Array.getElem?_eq_some_iff.1 h2).1
  exact ⟨k, cur', e', h1, (hbl k hlt).trans h2, h3, fun j d hd => VR.newS (b := noB) (r := isR r) hA hγ (fun _ _ _ h => h) (hf.b _ _ hx d (List.mem_of_getElem? hd)) (h4 j d hd) (hi := fun _ => hbig)⟩
 ·rw [PS.r_setR _ _ _ _ hF] at hx
  by_cases hxr : r = x
  ·subst hxr
   rw [if_pos rfl] at hx
   cases hx
   exact .inr ⟨w.heap.size, m, cur, m1, g1, by omega, hm, hc, fun i j d hi hd => (hv i j d (by omega) hd).relem_any hd hA hbig⟩
  ·rw [if_neg hxr] at hx
   rcases h.row x e' p hx with ⟨h1, h2⟩ | ⟨g, cap, cur', h1, h2, h3, h4, h5, h6⟩
   ·exact .inl ⟨(m2 x (Ne.symm hxr)).trans h1, h2⟩
   ·have hlt := (Array.getElem?_eq_some_iff.1 h2).1
    exact .inr ⟨g, cap, cur', (m2 x (Ne.symm hxr)).trans h1, (hbl g hlt).trans h2, h3, h4, h5, fun i j d hi hd => (h6 i j d hi hd).relem_any hd hA hbig⟩
 ·rw [PS.r_setR _ _ _ _ hF] at hx
  by_cases hxr : r = x
  ·rw [if_pos hxr] at hx; cases hx
  ·rw [if_neg hxr] at hx; exact (m2 x (Ne.symm hxr)).trans (h.rown x hx)
 ·rcases hown k hk with h1 | rfl
  ·exact h.low k h1
  ·exact .inl h.fr.size
 ·by_cases hx : x = r
  ·by_cases hy : y = r
   ·rw [hx, hy]
   ·rw [hx, m1] at h1; cases h1; rw [m2 y hy] at h2; exact absurd h2 (hno _ _ _)
  ·by_cases hy : y = r
   ·rw [hy, m1] at h2; cases h2; rw [m2 x hx] at h1; exact absurd h1 (hno _ _ _)
   ·rw [m2 x hx] at h1; rw [m2 y hy] at h2; exact h.inj2 _ _ _ _ _ _ _ h1 h2
 ·by_cases hy : y = r
  ·rw [hy, m1] at h2; cases h2
   have := h.lt _ (.inl ⟨x, h1⟩); omega
  ·rw [m2 y hy] at h2; exact h.inj3 _ _ _ _ _ h1 h2
 ·have h3 := (O0.lor x u h1).1
  rw [m2 x (by omega)] at h2
  exact h.fxr x u u' h1 h2
 ·exact .row _ _ _ _ rfl fun x hx => by rw [m1] at hx; cases hx; exact ⟨by omega, _, by rw [Nat.sub_zero], fun _ => by rw [Nat.zero_mul]⟩
def kD (k q : Sq) : Bool := match k, q with
 | .intss _, .intss _ | .pairss _, .pairss _ | .boolss _, .boolss _ | .raises _, .raises _ => true
 | _, _ => false
structure ZeroD (q : Sq) (m : Nat) : Prop where
 deep : q.deep = true
 len : q.len = m
 inner : ∀ i, i < q.len → (q.nn i).len = 0
 fst : ∀ (i j : Nat) (x : Int), i < q.len → (q.elem true i)[j]? = some (D.int x) → x = 0
theorem zeroR (m : Nat) : ZeroD (.raises (List.replicate m ((0, []) : Int × List Int))) m := ⟨rfl, by simp [Sq.len], fun i hi => by simp only [Sq.len, List.length_replicate] at hi; simp [Sq.nn, Sq.len, hi], fun i j x hi hx => by
 simp only [Sq.len, List.length_replicate] at hi
 rcases j with _ | _ | j <;> simp [Sq.elem, hi] at hx
 exact hx.symm⟩
section
variable {C : Cx} {ops : Array Oper} {K : PS → Prop} {o : Oper} {rest : List Oper} {s : PS} {TT : List (Nat × Ty)} {tm : List (Nat × D)} {rw' : List (Nat × Option (TypeId × Sq))} {bx : List (Nat × Option (List D))}
theorem oMakeD (F : Nat) (te : TypeId) (q : Sq) (hT : TTOK C.P TT) (hg : o.guard = none) {t e : TypeId} {k : Sq} {by' b : Nat} {x y : Operand} {n : Int} (hop : o.op = .makeSlice t x y) (hd : o.dst = some b) (hy : look TT t = some (.sl e k by')) (hx : (PS.ev ⟨tm, rw', bx⟩ x) = .int n) (hyy : (PS.ev ⟨tm, rw', bx⟩ y) = .int n)
  (hb : Nat.ble by' 32 = true) (hn : Nat.blt b C.n = true) (hk : kD k q = true) (hl : lone ⟨tm, rw', bx⟩ 999999 F = true) (hl2 : PS.r ⟨tm, rw', bx⟩ 999999 = none) (hN : PS.r ⟨tm, rw', bx⟩ (FK + F) = none) (hO : ∀ u, C.O0.fr (FK + F) ≠ some u)
  (hf : frB ⟨(PS.killX ⟨tm, rw', bx⟩ 999999).tmp, (FK + F, some (te, dF q)) :: rw', (PS.killX ⟨tm, rw', bx⟩ 999999).box⟩ noB (isR b) = true) {m : Nat} {s' : PS} (hm : m = q.len) (hnf : nf ⟨(b, .row b 0 m) :: (PS.killX ⟨tm, rw', bx⟩ 999999).tmp, (b, some (e, dR F q)) :: (FK + F, some (te, dF q)) :: rw', (PS.killX ⟨tm, rw', bx⟩ 999999).box⟩ = some s')
  (hz : ZeroD q n.toNat) (hob : 0 ≤ n ∧ n ≤ 4294967296) (h : VO C ops K rest s') (hF : Nat.blt F 4294967296 = true := by rfl) : VO C ops K (o :: rest) ⟨tm, rw', bx⟩ := by
 refine vOp hg ⟨fun M a w Q K' hr hk' => ?_⟩
 subst hm
 have hty := hT t _ hy
 obtain ⟨hu, _, i, hi, hsz, hby, z, hz0, hzc⟩ := hty
 have e1 := hr.ev x
 have e2 := hr.ev y
 rw [hx] at e1
 rw [hyy] at e2
 have hb' := Nat.le_of_ble_eq_true hb
 rw [Nat.blt_eq] at hF
 obtain ⟨m, rfl⟩ : ∃ m : Nat, n = (m : Int) := ⟨n.toNat, by omega⟩
 have hmm : m ≤ 4294967296 := by omega
 obtain ⟨w', hrun, hown, hgr⟩ := run_make_full (P := C.P) w w.heap.size t e i z k.sz hu hi hz0 hsz .i64 .i64 m (by rw [hby]; have := Nat.mul_le_mul hb' hmm; omega) (by unfold maxLen; omega) (Nat.le_refl _)
 have hzs : z.cells.size = k.sz := by rw [hzc]; cases k <;> rfl
 have hheap : ∃ cur, w'.heap[w.heap.size]? = some (.cells cur e (0, 0)) ∧ cur.size = m * k.sz ∧ cur.toList = (madeCells z.cells (m * k.sz)).toList := by
  rcases hown.2 with ⟨h1, _⟩ | ⟨g, cap, cur, h1, _, h2, h3, h4, h5, h6⟩
  ·cases h1
  ·cases h1
   refine ⟨cur, h2, h5, ?_⟩
   rw [← h6, List.take_of_length_le (by simp [h5])]
 obtain ⟨cur, g1, g2, g3⟩ := hheap
 rw [Int.toNat_natCast] at hz
 obtain ⟨z0, z1, z2, z3⟩ := hz
 have hks : k.sz = q.sz := by
  cases k <;> cases q <;> first | rfl | (cases hk; done)
 obtain ⟨M1, hr1, hi1⟩ := hr.newFamN F te (famOf q) (fun j c hc => by
  rw [famOf_get z0] at hc
  split at hc
  ·rename_i hj; cases hc; exact z2 j hj
  ·cases hc) hl hl2 hN hO hF
 rw [← dF_fam] at hr1
 obtain ⟨M', h1, h2⟩ := hr1.newRowW (r := b) (m := m) (e := e) (q := dR F q) (cur := cur) (w' := w') (by rw [dR_len]; exact z1) (by unfold maxLen; omega) (by rw [dR_sz, ← hks]; exact g2) g1 hgr.os hgr.tape hgr.output hgr.size (fun k hk => hgr.block k hk (by simp)) (fun i j d hi hd => by
  have hj : j < k.sz := by rw [hks, ← dR_sz F q, ← Sq.relem_len (dR F q) i]; exact (List.getElem?_eq_some_iff.1 hd).1
  have hlt : i * k.sz + j < m * k.sz := by
   have : (i + 1) * k.sz ≤ m * k.sz := Nat.mul_le_mul_right _ hi
   rw [Nat.add_mul, Nat.one_mul] at this; omega
  have hget : cur.getD (i * (dR F q).sz + j) undef = k.zero1.toArray.getD j undef := by
   have hc : cur = madeCells z.cells (m * k.sz) := by rw [← Array.toList_inj]; exact g3
   have hzz : k.zero1.toArray.size = k.sz := by rw [← hzc, hzs]
   rw [dR_sz, ← hks, hc, ← hzc]
   have hmod : (i * k.sz + j) % k.sz = j := by rw [Nat.mul_comm, Nat.mul_add_mod, Nat.mod_eq_of_lt hj]
   simp [madeCells, hlt, hzs, hmod, hj]
  rw [hget]
  have hi' : i < q.len := by rw [z1]; exact hi
  have hin : ∀ n, n = 0 → VR M1 (Ow (Fs C.w0 C.O0) M1) w (.irow F i n) (.slice none 0 0) := fun n hn0 => .irow _ _ _ _ rfl fun x hx => by
   rw [hi1 i (q.nn i) (by rw [famOf_get z0, if_pos hi'])] at hx
   cases hx
   exact ⟨⟨none, rfl⟩, hn0, rfl⟩
  have hlen0 := z2 i hi'
  rcases dR_relem z0 hi' hd with ⟨rfl, h5⟩ | ⟨x, rfl, h5⟩
  ·have : k.zero1.toArray.getD j undef = .slice none 0 0 := by
    cases k <;> cases q <;> first | (cases hk; done) | skip
    case raises.raises => rcases j with _ | _ | j <;> first | rfl | (simp [Sq.elem] at h5; done) | (exfalso; simp [Sq.sz] at hj; done) | (exfalso; simp [Sq.sz] at hj; omega)
    all_goals (rcases j with _ | j <;> first | rfl | (exfalso; simp [Sq.sz] at hj; done) | (exfalso; simp [Sq.sz] at hj; omega))
   rw [this]
   exact hin _ hlen0
  ·have hx0 := z3 i j x hi' (h5 true)
   subst hx0
   have : k.zero1.toArray.getD j undef = .int .i64 0 := by
    cases k <;> cases q <;> first | (cases hk; done) | skip
    case raises.raises => rcases j with _ | _ | j <;> first | rfl | (simp [Sq.elem] at h5; done)
    all_goals (rcases j with _ | j <;> simp [Sq.elem] at h5)
   rw [this]
   exact .int 0) (frB_ok hf) (by have h1000 := hr.nle; rw [Nat.blt_eq] at hn; omega)
 have hrun' : (execOp a.eval o).run C.P w = .ok (.value (.slice (some ⟨w.heap.size, 0, none⟩) m m)) w' := by
  unfold execOp
  rw [hop]
  simp only [Sem.run_bind, e1.int_inv, e2.int_inv, hrun, Result.andThen_ok]
  rfl
 unfold Oper.wp
 rw [hrun']
 refine hk' M' _ _ _ (vNf hnf h) ?_
 rw [hd, z1]
 exact h1.put (o := some b) hn h2
end
end Go.Proofs.Ytkklfgcelmeccaa
namespace Go.Proofs.Ytkklfgcelmeccaa
open Go.RowKit Go.Deep
section
variable {C : Cx} {ops : Array Oper} {K : PS → Prop} {o : Oper} {rest : List Oper} {TT : List (Nat × Ty)} {tm : List (Nat × D)} {rw' : List (Nat × Option (TypeId × Sq))} {bx : List (Nat × Option (List D))} {cr B : List Nat} {j : Nat}
end
end Go.Proofs.Ytkklfgcelmeccaa
namespace Go.Proofs.Ytkklfgcelmeccaa
open Go.RowKit Go.Deep
theorem VR.str_inv {M : Mp} {A : Bool → Nat → Prop} {w : World} {b : ByteArray} {v : Value} (h : VR M A w (.val (.string b)) v) : v = .string b := by cases h; rfl
section
variable {C : Cx} {o : Oper} {s : PS}
theorem pStrEq {t u : TypeId} {x y : Operand} {a b : ByteArray} (hop : o.op = .binOp .eql t x y u) (hx : s.ev x = .val (.string a)) (hy : s.ev y = .val (.string b)) : Pur C o s (.bool (a.toList == b.toList)) :=
 ⟨fun s1 hs M ac w hr' => by
  have h1 := hr'.ev x
  have h2 := hr'.ev y
  rw [hs x (by rw [hop]; simp [Op.operands]), hx] at h1
  rw [hs y (by rw [hop]; simp [Op.operands]), hy] at h2
  have e1 := h1.str_inv
  have e2 := h2.str_inv
  refine ⟨.bool (a.toList == b.toList), ?_, .bool _⟩
  simp only [execOp, hop, e1, e2]
  simp [eqGuard, go_sem]⟩
theorem pStrNe {t u : TypeId} {x y : Operand} {a b : ByteArray} (hop : o.op = .binOp .neq t x y u) (hx : s.ev x = .val (.string a)) (hy : s.ev y = .val (.string b)) : Pur C o s (.bool (!(a.toList == b.toList))) :=
 ⟨fun s1 hs M ac w hr' => by
  have h1 := hr'.ev x
  have h2 := hr'.ev y
  rw [hs x (by rw [hop]; simp [Op.operands]), hx] at h1
  rw [hs y (by rw [hop]; simp [Op.operands]), hy] at h2
  have e1 := h1.str_inv
  have e2 := h2.str_inv
  refine ⟨.bool (!(a.toList == b.toList)), ?_, .bool _⟩
  simp only [execOp, hop, e1, e2]
  simp [eqGuard, go_sem]⟩
theorem pStrAdd {t u : TypeId} {x y : Operand} {a b : ByteArray} (hop : o.op = .binOp .add t x y u) (hx : s.ev x = .val (.string a)) (hy : s.ev y = .val (.string b)) (hl : a.size + b.size ≤ 9223372036854775807) : Pur C o s (.val (.string (a ++ b))) :=
 ⟨fun s1 hs M ac w hr' => by
  have h1 := hr'.ev x
  have h2 := hr'.ev y
  rw [hs x (by rw [hop]; simp [Op.operands]), hx] at h1
  rw [hs y (by rw [hop]; simp [Op.operands]), hy] at h2
  have e1 := h1.str_inv
  have e2 := h2.str_inv
  refine ⟨.string (a ++ b), ?_, .val _ rfl⟩
  have hg : ¬ ((a.size + b.size : Nat) : Int) > IntKind.i64.max := by
   have : IntKind.i64.max = 9223372036854775807 := by decide
   omega
  simp only [execOp, hop, e1, e2]
  simp [eqGuard, go_sem, Op.stringOp]
  omega⟩
end
end Go.Proofs.Ytkklfgcelmeccaa
namespace Go.Proofs.Ytkklfgcelmeccaa
open Go.RowKit Go.Deep
section
variable {C : Cx} {ops : Array Oper} {K : PS → Prop} {o : Oper} {rest : List Oper} {s : PS} {TT : List (Nat × Ty)} {tm : List (Nat × D)} {rw' : List (Nat × Option (TypeId × Sq))} {bx : List (Nat × Option (List D))} {cr B : List Nat} {j : Nat}
theorem pConvU8 {src dst : TypeId} {x : Operand} {n : Int} {dsrc : TypeDesc} (hs : C.P.underlying src = some dsrc) (hd : C.P.underlying dst = some (.int .u8)) (hop : o.op = .convert src dst x) (hx : s.ev x = .int n) : Pur C o s (.val (.int .u8 (n % 256))) :=
 ⟨fun s1 hs1 M ac w hr' => by
  have h1 := hr'.ev x
  rw [hs1 x (by rw [hop]; simp [Op.operands]), hx] at h1
  have e1 := h1.int_inv
  have hw : IntKind.u8.wrap n = n % 256 := by
   have h2 : (2 : Int) ^ IntKind.u8.bits = 256 := by decide
   have h3 : IntKind.u8.signed = false := by decide
   simp only [IntKind.wrap, h2, h3, Bool.false_and, Bool.false_eq_true, if_false]
  refine ⟨.int .u8 (n % 256), ?_, .val _ rfl⟩
  have hrun : (convert src dst (ac.eval x)).run C.P w = .ok (.int .u8 (n % 256)) w := by
   rw [e1]
   cases dsrc <;> simp [convert, Go.run_underlying hs, Go.run_underlying hd, Conv.intToInt, go_sem, hw]
  unfold execOp
  rw [hop]
  show ((do pure (Next.value (← convert src dst (ac.eval x))) : Sem Next)).run C.P w = _
  rw [Sem.run_bind, hrun]; rfl⟩
theorem oConvB (hw : Wanted C ops o ⟨tm, rw', bx⟩) {src dst e te : TypeId} {x : Operand} {r m b : Nat} {l : List Int} (hs : C.P.underlying src = some (.slice e)) (he : C.P.underlying e = some (.int .u8)) (hdt : C.P.underlying dst = some .string) (hop : o.op = .convert src dst x) (hx : PS.ev ⟨tm, rw', bx⟩ x = .row r 0 m) (hr : PS.r ⟨tm, rw', bx⟩ r = some (te, .bytes l)) (hd : o.dst = some b) (hn : Nat.blt b C.n = true) (hm : m = l.length)
  (h : VO C ops K rest ⟨(b, .val (.string (strOfNums l))) :: tm, rw', bx⟩) : VO C ops K (o :: rest) ⟨tm, rw', bx⟩ := by
 refine oStepW hw (sRun (d := .val (.string (strOfNums l))) (fun M a w hrl => ?_) (by rw [hd]; exact hn) (by rw [hd]; exact h))
 have hev := hrl.ev x
 rw [hx] at hev
 have hrun : (convert src dst (a.eval x)).run C.P w = .ok (.string (strOfNums l)) w := by
  generalize a.eval x = v at hev
  cases hev with
  | row _ _ _ _ h1 h2 =>
   rcases hrl.row r te (.bytes l) hr with ⟨hg, h0⟩ | ⟨g, cap, cur, hg, hh, hl, hmx, hcs, hc⟩
   ·obtain ⟨⟨ao, hv⟩, _, _⟩ := h2 none hg
    have hl0 : l = [] := List.eq_nil_of_length_eq_zero h0
    subst hl0
    rw [hv]
    cases ao with
    | none => rw [run_convert_bytes_nil w src e hs he 0 0 dst hdt]; rfl
    | some ad =>
     obtain ⟨bb, off, rr⟩ := ad
     rw [run_convert_bytes_string w src dst e _ 0 0 hs he hdt, run_bytesToString w _ 0 0 [] (by simp [loadCells, go_sem]; try rfl)]
     rfl
   ·obtain ⟨hle, ao, hv, hao⟩ := h2 _ hg
    have hao' := hao (.inr rfl)
    subst hao'
    rw [hv, Nat.zero_mul]
    have hz : (Sq.bytes l).sz = 1 := rfl
    refine run_convert_bytes_arg w src e hs he g 0 m _ l hm.symm (fun i hi => ?_) dst hdt
    have hil : i < (Sq.bytes l).len := by show i < l.length; omega
    have hlt : i < cur.size := by rw [hcs, hz]; omega
    rw [Nat.zero_add, cell_of_row w g i cur te (0, 0) hh]
    have := hc i 0 (.val (.int .u8 (l.getD i 0))) hil (by rfl)
    rw [hz, Nat.mul_one, Nat.add_zero] at this
    generalize hcu : cur.getD i undef = cv at this
    cases this
    simp [hlt] at hcu ⊢
    exact hcu
 refine ⟨_, ?_, .val _ rfl⟩
 unfold execOp
 rw [hop]
 show ((do pure (Next.value (← convert src dst (a.eval x))) : Sem Next)).run C.P w = _
 rw [Sem.run_bind, hrun]; rfl
def updR (i off : Nat) : Sq → Nat → List D → Option Sq
 | q, _, [] => some q
 | q, k, d :: l => match d.one with | true => (match q.set i (off + k) d with | some q' => updR i off q' (k + 1) l | none => none) | false => none
theorem updR_ok {r off : Nat} {i : Int} {e : TypeId} (hF : notF r = true) : ∀ {l : List D} {q q' : Sq} {k : Nat} {s : PS}, s.r r = some (e, q) → 0 ≤ i ∧ i < q.len → updR i.toNat off q k l = some q' → ∃ (ob : Prop) (s' : PS), ob ∧ wrL s (.eptr r i off) k l = some (ob, s') ∧ (∀ x, s'.t x = s.t x) ∧ (∀ x, s'.r x = if r = x then some (e, q') else s.r x) ∧ ∀ b, s'.b b = s.b b
 | [], q, q', k, s, hr, hi, h => by
  simp only [updR, Option.some.injEq] at h
  subst h
  refine ⟨True, s, trivial, rfl, fun _ => rfl, fun x => ?_, fun _ => rfl⟩
  split
  ·rename_i he; subst he; exact hr
  ·rfl
 | d :: l, q, q', k, s, hr, hi, h => by
  simp only [updR] at h
  split at h
  ·rename_i h1
   split at h
   ·rename_i q1 h2
    have hl := (Sq.set_ok h2).1
    obtain ⟨ob, s', g1, g2, g3, g4, g5⟩ := updR_ok hF (s := s.setR r (some (e, q1))) (i := i) (by rw [PS.r_setR _ _ _ _ hF, if_pos rfl]) (by rw [hl]; exact hi) h
    refine ⟨(0 ≤ i ∧ i < q.len) ∧ ob, s', ⟨hi, g1⟩, ?_, g3, fun x => ?_, g5⟩
    ·simp only [wrL, wr, h1, hF, hr, h2, g2]
    ·rw [g4 x, PS.r_setR _ _ _ _ hF]
     split <;> rfl
   ·cases h
  ·cases h
theorem PS.ap_eq0 (s : PS) (d : D) (rows : List (Nat × Option (TypeId × Sq))) (boxes : List (Nat × Option (List D))) (h : rowsN rows = rows) : s.ap none ⟨d, rows, boxes⟩ = ⟨s.tmp, rows ++ s.row, boxes ++ s.box⟩ := by
 unfold PS.ap Ef.rn
 rw [show (Ef.mk d rows boxes).rows = rows from rfl, h]
theorem nStoreR (hT : TTOK C.P TT) (hw : Wanted C ops o ⟨tm, rw', bx⟩) {t e : TypeId} {p x : Operand} {y : Ty} {r off : Nat} {i : Int} {d : D} {q q1 q' : Sq} (hop : o.op = .store t p x) (hd : o.dst = none) (hy : look TT t = some y) (hp : (PS.ev ⟨tm, rw', bx⟩ p) = .eptr r i off) (hx : (fcD (PS.ev ⟨tm, rw', bx⟩ x) some) = some d) (hfl : d.flat = true) (hsz : Nat.beq d.cells.length (tySize y) = true)
  (hr : (PS.r ⟨tm, rw', bx⟩ r) = some (e, q)) (hu : updR i.toNat off q 0 d.cells = some q1) (hq : fcQ q1 some = some q') (hvis : visB ops cr B j ⟨tm, rw', bx⟩ [p] = true) (hck : chkE ops cr B j ⟨.tup [], [(r, some (e, q'))], []⟩ = true) (hF : notF r = true) (hi : 0 ≤ i ∧ i < q.len)
  (h : QN C ops cr B K (j + 1) rest ⟨tm, (r, some (e, q')) :: rw', bx⟩) : QN C ops cr B K j (o :: rest) ⟨tm, rw', bx⟩ := by
 rw [fcD_eq] at hx
 rw [fcQ_eq] at hq
 cases hx
 cases hq
 refine nStep (e := ⟨.tup [], [(r, some (e, _))], []⟩) hw hck (fun s1 hag => ?_) (by rw [hd, PS.ap_eq0 _ _ _ _ (rowsN_one hF)]; exact h)
 have e1 := hag.ev p (by rw [hop]; simp [Op.operands])
 have e2 := hag.ev x (by rw [hop]; simp [Op.operands])
 have s1p := hag.same hvis p (by simp)
 rw [hp] at s1p
 have hr1 : s1.r r = some (e, q) := by rw [s1p.eptr]; exact hr
 obtain ⟨ob, s', g1, g2, g3, g4, g5⟩ := updR_ok hF (s := s1) (off := off) hr1 hi hu
 refine Step.same (sStore hT hop hd hy (e1.trans hp) e2 hfl hsz g2 ⟨e, q, hr1, hi.1, hi.2⟩ g1 ⟨_, rfl, fun x => ?_, fun r' => ?_, fun c => ?_⟩)
 ·rw [PS.t_ap, hd]; exact (g3 x).symm
 ·rw [hd, PS.ap_eq0 _ _ _ _ (rowsN_one hF), g4]
  exact PS.r_setR s1 r (some (e, q1)) r' hF
 ·rw [PS.b_ap, g5]; rfl
end
end Go.Proofs.Ytkklfgcelmeccaa
namespace Go.Proofs.Ytkklfgcelmeccaa
open Go.RowKit
end Go.Proofs.Ytkklfgcelmeccaa
namespace Go.Proofs.Ytkklfgcelmeccaa
open Go.RowKit
end Go.Proofs.Ytkklfgcelmeccaa
namespace Go.Proofs.Ytkklfgcelmeccaa
open Go.RowKit
end Go.Proofs.Ytkklfgcelmeccaa
namespace Go.Proofs.Ytkklfgcelmeccaa
open Go.RowKit
end Go.Proofs.Ytkklfgcelmeccaa
namespace Go.Proofs.Ytkklfgcelmeccaa
open Go.RowKit
end Go.Proofs.Ytkklfgcelmeccaa
namespace Go.Proofs.Ytkklfgcelmeccaa
open Go.RowKit
end Go.Proofs.Ytkklfgcelmeccaa
namespace Go.Proofs.Ytkklfgcelmeccaa
open Go.RowKit
end Go.Proofs.Ytkklfgcelmeccaa
namespace Go.Proofs.Ytkklfgcelmeccaa
open Go.RowKit
end Go.Proofs.Ytkklfgcelmeccaa
namespace Go.Proofs.Ytkklfgcelmeccaa
open Go.RowKit Go.Deep
end Go.Proofs.Ytkklfgcelmeccaa
namespace Go.Proofs.Ytkklfgcelmeccaa
open Go.RowKit
end Go.Proofs.Ytkklfgcelmeccaa
namespace Go.Proofs.Ytkklfgcelmeccaa
open Go.RowKit
end Go.Proofs.Ytkklfgcelmeccaa
namespace Go.Proofs.Ytkklfgcelmeccaa
open Go.RowKit
end Go.Proofs.Ytkklfgcelmeccaa
namespace Go.Proofs.Ytkklfgcelmeccaa
open Go.RowKit
end Go.Proofs.Ytkklfgcelmeccaa
namespace Go.Proofs.Ytkklfgcelmeccaa
open Go.RowKit
end Go.Proofs.Ytkklfgcelmeccaa
namespace Go.Proofs.Ytkklfgcelmeccaa
open Go.RowKit
end Go.Proofs.Ytkklfgcelmeccaa
namespace Go.Proofs.Ytkklfgcelmeccaa
open Go.RowKit
end Go.Proofs.Ytkklfgcelmeccaa
namespace Go.Proofs.Ytkklfgcelmeccaa
open Go.RowKit
end Go.Proofs.Ytkklfgcelmeccaa
namespace Go.Proofs.Ytkklfgcelmeccaa
open Go.RowKit Go.Deep
end Go.Proofs.Ytkklfgcelmeccaa
namespace Go.Proofs.Ytkklfgcelmeccaa
open Go.RowKit
end Go.Proofs.Ytkklfgcelmeccaa
namespace Go.Proofs.Ytkklfgcelmeccaa
open Go.RowKit
end Go.Proofs.Ytkklfgcelmeccaa
namespace Go.Proofs.Ytkklfgcelmeccaa
open Go.RowKit
end Go.Proofs.Ytkklfgcelmeccaa
namespace Go.Proofs.Ytkklfgcelmeccaa
open Go.RowKit
end Go.Proofs.Ytkklfgcelmeccaa
namespace Go.Proofs.Ytkklfgcelmeccaa
open Go.RowKit
end Go.Proofs.Ytkklfgcelmeccaa
namespace Go.Proofs.Ytkklfgcelmeccaa
open Go.RowKit
end Go.Proofs.Ytkklfgcelmeccaa
namespace Go.Proofs.Ytkklfgcelmeccaa
open Go.RowKit
end Go.Proofs.Ytkklfgcelmeccaa
namespace Go.Proofs.Ytkklfgcelmeccaa
open Go.RowKit
end Go.Proofs.Ytkklfgcelmeccaa
namespace Go.Proofs.Ytkklfgcelmeccaa
open Go.RowKit
end Go.Proofs.Ytkklfgcelmeccaa
namespace Go.Proofs.Ytkklfgcelmeccaa
open Go.RowKit Go.Deep
def I_glued_l1 (N : Nat) (l_0 : List ByteArray) (by_1 : ByteArray) (k : ByteArray → Option (ByteArray)) : Nat → (ByteArray × Int) → Option (ByteArray)
 | 0, _ => none
 | n + 1, (s5, x6) =>
  cnd (decide (x6 < (l_0.length : Int))) (
   grd (0 ≤ x6 ∧ x6 < (l_0.length : Int)) <|
   cnd (decide (x6 > (0 : Int))) (
    grd (s5.size + by_1.size ≤ 9223372036854775807) <|
    grd ((s5 ++ by_1).size + (l_0.getD ((x6).toNat) ByteArray.empty).size ≤ 9223372036854775807) <|
    grd (Rg64 (x6 + (1 : Int))) <|
    I_glued_l1 N l_0 by_1 k n (((s5 ++ by_1) ++ (l_0.getD ((x6).toNat) ByteArray.empty)), (x6 + (1 : Int)))) (
    grd (s5.size + (l_0.getD ((x6).toNat) ByteArray.empty).size ≤ 9223372036854775807) <|
    grd (Rg64 (x6 + (1 : Int))) <|
    I_glued_l1 N l_0 by_1 k n ((s5 ++ (l_0.getD ((x6).toNat) ByteArray.empty)), (x6 + (1 : Int))))) (
   k s5)
def I_glued (N : Nat) (l_0 : List ByteArray) (by_1 : ByteArray) : Option (ByteArray) :=
 I_glued_l1 N l_0 by_1 (fun (s3 : ByteArray) =>
    some s3) N ((ByteArray.mk #[]), (0 : Int))
set_option maxRecDepth 20000 in
set_option maxHeartbeats 1600000 in
theorem I_glued_w (N : Nat) (l_0 : List ByteArray) (by_1 : ByteArray) (r : ByteArray) (h : I_glued N l_0 by_1 = some r) : PCall Try.prog 37 [.ro false (.strs l_0), .val (.string by_1)] [] (.val (.string r)) := by
 unfold I_glued at h
 refine pcall_intro (TT := TT) tt Try.func37 rfl rfl Try.ntmps37 (congrArg Array.toList Try.results37) rfl rfl fun w0 => ?_
 refine vSeq ?_
 refine vRegion ?_
 refine oVal tt rfl rfl rfl rfl rfl trivial ?_
 refine vNil ?_
 change VC _ _ _ _
 refine vSeq ?_
 refine vRegion ?_
 refine oVal tt rfl rfl rfl rfl rfl trivial ?_
 refine vNil ?_
 change VC _ _ _ _
 iterate 2 refine vSeq ?_
 refine vRegion ?_
 iterate 3 refine oVal tt rfl rfl rfl rfl rfl trivial ?_
 refine vNil ?_
 change VC _ _ _ _
 refine vJoin (F := fun k => I_glued_l1 N l_0 by_1 k) h (α := ByteArray) (J := fun (s3 : ByteArray) => (⟨[(5, .val (.string s3))], [], []⟩ : PS)) ?_ ?_
 ·rintro s3 h
  show VC _ _ _ (⟨[(5, .val (.string s3))], [], []⟩ : PS)
  refine vSeq ?_
  refine vRegion ?_
  iterate 2 refine oVal tt rfl rfl rfl rfl rfl trivial ?_
  refine vNil ?_
  change VC _ _ _ _
  refine vRet ?_
  change ∃ _, _
  cases h
  exact ⟨[], _, rfl, trivial, rfl, (.eq rfl), rfl⟩
 ·intro k h
  refine vBlock ?_
  refine vLoopS (α := ByteArray × Int) (fun | (s5, x6) => (⟨[(1, .val (.string by_1)), (5, .val (.string s5)), (8, .ro false (.strs l_0)), (9, .int (l_0.length : Int)), (10, .int x6)], [], []⟩ : PS)) (I_glued_l1 N l_0 by_1 k) h (En.of ⟨rfl, rfl, rfl, rfl, rfl, trivial⟩ trivial trivial) (fun _ => rfl) ?_
  rintro n ⟨s5, x6⟩ h
  rw [I_glued_l1] at h
  show VC _ _ _ (⟨[(1, .val (.string by_1)), (5, .val (.string s5)), (8, .ro false (.strs l_0)), (9, .int (l_0.length : Int)), (10, .int x6)], [], []⟩ : PS)
  refine vSeq ?_
  refine vRegion ?_
  refine oVal tt rfl rfl rfl rfl rfl trivial ?_
  refine vNil ?_
  change VC _ _ _ _
  refine vSeq ?_
  refine vCond rfl (fun hb1 => ?_) (fun hb1 => ?_)
  ·replace h := cnd_t hb1 h
   refine vSkip ?_
   change VC _ _ _ _
   refine vSeq ?_
   refine vBlock ?_
   refine vSeq ?_
   refine vRegion ?_
   refine oVal tt rfl rfl rfl rfl rfl trivial ?_
   obtain ⟨hg2, h⟩ := grd_inv h
   refine oVal tt rfl rfl rfl rfl rfl hg2 ?_
   iterate 3 refine oVal tt rfl rfl rfl rfl rfl trivial ?_
   refine vNil ?_
   change VC _ _ _ _
   iterate 2 refine vSeq ?_
   refine vRegion ?_
   iterate 2 refine oVal tt rfl rfl rfl rfl rfl trivial ?_
   refine vNil ?_
   change VC _ _ _ _
   refine vCond rfl (fun hb3 => ?_) (fun hb3 => ?_)
   ·replace h := cnd_t hb3 h
    refine vRegion ?_
    iterate 2 refine oVal tt rfl rfl rfl rfl rfl trivial ?_
    obtain ⟨hg4, h⟩ := grd_inv h
    refine oPure (wNone rfl) (pStrAdd rfl rfl rfl hg4) rfl rfl ?_
    refine oVal tt rfl rfl rfl rfl rfl trivial ?_
    refine vNil ?_
    change VC _ _ _ _
    refine vRegion ?_
    iterate 2 refine oVal tt rfl rfl rfl rfl rfl trivial ?_
    obtain ⟨hg5, h⟩ := grd_inv h
    refine oPure (wNone rfl) (pStrAdd rfl rfl rfl hg5) rfl rfl ?_
    refine oVal tt rfl rfl rfl rfl rfl trivial ?_
    refine vNil ?_
    change VC _ _ _ _
    refine vRegion ?_
    obtain ⟨hg6, h⟩ := grd_inv h
    refine oVal tt rfl rfl rfl rfl rfl hg6 ?_
    refine oVal tt rfl rfl rfl rfl rfl trivial ?_
    refine vNil ?_
    change ∃ _, _
    exact ⟨(((s5 ++ by_1) ++ (l_0.getD ((x6).toNat) ByteArray.empty)), (x6 + (1 : Int))), (En.of ⟨rfl, rfl, rfl, rfl, rfl, trivial⟩ trivial trivial), h⟩
   ·replace h := cnd_f hb3 h
    refine vSkip ?_
    change VC _ _ _ _
    refine vRegion ?_
    iterate 2 refine oVal tt rfl rfl rfl rfl rfl trivial ?_
    obtain ⟨hg7, h⟩ := grd_inv h
    refine oPure (wNone rfl) (pStrAdd rfl rfl rfl hg7) rfl rfl ?_
    refine oVal tt rfl rfl rfl rfl rfl trivial ?_
    refine vNil ?_
    change VC _ _ _ _
    refine vRegion ?_
    obtain ⟨hg8, h⟩ := grd_inv h
    refine oVal tt rfl rfl rfl rfl rfl hg8 ?_
    refine oVal tt rfl rfl rfl rfl rfl trivial ?_
    refine vNil ?_
    change ∃ _, _
    exact ⟨((s5 ++ (l_0.getD ((x6).toNat) ByteArray.empty)), (x6 + (1 : Int))), (En.of ⟨rfl, rfl, rfl, rfl, rfl, trivial⟩ trivial trivial), h⟩
  ·replace h := cnd_f hb1 h
   refine vExit ?_
   change ∃ _, _
   exact ⟨s5, (En.of ⟨rfl, trivial⟩ trivial trivial), h⟩
end Go.Proofs.Ytkklfgcelmeccaa
namespace Go.Proofs.Ytkklfgcelmeccaa
open Go.RowKit
def S_FormatInt_l1 (N : Nat) (k : ByteArray → Option (ByteArray)) : Nat → (Int × ByteArray) → Option (ByteArray)
 | 0, _ => none
 | n + 1, (n5, out6) =>
  cnd (n5 != (0 : Int)) (
   grd ((10 : Int) ≠ 0) <|
   cnd (decide ((Int.tmod n5 (10 : Int)) < (0 : Int))) (
    grd (Rg64 (-(Int.tmod n5 (10 : Int)))) <|
    grd (Rg64 ((48 : Int) + (-(Int.tmod n5 (10 : Int))))) <|
    grd ((strOfNums ([(((48 : Int) + (-(Int.tmod n5 (10 : Int)))) % 256)] : List Int)).size + out6.size ≤ 9223372036854775807) <|
    grd ((10 : Int) ≠ 0 ∧ Rg64 (Int.tdiv n5 (10 : Int))) <|
    S_FormatInt_l1 N k n ((Int.tdiv n5 (10 : Int)), ((strOfNums ([(((48 : Int) + (-(Int.tmod n5 (10 : Int)))) % 256)] : List Int)) ++ out6))) (
    grd (Rg64 ((48 : Int) + (Int.tmod n5 (10 : Int)))) <|
    grd ((strOfNums ([(((48 : Int) + (Int.tmod n5 (10 : Int))) % 256)] : List Int)).size + out6.size ≤ 9223372036854775807) <|
    grd ((10 : Int) ≠ 0 ∧ Rg64 (Int.tdiv n5 (10 : Int))) <|
    S_FormatInt_l1 N k n ((Int.tdiv n5 (10 : Int)), ((strOfNums ([(((48 : Int) + (Int.tmod n5 (10 : Int))) % 256)] : List Int)) ++ out6)))) (
   k out6)
def S_FormatInt (N : Nat) (n_0 : Int) : Option (ByteArray) :=
 cnd (n_0 == (0 : Int)) (
  some (ByteArray.mk #[48])) (
  S_FormatInt_l1 N (fun (out3 : ByteArray) =>
     cnd (decide (n_0 < (0 : Int))) (
      grd ((ByteArray.mk #[45]).size + out3.size ≤ 9223372036854775807) <|
      some ((ByteArray.mk #[45]) ++ out3)) (
      some out3)) N (n_0, (ByteArray.mk #[])))
set_option maxRecDepth 20000 in
set_option maxHeartbeats 1600000 in
theorem S_FormatInt_w (N : Nat) (n_0 : Int) (r : ByteArray) (h : S_FormatInt N n_0 = some r) : PCall Try.prog 33 [.int n_0] [] (.val (.string r)) := by
 unfold S_FormatInt at h
 refine pcall_intro (TT := TT) tt Try.func33 rfl rfl Try.ntmps33 (congrArg Array.toList Try.results33) rfl rfl fun w0 => ?_
 refine vSeq ?_
 refine vRegion ?_
 refine oVal tt rfl rfl rfl rfl rfl trivial ?_
 refine vNil ?_
 change VC _ _ _ _
 iterate 2 refine vSeq ?_
 refine vRegion ?_
 iterate 2 refine oVal tt rfl rfl rfl rfl rfl trivial ?_
 refine vNil ?_
 change VC _ _ _ _
 refine vCond rfl (fun hb1 => ?_) (fun hb1 => ?_)
 ·replace h := cnd_t hb1 h
  refine vSeq ?_
  refine vRegion ?_
  refine oVal tt rfl rfl rfl rfl rfl trivial ?_
  refine vNil ?_
  change VC _ _ _ _
  refine vRet ?_
  change ∃ _, _
  cases h
  exact ⟨[], _, rfl, trivial, rfl, (.eq rfl), rfl⟩
 ·replace h := cnd_f hb1 h
  refine vSkip ?_
  change VC _ _ _ _
  refine vSeq ?_
  refine vRegion ?_
  refine oVal tt rfl rfl rfl rfl rfl trivial ?_
  refine vNil ?_
  change VC _ _ _ _
  refine vSeq ?_
  refine vRegion ?_
  iterate 3 refine oVal tt rfl rfl rfl rfl rfl trivial ?_
  refine vNil ?_
  change VC _ _ _ _
  refine vSeq ?_
  refine vJoin (F := fun k => S_FormatInt_l1 N k) h (α := ByteArray) (J := fun (out3 : ByteArray) => (⟨[(3, .val (.string out3)), (4, .bool (decide (n_0 < (0 : Int))))], [], []⟩ : PS)) ?_ ?_
  ·rintro out3 h
   show VC _ _ _ (⟨[(3, .val (.string out3)), (4, .bool (decide (n_0 < (0 : Int))))], [], []⟩ : PS)
   iterate 2 refine vSeq ?_
   refine vRegion ?_
   refine oVal tt rfl rfl rfl rfl rfl trivial ?_
   refine vNil ?_
   change VC _ _ _ _
   refine vCond rfl (fun hb2 => ?_) (fun hb2 => ?_)
   ·replace h := cnd_t hb2 h
    refine vSeq ?_
    refine vRegion ?_
    refine oVal tt rfl rfl rfl rfl rfl trivial ?_
    obtain ⟨hg3, h⟩ := grd_inv h
    refine oPure (wNone rfl) (pStrAdd rfl rfl rfl hg3) rfl rfl ?_
    refine oVal tt rfl rfl rfl rfl rfl trivial ?_
    refine vNil ?_
    change VC _ _ _ _
    refine vRet ?_
    change ∃ _, _
    cases h
    exact ⟨[], _, rfl, trivial, rfl, (.eq rfl), rfl⟩
   ·replace h := cnd_f hb2 h
    refine vSkip ?_
    change VC _ _ _ _
    refine vSeq ?_
    refine vRegion ?_
    iterate 2 refine oVal tt rfl rfl rfl rfl rfl trivial ?_
    refine vNil ?_
    change VC _ _ _ _
    refine vRet ?_
    change ∃ _, _
    cases h
    exact ⟨[], _, rfl, trivial, rfl, (.eq rfl), rfl⟩
  ·intro k h
   refine vBlock ?_
   refine vLoopS (α := Int × ByteArray) (fun | (n5, out6) => (⟨[(0, .int n5), (3, .val (.string out6)), (4, .bool (decide (n_0 < (0 : Int))))], [], []⟩ : PS)) (S_FormatInt_l1 N k) h (En.of ⟨rfl, rfl, rfl, trivial⟩ trivial trivial) (fun _ => rfl) ?_
   rintro n ⟨n5, out6⟩ h
   rw [S_FormatInt_l1] at h
   show VC _ _ _ (⟨[(0, .int n5), (3, .val (.string out6)), (4, .bool (decide (n_0 < (0 : Int))))], [], []⟩ : PS)
   iterate 2 refine vSeq ?_
   refine vRegion ?_
   iterate 2 refine oVal tt rfl rfl rfl rfl rfl trivial ?_
   refine vNil ?_
   change VC _ _ _ _
   refine vCond rfl (fun hb4 => ?_) (fun hb4 => ?_)
   ·replace h := cnd_t hb4 h
    refine vSkip ?_
    change VC _ _ _ _
    refine vBlock ?_
    refine vSeq ?_
    refine vRegion ?_
    refine oVal tt rfl rfl rfl rfl rfl trivial ?_
    obtain ⟨hg5, h⟩ := grd_inv h
    refine oVal tt rfl rfl rfl rfl rfl hg5 ?_
    refine oVal tt rfl rfl rfl rfl rfl trivial ?_
    refine vNil ?_
    change VC _ _ _ _
    iterate 2 refine vSeq ?_
    refine vRegion ?_
    iterate 2 refine oVal tt rfl rfl rfl rfl rfl trivial ?_
    refine vNil ?_
    change VC _ _ _ _
    refine vCond rfl (fun hb6 => ?_) (fun hb6 => ?_)
    ·replace h := cnd_t hb6 h
     refine vRegion ?_
     refine oVal tt rfl rfl rfl rfl rfl trivial ?_
     obtain ⟨hg7, h⟩ := grd_inv h
     refine oVal tt rfl rfl rfl rfl rfl hg7 ?_
     refine oVal tt rfl rfl rfl rfl rfl trivial ?_
     refine vNil ?_
     change VC _ _ _ _
     refine vSeq ?_
     refine vRegion ?_
     refine oVal tt rfl rfl rfl rfl rfl trivial ?_
     obtain ⟨hg8, h⟩ := grd_inv h
     refine oVal tt rfl rfl rfl rfl rfl hg8 ?_
     refine oPure (wNone rfl) (pConvU8 Try.underlying3 Try.underlying5 rfl rfl) rfl rfl ?_
     refine oBuild tt rfl rfl rfl rfl rfl rfl rfl rfl rfl rfl rfl ?_
     refine oConvB (wNone rfl) Try.underlying108 Try.underlying5 Try.underlying9 rfl rfl rfl rfl rfl rfl ?_
     refine oVal tt rfl rfl rfl rfl rfl trivial ?_
     obtain ⟨hg9, h⟩ := grd_inv h
     refine oPure (wNone rfl) (pStrAdd rfl rfl rfl hg9) rfl rfl ?_
     refine oVal tt rfl rfl rfl rfl rfl trivial ?_
     refine vNil ?_
     change VC _ _ _ _
     refine vRegion ?_
     refine oVal tt rfl rfl rfl rfl rfl trivial ?_
     obtain ⟨hg10, h⟩ := grd_inv h
     refine oVal tt rfl rfl rfl rfl rfl hg10 ?_
     refine oVal tt rfl rfl rfl rfl rfl trivial ?_
     refine vNil ?_
     change ∃ _, _
     exact ⟨((Int.tdiv n5 (10 : Int)), ((strOfNums ([(((48 : Int) + (-(Int.tmod n5 (10 : Int)))) % 256)] : List Int)) ++ out6)), (En.of ⟨rfl, rfl, rfl, trivial⟩ trivial trivial), h⟩
    ·replace h := cnd_f hb6 h
     refine vSkip ?_
     change VC _ _ _ _
     refine vSeq ?_
     refine vRegion ?_
     refine oVal tt rfl rfl rfl rfl rfl trivial ?_
     obtain ⟨hg11, h⟩ := grd_inv h
     refine oVal tt rfl rfl rfl rfl rfl hg11 ?_
     refine oPure (wNone rfl) (pConvU8 Try.underlying3 Try.underlying5 rfl rfl) rfl rfl ?_
     refine oBuild tt rfl rfl rfl rfl rfl rfl rfl rfl rfl rfl rfl ?_
     refine oConvB (wNone rfl) Try.underlying108 Try.underlying5 Try.underlying9 rfl rfl rfl rfl rfl rfl ?_
     refine oVal tt rfl rfl rfl rfl rfl trivial ?_
     obtain ⟨hg12, h⟩ := grd_inv h
     refine oPure (wNone rfl) (pStrAdd rfl rfl rfl hg12) rfl rfl ?_
     refine oVal tt rfl rfl rfl rfl rfl trivial ?_
     refine vNil ?_
     change VC _ _ _ _
     refine vRegion ?_
     refine oVal tt rfl rfl rfl rfl rfl trivial ?_
     obtain ⟨hg13, h⟩ := grd_inv h
     refine oVal tt rfl rfl rfl rfl rfl hg13 ?_
     refine oVal tt rfl rfl rfl rfl rfl trivial ?_
     refine vNil ?_
     change ∃ _, _
     exact ⟨((Int.tdiv n5 (10 : Int)), ((strOfNums ([(((48 : Int) + (Int.tmod n5 (10 : Int))) % 256)] : List Int)) ++ out6)), (En.of ⟨rfl, rfl, rfl, trivial⟩ trivial trivial), h⟩
   ·replace h := cnd_f hb4 h
    refine vExit ?_
    change ∃ _, _
    exact ⟨out6, (En.of ⟨rfl, rfl, trivial⟩ trivial trivial), h⟩
def S_FormatRaising_l2 (N : Nat) (l_0 : List (Int × List Int)) (i114 : Int) (k : ByteArray → Option (ByteArray)) : Nat → (ByteArray × Int) → Option (ByteArray)
 | 0, _ => none
 | n + 1, (s160, k161) =>
  cnd (decide (k161 < (((l_0.getD ((i114).toNat) (0, [])).2).length : Int))) (
   jn (fun (s165 : ByteArray) =>
      grd (0 ≤ k161 ∧ k161 < (((l_0.getD ((i114).toNat) (0, [])).2).length : Int)) <|
      (S_FormatInt N (((l_0.getD ((i114).toNat) (0, [])).2).getD ((k161).toNat) 0)).bind fun v166 =>
      grd (s165.size + v166.size ≤ 9223372036854775807) <|
      grd (Rg64 (k161 + (1 : Int))) <|
      S_FormatRaising_l2 N l_0 i114 k n ((s165 ++ v166), (k161 + (1 : Int)))) fun k167 =>
    cnd (decide (k161 > (0 : Int))) (
     grd (s160.size + (ByteArray.mk #[44]).size ≤ 9223372036854775807) <|
     k167 (s160 ++ (ByteArray.mk #[44]))) (
     k167 s160)) (
   k s160)
def S_FormatRaising_l1 (N : Nat) (l_0 : List (Int × List Int)) (k : ByteArray → Option (ByteArray)) : Nat → (ByteArray × Int) → Option (ByteArray)
 | 0, _ => none
 | n + 1, (s113, i114) =>
  cnd (decide (i114 < (l_0.length : Int))) (
   jn (fun (s142 : ByteArray) =>
      grd (0 ≤ i114 ∧ i114 < (l_0.length : Int)) <|
      (S_FormatInt N ((l_0.getD ((i114).toNat) (0, [])).1)).bind fun v143 =>
      grd (s142.size + v143.size ≤ 9223372036854775807) <|
      grd ((s142 ++ v143).size + (ByteArray.mk #[58]).size ≤ 9223372036854775807) <|
      S_FormatRaising_l2 N l_0 i114 (fun (s155 : ByteArray) =>
         grd (Rg64 (i114 + (1 : Int))) <|
         S_FormatRaising_l1 N l_0 k n (s155, (i114 + (1 : Int)))) N (((s142 ++ v143) ++ (ByteArray.mk #[58])), (0 : Int))) fun k168 =>
    cnd (decide (i114 > (0 : Int))) (
     grd (s113.size + (ByteArray.mk #[32]).size ≤ 9223372036854775807) <|
     k168 (s113 ++ (ByteArray.mk #[32]))) (
     k168 s113)) (
   k s113)
def S_FormatRaising (N : Nat) (l_0 : List (Int × List Int)) : Option (ByteArray) :=
 S_FormatRaising_l1 N l_0 (fun (s84 : ByteArray) =>
    cnd (s84.toList == (ByteArray.mk #[]).toList) (
     some (ByteArray.mk #[110, 111, 110, 101])) (
     some s84)) N ((ByteArray.mk #[]), (0 : Int))
set_option maxRecDepth 20000 in
set_option maxHeartbeats 1600000 in
theorem S_FormatRaising_w (N : Nat) (l_0 : List (Int × List Int)) (r : ByteArray) (h : S_FormatRaising N l_0 = some r) : PCall Try.prog 8 [.ro false (.raises l_0)] [] (.val (.string r)) := by
 unfold S_FormatRaising at h
 refine pcall_intro (TT := TT) tt Try.func8 rfl rfl Try.ntmps8 (congrArg Array.toList Try.results8) rfl rfl fun w0 => ?_
 refine vSeq ?_
 refine vRegion ?_
 refine oVal tt rfl rfl rfl rfl rfl trivial ?_
 refine vNil ?_
 change VC _ _ _ _
 refine vSeq ?_
 refine vRegion ?_
 refine oVal tt rfl rfl rfl rfl rfl trivial ?_
 refine vNil ?_
 change VC _ _ _ _
 iterate 2 refine vSeq ?_
 refine vRegion ?_
 refine oVal tt rfl rfl rfl rfl rfl trivial ?_
 refine vNil ?_
 change VC _ _ _ _
 refine vJoin (F := fun k => S_FormatRaising_l1 N l_0 k) h (α := ByteArray) (J := fun (s84 : ByteArray) => (⟨[(3, .val (.string s84))], [], []⟩ : PS)) ?_ ?_
 ·rintro s84 h
  show VC _ _ _ (⟨[(3, .val (.string s84))], [], []⟩ : PS)
  iterate 2 refine vSeq ?_
  refine vRegion ?_
  refine oVal tt rfl rfl rfl rfl rfl trivial ?_
  refine oPure (wNone rfl) (pStrEq rfl rfl rfl) rfl rfl ?_
  refine vNil ?_
  change VC _ _ _ _
  refine vCond rfl (fun hb1 => ?_) (fun hb1 => ?_)
  ·replace h := cnd_t hb1 h
   refine vSeq ?_
   refine vRegion ?_
   refine oVal tt rfl rfl rfl rfl rfl trivial ?_
   refine vNil ?_
   change VC _ _ _ _
   refine vRet ?_
   change ∃ _, _
   cases h
   exact ⟨[], _, rfl, trivial, rfl, (.eq rfl), rfl⟩
  ·replace h := cnd_f hb1 h
   refine vSkip ?_
   change VC _ _ _ _
   refine vSeq ?_
   refine vRegion ?_
   iterate 2 refine oVal tt rfl rfl rfl rfl rfl trivial ?_
   refine vNil ?_
   change VC _ _ _ _
   refine vRet ?_
   change ∃ _, _
   cases h
   exact ⟨[], _, rfl, trivial, rfl, (.eq rfl), rfl⟩
 ·intro k h
  refine vBlock ?_
  refine vLoopS (α := ByteArray × Int) (fun | (s113, i114) => (⟨[(0, .ro false (.raises l_0)), (3, .val (.string s113)), (4, .int i114)], [], []⟩ : PS)) (S_FormatRaising_l1 N l_0 k) h (En.of ⟨rfl, rfl, rfl, trivial⟩ trivial trivial) (fun _ => rfl) ?_
  rintro n ⟨s113, i114⟩ h
  rw [S_FormatRaising_l1] at h
  show VC _ _ _ (⟨[(0, .ro false (.raises l_0)), (3, .val (.string s113)), (4, .int i114)], [], []⟩ : PS)
  iterate 2 refine vSeq ?_
  refine vRegion ?_
  iterate 4 refine oVal tt rfl rfl rfl rfl rfl trivial ?_
  refine vNil ?_
  change VC _ _ _ _
  refine vCond rfl (fun hb2 => ?_) (fun hb2 => ?_)
  ·replace h := cnd_t hb2 h
   refine vSkip ?_
   change VC _ _ _ _
   refine vSeq ?_
   refine vBlock ?_
   iterate 2 refine vSeq ?_
   refine vRegion ?_
   iterate 2 refine oVal tt rfl rfl rfl rfl rfl trivial ?_
   refine vNil ?_
   change VC _ _ _ _
   refine vJoinN h (α := ByteArray) (J := fun (s142 : ByteArray) => (⟨[(0, .ro false (.raises l_0)), (3, .val (.string s142)), (4, .int i114)], [], []⟩ : PS)) ?_ ?_
   ·rintro s142 h
    show VC _ _ _ (⟨[(0, .ro false (.raises l_0)), (3, .val (.string s142)), (4, .int i114)], [], []⟩ : PS)
    refine vSeq ?_
    refine vRegion ?_
    iterate 3 refine oVal tt rfl rfl rfl rfl rfl trivial ?_
    obtain ⟨hg3, h⟩ := grd_inv h
    refine oVal tt rfl rfl rfl rfl rfl hg3 ?_
    iterate 2 refine oVal tt rfl rfl rfl rfl rfl trivial ?_
    obtain ⟨v143, hc4, h⟩ := bind_inv h
    refine oCall (S_FormatInt_w N ((l_0.getD ((i114).toNat) (0, [])).1) v143 hc4) rfl rfl rfl rfl rfl rfl rfl rfl ⟨rfl, trivial⟩ ?_
    obtain ⟨hg5, h⟩ := grd_inv h
    refine oPure (wNone rfl) (pStrAdd rfl rfl rfl hg5) rfl rfl ?_
    obtain ⟨hg6, h⟩ := grd_inv h
    refine oPure (wNone rfl) (pStrAdd rfl rfl rfl hg6) rfl rfl ?_
    refine oVal tt rfl rfl rfl rfl rfl trivial ?_
    refine vNil ?_
    change VC _ _ _ _
    refine vSeq ?_
    refine vRegion ?_
    refine oVal tt rfl rfl rfl rfl rfl trivial ?_
    refine vNil ?_
    change VC _ _ _ _
    refine vJoin (F := fun k => S_FormatRaising_l2 N l_0 i114 k) h (α := ByteArray) (J := fun (s155 : ByteArray) => (⟨[(0, .ro false (.raises l_0)), (3, .val (.string s155)), (4, .int i114)], [], []⟩ : PS)) ?_ ?_
    ·rintro s155 h
     show VC _ _ _ (⟨[(0, .ro false (.raises l_0)), (3, .val (.string s155)), (4, .int i114)], [], []⟩ : PS)
     refine vRegion ?_
     refine oVal tt rfl rfl rfl rfl rfl trivial ?_
     obtain ⟨hg7, h⟩ := grd_inv h
     refine oVal tt rfl rfl rfl rfl rfl hg7 ?_
     refine oVal tt rfl rfl rfl rfl rfl trivial ?_
     refine vNil ?_
     change ∃ _, _
     exact ⟨(s155, (i114 + (1 : Int))), (En.of ⟨rfl, rfl, rfl, trivial⟩ trivial trivial), h⟩
    ·intro k h
     refine vBlock ?_
     refine vLoopS (α := ByteArray × Int) (fun | (s160, k161) => (⟨[(0, .ro false (.raises l_0)), (3, .val (.string s160)), (4, .int i114), (5, .int k161)], [], []⟩ : PS)) (S_FormatRaising_l2 N l_0 i114 k) h (En.of ⟨rfl, rfl, rfl, rfl, trivial⟩ trivial trivial) (fun _ => rfl) ?_
     rintro n ⟨s160, k161⟩ h
     rw [S_FormatRaising_l2] at h
     show VC _ _ _ (⟨[(0, .ro false (.raises l_0)), (3, .val (.string s160)), (4, .int i114), (5, .int k161)], [], []⟩ : PS)
     iterate 2 refine vSeq ?_
     refine vRegion ?_
     iterate 3 refine oVal tt rfl rfl rfl rfl rfl trivial ?_
     refine oVal tt rfl rfl rfl rfl rfl hg3 ?_
     iterate 4 refine oVal tt rfl rfl rfl rfl rfl trivial ?_
     refine vNil ?_
     change VC _ _ _ _
     refine vCond rfl (fun hb8 => ?_) (fun hb8 => ?_)
     ·replace h := cnd_t hb8 h
      refine vSkip ?_
      change VC _ _ _ _
      refine vSeq ?_
      refine vBlock ?_
      iterate 2 refine vSeq ?_
      refine vRegion ?_
      iterate 2 refine oVal tt rfl rfl rfl rfl rfl trivial ?_
      refine vNil ?_
      change VC _ _ _ _
      refine vJoinN h (α := ByteArray) (J := fun (s165 : ByteArray) => (⟨[(0, .ro false (.raises l_0)), (3, .val (.string s165)), (4, .int i114), (5, .int k161)], [], []⟩ : PS)) ?_ ?_
      ·rintro s165 h
       show VC _ _ _ (⟨[(0, .ro false (.raises l_0)), (3, .val (.string s165)), (4, .int i114), (5, .int k161)], [], []⟩ : PS)
       refine vRegion ?_
       iterate 3 refine oVal tt rfl rfl rfl rfl rfl trivial ?_
       refine oVal tt rfl rfl rfl rfl rfl hg3 ?_
       iterate 3 refine oVal tt rfl rfl rfl rfl rfl trivial ?_
       obtain ⟨hg9, h⟩ := grd_inv h
       refine oVal tt rfl rfl rfl rfl rfl hg9 ?_
       refine oVal tt rfl rfl rfl rfl rfl trivial ?_
       obtain ⟨v166, hc10, h⟩ := bind_inv h
       refine oCall (S_FormatInt_w N (((l_0.getD ((i114).toNat) (0, [])).2).getD ((k161).toNat) 0) v166 hc10) rfl rfl rfl rfl rfl rfl rfl rfl ⟨rfl, trivial⟩ ?_
       obtain ⟨hg11, h⟩ := grd_inv h
       refine oPure (wNone rfl) (pStrAdd rfl rfl rfl hg11) rfl rfl ?_
       refine oVal tt rfl rfl rfl rfl rfl trivial ?_
       refine vNil ?_
       change VC _ _ _ _
       refine vRegion ?_
       refine oVal tt rfl rfl rfl rfl rfl trivial ?_
       obtain ⟨hg12, h⟩ := grd_inv h
       refine oVal tt rfl rfl rfl rfl rfl hg12 ?_
       refine oVal tt rfl rfl rfl rfl rfl trivial ?_
       refine vNil ?_
       change ∃ _, _
       exact ⟨((s165 ++ v166), (k161 + (1 : Int))), (En.of ⟨rfl, rfl, rfl, rfl, trivial⟩ trivial trivial), h⟩
      ·intro k167 h
       refine vCond rfl (fun hb13 => ?_) (fun hb13 => ?_)
       ·replace h := cnd_t hb13 h
        refine vRegion ?_
        refine oVal tt rfl rfl rfl rfl rfl trivial ?_
        obtain ⟨hg14, h⟩ := grd_inv h
        refine oPure (wNone rfl) (pStrAdd rfl rfl rfl hg14) rfl rfl ?_
        refine oVal tt rfl rfl rfl rfl rfl trivial ?_
        refine vNil ?_
        change ∃ _, _
        exact ⟨(s160 ++ (ByteArray.mk #[44])), (En.of ⟨rfl, rfl, rfl, rfl, trivial⟩ trivial trivial), h⟩
       ·replace h := cnd_f hb13 h
        refine vSkip ?_
        change ∃ _, _
        exact ⟨s160, (En.of ⟨rfl, rfl, rfl, rfl, trivial⟩ trivial trivial), h⟩
     ·replace h := cnd_f hb8 h
      refine vExit ?_
      change ∃ _, _
      exact ⟨s160, (En.of ⟨rfl, rfl, rfl, trivial⟩ trivial trivial), h⟩
   ·intro k168 h
    refine vCond rfl (fun hb15 => ?_) (fun hb15 => ?_)
    ·replace h := cnd_t hb15 h
     refine vRegion ?_
     refine oVal tt rfl rfl rfl rfl rfl trivial ?_
     obtain ⟨hg16, h⟩ := grd_inv h
     refine oPure (wNone rfl) (pStrAdd rfl rfl rfl hg16) rfl rfl ?_
     refine oVal tt rfl rfl rfl rfl rfl trivial ?_
     refine vNil ?_
     change ∃ _, _
     exact ⟨(s113 ++ (ByteArray.mk #[32])), (En.of ⟨rfl, rfl, rfl, trivial⟩ trivial trivial), h⟩
    ·replace h := cnd_f hb15 h
     refine vSkip ?_
     change ∃ _, _
     exact ⟨s113, (En.of ⟨rfl, rfl, rfl, trivial⟩ trivial trivial), h⟩
  ·replace h := cnd_f hb2 h
   refine vExit ?_
   change ∃ _, _
   exact ⟨s113, (En.of ⟨rfl, trivial⟩ trivial trivial), h⟩
def I_FormatInt_l1 (N : Nat) (l4 : List Int) (k : (List Int) → Option (ByteArray)) : Nat → ((List Int) × Int × Int) → Option (ByteArray)
 | 0, _ => none
 | n + 1, (l10, i11, j12) =>
  cnd (decide (i11 < j12)) (
   grd (0 ≤ j12 ∧ j12 < (l4.length : Int)) <|
   grd (0 ≤ j12 ∧ j12 < (l10.length : Int)) <|
   grd (0 ≤ i11 ∧ i11 < (l4.length : Int)) <|
   grd (0 ≤ i11 ∧ i11 < (l10.length : Int)) <|
   grd (0 ≤ j12 ∧ j12 < ((l10.set ((i11).toNat) (l10.getD ((j12).toNat) 0)).length : Int)) <|
   grd (Rg64 (i11 + (1 : Int))) <|
   grd (Rg64 (j12 - (1 : Int))) <|
   I_FormatInt_l1 N l4 k n (((l10.set ((i11).toNat) (l10.getD ((j12).toNat) 0)).set ((j12).toNat) (l10.getD ((i11).toNat) 0)), (i11 + (1 : Int)), (j12 - (1 : Int)))) (
   k l10)
def I_FormatInt_l2 (N : Nat) (k : (List Int) → Option (ByteArray)) : Nat → ((List Int) × Int) → Option (ByteArray)
 | 0, _ => none
 | n + 1, (l15, m16) =>
  cnd (m16 != (0 : Int)) (
   grd ((10 : Int) ≠ 0) <|
   cnd (decide ((Int.tmod m16 (10 : Int)) < (0 : Int))) (
    grd (Rg64 (-(Int.tmod m16 (10 : Int)))) <|
    grd (Rg64 ((48 : Int) + (-(Int.tmod m16 (10 : Int))))) <|
    grd (l15.length + 1 ≤ 4294967296) <|
    grd ((10 : Int) ≠ 0 ∧ Rg64 (Int.tdiv m16 (10 : Int))) <|
    I_FormatInt_l2 N k n ((l15 ++ ([(((48 : Int) + (-(Int.tmod m16 (10 : Int)))) % 256)] : List Int)), (Int.tdiv m16 (10 : Int)))) (
    grd (Rg64 ((48 : Int) + (Int.tmod m16 (10 : Int)))) <|
    grd (l15.length + 1 ≤ 4294967296) <|
    grd ((10 : Int) ≠ 0 ∧ Rg64 (Int.tdiv m16 (10 : Int))) <|
    I_FormatInt_l2 N k n ((l15 ++ ([(((48 : Int) + (Int.tmod m16 (10 : Int))) % 256)] : List Int)), (Int.tdiv m16 (10 : Int))))) (
   k l15)
def I_FormatInt (N : Nat) (n_0 : Int) : Option (ByteArray) :=
 cnd (n_0 == (0 : Int)) (
  some (ByteArray.mk #[48])) (
  I_FormatInt_l2 N (fun (l3 : List Int) =>
     jn (fun (l4 : List Int) =>
        grd (Rg64 ((l4.length : Int) - (1 : Int))) <|
        I_FormatInt_l1 N l4 (fun (l8 : List Int) =>
           grd (l4.length = l8.length) <|
           some (strOfNums l8)) N (l4, (0 : Int), ((l4.length : Int) - (1 : Int)))) fun k13 =>
      cnd (decide (n_0 < (0 : Int))) (
       grd (l3.length + 1 ≤ 4294967296) <|
       k13 (l3 ++ ([(45 : Int)] : List Int))) (
       k13 l3)) N (([] : List Int), n_0))
set_option maxRecDepth 20000 in
set_option maxHeartbeats 1600000 in
theorem I_FormatInt_w (N : Nat) (n_0 : Int) (r : ByteArray) (h : I_FormatInt N n_0 = some r) : PCall Try.prog 35 [.int n_0] [] (.val (.string r)) := by
 unfold I_FormatInt at h
 refine pcall_intro (TT := TT) tt Try.func35 rfl rfl Try.ntmps35 (congrArg Array.toList Try.results35) rfl rfl fun w0 => ?_
 refine vSeq ?_
 refine vRegion ?_
 refine oVal tt rfl rfl rfl rfl rfl trivial ?_
 refine vNil ?_
 change VC _ _ _ _
 iterate 2 refine vSeq ?_
 refine vRegion ?_
 iterate 2 refine oVal tt rfl rfl rfl rfl rfl trivial ?_
 refine vNil ?_
 change VC _ _ _ _
 refine vCond rfl (fun hb1 => ?_) (fun hb1 => ?_)
 ·replace h := cnd_t hb1 h
  refine vSeq ?_
  refine vRegion ?_
  refine oVal tt rfl rfl rfl rfl rfl trivial ?_
  refine vNil ?_
  change VC _ _ _ _
  refine vRet ?_
  change ∃ _, _
  cases h
  exact ⟨[], _, rfl, trivial, rfl, (.eq rfl), rfl⟩
 ·replace h := cnd_f hb1 h
  refine vSkip ?_
  change VC _ _ _ _
  refine vSeq ?_
  refine vRegion ?_
  refine oEmpty tt (wNone rfl) rfl rfl rfl rfl ?_
  refine oVal tt rfl rfl rfl rfl rfl trivial ?_
  refine vNil ?_
  change VC _ _ _ _
  iterate 2 refine vSeq ?_
  refine vRegion ?_
  iterate 2 refine oVal tt rfl rfl rfl rfl rfl trivial ?_
  refine vNil ?_
  change VC _ _ _ _
  refine vJoin (F := fun k => I_FormatInt_l2 N k) h (α := List Int) (J := fun (l3 : List Int) => (⟨[(0, .int n_0), (3, .row 27 0 l3.length)], [(27, some (5, .bytes l3))], []⟩ : PS)) ?_ ?_
  ·rintro l3 h
   show VC _ _ _ (⟨[(0, .int n_0), (3, .row 27 0 l3.length)], [(27, some (5, .bytes l3))], []⟩ : PS)
   iterate 2 refine vSeq ?_
   refine vRegion ?_
   iterate 2 refine oVal tt rfl rfl rfl rfl rfl trivial ?_
   refine vNil ?_
   change VC _ _ _ _
   refine vJoinN h (α := List Int) (J := fun (l4 : List Int) => (⟨[(3, .row 27 0 l4.length)], [(27, some (5, .bytes l4))], []⟩ : PS)) ?_ ?_
   ·rintro l4 h
    show VC _ _ _ (⟨[(3, .row 27 0 l4.length)], [(27, some (5, .bytes l4))], []⟩ : PS)
    iterate 2 refine vSeq ?_
    refine vRegion ?_
    iterate 2 refine oVal tt rfl rfl rfl rfl rfl trivial ?_
    obtain ⟨hg2, h⟩ := grd_inv h
    refine oVal tt rfl rfl rfl rfl rfl hg2 ?_
    iterate 2 refine oVal tt rfl rfl rfl rfl rfl trivial ?_
    refine vNil ?_
    change VC _ _ _ _
    refine vJoin (F := fun k => I_FormatInt_l1 N l4 k) h (α := List Int) (J := fun (l8 : List Int) => (⟨[(3, .row 27 0 l4.length)], [(27, some (5, .bytes l8))], []⟩ : PS)) ?_ ?_
    ·rintro l8 h
     show VC _ _ _ (⟨[(3, .row 27 0 l4.length)], [(27, some (5, .bytes l8))], []⟩ : PS)
     refine vSeq ?_
     refine vRegion ?_
     refine oVal tt rfl rfl rfl rfl rfl trivial ?_
     obtain ⟨hg3, h⟩ := grd_inv h
     refine oConvB (wNone rfl) Try.underlying108 Try.underlying5 Try.underlying9 rfl rfl rfl rfl rfl hg3 ?_
     refine oVal tt rfl rfl rfl rfl rfl trivial ?_
     refine vNil ?_
     change VC _ _ _ _
     refine vRet ?_
     change ∃ _, _
     cases h
     exact ⟨[], _, rfl, trivial, rfl, (.eq rfl), rfl⟩
    ·intro k h
     refine vBlock ?_
     refine vLoopS (α := (List Int) × Int × Int) (fun | (l10, i11, j12) => (⟨[(3, .row 27 0 l4.length), (6, .int i11), (7, .int j12)], [(27, some (5, .bytes l10))], []⟩ : PS)) (I_FormatInt_l1 N l4 k) h (En.of ⟨rfl, rfl, rfl, trivial⟩ ⟨rfl, trivial⟩ trivial) (fun _ => rfl) ?_
     rintro n ⟨l10, i11, j12⟩ h
     rw [I_FormatInt_l1] at h
     show VC _ _ _ (⟨[(3, .row 27 0 l4.length), (6, .int i11), (7, .int j12)], [(27, some (5, .bytes l10))], []⟩ : PS)
     iterate 2 refine vSeq ?_
     refine vRegion ?_
     iterate 3 refine oVal tt rfl rfl rfl rfl rfl trivial ?_
     refine vNil ?_
     change VC _ _ _ _
     refine vCond rfl (fun hb4 => ?_) (fun hb4 => ?_)
     ·replace h := cnd_t hb4 h
      refine vSkip ?_
      change VC _ _ _ _
      refine vSeq ?_
      refine vBlock ?_
      refine vRegionN 14 [1130000027] [0, 0, 0, 0, 0, 0, 48, 112, 0, 0, 768, 1792, 4083, 8179, 16383, 32767] (by kernel_rfl) (by kernel_rfl) (by kernel_rfl) (by kernel_rfl) (by kernel_rfl) rfl (by rfl) ?_
      iterate 6 refine nVal tt rfl (wNone rfl) rfl rfl rfl rfl rfl trivial ?_
      obtain ⟨hg5, h⟩ := grd_inv h
      refine nVal tt rfl (wNone rfl) rfl rfl rfl rfl rfl hg5 ?_
      obtain ⟨hg6, h⟩ := grd_inv h
      refine nVal tt rfl (wNone rfl) rfl rfl rfl rfl rfl hg6 ?_
      iterate 2 refine nVal tt rfl (wNone rfl) rfl rfl rfl rfl rfl trivial ?_
      obtain ⟨hg7, h⟩ := grd_inv h
      refine nVal tt rfl (wNone rfl) rfl rfl rfl rfl rfl hg7 ?_
      obtain ⟨hg8, h⟩ := grd_inv h
      refine nVal tt rfl (wNone rfl) rfl rfl rfl rfl rfl hg8 ?_
      refine nVal tt rfl (wNone rfl) rfl rfl rfl rfl rfl hg7 ?_
      refine nStoreR tt (wNone rfl) rfl rfl rfl rfl rfl rfl rfl rfl rfl rfl rfl rfl rfl hg8 ?_
      refine nNil ?_
      change VO _ _ _ _ _
      refine oVal tt rfl rfl rfl rfl rfl hg5 ?_
      obtain ⟨hg9, h⟩ := grd_inv h
      refine oStore tt rfl rfl rfl rfl rfl rfl rfl rfl rfl rfl ⟨_, _, rfl, hg9.1, hg9.2⟩ ⟨hg9, trivial⟩ ?_
      refine vNil ?_
      change VC _ _ _ _
      refine vRegion ?_
      refine oVal tt rfl rfl rfl rfl rfl trivial ?_
      obtain ⟨hg10, h⟩ := grd_inv h
      refine oVal tt rfl rfl rfl rfl rfl hg10 ?_
      refine oVal tt rfl rfl rfl rfl rfl trivial ?_
      obtain ⟨hg11, h⟩ := grd_inv h
      refine oVal tt rfl rfl rfl rfl rfl hg11 ?_
      iterate 2 refine oVal tt rfl rfl rfl rfl rfl trivial ?_
      refine vNil ?_
      change ∃ _, _
      exact ⟨(((l10.set ((i11).toNat) (l10.getD ((j12).toNat) 0)).set ((j12).toNat) (l10.getD ((i11).toNat) 0)), (i11 + (1 : Int)), (j12 - (1 : Int))), (En.of ⟨rfl, rfl, rfl, trivial⟩ ⟨rfl, trivial⟩ trivial), h⟩
     ·replace h := cnd_f hb4 h
      refine vExit ?_
      change ∃ _, _
      exact ⟨l10, (En.of ⟨rfl, trivial⟩ ⟨rfl, trivial⟩ trivial), h⟩
   ·intro k13 h
    refine vCond rfl (fun hb12 => ?_) (fun hb12 => ?_)
    ·replace h := cnd_t hb12 h
     refine vRegion ?_
     refine oVal tt rfl rfl rfl rfl rfl trivial ?_
     refine oBuild tt rfl rfl rfl rfl rfl rfl rfl rfl rfl rfl rfl ?_
     obtain ⟨hg13, h⟩ := grd_inv h
     refine oAppend tt rfl rfl rfl rfl rfl rfl rfl rfl rfl rfl rfl rfl rfl rfl rfl rfl (Nat.le_of_eq (Nat.zero_add _)) hg13 ?_
     refine oVal tt rfl rfl rfl rfl rfl trivial ?_
     refine vNil ?_
     change ∃ _, _
     exact ⟨(l3 ++ ([(45 : Int)] : List Int)), (En.of ⟨rfl, trivial⟩ ⟨rfl, trivial⟩ trivial), h⟩
    ·replace h := cnd_f hb12 h
     refine vSkip ?_
     change ∃ _, _
     exact ⟨l3, (En.of ⟨rfl, trivial⟩ ⟨rfl, trivial⟩ trivial), h⟩
  ·intro k h
   refine vBlock ?_
   refine vNilT 3 27 5 (.bytes []) rfl rfl rfl rfl ?_
   refine vLoopS (α := (List Int) × Int) (fun | (l15, m16) => (⟨[(0, .int n_0), (3, .row 27 0 l15.length), (4, .int m16)], [(27, some (5, .bytes l15))], []⟩ : PS)) (I_FormatInt_l2 N k) h (En.of ⟨rfl, rfl, rfl, trivial⟩ ⟨rfl, trivial⟩ trivial) (fun _ => rfl) ?_
   rintro n ⟨l15, m16⟩ h
   rw [I_FormatInt_l2] at h
   show VC _ _ _ (⟨[(0, .int n_0), (3, .row 27 0 l15.length), (4, .int m16)], [(27, some (5, .bytes l15))], []⟩ : PS)
   iterate 2 refine vSeq ?_
   refine vRegion ?_
   iterate 2 refine oVal tt rfl rfl rfl rfl rfl trivial ?_
   refine vNil ?_
   change VC _ _ _ _
   refine vCond rfl (fun hb14 => ?_) (fun hb14 => ?_)
   ·replace h := cnd_t hb14 h
    refine vSkip ?_
    change VC _ _ _ _
    refine vSeq ?_
    refine vBlock ?_
    refine vSeq ?_
    refine vRegion ?_
    refine oVal tt rfl rfl rfl rfl rfl trivial ?_
    obtain ⟨hg15, h⟩ := grd_inv h
    refine oVal tt rfl rfl rfl rfl rfl hg15 ?_
    refine oVal tt rfl rfl rfl rfl rfl trivial ?_
    refine vNil ?_
    change VC _ _ _ _
    iterate 2 refine vSeq ?_
    refine vRegion ?_
    iterate 2 refine oVal tt rfl rfl rfl rfl rfl trivial ?_
    refine vNil ?_
    change VC _ _ _ _
    refine vCond rfl (fun hb16 => ?_) (fun hb16 => ?_)
    ·replace h := cnd_t hb16 h
     refine vRegion ?_
     refine oVal tt rfl rfl rfl rfl rfl trivial ?_
     obtain ⟨hg17, h⟩ := grd_inv h
     refine oVal tt rfl rfl rfl rfl rfl hg17 ?_
     refine oVal tt rfl rfl rfl rfl rfl trivial ?_
     refine vNil ?_
     change VC _ _ _ _
     refine vRegion ?_
     iterate 2 refine oVal tt rfl rfl rfl rfl rfl trivial ?_
     obtain ⟨hg18, h⟩ := grd_inv h
     refine oVal tt rfl rfl rfl rfl rfl hg18 ?_
     refine oPure (wNone rfl) (pConvU8 Try.underlying3 Try.underlying5 rfl rfl) rfl rfl ?_
     refine oBuild tt rfl rfl rfl rfl rfl rfl rfl rfl rfl rfl rfl ?_
     obtain ⟨hg19, h⟩ := grd_inv h
     refine oAppend tt rfl rfl rfl rfl rfl rfl rfl rfl rfl rfl rfl rfl rfl rfl rfl rfl (Nat.le_of_eq (Nat.zero_add _)) hg19 ?_
     refine oVal tt rfl rfl rfl rfl rfl trivial ?_
     refine vNil ?_
     change VC _ _ _ _
     refine vRegion ?_
     refine oVal tt rfl rfl rfl rfl rfl trivial ?_
     obtain ⟨hg20, h⟩ := grd_inv h
     refine oVal tt rfl rfl rfl rfl rfl hg20 ?_
     refine oVal tt rfl rfl rfl rfl rfl trivial ?_
     refine vNil ?_
     change ∃ _, _
     exact ⟨((l15 ++ ([(((48 : Int) + (-(Int.tmod m16 (10 : Int)))) % 256)] : List Int)), (Int.tdiv m16 (10 : Int))), (En.of ⟨rfl, rfl, rfl, trivial⟩ ⟨rfl, trivial⟩ trivial), h⟩
    ·replace h := cnd_f hb16 h
     refine vSkip ?_
     change VC _ _ _ _
     refine vRegion ?_
     iterate 2 refine oVal tt rfl rfl rfl rfl rfl trivial ?_
     obtain ⟨hg21, h⟩ := grd_inv h
     refine oVal tt rfl rfl rfl rfl rfl hg21 ?_
     refine oPure (wNone rfl) (pConvU8 Try.underlying3 Try.underlying5 rfl rfl) rfl rfl ?_
     refine oBuild tt rfl rfl rfl rfl rfl rfl rfl rfl rfl rfl rfl ?_
     obtain ⟨hg22, h⟩ := grd_inv h
     refine oAppend tt rfl rfl rfl rfl rfl rfl rfl rfl rfl rfl rfl rfl rfl rfl rfl rfl (Nat.le_of_eq (Nat.zero_add _)) hg22 ?_
     refine oVal tt rfl rfl rfl rfl rfl trivial ?_
     refine vNil ?_
     change VC _ _ _ _
     refine vRegion ?_
     refine oVal tt rfl rfl rfl rfl rfl trivial ?_
     obtain ⟨hg23, h⟩ := grd_inv h
     refine oVal tt rfl rfl rfl rfl rfl hg23 ?_
     refine oVal tt rfl rfl rfl rfl rfl trivial ?_
     refine vNil ?_
     change ∃ _, _
     exact ⟨((l15 ++ ([(((48 : Int) + (Int.tmod m16 (10 : Int))) % 256)] : List Int)), (Int.tdiv m16 (10 : Int))), (En.of ⟨rfl, rfl, rfl, trivial⟩ ⟨rfl, trivial⟩ trivial), h⟩
   ·replace h := cnd_f hb14 h
    refine vExit ?_
    change ∃ _, _
    exact ⟨l15, (En.of ⟨rfl, rfl, trivial⟩ ⟨rfl, trivial⟩ trivial), h⟩
def I_numbers_l1 (N : Nat) (l_0 : List Int) (k : (List ByteArray) → Option (ByteArray)) : Nat → ((List ByteArray) × Int) → Option (ByteArray)
 | 0, _ => none
 | n + 1, (l12, x13) =>
  cnd (decide (x13 < (l_0.length : Int))) (
   grd (0 ≤ x13 ∧ x13 < (l_0.length : Int)) <|
   (I_FormatInt N (l_0.getD ((x13).toNat) 0)).bind fun v15 =>
   grd (l12.length + 1 ≤ 4294967296) <|
   grd (Rg64 (x13 + (1 : Int))) <|
   I_numbers_l1 N l_0 k n ((l12 ++ ([v15] : List ByteArray)), (x13 + (1 : Int)))) (
   k l12)
def I_numbers (N : Nat) (l_0 : List Int) : Option (ByteArray) :=
 I_numbers_l1 N l_0 (fun (l7 : List ByteArray) =>
    (I_glued N l7 (ByteArray.mk #[44])).bind fun v8 =>
    some v8) N (([] : List ByteArray), (0 : Int))
set_option maxRecDepth 20000 in
set_option maxHeartbeats 1600000 in
theorem I_numbers_w (N : Nat) (l_0 : List Int) (r : ByteArray) (h : I_numbers N l_0 = some r) : PCall Try.prog 36 [.ro false (.ints l_0)] [] (.val (.string r)) := by
 unfold I_numbers at h
 refine pcall_intro (TT := TT) tt Try.func36 rfl rfl Try.ntmps36 (congrArg Array.toList Try.results36) rfl rfl fun w0 => ?_
 refine vSeq ?_
 refine vRegion ?_
 refine oVal tt rfl rfl rfl rfl rfl trivial ?_
 refine vNil ?_
 change VC _ _ _ _
 refine vSeq ?_
 refine vRegion ?_
 refine oEmpty tt (wNone rfl) rfl rfl rfl rfl ?_
 refine oVal tt rfl rfl rfl rfl rfl trivial ?_
 refine vNil ?_
 change VC _ _ _ _
 iterate 2 refine vSeq ?_
 refine vRegion ?_
 iterate 3 refine oVal tt rfl rfl rfl rfl rfl trivial ?_
 refine vNil ?_
 change VC _ _ _ _
 refine vJoin (F := fun k => I_numbers_l1 N l_0 k) h (α := List ByteArray) (J := fun (l7 : List ByteArray) => (⟨[(3, .row 17 0 l7.length)], [(17, some (9, .strs l7))], []⟩ : PS)) ?_ ?_
 ·rintro l7 h
  show VC _ _ _ (⟨[(3, .row 17 0 l7.length)], [(17, some (9, .strs l7))], []⟩ : PS)
  refine vSeq ?_
  refine vRegion ?_
  refine oVal tt rfl rfl rfl rfl rfl trivial ?_
  obtain ⟨v8, hc1, h⟩ := bind_inv h
  refine oCall (I_glued_w N l7 (ByteArray.mk #[44]) v8 hc1) rfl rfl rfl rfl rfl rfl rfl rfl ⟨(.inl ⟨rfl, rfl⟩), rfl, trivial⟩ ?_
  refine oVal tt rfl rfl rfl rfl rfl trivial ?_
  refine vNil ?_
  change VC _ _ _ _
  refine vRet ?_
  change ∃ _, _
  cases h
  exact ⟨[], _, rfl, trivial, rfl, (.eq rfl), rfl⟩
 ·intro k h
  refine vBlock ?_
  refine vNilT 3 17 9 (.strs []) rfl rfl rfl rfl ?_
  refine vLoopS (α := (List ByteArray) × Int) (fun | (l12, x13) => (⟨[(3, .row 17 0 l12.length), (7, .ro false (.ints l_0)), (8, .int (l_0.length : Int)), (9, .int x13)], [(17, some (9, .strs l12))], []⟩ : PS)) (I_numbers_l1 N l_0 k) h (En.of ⟨rfl, rfl, rfl, rfl, trivial⟩ ⟨rfl, trivial⟩ trivial) (fun _ => rfl) ?_
  rintro n ⟨l12, x13⟩ h
  rw [I_numbers_l1] at h
  show VC _ _ _ (⟨[(3, .row 17 0 l12.length), (7, .ro false (.ints l_0)), (8, .int (l_0.length : Int)), (9, .int x13)], [(17, some (9, .strs l12))], []⟩ : PS)
  refine vSeq ?_
  refine vRegion ?_
  refine oVal tt rfl rfl rfl rfl rfl trivial ?_
  refine vNil ?_
  change VC _ _ _ _
  refine vSeq ?_
  refine vCond rfl (fun hb2 => ?_) (fun hb2 => ?_)
  ·replace h := cnd_t hb2 h
   refine vSkip ?_
   change VC _ _ _ _
   refine vSeq ?_
   refine vBlock ?_
   refine vSeq ?_
   refine vRegion ?_
   obtain ⟨hg3, h⟩ := grd_inv h
   refine oVal tt rfl rfl rfl rfl rfl hg3 ?_
   iterate 2 refine oVal tt rfl rfl rfl rfl rfl trivial ?_
   refine vNil ?_
   change VC _ _ _ _
   refine vRegion ?_
   iterate 2 refine oVal tt rfl rfl rfl rfl rfl trivial ?_
   obtain ⟨v15, hc4, h⟩ := bind_inv h
   refine oCall (I_FormatInt_w N (l_0.getD ((x13).toNat) 0) v15 hc4) rfl rfl rfl rfl rfl rfl rfl rfl ⟨rfl, trivial⟩ ?_
   refine oBuild tt rfl rfl rfl rfl rfl rfl rfl rfl rfl rfl rfl ?_
   obtain ⟨hg5, h⟩ := grd_inv h
   refine oAppend tt rfl rfl rfl rfl rfl rfl rfl rfl rfl rfl rfl rfl rfl rfl rfl rfl (Nat.le_of_eq (Nat.zero_add _)) hg5 ?_
   refine oVal tt rfl rfl rfl rfl rfl trivial ?_
   refine vNil ?_
   change VC _ _ _ _
   refine vRegion ?_
   obtain ⟨hg6, h⟩ := grd_inv h
   refine oVal tt rfl rfl rfl rfl rfl hg6 ?_
   refine oVal tt rfl rfl rfl rfl rfl trivial ?_
   refine vNil ?_
   change ∃ _, _
   exact ⟨((l12 ++ ([v15] : List ByteArray)), (x13 + (1 : Int))), (En.of ⟨rfl, rfl, rfl, rfl, trivial⟩ ⟨rfl, trivial⟩ trivial), h⟩
  ·replace h := cnd_f hb2 h
   refine vExit ?_
   change ∃ _, _
   exact ⟨l12, (En.of ⟨rfl, trivial⟩ ⟨rfl, trivial⟩ trivial), h⟩
def I_FormatRaising_l1 (N : Nat) (l_0 : List (Int × List Int)) (k : (List ByteArray) → Option (ByteArray)) : Nat → ((List ByteArray) × Int) → Option (ByteArray)
 | 0, _ => none
 | n + 1, (l18, x19) =>
  cnd (decide (x19 < (l_0.length : Int))) (
   grd (0 ≤ x19 ∧ x19 < (l_0.length : Int)) <|
   (I_FormatInt N ((l_0.getD ((x19).toNat) (0, [])).1)).bind fun v22 =>
   grd (v22.size + (ByteArray.mk #[58]).size ≤ 9223372036854775807) <|
   (I_numbers N ((l_0.getD ((x19).toNat) (0, [])).2)).bind fun v23 =>
   grd ((v22 ++ (ByteArray.mk #[58])).size + v23.size ≤ 9223372036854775807) <|
   grd (l18.length + 1 ≤ 4294967296) <|
   grd (Rg64 (x19 + (1 : Int))) <|
   I_FormatRaising_l1 N l_0 k n ((l18 ++ ([((v22 ++ (ByteArray.mk #[58])) ++ v23)] : List ByteArray)), (x19 + (1 : Int)))) (
   k l18)
def I_FormatRaising (N : Nat) (l_0 : List (Int × List Int)) : Option (ByteArray) :=
 cnd ((l_0.length : Int) == (0 : Int)) (
  some (ByteArray.mk #[110, 111, 110, 101])) (
  I_FormatRaising_l1 N l_0 (fun (l11 : List ByteArray) =>
     (I_glued N l11 (ByteArray.mk #[32])).bind fun v12 =>
     some v12) N (([] : List ByteArray), (0 : Int)))
set_option maxRecDepth 20000 in
set_option maxHeartbeats 1600000 in
theorem I_FormatRaising_w (N : Nat) (l_0 : List (Int × List Int)) (r : ByteArray) (h : I_FormatRaising N l_0 = some r) : PCall Try.prog 10 [.ro false (.raises l_0)] [] (.val (.string r)) := by
 unfold I_FormatRaising at h
 refine pcall_intro (TT := TT) tt Try.func10 rfl rfl Try.ntmps10 (congrArg Array.toList Try.results10) rfl rfl fun w0 => ?_
 refine vSeq ?_
 refine vRegion ?_
 refine oVal tt rfl rfl rfl rfl rfl trivial ?_
 refine vNil ?_
 change VC _ _ _ _
 iterate 2 refine vSeq ?_
 refine vRegion ?_
 iterate 3 refine oVal tt rfl rfl rfl rfl rfl trivial ?_
 refine vNil ?_
 change VC _ _ _ _
 refine vCond rfl (fun hb1 => ?_) (fun hb1 => ?_)
 ·replace h := cnd_t hb1 h
  refine vSeq ?_
  refine vRegion ?_
  refine oVal tt rfl rfl rfl rfl rfl trivial ?_
  refine vNil ?_
  change VC _ _ _ _
  refine vRet ?_
  change ∃ _, _
  cases h
  exact ⟨[], _, rfl, trivial, rfl, (.eq rfl), rfl⟩
 ·replace h := cnd_f hb1 h
  refine vSkip ?_
  change VC _ _ _ _
  refine vSeq ?_
  refine vRegion ?_
  refine oEmpty tt (wNone rfl) rfl rfl rfl rfl ?_
  refine oVal tt rfl rfl rfl rfl rfl trivial ?_
  refine vNil ?_
  change VC _ _ _ _
  iterate 2 refine vSeq ?_
  refine vRegion ?_
  iterate 3 refine oVal tt rfl rfl rfl rfl rfl trivial ?_
  refine vNil ?_
  change VC _ _ _ _
  refine vJoin (F := fun k => I_FormatRaising_l1 N l_0 k) h (α := List ByteArray) (J := fun (l11 : List ByteArray) => (⟨[(3, .row 26 0 l11.length)], [(26, some (9, .strs l11))], []⟩ : PS)) ?_ ?_
  ·rintro l11 h
   show VC _ _ _ (⟨[(3, .row 26 0 l11.length)], [(26, some (9, .strs l11))], []⟩ : PS)
   refine vSeq ?_
   refine vRegion ?_
   refine oVal tt rfl rfl rfl rfl rfl trivial ?_
   obtain ⟨v12, hc2, h⟩ := bind_inv h
   refine oCall (I_glued_w N l11 (ByteArray.mk #[32]) v12 hc2) rfl rfl rfl rfl rfl rfl rfl rfl ⟨(.inl ⟨rfl, rfl⟩), rfl, trivial⟩ ?_
   refine oVal tt rfl rfl rfl rfl rfl trivial ?_
   refine vNil ?_
   change VC _ _ _ _
   refine vRet ?_
   change ∃ _, _
   cases h
   exact ⟨[], _, rfl, trivial, rfl, (.eq rfl), rfl⟩
  ·intro k h
   refine vBlock ?_
   refine vNilT 3 26 9 (.strs []) rfl rfl rfl rfl ?_
   refine vLoopS (α := (List ByteArray) × Int) (fun | (l18, x19) => (⟨[(3, .row 26 0 l18.length), (10, .ro false (.raises l_0)), (11, .int (l_0.length : Int)), (12, .int x19)], [(26, some (9, .strs l18))], []⟩ : PS)) (I_FormatRaising_l1 N l_0 k) h (En.of ⟨rfl, rfl, rfl, rfl, trivial⟩ ⟨rfl, trivial⟩ trivial) (fun _ => rfl) ?_
   rintro n ⟨l18, x19⟩ h
   rw [I_FormatRaising_l1] at h
   show VC _ _ _ (⟨[(3, .row 26 0 l18.length), (10, .ro false (.raises l_0)), (11, .int (l_0.length : Int)), (12, .int x19)], [(26, some (9, .strs l18))], []⟩ : PS)
   refine vSeq ?_
   refine vRegion ?_
   refine oVal tt rfl rfl rfl rfl rfl trivial ?_
   refine vNil ?_
   change VC _ _ _ _
   refine vSeq ?_
   refine vCond rfl (fun hb3 => ?_) (fun hb3 => ?_)
   ·replace h := cnd_t hb3 h
    refine vSkip ?_
    change VC _ _ _ _
    refine vSeq ?_
    refine vBlock ?_
    refine vSeq ?_
    refine vRegion ?_
    obtain ⟨hg4, h⟩ := grd_inv h
    refine oVal tt rfl rfl rfl rfl rfl hg4 ?_
    refine oVal tt rfl rfl rfl rfl rfl trivial ?_
    refine oAlloc tt rfl rfl rfl rfl rfl rfl rfl rfl rfl ?_
    refine oStore tt rfl rfl rfl rfl rfl rfl rfl rfl rfl rfl rfl ⟨trivial, trivial, trivial⟩ ?_
    refine vNil ?_
    change VC _ _ _ _
    refine vRegionN 10 [9] [0, 0, 2, 6, 14, 0, 32, 110, 254, 510, 1023, 2047] (by kernel_rfl) (by kernel_rfl) (by kernel_rfl) (by kernel_rfl) (by kernel_rfl) rfl (by rfl) ?_
    iterate 3 refine nVal tt rfl (wNone rfl) rfl rfl rfl rfl rfl trivial ?_
    obtain ⟨v22, hc5, h⟩ := bind_inv h
    refine nCall (I_FormatInt_w N ((l_0.getD ((x19).toNat) (0, [])).1) v22 hc5) rfl (wNone rfl) rfl rfl rfl rfl rfl rfl rfl rfl ⟨rfl, trivial⟩ ?_
    obtain ⟨hg6, h⟩ := grd_inv h
    refine nPure (wNone rfl) (pStrAdd rfl rfl rfl hg6) rfl rfl rfl rfl ?_
    iterate 2 refine nVal tt rfl (wNone rfl) rfl rfl rfl rfl rfl trivial ?_
    obtain ⟨v23, hc7, h⟩ := bind_inv h
    refine nCall (I_numbers_w N ((l_0.getD ((x19).toNat) (0, [])).2) v23 hc7) rfl (wNone rfl) rfl rfl rfl rfl rfl rfl rfl rfl ⟨rfl, trivial⟩ ?_
    obtain ⟨hg8, h⟩ := grd_inv h
    refine nPure (wNone rfl) (pStrAdd rfl rfl rfl hg8) rfl rfl rfl rfl ?_
    refine nBuild tt (wNone rfl) rfl rfl rfl rfl rfl rfl rfl rfl rfl rfl rfl rfl ?_
    refine nNil ?_
    change VO _ _ _ _ _
    obtain ⟨hg9, h⟩ := grd_inv h
    refine oAppend tt rfl rfl rfl rfl rfl rfl rfl rfl rfl rfl rfl rfl rfl rfl rfl rfl (Nat.le_of_eq (Nat.zero_add _)) hg9 ?_
    refine oVal tt rfl rfl rfl rfl rfl trivial ?_
    refine vNil ?_
    change VC _ _ _ _
    refine vRegion ?_
    obtain ⟨hg10, h⟩ := grd_inv h
    refine oVal tt rfl rfl rfl rfl rfl hg10 ?_
    refine oVal tt rfl rfl rfl rfl rfl trivial ?_
    refine vNil ?_
    change ∃ _, _
    exact ⟨((l18 ++ ([((v22 ++ (ByteArray.mk #[58])) ++ v23)] : List ByteArray)), (x19 + (1 : Int))), (En.of ⟨rfl, rfl, rfl, rfl, trivial⟩ ⟨rfl, trivial⟩ trivial), h⟩
   ·replace h := cnd_f hb3 h
    refine vExit ?_
    change ∃ _, _
    exact ⟨l18, (En.of ⟨rfl, trivial⟩ ⟨rfl, trivial⟩ trivial), h⟩
end Go.Proofs.Ytkklfgcelmeccaa
namespace Go.Proofs.Ytkklfgcelmeccaa
variable {N : Nat}
theorem son_app (a b : List Int) : strOfNums (a ++ b) = strOfNums a ++ strOfNums b := by
 apply ByteArray.ext
 rw [ByteArray.data_append]
 simp [strOfNums]
theorem son_nil : strOfNums [] = ByteArray.mk #[] := rfl
theorem nil_app (a : ByteArray) : ByteArray.mk #[] ++ a = a := by
 apply ByteArray.ext
 rw [ByteArray.data_append]
 simp
theorem app_nil' (a : ByteArray) : a ++ ByteArray.mk #[] = a := by
 apply ByteArray.ext
 rw [ByteArray.data_append]
 simp
theorem app_as (a b c : ByteArray) : a ++ b ++ c = a ++ (b ++ c) := by
 apply ByteArray.ext
 simp only [ByteArray.data_append, Array.append_assoc]
theorem app_sz (a b : ByteArray) : (a ++ b).size = a.size + b.size := ByteArray.size_append
def dgt (m : Int) : Int := cnd (decide (Int.tmod m 10 < 0)) ((48 + (-(Int.tmod m 10))) % 256) ((48 + Int.tmod m 10) % 256)
def digs : Nat → Int → List Int
 | 0, _ => []
 | f + 1, m => cnd (m != 0) (dgt m :: digs f (Int.tdiv m 10)) []
theorem digs_len : ∀ (f : Nat) (m : Int), (digs f m).length ≤ f
 | 0, _ => by simp [digs]
 | f + 1, m => by
  unfold digs
  cases m != 0 with
  | true => rw [cnd_true, List.length_cons]; have := digs_len f (Int.tdiv m 10); omega
  | false => rw [cnd_false]; simp
theorem tmod_bd (m : Int) : -10 < Int.tmod m 10 ∧ Int.tmod m 10 < 10 := by
 have h := Int.natAbs_tmod m 10
 have h2 : m.natAbs % (10 : Int).natAbs < 10 := Nat.mod_lt _ (by decide)
 omega
theorem tdiv_bd {m : Int} {f : Nat} (h : m.natAbs < 10 ^ (f + 1)) : (Int.tdiv m 10).natAbs < 10 ^ f := by
 rw [Int.natAbs_tdiv]
 have e : (10 : Int).natAbs = 10 := rfl
 rw [e]
 rw [Nat.pow_succ] at h
 exact (Nat.div_lt_iff_lt_mul (by omega)).2 h
theorem tdiv_rg {m : Int} (h : Rg64 m) : Rg64 (Int.tdiv m 10) := by
 have h1 := Int.natAbs_tdiv m 10
 have e : (10 : Int).natAbs = 10 := rfl
 rw [e] at h1
 have h2 : m.natAbs / 10 ≤ m.natAbs := Nat.div_le_self _ _
 obtain ⟨h3, h4⟩ := h
 have h5 : (Int.tdiv m 10).natAbs = m.natAbs / 10 := h1
 rcases Int.natAbs_eq (Int.tdiv m 10) with e1 | e1 <;> rcases Int.natAbs_eq m with e2 | e2 <;> constructor <;> omega
theorem S_dig (hN : 4000000 ≤ N) (k : ByteArray → Option ByteArray) : ∀ (f fuel : Nat) (m : Int) (out : ByteArray), m.natAbs < 10 ^ f → Rg64 m → f < fuel → out.size + f ≤ 1000 → S_FormatInt_l1 N k fuel (m, out) = k (strOfNums (digs f m).reverse ++ out) := by
 intro f
 induction f with
 | zero =>
  intro fuel m out h1 h2 h3 h4
  obtain ⟨fuel, rfl⟩ : ∃ g, fuel = g + 1 := ⟨fuel - 1, by omega⟩
  have hm : m = 0 := by rw [Nat.pow_zero] at h1; omega
  subst hm
  rw [S_FormatInt_l1]
  show k out = _
  unfold digs
  rw [List.reverse_nil, son_nil, nil_app]
 | succ f ih =>
  intro fuel m out h1 h2 h3 h4
  obtain ⟨fuel, rfl⟩ : ∃ g, fuel = g + 1 := ⟨fuel - 1, by omega⟩
  have hb := tmod_bd m
  have hr := tdiv_rg h2
  rw [S_FormatInt_l1]
  unfold digs
  cases hm : m != 0 with
  | false => rw [cnd_false, cnd_false, List.reverse_nil, son_nil, nil_app]
  | true =>
   rw [cnd_true, cnd_true, List.reverse_cons, son_app, app_as, grd_pos (by omega)]
   unfold dgt
   by_cases hd : Int.tmod m 10 < 0
   ·rw [cnd_dt hd, cnd_dt hd, grd_R (by omega) (by omega), grd_R (by omega) (by omega)]
    have hs : (strOfNums ([((48 : Int) + (-(Int.tmod m 10))) % 256] : List Int)).size = 1 := by rw [strOfNums_size]; rfl
    rw [grd_pos (p := (strOfNums ([((48 : Int) + (-(Int.tmod m 10))) % 256] : List Int)).size + out.size ≤ 9223372036854775807) (by omega), grd_pos (p := (10 : Int) ≠ 0 ∧ Rg64 (Int.tdiv m 10)) ⟨by omega, hr⟩]
    exact ih fuel _ _ (tdiv_bd h1) hr (by omega) (by rw [app_sz, hs]; omega)
   ·rw [cnd_df hd, cnd_df hd, grd_R (by omega) (by omega)]
    have hs : (strOfNums ([((48 : Int) + (Int.tmod m 10)) % 256] : List Int)).size = 1 := by rw [strOfNums_size]; rfl
    rw [grd_pos (p := (strOfNums ([((48 : Int) + (Int.tmod m 10)) % 256] : List Int)).size + out.size ≤ 9223372036854775807) (by omega), grd_pos (p := (10 : Int) ≠ 0 ∧ Rg64 (Int.tdiv m 10)) ⟨by omega, hr⟩]
    exact ih fuel _ _ (tdiv_bd h1) hr (by omega) (by rw [app_sz, hs]; omega)
theorem I_dig (hN : 4000000 ≤ N) (k : List Int → Option ByteArray) : ∀ (f fuel : Nat) (m : Int) (l : List Int), m.natAbs < 10 ^ f → Rg64 m → f < fuel → l.length + f ≤ 1000 → I_FormatInt_l2 N k fuel (l, m) = k (l ++ digs f m) := by
 intro f
 induction f with
 | zero =>
  intro fuel m l h1 h2 h3 h4
  obtain ⟨fuel, rfl⟩ : ∃ g, fuel = g + 1 := ⟨fuel - 1, by omega⟩
  have hm : m = 0 := by rw [Nat.pow_zero] at h1; omega
  subst hm
  rw [I_FormatInt_l2]
  show k l = _
  unfold digs
  rw [List.append_nil]
 | succ f ih =>
  intro fuel m l h1 h2 h3 h4
  obtain ⟨fuel, rfl⟩ : ∃ g, fuel = g + 1 := ⟨fuel - 1, by omega⟩
  have hb := tmod_bd m
  have hr := tdiv_rg h2
  rw [I_FormatInt_l2]
  unfold digs
  cases hm : m != 0 with
  | false => rw [cnd_false, cnd_false, List.append_nil]
  | true =>
   rw [cnd_true, cnd_true, grd_pos (by omega), show l ++ dgt m :: digs f (Int.tdiv m 10) = (l ++ [dgt m]) ++ digs f (Int.tdiv m 10) from by simp]
   unfold dgt
   by_cases hd : Int.tmod m 10 < 0
   ·rw [cnd_dt hd, cnd_dt hd, grd_R (by omega) (by omega), grd_R (by omega) (by omega), grd_pos (p := l.length + 1 ≤ 4294967296) (by omega), grd_pos (p := (10 : Int) ≠ 0 ∧ Rg64 (Int.tdiv m 10)) ⟨by omega, hr⟩]
    exact ih fuel _ _ (tdiv_bd h1) hr (by omega) (by rw [List.length_append, List.length_singleton]; omega)
   ·rw [cnd_df hd, cnd_df hd, grd_R (by omega) (by omega), grd_pos (p := l.length + 1 ≤ 4294967296) (by omega), grd_pos (p := (10 : Int) ≠ 0 ∧ Rg64 (Int.tdiv m 10)) ⟨by omega, hr⟩]
    exact ih fuel _ _ (tdiv_bd h1) hr (by omega) (by rw [List.length_append, List.length_singleton]; omega)
theorem getD_set {α : Type} (l : List α) (i p : Nat) (x d : α) (hi : i < l.length) : (l.set i x).getD p d = if p = i then x else l.getD p d := by
 rw [List.getD_eq_getElem?_getD, List.getElem?_set]
 by_cases h : i = p
 ·subst h; simp [hi]
 ·rw [if_neg h, if_neg (fun e => h e.symm), List.getD_eq_getElem?_getD]
theorem I_rev (hN : 4000000 ≤ N) {l : List Int} (hl : l.length ≤ 1000) (k : List Int → Option ByteArray) : ∀ (c i fuel : Nat) (L : List Int), l.length ≤ 2 * i + c → c < fuel → i ≤ l.length → L.length = l.length → (∀ p, p < l.length → L.getD p 0 = if p < i ∨ l.length ≤ p + i then l.getD (l.length - 1 - p) 0 else l.getD p 0) → I_FormatInt_l1 N l k fuel (L, (i : Int), (l.length : Int) - 1 - (i : Int)) = k l.reverse := by
 intro c
 have fin : ∀ (i : Nat) (L : List Int), l.length ≤ 2 * i + 1 → L.length = l.length → (∀ p, p < l.length → L.getD p 0 = if p < i ∨ l.length ≤ p + i then l.getD (l.length - 1 - p) 0 else l.getD p 0) → L = l.reverse := fun i L h1 h2 h3 => by
  apply List.ext_getElem (by rw [h2, List.length_reverse])
  intro p hp hp2
  have h4 := h3 p (by omega)
  have e1 : L[p] = L.getD p 0 := by rw [List.getD_eq_getElem?_getD, List.getElem?_eq_getElem hp]; rfl
  have e2 : l.reverse[p] = l.getD (l.length - 1 - p) 0 := by
   rw [List.getElem_reverse, List.getD_eq_getElem?_getD, List.getElem?_eq_getElem (by omega)]; rfl
  rw [e1, e2, h4]
  split
  ·rfl
  ·rename_i h5
   have : l.length - 1 - p = p := by omega
   rw [this]
 induction c with
 | zero =>
  intro i fuel L h1 h2 h3 h4 h5
  obtain ⟨fuel, rfl⟩ : ∃ g, fuel = g + 1 := ⟨fuel - 1, by omega⟩
  rw [I_FormatInt_l1, cnd_df (by omega), fin i L (by omega) h4 h5]
 | succ c ih =>
  intro i fuel L h1 h2 h3 h4 h5
  obtain ⟨fuel, rfl⟩ : ∃ g, fuel = g + 1 := ⟨fuel - 1, by omega⟩
  rw [I_FormatInt_l1]
  by_cases hij : (i : Int) < (l.length : Int) - 1 - (i : Int)
  ·obtain ⟨j, hj⟩ : ∃ j : Nat, (l.length : Int) - 1 - (i : Int) = (j : Int) := ⟨l.length - 1 - i, by omega⟩
   have hj2 : j = l.length - 1 - i := by omega
   have e1 : ((i : Int)).toNat = i := by omega
   have e2 : ((j : Int)).toNat = j := by omega
   rw [hj, cnd_dt (by omega), e1, e2, grd_pos (p := 0 ≤ (j : Int) ∧ (j : Int) < (l.length : Int)) (by omega), grd_pos (p := 0 ≤ (j : Int) ∧ (j : Int) < (L.length : Int)) (by omega), grd_pos (p := 0 ≤ (i : Int) ∧ (i : Int) < (l.length : Int)) (by omega), grd_pos (p := 0 ≤ (i : Int) ∧ (i : Int) < (L.length : Int)) (by omega), grd_pos (by rw [List.length_set]; omega), grd_R (by omega) (by omega), grd_R (by omega) (by omega), succ_cast]
   have e3 : (j : Int) - 1 = (l.length : Int) - 1 - ((i + 1 : Nat) : Int) := by omega
   rw [e3]
   refine ih (i + 1) fuel _ (by omega) (by omega) (by omega) (by rw [List.length_set, List.length_set]; exact h4) fun p hp => ?_
   rw [getD_set _ _ _ _ _ (by rw [List.length_set]; omega), getD_set _ _ _ _ _ (by omega)]
   have a1 := h5 i (by omega)
   have a2 := h5 j (by omega)
   have a3 := h5 p hp
   rw [if_neg (by omega)] at a1 a2
   by_cases g1 : p = j
   ·rw [if_pos g1, if_pos (by omega), a1]; congr 1; omega
   ·rw [if_neg g1]
    by_cases g2 : p = i
    ·rw [if_pos g2, if_pos (by omega), a2]; congr 1; omega
    ·rw [if_neg g2, a3]
     by_cases g3 : p < i ∨ l.length ≤ p + i
     ·rw [if_pos g3, if_pos (by omega)]
     ·rw [if_neg g3, if_neg (by omega)]
  ·rw [cnd_df hij, fin i L (by omega) h4 h5]
def fmtL (n : Int) : List Int := cnd (n == 0) [48] (cnd (decide (n < 0)) (45 :: (digs 20 n).reverse) (digs 20 n).reverse)
def fmtI (n : Int) : ByteArray := strOfNums (fmtL n)
theorem fmtI_size (n : Int) : (fmtI n).size ≤ 21 := by
 unfold fmtI fmtL
 rw [strOfNums_size]
 have := digs_len 20 n
 cases n == 0 with
 | true => rw [cnd_true]; simp
 | false =>
  rw [cnd_false]
  cases decide (n < 0) with
  | true => rw [cnd_true, List.length_cons, List.length_reverse]; omega
  | false => rw [cnd_false, List.length_reverse]; omega
theorem abs_bd {n : Int} (h : Rg64 n) : n.natAbs < 10 ^ 20 := by
 have e : (10 : Nat) ^ 20 = 100000000000000000000 := by decide
 obtain ⟨h1, h2⟩ := h
 rw [e]; omega
theorem fmtS_s (hN : 4000000 ≤ N) {n : Int} (h : Rg64 n) : S_FormatInt N n = some (fmtI n) := by
 unfold S_FormatInt fmtI fmtL
 cases hn : n == 0 with
 | true => rw [cnd_true, cnd_true]; rfl
 | false =>
  have hs : (ByteArray.mk #[]).size = 0 := rfl
  rw [cnd_false, cnd_false, S_dig hN _ 20 N n (ByteArray.mk #[]) (abs_bd h) h (by omega) (by omega), app_nil']
  have hl := digs_len 20 n
  have hz : (strOfNums (digs 20 n).reverse).size ≤ 20 := by rw [strOfNums_size, List.length_reverse]; exact hl
  by_cases h0 : n < 0
  ·have h45 : (ByteArray.mk #[45]).size = 1 := rfl
   rw [cnd_dt h0, cnd_dt h0, grd_pos (by omega), show (45 : Int) :: (digs 20 n).reverse = [45] ++ (digs 20 n).reverse from rfl, son_app]; rfl
  ·rw [cnd_df h0, cnd_df h0]
theorem fmtI_s (hN : 4000000 ≤ N) {n : Int} (h : Rg64 n) : I_FormatInt N n = some (fmtI n) := by
 unfold I_FormatInt fmtI fmtL
 cases hn : n == 0 with
 | true => rw [cnd_true, cnd_true]; rfl
 | false =>
  rw [cnd_false, cnd_false, I_dig hN _ 20 N n [] (abs_bd h) h (by omega) (by simp), List.nil_append]
  have hl := digs_len 20 n
  have key : ∀ l : List Int, l.length ≤ 100 → (grd (Rg64 ((l.length : Int) - (1 : Int))) <| I_FormatInt_l1 N l (fun (l8 : List Int) => grd (l.length = l8.length) <| some (strOfNums l8)) N (l, (0 : Int), ((l.length : Int) - (1 : Int)))) = some (strOfNums l.reverse) := fun l hl => by
   rw [grd_R (by omega) (by omega)]
   have := I_rev hN (l := l) (by omega) (fun (l8 : List Int) => grd (l.length = l8.length) <| some (strOfNums l8)) l.length 0 N l (by omega) (by omega) (by omega) rfl (fun p hp => by rw [if_neg (by omega)])
   rw [show (l.length : Int) - 1 - ((0 : Nat) : Int) = (l.length : Int) - 1 from by omega] at this
   refine this.trans ?_
   rw [grd_pos (by rw [List.length_reverse])]
  rw [jn_def]
  by_cases h0 : n < 0
  ·rw [cnd_dt h0, cnd_dt h0, grd_pos (by omega)]
   refine (key _ (by rw [List.length_append, List.length_singleton]; omega)).trans ?_
   rw [List.reverse_append]; rfl
  ·rw [cnd_df h0, cnd_df h0]
   exact key _ (by omega)
def gl (b : ByteArray) : Bool → ByteArray → List ByteArray → ByteArray
 | _, s, [] => s
 | true, s, x :: l => gl b false (s ++ x) l
 | false, s, x :: l => gl b false (s ++ b ++ x) l
theorem gl_app (b : ByteArray) : ∀ (l : List ByteArray) (f : Bool) (a s : ByteArray), gl b f (a ++ s) l = a ++ gl b f s l
 | [], f, a, s => by cases f <;> rfl
 | x :: l, true, a, s => by
  unfold gl
  rw [app_as, gl_app b l false a (s ++ x)]
 | x :: l, false, a, s => by
  unfold gl
  rw [app_as, app_as, gl_app b l false a (s ++ (b ++ x)), ← app_as]
theorem gl_size {b : ByteArray} {c : Nat} : ∀ {l : List ByteArray} (f : Bool) (s : ByteArray), (∀ x ∈ l, x.size ≤ c) → (gl b f s l).size ≤ s.size + l.length * (c + b.size)
 | [], f, s, h => by cases f <;> simp [gl]
 | x :: l, true, s, h => by
  unfold gl
  have h1 := gl_size (b := b) (l := l) false (s ++ x) fun y hy => h y (by simp [hy])
  have h2 := h x (by simp)
  rw [app_sz] at h1
  rw [List.length_cons, Nat.succ_mul]; omega
 | x :: l, false, s, h => by
  unfold gl
  have h1 := gl_size (b := b) (l := l) false (s ++ b ++ x) fun y hy => h y (by simp [hy])
  have h2 := h x (by simp)
  rw [app_sz, app_sz] at h1
  rw [List.length_cons, Nat.succ_mul]; omega
theorem dropD {α : Type} {l : List α} {i : Nat} (d : α) (hi : i < l.length) : l.drop i = l.getD i d :: l.drop (i + 1) := by
 rw [List.drop_eq_getElem_cons hi, List.getD_eq_getElem?_getD, List.getElem?_eq_getElem hi]; rfl
theorem memD {α : Type} {l : List α} {i : Nat} (d : α) (hi : i < l.length) : l.getD i d ∈ l := by
 rw [List.getD_eq_getElem?_getD, List.getElem?_eq_getElem hi]; exact List.getElem_mem hi
theorem glued_l (hN : 4000000 ≤ N) {l : List ByteArray} {b : ByteArray} (hb : b.size ≤ 1) (hl : l.length ≤ 3000000) (hx : ∀ x ∈ l, x.size ≤ 100000000) (k : ByteArray → Option ByteArray) : ∀ (fuel i : Nat) (s : ByteArray), i ≤ l.length → l.length < fuel + i → s.size + (l.length - i) * 200000000 ≤ 1000000000000000 →
  I_glued_l1 N l b k fuel (s, (i : Int)) = k (gl b (decide (i = 0)) s (l.drop i)) := by
 intro fuel
 induction fuel with
 | zero => intro i s h1 h2; omega
 | succ fuel ih =>
  intro i s h1 h2 h3
  rw [I_glued_l1]
  by_cases hi : i < l.length
  ·have hz := hx _ (memD ByteArray.empty hi)
   rw [cnd_dt (by omega), grd_pos (by omega), show ((i : Int)).toNat = i from by omega, dropD ByteArray.empty hi]
   by_cases h0 : i = 0
   ·subst h0
    rw [cnd_df (by omega), grd_pos (by omega), grd_R (by omega) (by omega), succ_cast]
    refine (ih (0 + 1) _ (by omega) (by omega) (by rw [app_sz]; omega)).trans ?_
    rfl
   ·have hs : (s ++ b).size = s.size + b.size := app_sz s b
    rw [cnd_dt (by omega), grd_pos (by omega), grd_pos (by omega), grd_R (by omega) (by omega), succ_cast]
    refine (ih (i + 1) _ (by omega) (by omega) (by rw [app_sz]; omega)).trans ?_
    rw [decide_eq_false h0, decide_eq_false (by omega)]; rfl
  ·rw [cnd_df (by omega), show i = l.length from by omega, List.drop_length]
   cases decide (l.length = 0) <;> rfl
theorem glued_s (hN : 4000000 ≤ N) {l : List ByteArray} {b : ByteArray} (hb : b.size ≤ 1) (hl : l.length ≤ 3000000) (hx : ∀ x ∈ l, x.size ≤ 100000000) : I_glued N l b = some (gl b true (ByteArray.mk #[]) l) := by
 unfold I_glued
 have hs : (ByteArray.mk #[]).size = 0 := rfl
 exact glued_l hN hb hl hx (fun s3 => some s3) N 0 (ByteArray.mk #[]) (by omega) (by omega) (by omega)
theorem numbers_l (hN : 4000000 ≤ N) {l : List Int} (hl : l.length ≤ 3000000) (hr : ∀ x ∈ l, Rg64 x) (k : List ByteArray → Option ByteArray) : ∀ (fuel i : Nat) (L : List ByteArray), i ≤ l.length → l.length < fuel + i → L.length = i → I_numbers_l1 N l k fuel (L, (i : Int)) = k (L ++ (l.drop i).map fmtI) := by
 intro fuel
 induction fuel with
 | zero => intro i s h1 h2; omega
 | succ fuel ih =>
  intro i L h1 h2 h3
  rw [I_numbers_l1]
  by_cases hi : i < l.length
  ·rw [cnd_dt (by omega), grd_pos (by omega), show ((i : Int)).toNat = i from by omega, dropD 0 hi, fmtI_s hN (hr _ (memD 0 hi)), Option.bind_some, grd_pos (by omega), grd_R (by omega) (by omega), succ_cast]
   refine (ih (i + 1) _ (by omega) (by omega) (by rw [List.length_append, List.length_singleton]; omega)).trans ?_
   rw [List.map_cons, List.append_assoc]; rfl
  ·rw [cnd_df (by omega), show i = l.length from by omega, List.drop_length, List.map_nil, List.append_nil]
def numT (l : List Int) : ByteArray := gl (ByteArray.mk #[44]) true (ByteArray.mk #[]) (l.map fmtI)
theorem numbers_s (hN : 4000000 ≤ N) {l : List Int} (hl : l.length ≤ 3000000) (hr : ∀ x ∈ l, Rg64 x) : I_numbers N l = some (numT l) := by
 unfold I_numbers
 refine (numbers_l hN hl hr _ N 0 [] (by omega) (by omega) rfl).trans ?_
 rw [List.nil_append, List.drop_zero, glued_s hN (show (ByteArray.mk #[44]).size ≤ 1 from Nat.le_refl 1) (by rw [List.length_map]; exact hl) (fun x hx => by obtain ⟨n, _, rfl⟩ := List.mem_map.1 hx; have := fmtI_size n; omega)]
 rfl
theorem numT_size {l : List Int} (hl : l.length ≤ 3000000) : (numT l).size ≤ 70000000 := by
 unfold numT
 have h := gl_size (b := ByteArray.mk #[44]) (c := 21) (l := l.map fmtI) true (ByteArray.mk #[]) fun x hx => by obtain ⟨n, _, rfl⟩ := List.mem_map.1 hx; exact fmtI_size n
 rw [List.length_map] at h
 have h1 : (ByteArray.mk #[44]).size = 1 := rfl
 have h2 : (ByteArray.mk #[]).size = 0 := rfl
 rw [h1, h2] at h
 omega
def itemT (x : Int × List Int) : ByteArray := fmtI x.1 ++ ByteArray.mk #[58] ++ numT x.2
theorem itemT_size {x : Int × List Int} (hl : x.2.length ≤ 3000000) : 1 ≤ (itemT x).size ∧ (itemT x).size ≤ 80000000 := by
 unfold itemT
 have h1 : (ByteArray.mk #[58]).size = 1 := rfl
 have h2 := fmtI_size x.1
 have h3 := numT_size hl
 rw [app_sz, app_sz, h1]; omega
def RsOk (l : List (Int × List Int)) : Prop := ∀ x ∈ l, Rg64 x.1 ∧ x.2.length ≤ 3000000 ∧ ∀ y ∈ x.2, Rg64 y
theorem fmtRI_l (hN : 4000000 ≤ N) {l : List (Int × List Int)} (hl : l.length ≤ 3000000) (hr : RsOk l) (k : List ByteArray → Option ByteArray) : ∀ (fuel i : Nat) (L : List ByteArray), i ≤ l.length → l.length < fuel + i → L.length = i → I_FormatRaising_l1 N l k fuel (L, (i : Int)) = k (L ++ (l.drop i).map itemT) := by
 intro fuel
 induction fuel with
 | zero => intro i s h1 h2; omega
 | succ fuel ih =>
  intro i L h1 h2 h3
  rw [I_FormatRaising_l1]
  by_cases hi : i < l.length
  ·obtain ⟨r1, r2, r3⟩ := hr _ (memD (0, []) hi)
   have f1 := fmtI_size (l.getD i (0, [])).1
   have f2 := numT_size r2
   have f3 : (ByteArray.mk #[58]).size = 1 := rfl
   have f4 := app_sz (fmtI (l.getD i (0, [])).1) (ByteArray.mk #[58])
   rw [cnd_dt (by omega), grd_pos (by omega), show ((i : Int)).toNat = i from by omega, dropD (0, []) hi, fmtI_s hN r1, Option.bind_some, grd_pos (by omega), numbers_s hN r2 r3, Option.bind_some, grd_pos (by omega), grd_pos (by omega), grd_R (by omega) (by omega), succ_cast]
   refine (ih (i + 1) _ (by omega) (by omega) (by rw [List.length_append, List.length_singleton]; omega)).trans ?_
   rw [List.map_cons, List.append_assoc]; rfl
  ·rw [cnd_df (by omega), show i = l.length from by omega, List.drop_length, List.map_nil, List.append_nil]
theorem fmtRS_l2 (hN : 4000000 ≤ N) {l : List (Int × List Int)} {i : Nat} (hr : (l.getD i (0, [])).2.length ≤ 3000000 ∧ ∀ y ∈ (l.getD i (0, [])).2, Rg64 y) (k : ByteArray → Option ByteArray) : ∀ (fuel j : Nat) (s : ByteArray), j ≤ (l.getD i (0, [])).2.length → (l.getD i (0, [])).2.length < fuel + j → s.size + ((l.getD i (0, [])).2.length - j) * 30 ≤ 10000000000000000 →
  S_FormatRaising_l2 N l (i : Int) k fuel (s, (j : Int)) = k (gl (ByteArray.mk #[44]) (decide (j = 0)) s (((l.getD i (0, [])).2.drop j).map fmtI)) := by
 obtain ⟨hl, hr⟩ := hr
 intro fuel
 induction fuel with
 | zero => intro j s h1 h2; omega
 | succ fuel ih =>
  intro j s h1 h2 h3
  rw [S_FormatRaising_l2, show ((i : Int)).toNat = i from by omega]
  by_cases hj : j < (l.getD i (0, [])).2.length
  ·have f1 := fmtI_size ((l.getD i (0, [])).2.getD j 0)
   have f3 : (ByteArray.mk #[44]).size = 1 := rfl
   rw [cnd_dt (by omega), dropD 0 hj, List.map_cons, jn_def]
   by_cases h0 : j = 0
   ·subst h0
    rw [cnd_df (by omega)]
    show grd _ _ = _
    rw [grd_pos (by omega), show (((0 : Nat) : Int)).toNat = 0 from rfl, fmtS_s hN (hr _ (memD 0 hj)), Option.bind_some, grd_pos (by omega), grd_R (by omega) (by omega), succ_cast]
    refine (ih (0 + 1) _ (by omega) (by omega) (by rw [app_sz]; omega)).trans ?_
    rfl
   ·have hs : (s ++ ByteArray.mk #[44]).size = s.size + (ByteArray.mk #[44]).size := app_sz _ _
    rw [cnd_dt (by omega), grd_pos (by omega)]
    show grd _ _ = _
    rw [grd_pos (by omega), show ((j : Int)).toNat = j from by omega, fmtS_s hN (hr _ (memD 0 hj)), Option.bind_some, grd_pos (by omega), grd_R (by omega) (by omega), succ_cast]
    refine (ih (j + 1) _ (by omega) (by omega) (by rw [app_sz]; omega)).trans ?_
    rw [decide_eq_false h0, decide_eq_false (by omega)]; rfl
  ·rw [cnd_df (by omega), show j = (l.getD i (0, [])).2.length from by omega, List.drop_length, List.map_nil]
   cases decide ((l.getD i (0, [])).2.length = 0) <;> rfl
theorem fmtRS_l1 (hN : 4000000 ≤ N) {l : List (Int × List Int)} (hl : l.length ≤ 3000000) (hr : RsOk l) (k : ByteArray → Option ByteArray) : ∀ (fuel i : Nat) (s : ByteArray), i ≤ l.length → l.length < fuel + i → s.size + (l.length - i) * 200000000 ≤ 1000000000000000 →
  S_FormatRaising_l1 N l k fuel (s, (i : Int)) = k (gl (ByteArray.mk #[32]) (decide (i = 0)) s ((l.drop i).map itemT)) := by
 intro fuel
 induction fuel with
 | zero => intro i s h1 h2; omega
 | succ fuel ih =>
  intro i s h1 h2 h3
  rw [S_FormatRaising_l1]
  by_cases hi : i < l.length
  ·obtain ⟨r1, r2, r3⟩ := hr _ (memD (0, []) hi)
   have f1 := fmtI_size (l.getD i (0, [])).1
   have f3 : (ByteArray.mk #[32]).size = 1 := rfl
   have f5 : (ByteArray.mk #[58]).size = 1 := rfl
   have hz := (itemT_size r2).2
   have body : ∀ s2 : ByteArray, s2.size ≤ s.size + 1 → (grd (0 ≤ (i : Int) ∧ (i : Int) < (l.length : Int)) <|
      (S_FormatInt N ((l.getD (((i : Int)).toNat) (0, [])).1)).bind fun v143 =>
      grd (s2.size + v143.size ≤ 9223372036854775807) <|
      grd ((s2 ++ v143).size + (ByteArray.mk #[58]).size ≤ 9223372036854775807) <|
      S_FormatRaising_l2 N l (i : Int) (fun (s155 : ByteArray) =>
         grd (Rg64 ((i : Int) + (1 : Int))) <|
         S_FormatRaising_l1 N l k fuel (s155, ((i : Int) + (1 : Int)))) N (((s2 ++ v143) ++ (ByteArray.mk #[58])), (0 : Int))) = k (gl (ByteArray.mk #[32]) false (s2 ++ itemT (l.getD i (0, []))) ((l.drop (i + 1)).map itemT)) := fun s2 hs2 => by
    have f4 := app_sz s2 (fmtI (l.getD i (0, [])).1)
    rw [grd_pos (by omega), show ((i : Int)).toNat = i from by omega, fmtS_s hN r1, Option.bind_some, grd_pos (by omega), grd_pos (by omega)]
    refine (fmtRS_l2 hN ⟨r2, r3⟩ _ N 0 _ (by omega) (by omega) (by rw [app_sz]; omega)).trans ?_
    have e : gl (ByteArray.mk #[44]) (decide ((0 : Nat) = 0)) (s2 ++ fmtI (l.getD i (0, [])).1 ++ ByteArray.mk #[58]) (((l.getD i (0, [])).2.drop 0).map fmtI) = s2 ++ itemT (l.getD i (0, [])) := by
     show gl (ByteArray.mk #[44]) true _ (((l.getD i (0, [])).2.drop 0).map fmtI) = _
     rw [List.drop_zero, ← app_nil' (s2 ++ fmtI (l.getD i (0, [])).1 ++ ByteArray.mk #[58]), gl_app]
     unfold itemT numT
     rw [app_as, app_as, app_as]
    rw [e, grd_R (by omega) (by omega), succ_cast]
    refine (ih (i + 1) _ (by omega) (by omega) (by rw [app_sz]; omega)).trans ?_
    rw [decide_eq_false (by omega)]
   rw [cnd_dt (by omega), dropD (0, []) hi, List.map_cons, jn_def]
   by_cases h0 : i = 0
   ·subst h0
    rw [cnd_df (by omega)]
    exact body s (by omega)
   ·rw [cnd_dt (by omega), grd_pos (by omega)]
    refine (body _ (by rw [app_sz]; omega)).trans ?_
    rw [decide_eq_false h0]; rfl
  ·rw [cnd_df (by omega), show i = l.length from by omega, List.drop_length, List.map_nil]
   cases decide (l.length = 0) <;> rfl
theorem format_x (hN : 4000000 ≤ N) {l : List (Int × List Int)} (hl : l.length ≤ 3000000) (hr : RsOk l) : ∃ s : ByteArray, S_FormatRaising N l = some s ∧ I_FormatRaising N l = some s := by
 unfold S_FormatRaising I_FormatRaising
 have h0 : (ByteArray.mk #[]).size = 0 := rfl
 have hS := fmtRS_l1 hN hl hr (fun (s84 : ByteArray) => cnd (s84.toList == (ByteArray.mk #[]).toList) (some (ByteArray.mk #[110, 111, 110, 101])) (some s84)) N 0 (ByteArray.mk #[]) (by omega) (by omega) (by omega)
 have hI := fmtRI_l hN hl hr (fun (l11 : List ByteArray) => (I_glued N l11 (ByteArray.mk #[32])).bind fun v12 => some v12) N 0 [] (by omega) (by omega) rfl
 rw [show S_FormatRaising_l1 N l _ N (ByteArray.mk #[], (0 : Int)) = _ from hS]
 cases l with
 | nil =>
  refine ⟨ByteArray.mk #[110, 111, 110, 101], ?_, rfl⟩
  show cnd ((ByteArray.mk #[]).toList == (ByteArray.mk #[]).toList) _ _ = _
  rw [beq_self_eq_true, cnd_true]
 | cons x l =>
  refine ⟨gl (ByteArray.mk #[32]) true (ByteArray.mk #[]) ((x :: l).map itemT), ?_, ?_⟩
  ·show cnd (_ == _) _ (some (gl (ByteArray.mk #[32]) true (ByteArray.mk #[]) ((x :: l).map itemT))) = _
   have hz : (gl (ByteArray.mk #[32]) true (ByteArray.mk #[]) ((x :: l).map itemT)).toList ≠ (ByteArray.mk #[]).toList := fun e => by
    rw [List.map_cons] at e
    unfold gl at e
    rw [nil_app, ← app_nil' (itemT x), gl_app] at e
    have e2 := congrArg List.length e
    have h1 := (itemT_size (hr x (by simp)).2.1).1
    rw [ByteArray.toList_eq, ByteArray.toList_eq, ByteArray.data_append, Array.length_toList, Array.size_append] at e2
    have e3 : (itemT x).size = (itemT x).data.size := rfl
    have e4 : (ByteArray.mk #[]).data.toList.length = 0 := rfl
    omega
   rw [show (List.drop 0 (x :: l)) = x :: l from rfl, show decide ((0 : Nat) = 0) = true from rfl]
   rw [beq_eq_false_iff_ne.2 hz, cnd_false]
  ·have hne : (((x :: l).length : Int) == (0 : Int)) = false := by rw [beq_eq_false_iff_ne, List.length_cons]; omega
   rw [hne, cnd_false]
   refine hI.trans ?_
   rw [List.nil_append, List.drop_zero, glued_s hN (show (ByteArray.mk #[32]).size ≤ 1 from Nat.le_refl 1) (by rw [List.length_map]; exact hl) (fun y hy => by obtain ⟨n, hn, rfl⟩ := List.mem_map.1 hy; have := (itemT_size (hr n hn).2.1).2; omega)]
   rfl
end Go.Proofs.Ytkklfgcelmeccaa
namespace Go.Proofs.Ytkklfgcelmeccaa
open Go.RowKit Go.Deep
def L_toRaiseS_l1 (N : Nat) (a_0 : List (Int × List Int)) (k : (List (Int × List Int)) → Option (List (Int × List Int))) : Nat → ((List (Int × List Int)) × Int) → Option (List (Int × List Int))
 | 0, _ => none
 | n + 1, (l9, i10) =>
  cnd (decide (i10 < (a_0.length : Int))) (
   grd (0 ≤ i10 ∧ i10 < (a_0.length : Int)) <|
   (L_toRaise N (⟨(a_0.getD ((i10).toNat) (0, [])).1, (a_0.getD ((i10).toNat) (0, [])).2⟩ : Rse)).bind fun v12 =>
   grd (0 ≤ i10 ∧ i10 < ((List.replicate (((a_0.length : Int)).toNat) ((0, []) : (Int × List Int))).length : Int)) <|
   grd (0 ≤ i10 ∧ i10 < (l9.length : Int)) <|
   grd (Rg64 (i10 + (1 : Int))) <|
   L_toRaiseS_l1 N a_0 k n ((l9.set ((i10).toNat) (v12.p, v12.bars)), (i10 + (1 : Int)))) (
   k l9)
def L_toRaiseS (N : Nat) (a_0 : List (Int × List Int)) : Option (List (Int × List Int)) :=
 grd (0 ≤ (a_0.length : Int) ∧ (a_0.length : Int) ≤ 4294967296) <|
 L_toRaiseS_l1 N a_0 (fun (l6 : List (Int × List Int)) =>
    grd ((List.replicate (((a_0.length : Int)).toNat) ((0, []) : (Int × List Int))).length = l6.length) <|
    some l6) N ((List.replicate (((a_0.length : Int)).toNat) ((0, []) : (Int × List Int))), (0 : Int))
set_option maxRecDepth 20000 in
set_option maxHeartbeats 1600000 in
theorem L_toRaiseS_w (N : Nat) (a_0 : List (Int × List Int)) (r : List (Int × List Int)) (h : L_toRaiseS N a_0 = some r) : PCallD Try.prog 9 [.ro false (.raises a_0)] 75 3 (.raises r) (.row 0 0 r.length) := by
 unfold L_toRaiseS at h
 refine pcallD_intro (TT := TT) tt Try.func9 rfl rfl Try.ntmps9 (congrArg Array.toList Try.results9) rfl rfl rfl fun w0 => ?_
 refine vSeq ?_
 refine vRegion ?_
 refine oVal tt rfl rfl rfl rfl rfl trivial ?_
 refine vNil ?_
 change VC _ _ _ _
 refine vSeq ?_
 refine vRegion ?_
 iterate 2 refine oVal tt rfl rfl rfl rfl rfl trivial ?_
 obtain ⟨hg1, h⟩ := grd_inv h
 refine oMakeD 10 3 (.raises (List.replicate (((a_0.length : Int)).toNat) ((0, []) : (Int × List Int)))) tt rfl rfl rfl rfl rfl rfl rfl rfl rfl rfl rfl rfl (fun _ h => by cases h) rfl (m := (List.replicate (((a_0.length : Int)).toNat) ((0, []) : (Int × List Int))).length) rfl rfl (zeroR _) hg1 ?_
 refine oVal tt rfl rfl rfl rfl rfl trivial ?_
 refine vNil ?_
 change VC _ _ _ _
 iterate 2 refine vSeq ?_
 refine vRegion ?_
 refine oVal tt rfl rfl rfl rfl rfl trivial ?_
 refine vNil ?_
 change VC _ _ _ _
 refine vJoin (F := fun k => L_toRaiseS_l1 N a_0 k) h (α := List (Int × List Int)) (J := fun (l6 : List (Int × List Int)) => (⟨[(3, .row 7 0 ((List.replicate (((a_0.length : Int)).toNat) ((0, []) : (Int × List Int))).length))], [(7, some (75, dR 10 (.raises l6))), (8589934602, some (3, dF (.raises l6)))], []⟩ : PS)) ?_ ?_
 ·rintro l6 h
  show VC _ _ _ (⟨[(3, .row 7 0 ((List.replicate (((a_0.length : Int)).toNat) ((0, []) : (Int × List Int))).length))], [(7, some (75, dR 10 (.raises l6))), (8589934602, some (3, dF (.raises l6)))], []⟩ : PS)
  refine vSeq ?_
  refine vRegion ?_
  iterate 2 refine oVal tt rfl rfl rfl rfl rfl trivial ?_
  refine vNil ?_
  change VC _ _ _ _
  obtain ⟨hg2, h⟩ := grd_inv h
  refine vRet ?_
  change ∃ _, _
  cases h
  exact ⟨7, 10, _, rfl, rfl, rfl, rfl, rfl, (.eq (by simp only [hg2]; rfl)), rfl⟩
 ·intro k h
  refine vBlock ?_
  refine vLoopS (α := (List (Int × List Int)) × Int) (fun | (l9, i10) => (⟨[(0, .ro false (.raises a_0)), (3, .row 7 0 ((List.replicate (((a_0.length : Int)).toNat) ((0, []) : (Int × List Int))).length)), (4, .int i10)], [(7, some (75, dR 10 (.raises l9))), (8589934602, some (3, dF (.raises l9)))], []⟩ : PS)) (L_toRaiseS_l1 N a_0 k) h (En.of ⟨rfl, rfl, rfl, trivial⟩ ⟨rfl, rfl, trivial⟩ trivial) (fun _ => rfl) ?_
  rintro n ⟨l9, i10⟩ h
  rw [L_toRaiseS_l1] at h
  show VC _ _ _ (⟨[(0, .ro false (.raises a_0)), (3, .row 7 0 ((List.replicate (((a_0.length : Int)).toNat) ((0, []) : (Int × List Int))).length)), (4, .int i10)], [(7, some (75, dR 10 (.raises l9))), (8589934602, some (3, dF (.raises l9)))], []⟩ : PS)
  iterate 2 refine vSeq ?_
  refine vRegion ?_
  iterate 4 refine oVal tt rfl rfl rfl rfl rfl trivial ?_
  refine vNil ?_
  change VC _ _ _ _
  refine vCond rfl (fun hb3 => ?_) (fun hb3 => ?_)
  ·replace h := cnd_t hb3 h
   refine vSkip ?_
   change VC _ _ _ _
   refine vSeq ?_
   refine vBlock ?_
   refine vRegion ?_
   iterate 4 refine oVal tt rfl rfl rfl rfl rfl trivial ?_
   obtain ⟨hg4, h⟩ := grd_inv h
   refine oVal tt rfl rfl rfl rfl rfl hg4 ?_
   refine oVal tt rfl rfl rfl rfl rfl trivial ?_
   obtain ⟨v12, hc5, h⟩ := bind_inv h
   refine oCall (L_toRaise_w N (⟨(a_0.getD ((i10).toNat) (0, [])).1, (a_0.getD ((i10).toNat) (0, [])).2⟩ : Rse) v12 hc5) rfl rfl rfl rfl rfl rfl rfl rfl ⟨⟨rfl, rfl, trivial⟩, trivial⟩ ?_
   obtain ⟨hg6, h⟩ := grd_inv h
   refine oVal tt rfl rfl rfl rfl rfl hg6 ?_
   obtain ⟨hg7, h⟩ := grd_inv h
   refine vEnO (En.adoptA 20 1 1200 7 10 (q := (.raises l9)) rfl rfl rfl rfl rfl rfl rfl (by simp [Sq.len, Fq.len, famOf, Fq.hole]) rfl rfl rfl rfl) ?_
   refine oStore tt rfl rfl rfl rfl rfl rfl rfl rfl rfl rfl ⟨_, _, rfl, hg7.1, (by simpa [Sq.len, dR, idn_len, idr_len] using hg7.2)⟩ ⟨(by simpa [Sq.len, dR, idn_len, idr_len] using hg7), (by simpa [Sq.len, dR, idn_len, idr_len] using hg7), trivial⟩ ?_
   refine vEnO (En.re 7 10 rfl rfl (reR _ l9 ((i10).toNat) v12.p v12.bars (l9.map fun x => some x.2) (by first | omega | (simp only [List.length_set, List.length_append, List.length_replicate] at *; omega)) (fun _ _ => rfl) (by simp)) rfl rfl rfl) ?_
   refine vNil ?_
   change VC _ _ _ _
   refine vRegion ?_
   refine oVal tt rfl rfl rfl rfl rfl trivial ?_
   obtain ⟨hg8, h⟩ := grd_inv h
   refine oVal tt rfl rfl rfl rfl rfl hg8 ?_
   refine oVal tt rfl rfl rfl rfl rfl trivial ?_
   refine vNil ?_
   change ∃ _, _
   exact ⟨((l9.set ((i10).toNat) (v12.p, v12.bars)), (i10 + (1 : Int))), (En.of ⟨rfl, rfl, rfl, trivial⟩ ⟨rfl, rfl, trivial⟩ trivial), h⟩
  ·replace h := cnd_f hb3 h
   refine vExit ?_
   change ∃ _, _
   exact ⟨l9, (En.of ⟨rfl, trivial⟩ ⟨rfl, rfl, trivial⟩ trivial), h⟩
end Go.Proofs.Ytkklfgcelmeccaa
namespace Go.Proofs.Ytkklfgcelmeccaa
open Go.ChangeShapes Go.WideShapes Go.ChangeAt Go.RowKit Go.Deep
section
variable {H : Type} {enc : TypeId × Value → H} {P : Program} {w : World} {spare : Nat → Bool} {held : Bool} {fuel : Nat} {cs : List Value} {x : DataW H × List MemPlace}
def RsR (l : List (Int × List Int)) : Prop := ∀ x ∈ l, R64 x.1 ∧ IntsR x.2 ∧ x.2.length ≤ 9223372036854775807
theorem open_raisesD {t e ti tl : TypeId} {f0 f1 : Field} (ht : P.underlying t = some (.slice e)) (he : P.underlying e = some (.struct #[f0, f1])) (hc : P.cellsOf e = 2)
  (hf0 : f0.type = ti) (hf1 : f1.type = tl) (ho0 : f0.offset = 0) (ho1 : f1.offset = 1) (hi : P.underlying ti = some (.int .i64)) (hci : P.cellsOf ti = 1) (htl : P.underlying tl = some (.slice ti)) (hcl : P.cellsOf tl = 1)
  (h : DataW.trod enc P w 0 spare held fuel t cs = some x) : ∃ v l, cs = [v] ∧ VR M0 R0 w (.ro false (.raises l)) v ∧ RsR l := by
 rcases open_slice ht h with ⟨rfl, _⟩ | ⟨a, len, cap, m, n, D, Pl, rfl, hb, hl, hm, hmm, rfl, hx⟩
 ·exact ⟨_, [], rfl, .ro false (.raises []) none 0 0 0 (fun _ _ => undef) (Nat.zero_le _) (Nat.le_refl _) (fun h => absurd h (by simp [Sq.len])) (fun i j d hi => absurd hi (by simp [Sq.len])) (fun i j d hi => absurd hi (by simp [Sq.len])), by simp [RsR]⟩
 ·have hlm : len ≤ m := by rw [hmm]; split <;> omega
  have hcell : ∀ i, i < len → ∃ z : Int × List Int × Value, w.cell? (a.add (i * 2)) = some (.int .i64 z.1) ∧ w.cell? ((a.add (i * 2)).add 1) = some z.2.2 ∧ VR M0 R0 w (.ro false (.ints z.2.1)) z.2.2 ∧ R64 z.1 ∧ IntsR z.2.1 := fun i hi' => by
   obtain ⟨cs', h1, h2⟩ := hx i (by omega)
   obtain ⟨y0, y1, n', _, hlen, hy0, hy1⟩ := trod_struct2 he h2
   rw [hc] at h1 hlen
   obtain ⟨c0, c1, rfl⟩ : ∃ c0 c1, cs' = [c0, c1] := by
    match cs', hlen with
    | [c0, c1], _ => exact ⟨c0, c1, rfl⟩
   rw [hf0, ho0, hci] at hy0
   rw [hf1, ho1, hcl] at hy1
   simp at hy0 hy1
   obtain ⟨z0, hz0, _, w0⟩ := DataW.trod_int hi hy0
   obtain ⟨v1, l1, e1, k1, r1⟩ := open_intsD htl hi hci hy1
   simp at hz0 e1
   subst hz0 e1
   obtain ⟨_, _, hk⟩ := World.cells?_some h1
   exact ⟨(z0, l1, c1), by simpa [Addr.add] using hk 0 (by omega), by simpa using hk 1 (by omega), k1, R64_of_wf w0, r1⟩
  obtain ⟨f, hf⟩ := choose_lt hcell
  refine ⟨_, (List.range len).map fun i => ((f i).1, (f i).2.1), rfl, ?_, ?_⟩
  ·have key := VR.ro (M := M0) (A := R0) (w := w) false (.raises ((List.range len).map fun i => ((f i).1, (f i).2.1))) (some a) cap a.block a.off (fun i j => if j = 0 then .int .i64 (f i).1 else (f i).2.2)
    (by simp [Sq.len]; omega) (by simp [Sq.len]; omega) (fun h0 => ?_) (fun i j d hi hd => ?_) (fun i j d hi hd => ?_)
   ·simpa [Sq.len] using key
   ·simp [Sq.len] at h0
    have c0 := (hf 0 h0).1
    have hs := cell?_spot c0
    have : (a.add (0 * 2)) = a := by simp [Addr.add]
    rw [this] at hs c0
    exact ⟨by cases a; simp_all, cell?_lt c0, trivial⟩
   ·simp [Sq.len] at hi
    obtain ⟨g1, g2, _⟩ := hf i hi
    have c0 := (hf 0 (by omega)).1
    have hs := cell?_spot c0
    have ha : a = ⟨a.block, a.off, none⟩ := by
     have : (a.add (0 * 2)) = a := by simp [Addr.add]
     rw [this] at hs; cases a; simp_all
    rw [ha, Addr.add_lit] at g1
    rw [ha, Addr.add_lit, Addr.add_lit] at g2
    rcases j with _ | _ | j <;> simp [Sq.elem] at hd
    ·simpa [Sq.sz] using g1
    ·simpa [Sq.sz] using g2
   ·simp [Sq.len] at hi
    obtain ⟨_, _, g3, _⟩ := hf i hi
    rcases j with _ | _ | j <;> simp [Sq.elem, hi] at hd
    ·subst hd; exact .int _
    ·subst hd; exact g3
  ·intro y hy
   obtain ⟨i, hi, rfl⟩ := List.mem_map.1 hy
   obtain ⟨_, _, g3, g4, g5⟩ := hf i (by simpa using hi)
   exact ⟨g4, g5, g3.lens⟩
end
variable (N : Nat)
abbrev BRaiseS (a : List (Int × List Int)) : Prop := B63 a.length ∧ ∀ x ∈ a, B63 x.2.length
def lnRaiseS (a : List (Int × List Int)) : Nat := a.length + (a.map fun x => x.2.length).sum
theorem sum_le_mem : ∀ (l : List Nat) (x : Nat), x ∈ l → x ≤ l.sum
 | y :: l, x, h => by
  rcases List.mem_cons.1 h with rfl | h
  ·simp
  ·have := sum_le_mem l x h; simp; omega
theorem lnRaiseS_in {a : List (Int × List Int)} {x : Int × List Int} (h : x ∈ a) : x.2.length ≤ lnRaiseS a := by
 have := sum_le_mem (a.map fun x => x.2.length) x.2.length (List.mem_map.2 ⟨x, h, rfl⟩)
 unfold lnRaiseS; omega
theorem szRaiseS_l {a : List (Int × List Int)} (ha : BRaiseS a) : ∀ (n i : Nat) (left : Int), i ≤ a.length → a.length < n + i → 0 ≤ left → left ≤ 1048576 → a.length ≤ 1048576 →
  L_szRaiseS_l1 N a (fun x => some x) n (left, (i : Int)) = some (szv left ((a.drop i).map fun x => x.2.length).sum) := by
 intro n
 induction n with
 | zero => intro i left h1 h2; omega
 | succ n ih =>
  intro i left h1 h2 h3 h4 h5
  rw [L_szRaiseS_l1]
  by_cases hi : i < a.length
  ·have hg : a.getD i (0, []) = a[i] := by simp [hi]
   have hb : B63 (a[i]).2.length := ha.2 _ (List.getElem_mem hi)
   have e : ((i : Int)).toNat = i := by omega
   have gi : 0 ≤ (i : Int) ∧ (i : Int) < (a.length : Int) := by omega
   rw [cnd_dt (by omega), grd_pos gi, e, hg, szRaise_s N (a := ⟨(a[i]).1, (a[i]).2⟩) hb h3 h4, Option.bind_some, List.drop_eq_getElem_cons hi, List.map_cons, List.sum_cons]
   by_cases hl : left < ((a[i]).2.length : Int)
   ·rw [szv_big (n := lnRaise _) hl, szv_big (n := _ + _) (by omega), cnd_dt (by omega)]
   ·rw [szv_ok (n := lnRaise _) hl]
    have hl' : ¬ (left - ((lnRaise ⟨(a[i]).1, (a[i]).2⟩ : Nat) : Int)) < 0 := by show ¬ (left - ((a[i]).2.length : Int)) < 0; omega
    rw [cnd_df hl', grd_R (by omega) (by omega), succ_cast, ih (i + 1) _ (by omega) (by omega) (by omega) (by show left - ((a[i]).2.length : Int) ≤ 1048576; omega) h5]
    show some (szv (left - ((a[i]).2.length : Int)) _) = _
    unfold szv
    congr 1
    split <;> split <;> omega
  ·rw [cnd_df (by omega)]
   obtain rfl : i = a.length := by omega
   rw [List.drop_length]
   show some left = some (szv left 0)
   rw [szv_ok (by omega)]; simp
theorem szRaiseS_s (hN : 4000000 ≤ N) {a : List (Int × List Int)} (ha : BRaiseS a) {left : Int} (h0 : 0 ≤ left) (h1 : left ≤ 1048576) : L_szRaiseS N a left = some (szv left (lnRaiseS a)) := by
 unfold L_szRaiseS lnRaiseS
 have hb := ha.1
 rw [grd_R (by omega) (by omega)]
 by_cases h : left < (a.length : Int)
 ·rw [cnd_dt (by omega), szv_big (by omega)]
 ·have := szRaiseS_l N ha N 0 (left - (a.length : Int)) (by omega) (by omega) (by omega) (by omega) (by omega)
  rw [cnd_df (by omega)]
  refine this.trans ?_
  rw [List.drop_zero]
  unfold szv
  congr 1
  split <;> split <;> omega
theorem toRaiseS_l (hN : 4000000 ≤ N) {a : List (Int × List Int)} (ha : lnRaiseS a ≤ 1048576) (k : List (Int × List Int) → Option (List (Int × List Int))) : ∀ n i : Nat, i ≤ a.length → a.length < n + i → L_toRaiseS_l1 N a k n (cpy a (0, []) i, (i : Int)) = k a := by
 intro n
 have hal : a.length ≤ 1048576 := by unfold lnRaiseS at ha; omega
 induction n with
 | zero => intro i h1 h2; omega
 | succ n ih =>
  intro i h1 h2
  have hl := cpy_len a (0, []) i
  rw [L_toRaiseS_l1]
  by_cases hi : i < a.length
  ·have hg : a.getD i (0, []) = a[i] := by simp [hi]
   have e : ((i : Int)).toNat = i := by omega
   have hb : (a[i]).2.length ≤ 1048576 := by have := lnRaiseS_in (List.getElem_mem hi); omega
   have gi : 0 ≤ (i : Int) ∧ (i : Int) < (a.length : Int) := by omega
   have gl : 0 ≤ (i : Int) ∧ (i : Int) < ((cpy a (0, []) i).length : Int) := by omega
   have gr : 0 ≤ (i : Int) ∧ (i : Int) < ((List.replicate (((a.length : Int)).toNat) ((0, []) : (Int × List Int))).length : Int) := by rw [List.length_replicate]; omega
   rw [cnd_dt (by omega), grd_pos gi, e, toRaise_s N hN (a := ⟨(a.getD i (0, [])).1, (a.getD i (0, [])).2⟩) (by rw [hg]; exact hb), Option.bind_some, grd_pos gr, grd_pos gl, grd_R (by omega) (by omega), succ_cast]
   show L_toRaiseS_l1 N a k n ((cpy a (0, []) i).set i ((a.getD i (0, [])).1, (a.getD i (0, [])).2), _) = _
   rw [cpy_set a (0, []) (0, []) i hi rfl]
   exact ih (i + 1) (by omega) (by omega)
  ·rw [cnd_df (by omega)]
   obtain rfl : i = a.length := by omega
   rw [cpy_full]
theorem toRaiseS_s (hN : 4000000 ≤ N) {a : List (Int × List Int)} (ha : lnRaiseS a ≤ 1048576) : L_toRaiseS N a = some a := by
 have hal : a.length ≤ 1048576 := by unfold lnRaiseS at ha; omega
 unfold L_toRaiseS
 have h := toRaiseS_l N hN ha (fun l9 => grd ((List.replicate (((a.length : Int)).toNat) ((0, []) : (Int × List Int))).length = l9.length) <| some l9) N 0 (by omega) (by omega)
 simp only [Int.toNat_natCast, cpy_zero] at h ⊢
 have g0 : 0 ≤ (a.length : Int) ∧ (a.length : Int) ≤ 4294967296 := by omega
 rw [grd_pos g0]
 refine h.trans ?_
 rw [grd_pos (by rw [cpy_len])]
theorem eqRaiseS_l (hN : 4000000 ≤ N) {a : List (Int × List Int)} (ha : lnRaiseS a ≤ 1048576) (k : Unit → Option Bool) : ∀ n i : Nat, i ≤ a.length → a.length < n + i → L_eqRaiseS_l1 N a a k n (i : Int) = k () := by
 intro n
 have hal : a.length ≤ 1048576 := by unfold lnRaiseS at ha; omega
 induction n with
 | zero => intro i h1 h2; omega
 | succ n ih =>
  intro i h1 h2
  rw [L_eqRaiseS_l1]
  by_cases hi : i < a.length
  ·have hg : a.getD i (0, []) = a[i] := by simp [hi]
   have e : ((i : Int)).toNat = i := by omega
   have hb : (a[i]).2.length ≤ 1048576 := by have := lnRaiseS_in (List.getElem_mem hi); omega
   have gi : 0 ≤ (i : Int) ∧ (i : Int) < (a.length : Int) := by omega
   rw [cnd_dt (by omega), grd_pos gi, grd_pos gi, e, eqRaise_s N hN (a := ⟨(a.getD i (0, [])).1, (a.getD i (0, [])).2⟩) (by rw [hg]; exact hb), Option.bind_some, Bool.not_true, cnd_false, grd_R (by omega) (by omega), succ_cast]
   exact ih (i + 1) (by omega) (by omega)
  ·rw [cnd_df (by omega)]
theorem eqRaiseS_s (hN : 4000000 ≤ N) {a : List (Int × List Int)} (ha : lnRaiseS a ≤ 1048576) : L_eqRaiseS N a a = some true := by
 have hal : a.length ≤ 1048576 := by unfold lnRaiseS at ha; omega
 unfold L_eqRaiseS
 rw [bne_self_eq_false, cnd_false]
 exact eqRaiseS_l N hN ha (fun _ => some true) N 0 (by omega) (by omega)
end Go.Proofs.Ytkklfgcelmeccaa
namespace Go.Proofs.Ytkklfgcelmeccaa
open Go.RowKit
def L_FnExactFormatRaising (N : Nat) (aL_0 : List (Int × List Int)) : Option (Bool) :=
 (L_szRaiseS N aL_0 (1048576 : Int)).bind fun v1 =>
 cnd (decide (v1 < (0 : Int))) (
  some true) (
  (L_toRaiseS N aL_0).bind fun v2 =>
  (S_FormatRaising N v2).bind fun v3 =>
  (L_toRaiseS N aL_0).bind fun v4 =>
  (I_FormatRaising N v4).bind fun v5 =>
  cnd (!(v5.toList == v3.toList)) (
   some false) (
   (L_toRaiseS N aL_0).bind fun v6 =>
   (L_eqRaiseS N v4 v6).bind fun v7 =>
   cnd (!v7) (
    some false) (
    some true)))
set_option maxRecDepth 20000 in
set_option maxHeartbeats 1600000 in
theorem L_FnExactFormatRaising_w (N : Nat) (aL_0 : List (Int × List Int)) (r : Bool) (h : L_FnExactFormatRaising N aL_0 = some r) : PCall Try.prog 3 [.ro false (.raises aL_0)] [] (.bool r) := by
 unfold L_FnExactFormatRaising at h
 refine pcall_intro (TT := TT) tt Try.func3 rfl rfl Try.ntmps3 (congrArg Array.toList Try.results3) rfl rfl fun w0 => ?_
 refine vSeq ?_
 refine vRegion ?_
 refine oVal tt rfl rfl rfl rfl rfl trivial ?_
 refine vNil ?_
 change VC _ _ _ _
 refine vSeq ?_
 refine vRegion ?_
 refine oVal tt rfl rfl rfl rfl rfl trivial ?_
 refine vNil ?_
 change VC _ _ _ _
 refine vSeq ?_
 refine vRegion ?_
 iterate 2 refine oVal tt rfl rfl rfl rfl rfl trivial ?_
 obtain ⟨v1, hc1, h⟩ := bind_inv h
 refine oCall (L_szRaiseS_w N aL_0 (1048576 : Int) v1 hc1) rfl rfl rfl rfl rfl rfl rfl rfl ⟨rfl, rfl, trivial⟩ ?_
 refine oVal tt rfl rfl rfl rfl rfl trivial ?_
 refine vNil ?_
 change VC _ _ _ _
 iterate 2 refine vSeq ?_
 refine vRegion ?_
 iterate 2 refine oVal tt rfl rfl rfl rfl rfl trivial ?_
 refine vNil ?_
 change VC _ _ _ _
 refine vCond rfl (fun hb2 => ?_) (fun hb2 => ?_)
 ·replace h := cnd_t hb2 h
  refine vSeq ?_
  refine vRegion ?_
  refine oVal tt rfl rfl rfl rfl rfl trivial ?_
  refine vNil ?_
  change VC _ _ _ _
  refine vRet ?_
  change ∃ _, _
  cases h
  exact ⟨[], _, rfl, trivial, rfl, (.eq rfl), rfl⟩
 ·replace h := cnd_f hb2 h
  refine vSkip ?_
  change VC _ _ _ _
  refine vSeq ?_
  refine vRegion ?_
  refine oVal tt rfl rfl rfl rfl rfl trivial ?_
  obtain ⟨v2, hc3, h⟩ := bind_inv h
  refine oCallD 10 (L_toRaiseS_w N aL_0 v2 hc3) rfl rfl rfl rfl rfl rfl rfl rfl rfl rfl rfl (fun _ h => by cases h) ⟨rfl, trivial⟩ ?_
  obtain ⟨v3, hc4, h⟩ := bind_inv h
  refine oCall (S_FormatRaising_w N v2 v3 hc4) rfl rfl rfl rfl rfl rfl rfl rfl ⟨(.inr (.inr ⟨10, _, by decide, rfl, rfl, rfl, rfl⟩)), trivial⟩ ?_
  refine oVal tt rfl rfl rfl rfl rfl trivial ?_
  refine vNil ?_
  change VC _ _ _ _
  refine vSeq ?_
  refine vRegion ?_
  refine oVal tt rfl rfl rfl rfl rfl trivial ?_
  obtain ⟨v4, hc5, h⟩ := bind_inv h
  refine oCallD 11 (L_toRaiseS_w N aL_0 v4 hc5) rfl rfl rfl rfl rfl rfl rfl rfl rfl rfl rfl (fun _ h => by cases h) ⟨rfl, trivial⟩ ?_
  refine oVal tt rfl rfl rfl rfl rfl trivial ?_
  refine vNil ?_
  change VC _ _ _ _
  refine vSeq ?_
  refine vRegion ?_
  refine oVal tt rfl rfl rfl rfl rfl trivial ?_
  obtain ⟨v5, hc6, h⟩ := bind_inv h
  refine oCall (I_FormatRaising_w N v4 v5 hc6) rfl rfl rfl rfl rfl rfl rfl rfl ⟨(.inr (.inr ⟨11, _, by decide, rfl, rfl, rfl, rfl⟩)), trivial⟩ ?_
  refine oVal tt rfl rfl rfl rfl rfl trivial ?_
  refine vNil ?_
  change VC _ _ _ _
  iterate 2 refine vSeq ?_
  refine vRegion ?_
  iterate 2 refine oVal tt rfl rfl rfl rfl rfl trivial ?_
  refine oPure (wNone rfl) (pStrNe rfl rfl rfl) rfl rfl ?_
  refine vNil ?_
  change VC _ _ _ _
  refine vCond rfl (fun hb7 => ?_) (fun hb7 => ?_)
  ·replace h := cnd_t hb7 h
   refine vSeq ?_
   refine vRegion ?_
   refine oVal tt rfl rfl rfl rfl rfl trivial ?_
   refine vNil ?_
   change VC _ _ _ _
   refine vRet ?_
   change ∃ _, _
   cases h
   exact ⟨[], _, rfl, trivial, rfl, (.eq rfl), rfl⟩
  ·replace h := cnd_f hb7 h
   refine vSkip ?_
   change VC _ _ _ _
   iterate 2 refine vSeq ?_
   refine vRegion ?_
   iterate 2 refine oVal tt rfl rfl rfl rfl rfl trivial ?_
   obtain ⟨v6, hc8, h⟩ := bind_inv h
   refine oCallD 12 (L_toRaiseS_w N aL_0 v6 hc8) rfl rfl rfl rfl rfl rfl rfl rfl rfl rfl rfl (fun _ h => by cases h) ⟨rfl, trivial⟩ ?_
   obtain ⟨v7, hc9, h⟩ := bind_inv h
   refine oCall (L_eqRaiseS_w N v4 v6 v7 hc9) rfl rfl rfl rfl rfl rfl rfl rfl ⟨(.inr (.inr ⟨11, _, by decide, rfl, rfl, rfl, rfl⟩)), (.inr (.inr ⟨12, _, by decide, rfl, rfl, rfl, rfl⟩)), trivial⟩ ?_
   refine oVal tt rfl rfl rfl rfl rfl trivial ?_
   refine vNil ?_
   change VC _ _ _ _
   refine vCond rfl (fun hb10 => ?_) (fun hb10 => ?_)
   ·replace h := cnd_t hb10 h
    refine vSeq ?_
    refine vRegion ?_
    refine oVal tt rfl rfl rfl rfl rfl trivial ?_
    refine vNil ?_
    change VC _ _ _ _
    refine vRet ?_
    change ∃ _, _
    cases h
    exact ⟨[], _, rfl, trivial, rfl, (.eq rfl), rfl⟩
   ·replace h := cnd_f hb10 h
    refine vSkip ?_
    change VC _ _ _ _
    refine vSeq ?_
    refine vRegion ?_
    refine oVal tt rfl rfl rfl rfl rfl trivial ?_
    refine vNil ?_
    change VC _ _ _ _
    refine vRet ?_
    change ∃ _, _
    cases h
    exact ⟨[], _, rfl, trivial, rfl, (.eq rfl), rfl⟩
end Go.Proofs.Ytkklfgcelmeccaa
