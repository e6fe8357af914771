/- The search of the pebble game, without a program. -/
import Derived.Test.YtkpmijmlbpdknaaPn
namespace Go.Proofs.Ytkpmijmlbpdknaa
set_option linter.unusedVariables false
set_option linter.unusedSimpArgs false
variable {n : Nat} {E : List (Int × Int)} {f T : List Int} {a b : Int} {q : List Int} {fr : Int → Int} {k m : Nat}

/-- what the search has found so far: q the points in the order of their finding, fr by which bar -/
structure BI (n : Nat) (E : List (Int × Int)) (T : List Int) (a : Int) (q : List Int) (fr : Int → Int) : Prop where
  hd : q.getD 0 0 = a
  pos : 0 < q.length
  nd : q.Nodup
  rg : ∀ v ∈ q, 0 ≤ v ∧ v < n
  st : ∀ j, 0 < j → j < q.length → ∃ j' i : Nat, j' < j ∧ i < E.length ∧ fr (q.getD j 0) = i ∧ T.getD i 0 = q.getD j' 0 ∧ oth (E.getD i (0, 0)) (T.getD i 0) = q.getD j 0
def BZ (f : List Int) (a b : Int) (q : List Int) : Prop := ∀ v ∈ q, v ≠ a → v ≠ b → f.getD v.toNat 0 = 0
def Done (E : List (Int × Int)) (T q : List Int) (k m : Nat) : Prop := (∀ j i : Nat, j < k → i < E.length → T.getD i 0 = q.getD j 0 → oth (E.getD i (0, 0)) (q.getD j 0) ∈ q) ∧ ∀ i : Nat, i < m → i < E.length → T.getD i 0 = q.getD k 0 → oth (E.getD i (0, 0)) (q.getD k 0) ∈ q
theorem BI.start (ha : 0 ≤ a ∧ a < n) : BI n E T a [a] fr := ⟨rfl, by simp, by simp, by simpa using ha, fun j h1 h2 => by simp at h2; omega⟩
theorem Done.start : Done E T q 0 0 := ⟨fun j i h => by omega, fun i h => by omega⟩
theorem nodup_le : ∀ {n : Nat} {q : List Int}, q.Nodup → (∀ v ∈ q, 0 ≤ v ∧ v < n) → q.length ≤ n
  | 0, q, _, hr => by
    cases q with
    | nil => simp
    | cons x q => have := hr x (by simp); omega
  | n + 1, q, hn, hr => by
    by_cases hm : (n : Int) ∈ q
    · have ih := nodup_le (n := n) (hn.erase (n : Int)) fun v hv => by
        have := (hn.mem_erase_iff).1 hv
        have h2 := hr v this.2
        have := this.1
        omega
      rw [List.length_erase_of_mem hm] at ih
      omega
    · have ih := nodup_le (n := n) hn fun v hv => by
        have h2 := hr v hv
        have : v ≠ (n : Int) := fun e => hm (e ▸ hv)
        omega
      omega
theorem BI.len (h : BI n E T a q fr) : q.length ≤ n := nodup_le h.nd h.rg
theorem getD_appl {α : Type} {l : List α} {x d : α} {i : Nat} (h : i < l.length) : (l ++ [x]).getD i d = l.getD i d := by rw [getD_app, if_pos h]
/-- a new point -/
theorem BI.push (h : BI n E T a q fr) {k i : Nat} {v : Int} (hk : k < q.length) (hi : i < E.length) (ht : T.getD i 0 = q.getD k 0) (hv : oth (E.getD i (0, 0)) (q.getD k 0) = v) (hr : 0 ≤ v ∧ v < n) (hn : v ∉ q) {fr' : Int → Int} (h1 : fr' v = i) (h2 : ∀ w ∈ q, fr' w = fr w) : BI n E T a (q ++ [v]) fr' := by
  refine ⟨by rw [getD_appl h.pos]; exact h.hd, by simp, List.nodup_append.2 ⟨h.nd, by simp, fun x hx y hy e => hn ?_⟩, fun w hw => ?_, fun j hj hl => ?_⟩
  · simp at hy; subst hy; subst e; exact hx
  · rcases List.mem_append.1 hw with hw | hw
    · exact h.rg w hw
    · simp at hw; subst hw; exact hr
  · by_cases e : j = q.length
    · subst e
      refine ⟨k, i, hk, hi, ?_, ?_, ?_⟩
      · rw [getD_app]; simp [h1]
      · rw [getD_appl hk]; exact ht
      · rw [ht, hv, getD_app]; simp
    · have hj' : j < q.length := by simp at hl; omega
      obtain ⟨j', i', g1, g2, g3, g4, g5⟩ := h.st j hj hj'
      have hm : q.getD j 0 ∈ q := getD_mem hj'
      exact ⟨j', i', g1, g2, by rw [getD_appl hj', h2 _ hm]; exact g3, by rw [getD_appl (by omega)]; exact g4, by rw [getD_appl hj']; exact g5⟩
theorem BZ.push (h : BZ f a b q) {v : Int} (hv : v = b ∨ f.getD v.toNat 0 = 0) : BZ f a b (q ++ [v]) := fun w hw h1 h2 => by
  rcases List.mem_append.1 hw with hw | hw
  · exact h w hw h1 h2
  · simp at hw; subst hw; exact hv.resolve_left h2
theorem Done.push (h : Done E T q k m) {v : Int} (hk : k < q.length) : Done E T (q ++ [v]) k m := ⟨fun j i hj hi ht => by
  rw [getD_appl (by omega)] at ht ⊢
  exact List.mem_append.2 (.inl (h.1 j i hj hi ht)), fun i hm hi ht => by
  rw [getD_appl hk] at ht ⊢
  exact List.mem_append.2 (.inl (h.2 i hm hi ht))⟩
theorem Done.step (h : Done E T q k m) (hm : m < E.length → T.getD m 0 = q.getD k 0 → oth (E.getD m (0, 0)) (q.getD k 0) ∈ q) : Done E T q k (m + 1) := ⟨h.1, fun i hi hl ht => by
  by_cases e : i = m
  · subst e; exact hm hl ht
  · exact h.2 i (by omega) hl ht⟩
theorem Done.next (h : Done E T q k E.length) : Done E T q (k + 1) 0 := ⟨fun j i hj hi ht => by
  by_cases e : j = k
  · subst e; exact h.2 i hi hi ht
  · exact h.1 j i (by omega) hi ht, fun i h => by omega⟩
/-- what a search that failed leaves -/
def Shut (n : Nat) (E : List (Int × Int)) (f T : List Int) (a b : Int) : Prop := ∃ R : VS, R a = true ∧ (∀ i, i < E.length → R (T.getD i 0) = true → R (oth (E.getD i (0, 0)) (T.getD i 0)) = true) ∧ ∀ v : Nat, v < n → R (v : Int) = true → (v : Int) ≠ a → (v : Int) ≠ b → f.getD v 0 = 0
theorem BI.shut (h : BI n E T a q fr) (hz : BZ f a b q) (hd : Done E T q k 0) (hk : q.length ≤ k) : Shut n E f T a b := by
  refine ⟨fun v => q.contains v, ?_, fun i hi hR => ?_, fun v hv hR h1 h2 => ?_⟩
  · have : q.getD 0 0 ∈ q := getD_mem h.pos
    rw [h.hd] at this
    simpa using this
  · have hR : T.getD i 0 ∈ q := by simpa using hR
    obtain ⟨j, hj, e⟩ := List.mem_iff_getElem.1 hR
    have e' : q.getD j 0 = T.getD i 0 := by rw [List.getD_eq_getElem?_getD, List.getElem?_eq_getElem hj]; exact e
    have := hd.1 j i (by omega) hi e'.symm
    rw [e'] at this
    simpa using this
  · have := hz v (by simpa using hR) h1 h2
    simpa using this
/-- two searches that failed: a tight set -/
theorem Shut.tgt (hp : PInv n E f T) (hb : Bok n (a, b)) (h1 : Shut n E f T a b) (h2 : Shut n E f T b a) (h3 : f.getD a.toNat 0 + f.getD b.toNat 0 ≤ 3) : ∃ X, Tgt n E X ∧ inX X (a, b) = true := by
  obtain ⟨R, r1, r2, r3⟩ := h1
  obtain ⟨S, s1, s2, s3⟩ := h2
  have both : ∀ (R : VS) i, i < E.length → R (T.getD i 0) = true → R (oth (E.getD i (0, 0)) (T.getD i 0)) = true → inX R (E.getD i (0, 0)) = true := by
    intro R i hi g1 g2
    simp only [inX, Bool.and_eq_true]
    rcases hp.en i hi with e | e
    · rw [e] at g1 g2
      simp only [oth] at g2
      exact ⟨g1, by rwa [show (E.getD i (0, 0)).1 + (E.getD i (0, 0)).2 - (E.getD i (0, 0)).1 = (E.getD i (0, 0)).2 from by omega] at g2⟩
    · rw [e] at g1 g2
      simp only [oth] at g2
      exact ⟨by rwa [show (E.getD i (0, 0)).1 + (E.getD i (0, 0)).2 - (E.getD i (0, 0)).2 = (E.getD i (0, 0)).1 from by omega] at g2, g1⟩
  refine ⟨vU R S, hp.rej hb (fun i hi hR => ?_) (by simp [vU, r1]) (by simp [vU, s1]) (fun v hv hR g1 g2 => ?_) h3, by simp [inX, vU, r1, s1]⟩
  · simp only [vU, Bool.or_eq_true] at hR
    rcases hR with hR | hR
    · have := both R i hi hR (r2 i hi hR)
      simp only [inX, vU, Bool.and_eq_true, Bool.or_eq_true] at this ⊢
      exact ⟨.inl this.1, .inl this.2⟩
    · have := both S i hi hR (s2 i hi hR)
      simp only [inX, vU, Bool.and_eq_true, Bool.or_eq_true] at this ⊢
      exact ⟨.inr this.1, .inr this.2⟩
  · simp only [vU, Bool.or_eq_true] at hR
    rcases hR with hR | hR
    · exact r3 v hv hR g1 g2
    · exact s3 v hv hR g2 g1

/-! ### turning the path -/
structure Mv (E : List (Int × Int)) (T T' : List Int) (u at' : Int) : Prop where
  len : T'.length = T.length
  en : ∀ i, i < E.length → T'.getD i 0 = (E.getD i (0, 0)).1 ∨ T'.getD i 0 = (E.getD i (0, 0)).2
  cnt : ∀ v : Int, (T'.count v : Int) + (if v = at' then 1 else 0) = T.count v + (if v = u then 1 else 0)
theorem count_set' {l : List Int} {i : Nat} (h : i < l.length) (x v : Int) : ((l.set i x).count v : Int) = l.count v - (if l.getD i 0 = v then 1 else 0) + (if x = v then 1 else 0) := by
  induction l generalizing i with
  | nil => simp at h
  | cons y l ih =>
    cases i with
    | zero => simp [List.count_cons]; split <;> split <;> omega
    | succ i =>
      have := ih (i := i) (by simpa using h)
      simp only [List.set_cons_succ, List.count_cons, List.getD_cons_succ]
      push_cast
      omega
/-- one step back -/
theorem BI.back (h : BI n E T a q fr) (hp : PInv n E f T) {u : Int} {j : Nat} (hj : 0 < j) (hl : j < q.length) {T' : List Int} (hm : Mv E T T' u (q.getD j 0)) (hun : ∀ j', 0 < j' → j' ≤ j → T'.getD (fr (q.getD j' 0)).toNat 0 = T.getD (fr (q.getD j' 0)).toNat 0) :
    ∃ j' i : Nat, j' < j ∧ i < E.length ∧ fr (q.getD j 0) = i ∧ oth (E.getD i (0, 0)) (q.getD j 0) = q.getD j' 0 ∧ T'.getD i 0 = q.getD j' 0 ∧ Mv E T (T'.set i (q.getD j 0)) u (q.getD j' 0) ∧ ∀ j'', 0 < j'' → j'' ≤ j' → (T'.set i (q.getD j 0)).getD (fr (q.getD j'' 0)).toNat 0 = T.getD (fr (q.getD j'' 0)).toNat 0 := by
  obtain ⟨j', i, g1, g2, g3, g4, g5⟩ := h.st j hj hl
  have e1 := hun j hj (Nat.le_refl _)
  rw [g3, Int.toNat_natCast, g4] at e1
  have e2 : oth (E.getD i (0, 0)) (q.getD j 0) = q.getD j' 0 := by rw [← g5, ← g4]; simp only [oth]; omega
  have hiT : i < T'.length := by rw [hm.len, hp.tl]; exact g2
  refine ⟨j', i, g1, g2, g3, e2, e1, ⟨by simp [hm.len], fun i' hi' => ?_, fun v => ?_⟩, fun j'' h1 h2 => ?_⟩
  · rw [getD_set]
    by_cases e : i = i' ∧ i' < T'.length
    · rw [if_pos e, ← e.1]
      rcases hp.en i g2 with t | t
      · right; rw [← g5, t]; simp only [oth]; omega
      · left; rw [← g5, t]; simp only [oth]; omega
    · rw [if_neg e]; exact hm.en i' hi'
  · have c1 := hm.cnt v
    rw [count_set' hiT, e1]
    revert c1
    generalize (T'.count v : Int) = x
    generalize (T.count v : Int) = y
    intro c1
    have s1 : (if q.getD j' 0 = v then (1 : Int) else 0) = if v = q.getD j' 0 then 1 else 0 := by split <;> split <;> simp_all
    have s2 : (if q.getD j 0 = v then (1 : Int) else 0) = if v = q.getD j 0 then 1 else 0 := by split <;> split <;> simp_all
    rw [s1, s2]
    omega
  · obtain ⟨j3, i3, k1, k2, k3, k4, k5⟩ := h.st j'' h1 (by omega)
    have hne : i ≠ i3 := by
      rintro rfl
      have : q.getD j'' 0 = q.getD j 0 := by rw [← k5, ← g5]
      have hj'' : j'' < q.length := by omega
      rw [List.getD_eq_getElem?_getD, List.getD_eq_getElem?_getD, List.getElem?_eq_getElem hj'', List.getElem?_eq_getElem hl] at this
      have := (List.getElem_inj h.nd).1 this
      omega
    rw [k3, Int.toNat_natCast, getD_set, if_neg (fun e => hne e.1)]
    have := hun j'' h1 (by omega)
    rwa [k3, Int.toNat_natCast] at this
theorem Mv.start (hp : PInv n E f T) (u : Int) : Mv E T T u u := ⟨rfl, hp.en, fun v => rfl⟩
/-- a pebble has come to a -/
structure Won (n : Nat) (E : List (Int × Int)) (f f' T' : List Int) (a b : Int) : Prop where
  inv : PInv n E f' T'
  up : f'.getD a.toNat 0 = f.getD a.toNat 0 + 1
  keep : f'.getD b.toNat 0 = f.getD b.toNat 0
def fMove (f : List Int) (u a : Int) : List Int := (f.set u.toNat (f.getD u.toNat 0 - 1)).set a.toNat ((f.set u.toNat (f.getD u.toNat 0 - 1)).getD a.toNat 0 + 1)
theorem Mv.won (hp : PInv n E f T) {u : Int} {T' : List Int} (hm : Mv E T T' u a) (ha : 0 ≤ a ∧ a < n) (hu : 0 ≤ u ∧ u < n) (hb : 0 ≤ b ∧ b < n) (hua : u ≠ a) (hub : u ≠ b) (hab : a ≠ b) (hf : 1 ≤ f.getD u.toNat 0) : Won n E f (fMove f u a) T' a b := by
  obtain ⟨a, rfl⟩ := Int.eq_ofNat_of_zero_le ha.1
  obtain ⟨u, rfl⟩ := Int.eq_ofNat_of_zero_le hu.1
  obtain ⟨b, rfl⟩ := Int.eq_ofNat_of_zero_le hb.1
  have hl := hp.fl
  have key : ∀ v : Nat, v < n → (fMove f u a).getD v 0 = f.getD v 0 - (if v = u then 1 else 0) + (if v = a then 1 else 0) := by
    intro v hv
    simp only [fMove, Int.toNat_natCast] at hf ⊢
    rw [getD_set, getD_set, getD_set]
    simp only [List.length_set]
    have hua' : u ≠ a := fun e => hua (by rw [e])
    by_cases h1 : v = a
    · subst h1
      have e1 : (if v = u then (1 : Int) else 0) = 0 := if_neg fun e => hua' e.symm
      rw [e1, if_pos ⟨rfl, by omega⟩, if_neg (fun h => hua' h.1), if_pos rfl]
      omega
    · have e1 : (if v = a then (1 : Int) else 0) = 0 := if_neg h1
      rw [e1, if_neg (fun h => h1 h.1.symm)]
      by_cases h2 : v = u
      · subst h2
        rw [if_pos ⟨rfl, by omega⟩, if_pos rfl]; omega
      · rw [if_neg (fun h => h2 h.1.symm), if_neg h2]; omega
  refine ⟨⟨by simp [fMove, hl], hm.len.trans hp.tl, hp.ok, hm.en, fun v hv => ?_, fun v hv => ?_⟩, ?_, ?_⟩
  · rw [key v hv]
    have := hp.nn v hv
    simp only [Int.toNat_natCast] at hf
    by_cases h1 : v = u
    · subst h1; split <;> split <;> omega
    · rw [if_neg h1]; split <;> omega
  · rw [key v hv]
    have c := hm.cnt (v : Int)
    have s := hp.sm v hv
    have s1 : (if (v : Int) = (a : Int) then (1 : Int) else 0) = if v = a then 1 else 0 := by split <;> split <;> omega
    have s2 : (if (v : Int) = (u : Int) then (1 : Int) else 0) = if v = u then 1 else 0 := by split <;> split <;> omega
    rw [s1, s2] at c
    omega
  · simp only [Int.toNat_natCast]
    rw [key a (by omega), if_neg (by omega), if_pos rfl]; omega
  · simp only [Int.toNat_natCast]
    rw [key b (by omega), if_neg (by omega), if_neg (by omega)]; omega
end Go.Proofs.Ytkpmijmlbpdknaa
