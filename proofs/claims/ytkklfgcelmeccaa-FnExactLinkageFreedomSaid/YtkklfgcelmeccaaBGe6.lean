/- Texts that the proof needs, put together: Rg Ph Pk Rh Pm Qj Ri G118. -/
import Derived.Test.YtkklfgcelmeccaaBGe3
import Derived.Test.YtkklfgcelmeccaaBGe4
import Derived.Test.YtkklfgcelmeccaaBGe5
set_option linter.unusedVariables false
set_option linter.unusedSimpArgs false
namespace Go.Proofs.Ytkklfgcelmeccaa
variable {N : Nat}
theorem gset {α : Type} (l : List α) (i p : Nat) (x d : α) (hi : i < l.length) : (l.set i x).getD p d = if p = i then x else l.getD p d := by
 rw [List.getD_eq_getElem?_getD, List.getElem?_set]
 by_cases h : i = p
 ·subst h; simp [hi]
 ·rw [if_neg h, if_neg (fun e => h e.symm), List.getD_eq_getElem?_getD]
theorem ext_getD {α : Type} {A B : List α} (d : α) (hl : A.length = B.length) (h : ∀ i, i < A.length → A.getD i d = B.getD i d) : A = B := by
 apply List.ext_getElem hl
 intro i h1 h2
 have := h i h1
 rw [List.getD_eq_getElem?_getD, List.getD_eq_getElem?_getD, List.getElem?_eq_getElem h1, List.getElem?_eq_getElem h2] at this
 exact this
def tab {α : Type} (R : Nat) (f : Nat → α) : List α := (List.range R).map f
theorem tab_len {α : Type} (R : Nat) (f : Nat → α) : (tab R f).length = R := by simp [tab]
theorem tab_get {α : Type} {R : Nat} (f : Nat → α) (d : α) {i : Nat} (hi : i < R) : (tab R f).getD i d = f i := by
 unfold tab
 rw [List.getD_eq_getElem?_getD, List.getElem?_map, List.getElem?_range hi]; rfl
def rowT (L : List (List Int)) (i r C t : Nat) (d f last : Int) : List Int := tab C fun q => if q < t then Int.tdiv (d * at2 L i q - f * at2 L r q) last else at2 L i q
theorem redI3 (hN : 4000000 ≤ N) {M L : List (List Int)} {P : List Int} {last d f : Int} {c p i C : Nat} (hC : C ≤ 100) (hi : i < L.length) (hr : P.length < L.length) (hne : i ≠ P.length) (hrow : (L.getD i []).length = C) (hrowr : (L.getD P.length []).length = C)
  (hd : (((M.set P.length (M.getD p [])).set p (M.getD P.length [])).getD P.length []).getD c 0 = d) (hf : (L.getD i []).getD c 0 = f) (bd : -7000 ≤ d ∧ d ≤ 7000) (bf : -7000 ≤ f ∧ f ≤ 7000) (bL : ∀ q, q < C → -7000 ≤ at2 L i q ∧ at2 L i q ≤ 7000) (bR : ∀ q, q < C → -7000 ≤ at2 L P.length q ∧ at2 L P.length q ≤ 7000) (hl : last ≠ 0)
  (k : List (List Int) → Option (List (List Int) × List Int × Int)) : ∀ (n t fuel : Nat), t + n = C → n < fuel →
  I_reduced_l3 N (C : Int) M P last (c : Int) (p : Int) L (i : Int) k fuel (L.set i (rowT L i P.length C t d f last), (t : Int)) = k (L.set i (rowT L i P.length C C d f last)) := by
 intro n
 induction n with
 | zero =>
  intro t fuel h1 h2
  obtain ⟨fuel, rfl⟩ : ∃ g, fuel = g + 1 := ⟨fuel - 1, by omega⟩
  obtain rfl : t = C := by omega
  rw [I_reduced_l3, cnd_df (by omega)]
 | succ n ih =>
  intro t fuel h1 h2
  obtain ⟨fuel, rfl⟩ : ∃ g, fuel = g + 1 := ⟨fuel - 1, by omega⟩
  have ht : t < C := by omega
  have p1 := mul_bd3 bd (bL t ht)
  have p2 := mul_bd3 bf (bR t ht)
  have q1 : (L.set i (rowT L i P.length C t d f last)).getD i [] = rowT L i P.length C t d f last := by rw [gset _ _ _ _ _ hi, if_pos rfl]
  have q2 : (L.set i (rowT L i P.length C t d f last)).getD P.length [] = L.getD P.length [] := by rw [gset _ _ _ _ _ hi, if_neg (fun e => hne e.symm)]
  have q3 : (rowT L i P.length C t d f last).getD t 0 = at2 L i t := by unfold rowT; rw [tab_get _ _ ht, if_neg (by omega)]
  have q4 : (L.getD P.length []).getD t 0 = at2 L P.length t := rfl
  have q5 : (rowT L i P.length C t d f last).length = C := tab_len _ _
  have q6 : (L.set i (rowT L i P.length C t d f last)).length = L.length := List.length_set
  have eR : (rowT L i P.length C t d f last).set t (Int.tdiv (d * at2 L i t - f * at2 L P.length t) last) = rowT L i P.length C (t + 1) d f last := by
   refine ext_getD 0 (by rw [List.length_set, q5]; exact (tab_len _ _).symm) fun q hq => ?_
   rw [List.length_set, q5] at hq
   rw [gset _ _ _ _ _ (by rw [q5]; exact ht)]
   unfold rowT
   rw [tab_get _ _ hq, tab_get _ _ hq]
   by_cases e : q = t
   ·rw [if_pos e, if_pos (by omega), e]
   ·rw [if_neg e]
    by_cases e2 : q < t
    ·rw [if_pos e2, if_pos (by omega)]
    ·rw [if_neg e2, if_neg (by omega)]
  have hq : Rg64 (Int.tdiv (d * at2 L i t - f * at2 L P.length t) last) := by
   have h5 : (Int.tdiv (d * at2 L i t - f * at2 L P.length t) last).natAbs = (d * at2 L i t - f * at2 L P.length t).natAbs / last.natAbs := Int.natAbs_tdiv _ _
   have h6 := Nat.div_le_self (d * at2 L i t - f * at2 L P.length t).natAbs last.natAbs
   constructor <;> omega
  have hstep : I_reduced_l3 N (C : Int) M P last (c : Int) (p : Int) L (i : Int) k (fuel + 1) (L.set i (rowT L i P.length C t d f last), (t : Int)) = I_reduced_l3 N (C : Int) M P last (c : Int) (p : Int) L (i : Int) k fuel (L.set i (rowT L i P.length C (t + 1) d f last), ((t + 1 : Nat) : Int)) := by
   rw [I_reduced_l3, cnd_dt (by omega), show ((i : Int)).toNat = i from Int.toNat_natCast i, show ((t : Int)).toNat = t from Int.toNat_natCast t, show ((c : Int)).toNat = c from Int.toNat_natCast c, show ((p : Int)).toNat = p from Int.toNat_natCast p, show (((P.length : Nat) : Int)).toNat = P.length from Int.toNat_natCast _, q1, q2, q3, q4, hd, hf, q5, q6, hrowr, grd_pos (by omega), grd_pos (by omega), grd_R (by omega) (by omega), grd_pos (by omega), grd_pos (by omega), grd_R (by omega) (by omega), grd_R (by omega) (by omega), grd_pos (p := last ≠ 0 ∧ Rg64 (Int.tdiv (d * at2 L i t - f * at2 L P.length t) last)) ⟨hl, hq⟩, grd_R (by omega) (by omega), succ_cast, eR, List.set_set]
  rw [hstep]
  exact ih (t + 1) fuel (by omega) (by omega)
def stI (X : List (List Int)) (r c C R : Nat) (last : Int) (i : Nat) : List (List Int) := tab R fun t => if t < i ∧ t ≠ r then tab C fun q => Int.tdiv (at2 X r c * at2 X t q - at2 X t c * at2 X r q) last else X.getD t []
theorem redI2 (hN : 4000000 ≤ N) {v1 M : List (List Int)} {P : List Int} {last : Int} {c p C R : Nat} (hC : C ≤ 100) (hR : R ≤ 1000) (hv : v1.length = R) (hr : P.length < R) (hc : c < C) {X : List (List Int)} (hX : (M.set P.length (M.getD p [])).set p (M.getD P.length []) = X) (hXl : X.length = R) (hrow : ∀ t, t < R → (X.getD t []).length = C)
  (bX : ∀ t q, t < R → q < C → -7000 ≤ at2 X t q ∧ at2 X t q ≤ 7000) (hl : last ≠ 0) (k : List (List Int) → Option (List (List Int) × List Int × Int)) : ∀ (n i fuel : Nat), i + n = R → n < fuel →
  I_reduced_l2 N (C : Int) v1 M P last (c : Int) (p : Int) k fuel (stI X P.length c C R last i, (i : Int)) = k (stI X P.length c C R last R) := by
 have hd : (((M.set P.length (M.getD p [])).set p (M.getD P.length [])).getD P.length []).getD c 0 = at2 X P.length c := by rw [hX]; rfl
 intro n
 induction n with
 | zero =>
  intro i fuel h1 h2
  obtain ⟨fuel, rfl⟩ : ∃ g, fuel = g + 1 := ⟨fuel - 1, by omega⟩
  obtain rfl : i = R := by omega
  rw [I_reduced_l2, cnd_df (by omega)]
 | succ n ih =>
  intro i fuel h1 h2
  obtain ⟨fuel, rfl⟩ : ∃ g, fuel = g + 1 := ⟨fuel - 1, by omega⟩
  have hi : i < R := by omega
  have hlen : (stI X P.length c C R last i).length = R := tab_len _ _
  have gr : (stI X P.length c C R last i).getD P.length [] = X.getD P.length [] := by unfold stI; rw [tab_get _ _ hr, if_neg (by omega)]
  have gi : (stI X P.length c C R last i).getD i [] = X.getD i [] := by unfold stI; rw [tab_get _ _ hi, if_neg (by omega)]
  rw [I_reduced_l2, cnd_dt (by omega)]
  by_cases hir : i = P.length
  ·have e : ((i : Int) == ((P.length : Nat) : Int)) = true := by rw [beq_iff_eq]; omega
   have e2 : stI X P.length c C R last (i + 1) = stI X P.length c C R last i := by
    refine ext_getD [] (by rw [hlen]; exact tab_len _ _) fun t ht => ?_
    have ht : t < R := by rw [show (stI X P.length c C R last (i + 1)).length = R from tab_len _ _] at ht; exact ht
    unfold stI
    rw [tab_get _ _ ht, tab_get _ _ ht]
    by_cases h3 : t < i ∧ t ≠ P.length
    ·rw [if_pos h3, if_pos (by omega)]
    ·rw [if_neg h3, if_neg (by omega)]
   rw [e, cnd_true, grd_R (by omega) (by omega), succ_cast, ← e2]
   exact ih (i + 1) fuel (by omega) (by omega)
  ·have e : ((i : Int) == ((P.length : Nat) : Int)) = false := by rw [beq_eq_false_iff_ne]; omega
   have hgi : ((stI X P.length c C R last i).getD i []).length = C := by rw [gi]; exact hrow i hi
   rw [e, cnd_false, grd_pos (by omega), show ((i : Int)).toNat = i from Int.toNat_natCast i, grd_pos (by rw [hlen]; omega), grd_pos (by rw [hgi]; omega)]
   have at1 : ∀ q, at2 (stI X P.length c C R last i) i q = at2 X i q := fun q => by unfold at2; rw [gi]
   have at3 : ∀ q, at2 (stI X P.length c C R last i) P.length q = at2 X P.length q := fun q => by unfold at2; rw [gr]
   have h0 : (stI X P.length c C R last i).set i (rowT (stI X P.length c C R last i) i P.length C 0 (at2 X P.length c) (at2 X i c) last) = stI X P.length c C R last i := by
    refine ext_getD [] (by rw [List.length_set]) fun t ht => ?_
    rw [gset _ _ _ _ _ (by rw [hlen]; exact hi)]
    split
    ·rename_i hti
     rw [hti, gi]
     refine ext_getD 0 ?_ fun q hq => ?_
     ·unfold rowT; rw [tab_len]; exact (hrow i hi).symm
     ·unfold rowT at hq ⊢
      rw [tab_len] at hq
      rw [tab_get _ _ hq, if_neg (by omega), at1]; rfl
    ·rfl
   have h1' : (stI X P.length c C R last i).set i (rowT (stI X P.length c C R last i) i P.length C C (at2 X P.length c) (at2 X i c) last) = stI X P.length c C R last (i + 1) := by
    refine ext_getD [] (by rw [List.length_set, hlen]; exact (tab_len _ _).symm) fun t ht => ?_
    rw [List.length_set, hlen] at ht
    rw [gset _ _ _ _ _ (by rw [hlen]; exact hi)]
    unfold stI
    rw [tab_get _ _ ht, tab_get _ _ ht]
    by_cases hti : t = i
    ·rw [if_pos hti, if_pos (by omega), hti]
     unfold rowT
     refine ext_getD 0 (by rw [tab_len, tab_len]) fun q hq => ?_
     rw [tab_len] at hq
     rw [tab_get _ _ hq, tab_get _ _ hq, if_pos hq]
     have a1 := at1 q
     have a2 := at3 q
     unfold stI at a1 a2
     rw [a1, a2]
    ·rw [if_neg hti]
     by_cases h3 : t < i ∧ t ≠ P.length
     ·rw [if_pos h3, if_pos (by omega)]
     ·rw [if_neg h3, if_neg (by omega)]
   have h3 := redI3 hN (M := M) (L := stI X P.length c C R last i) (P := P) (last := last) (d := at2 X P.length c) (f := at2 X i c) (c := c) (p := p) (i := i) (C := C) hC (by omega) (by omega) hir hgi (by rw [gr]; exact hrow _ hr) hd (by rw [gi]; rfl) (bX _ _ hr hc) (bX _ _ hi hc) (fun q hq => by rw [at1]; exact bX _ _ hi hq) (fun q hq => by rw [at3]; exact bX _ _ hr hq) hl
    (fun (l378 : List (List Int)) => grd (Rg64 ((i : Int) + (1 : Int))) <| I_reduced_l2 N (C : Int) v1 M P last (c : Int) (p : Int) k fuel (l378, ((i : Int) + (1 : Int)))) C 0 N (by omega) (by omega)
   rw [h0, h1'] at h3
   refine Eq.trans h3 ?_
   show grd _ _ = _
   rw [grd_R (by omega) (by omega), succ_cast]
   exact ih (i + 1) fuel (by omega) (by omega)
theorem srch_x (hN : 4000000 ≤ N) {v1 l7 A S : List (List Int)} {R C c : Nat} (hR : R ≤ 1000) (hv : v1.length = R) (h7 : l7.length = R) (lA : A.length = R) (lS : S.length = R) (rA : ∀ t, t < R → (A.getD t []).length = C) (rS : ∀ t, t < R → (S.getD t []).length = C) (hc : c < C) (hz : ∀ t, t < R → (at2 A t c = 0 ↔ at2 S t c = 0))
  : ∀ (n p fI fS : Nat), p + n = R → n < fI → n < fS →
  ∃ t : Nat, p ≤ t ∧ t ≤ R ∧ (t < R → at2 A t c ≠ 0) ∧ (∀ kI : Int → Option (List (List Int) × List Int × Int), I_reduced_l4 N v1 A (c : Int) kI fI (p : Int) = kI (t : Int)) ∧ (∀ kS : Int → Option (List (List Int) × List Int), S_l9Reduced_l3 N l7 S (c : Int) kS fS (p : Int) = kS (t : Int)) := by
 intro n
 induction n with
 | zero =>
  intro p fI fS h1 h2 h3
  obtain ⟨fI, rfl⟩ : ∃ g, fI = g + 1 := ⟨fI - 1, by omega⟩
  obtain ⟨fS, rfl⟩ : ∃ g, fS = g + 1 := ⟨fS - 1, by omega⟩
  refine ⟨p, Nat.le_refl _, by omega, fun h => by omega, fun kI => ?_, fun kS => ?_⟩
  ·rw [I_reduced_l4, cnd_df (by omega)]
  ·rw [S_l9Reduced_l3, cnd_df (by omega)]
 | succ n ih =>
  intro p fI fS h1 h2 h3
  obtain ⟨fI, rfl⟩ : ∃ g, fI = g + 1 := ⟨fI - 1, by omega⟩
  obtain ⟨fS, rfl⟩ : ∃ g, fS = g + 1 := ⟨fS - 1, by omega⟩
  have hp : p < R := by omega
  have r1 := rA p hp
  have r2 := rS p hp
  have ep : ((p : Int)).toNat = p := Int.toNat_natCast p
  have ec : ((c : Int)).toNat = c := Int.toNat_natCast c
  have eI : ∀ kI : Int → Option (List (List Int) × List Int × Int), I_reduced_l4 N v1 A (c : Int) kI (fI + 1) (p : Int) = cnd (at2 A p c == 0) (I_reduced_l4 N v1 A (c : Int) kI fI ((p + 1 : Nat) : Int)) (kI (p : Int)) := fun kI => by
   rw [I_reduced_l4, cnd_dt (by omega), ep, ec, r1, grd_pos (by omega), grd_pos (by omega), grd_pos (by omega), grd_R (by omega) (by omega), succ_cast]; rfl
  have eS : ∀ kS : Int → Option (List (List Int) × List Int), S_l9Reduced_l3 N l7 S (c : Int) kS (fS + 1) (p : Int) = cnd (at2 S p c == 0) (S_l9Reduced_l3 N l7 S (c : Int) kS fS ((p + 1 : Nat) : Int)) (kS (p : Int)) := fun kS => by
   rw [S_l9Reduced_l3, cnd_dt (by omega), ep, ec, r2, grd_pos (by omega), grd_pos (by omega), grd_pos (by omega), grd_R (by omega) (by omega), succ_cast]; rfl
  by_cases h0 : at2 A p c = 0
  ·have h0' := (hz p hp).1 h0
   rw [beq_iff_eq.2 h0] at eI
   rw [beq_iff_eq.2 h0'] at eS
   obtain ⟨t, t1, t2, t3, t4, t5⟩ := ih (p + 1) fI fS (by omega) (by omega) (by omega)
   exact ⟨t, by omega, t2, t3, fun kI => (eI kI).trans (t4 kI), fun kS => (eS kS).trans (t5 kS)⟩
  ·have h0' : ¬ at2 S p c = 0 := fun e => h0 ((hz p hp).2 e)
   rw [beq_eq_false_iff_ne.2 h0] at eI
   rw [beq_eq_false_iff_ne.2 h0'] at eS
   exact ⟨p, Nat.le_refl _, by omega, fun _ => h0, eI, eS⟩
def stS (X : List (List Int)) (W : Nat → List Int) (r c R i : Nat) : List (List Int) := tab R fun t => if t < i ∧ t ≠ r ∧ at2 X t c ≠ 0 then W t else X.getD t []
theorem redS2 (hN : 4000000 ≤ N) {l7 S : List (List Int)} {P : List Int} {c p C R : Nat} (hR : R ≤ 1000) (h7 : l7.length = R) (hr : P.length < R) (hc : c < C) {X : List (List Int)} (hXl : X.length = R) (hrow : ∀ t, t < R → (X.getD t []).length = C) {W : Nat → List Int}
  (hW : ∀ t, t < R → t ≠ P.length → at2 X t c ≠ 0 → S_l9Without N (X.getD t []) (S.getD p []) (c : Int) = some (W t)) (k : List (List Int) → Option (List (List Int) × List Int)) : ∀ (n i fuel : Nat), i + n = R → n < fuel →
  S_l9Reduced_l2 N l7 S P (c : Int) (p : Int) k fuel (stS X W P.length c R i, (i : Int)) = k (stS X W P.length c R R) := by
 intro n
 induction n with
 | zero =>
  intro i fuel h1 h2
  obtain ⟨fuel, rfl⟩ : ∃ g, fuel = g + 1 := ⟨fuel - 1, by omega⟩
  obtain rfl : i = R := by omega
  rw [S_l9Reduced_l2, cnd_df (by omega)]
 | succ n ih =>
  intro i fuel h1 h2
  obtain ⟨fuel, rfl⟩ : ∃ g, fuel = g + 1 := ⟨fuel - 1, by omega⟩
  have hi : i < R := by omega
  have hlen : (stS X W P.length c R i).length = R := tab_len _ _
  have gi : (stS X W P.length c R i).getD i [] = X.getD i [] := by unfold stS; rw [tab_get _ _ hi, if_neg (by omega)]
  have same : ¬ (i ≠ P.length ∧ at2 X i c ≠ 0) → stS X W P.length c R (i + 1) = stS X W P.length c R i := fun hn => by
   refine ext_getD [] (by rw [hlen]; exact tab_len _ _) fun t ht => ?_
   have ht : t < R := by rw [show (stS X W P.length c R (i + 1)).length = R from tab_len _ _] at ht; exact ht
   unfold stS
   rw [tab_get _ _ ht, tab_get _ _ ht]
   by_cases h3 : t < i ∧ t ≠ P.length ∧ at2 X t c ≠ 0
   ·rw [if_pos h3, if_pos ⟨by omega, h3.2⟩]
   ·rw [if_neg h3, if_neg]
    rintro ⟨h4, h5⟩
    by_cases hti : t = i
    ·subst hti; exact hn h5
    ·exact h3 ⟨by omega, h5⟩
  rw [S_l9Reduced_l2, cnd_dt (by omega)]
  by_cases hir : i = P.length
  ·have e : ((i : Int) != ((P.length : Nat) : Int)) = false := by rw [bne_eq_false_iff_eq]; omega
   rw [e, cnd_false, grd_R (by omega) (by omega), succ_cast, ← same (fun h => h.1 hir)]
   exact ih (i + 1) fuel (by omega) (by omega)
  ·have e : ((i : Int) != ((P.length : Nat) : Int)) = true := by rw [bne_iff_ne]; omega
   have hgi := hrow i hi
   rw [e, cnd_true, show ((i : Int)).toNat = i from Int.toNat_natCast i, show ((c : Int)).toNat = c from Int.toNat_natCast c, show ((p : Int)).toNat = p from Int.toNat_natCast p, gi, hlen, hgi, grd_pos (by omega), grd_pos (by omega), grd_pos (by omega)]
   show cnd (at2 X i c != 0) _ _ = _
   by_cases h0 : at2 X i c = 0
   ·have e0 : (at2 X i c != 0) = false := by rw [bne_eq_false_iff_eq]; exact h0
    rw [e0, cnd_false, grd_R (by omega) (by omega), succ_cast, ← same (fun h => h.2 h0)]
    exact ih (i + 1) fuel (by omega) (by omega)
   ·have e0 : (at2 X i c != 0) = true := by rw [bne_iff_ne]; exact h0
    have nxt : (stS X W P.length c R i).set i (W i) = stS X W P.length c R (i + 1) := by
     refine ext_getD [] (by rw [List.length_set, hlen]; exact (tab_len _ _).symm) fun t ht => ?_
     rw [List.length_set, hlen] at ht
     rw [gset _ _ _ _ _ (by rw [hlen]; exact hi)]
     unfold stS
     rw [tab_get _ _ ht, tab_get _ _ ht]
     by_cases hti : t = i
     ·rw [if_pos hti, hti, if_pos ⟨by omega, hir, h0⟩]
     ·rw [if_neg hti]
      by_cases h3 : t < i ∧ t ≠ P.length ∧ at2 X t c ≠ 0
      ·rw [if_pos h3, if_pos ⟨by omega, h3.2⟩]
      ·rw [if_neg h3, if_neg (fun h => h3 ⟨by omega, h.2⟩)]
    rw [e0, cnd_true, hW i hi hir h0, Option.bind_some, grd_R (by omega) (by omega), succ_cast, nxt]
    exact ih (i + 1) fuel (by omega) (by omega)
theorem sw_get1 {X : List (List Int)} {r p t : Nat} (hr : r < X.length) (hp : p < X.length) : ((X.set r (X.getD p [])).set p (X.getD r [])).getD t [] = if t = r then X.getD p [] else if t = p then X.getD r [] else X.getD t [] := by
 rw [gset _ _ _ _ _ (by rw [List.length_set]; exact hp), gset _ _ _ _ _ hr]
 by_cases h1 : t = p
 ·rw [if_pos h1]
  by_cases h2 : t = r
  ·rw [if_pos h2, ← h1, ← h2]
  ·rw [if_neg h2, if_pos h1]
 ·rw [if_neg h1, if_neg h1]
theorem sw_get2 {X : List (List Int)} {r p t : Nat} (hr : r < X.length) (hp : p < X.length) : ((X.set p (X.getD r [])).set r (X.getD p [])).getD t [] = if t = r then X.getD p [] else if t = p then X.getD r [] else X.getD t [] := by
 rw [gset _ _ _ _ _ (by rw [List.length_set]; exact hr), gset _ _ _ _ _ hp]
structure Inv (R C : Nat) (A S : List (List Int)) (b : Nat → Nat → Int) (k c0 c1 c2 : Nat) (last : Int) : Prop where
 lA : A.length = R
 lS : S.length = R
 rA : ∀ t, t < R → (A.getD t []).length = C
 rS : ∀ t, t < R → (S.getD t []).length = C
 rel : ∀ t, t < R → ∃ u : Int, u ≠ 0 ∧ ∀ q, q < C → at2 A t q = u * at2 S t q
 prm : ∀ t, t < R → Prm (S.getD t [])
 bar : Bar R C b k c0 c1 c2 last (at2 A)
 l0 : last ≠ 0
theorem Inv.zero {R C : Nat} {A S : List (List Int)} {b : Nat → Nat → Int} {k c0 c1 c2 : Nat} {last : Int} (h : Inv R C A S b k c0 c1 c2 last) {c : Nat} (hc : c < C) : ∀ t, t < R → (at2 A t c = 0 ↔ at2 S t c = 0) := fun t ht => by
 obtain ⟨u, u0, hu⟩ := h.rel t ht
 rw [hu c hc, Int.mul_eq_zero]
 exact ⟨fun h => h.resolve_left u0, fun h => .inr h⟩
theorem Inv.pivot (hN : 4000000 ≤ N) {R C : Nat} (hC : C ≤ 4) (hR : R ≤ 1000) {A S : List (List Int)} {b : Nat → Nat → Int} (hb : Sm4 b) {P : List Int} {c0 c1 c2 : Nat} {last : Int} (h : Inv R C A S b P.length c0 c1 c2 last) {c p : Nat} (ho : Ord C P.length c0 c1 c2 c) (hk : P.length ≤ 3) (hp1 : P.length ≤ p) (hp : p < R) (hnz : at2 A p c ≠ 0) {v1 l7 : List (List Int)} (hv : v1.length = R) (h7 : l7.length = R) :
  ∃ (A' S' : List (List Int)) (b' : Nat → Nat → Int) (d0 d1 d2 : Nat), Sm4 b' ∧ Inv R C A' S' b' (P.length + 1) d0 d1 d2 (at2 A p c) ∧ ((1 ≤ P.length → d0 = c0) ∧ (P.length = 0 → d0 = c) ∧ (2 ≤ P.length → d1 = c1) ∧ (P.length = 1 → d1 = c) ∧ (3 ≤ P.length → d2 = c2) ∧ (P.length = 2 → d2 = c)) ∧
   (((A.set P.length (A.getD p [])).set p (A.getD P.length [])).getD P.length []).getD c 0 = at2 A p c ∧
   ((A.set P.length (A.getD p [])).set p (A.getD P.length [])).length = R ∧ (((A.set P.length (A.getD p [])).set p (A.getD P.length [])).getD P.length []).length = C ∧
   (∀ kI : List (List Int) → Option (List (List Int) × List Int × Int), I_reduced_l2 N (C : Int) v1 A P last (c : Int) (p : Int) kI N ((A.set P.length (A.getD p [])).set p (A.getD P.length []), (0 : Int)) = kI A') ∧
   (∀ kS : List (List Int) → Option (List (List Int) × List Int), S_l9Reduced_l2 N l7 S P (c : Int) (p : Int) kS N ((S.set p (S.getD P.length [])).set P.length (S.getD p []), (0 : Int)) = kS S') := by
 obtain ⟨lA, lS, rA, rS, rel, prm, bar, l0⟩ := h
 have hr : P.length < R := by omega
 have hc : c < C := ho.2.2.2.1
 obtain ⟨X, hX⟩ : ∃ X, (A.set P.length (A.getD p [])).set p (A.getD P.length []) = X := ⟨_, rfl⟩
 obtain ⟨Y, hY⟩ : ∃ Y, (S.set p (S.getD P.length [])).set P.length (S.getD p []) = Y := ⟨_, rfl⟩
 have gX : ∀ t, X.getD t [] = if t = P.length then A.getD p [] else if t = p then A.getD P.length [] else A.getD t [] := fun t => by rw [← hX]; exact sw_get1 (by omega) (by omega)
 have gY : ∀ t, Y.getD t [] = if t = P.length then S.getD p [] else if t = p then S.getD P.length [] else S.getD t [] := fun t => by rw [← hY]; exact sw_get2 (by omega) (by omega)
 have lX : X.length = R := by rw [← hX]; simp [lA]
 have lY : Y.length = R := by rw [← hY]; simp [lS]
 have sel3 : ∀ (Q : List Int → List Int → Prop) (hQ : ∀ t, t < R → Q (A.getD t []) (S.getD t [])) (t : Nat), t < R → Q (X.getD t []) (Y.getD t []) := fun Q hQ t ht => by
  rw [gX, gY]
  by_cases h1 : t = P.length
  ·rw [if_pos h1, if_pos h1]; exact hQ p hp
  ·rw [if_neg h1, if_neg h1]
   by_cases h2 : t = p
   ·rw [if_pos h2, if_pos h2]; exact hQ _ hr
   ·rw [if_neg h2, if_neg h2]; exact hQ t ht
 have rX : ∀ t, t < R → (X.getD t []).length = C := fun t ht => (sel3 (fun x y => x.length = C ∧ y.length = C) (fun t ht => ⟨rA t ht, rS t ht⟩) t ht).1
 have rY : ∀ t, t < R → (Y.getD t []).length = C := fun t ht => (sel3 (fun x y => x.length = C ∧ y.length = C) (fun t ht => ⟨rA t ht, rS t ht⟩) t ht).2
 have relX : ∀ t, t < R → ∃ u : Int, u ≠ 0 ∧ ∀ q, q < C → at2 X t q = u * at2 Y t q := fun t ht => sel3 (fun x y => ∃ u : Int, u ≠ 0 ∧ ∀ q, q < C → x.getD q 0 = u * y.getD q 0) (fun t ht => rel t ht) t ht
 have prmY : ∀ t, t < R → Prm (Y.getD t []) := fun t ht => sel3 (fun x y => Prm y) (fun t ht => prm t ht) t ht
 have aX : at2 X = fun i => if i = P.length then at2 A p else if i = p then at2 A P.length else at2 A i := by
  funext i q
  unfold at2
  rw [gX]
  by_cases h1 : i = P.length
  ·simp only [if_pos h1]
  ·simp only [if_neg h1]
   by_cases h2 : i = p
   ·simp only [if_pos h2]
   ·simp only [if_neg h2]
 have barX := bar.swap hp1 hp
 rw [← aX] at barX
 have hb' : Sm4 (fun i => if i = P.length then b p else if i = p then b P.length else b i) := fun i q => by
  dsimp only
  split
  ·exact hb p q
  ·split
   ·exact hb _ q
   ·exact hb i q
 have hd : at2 X P.length c = at2 A p c := by unfold at2; rw [gX, if_pos rfl]
 have bX : ∀ t q, t < R → q < C → -7000 ≤ at2 X t q ∧ at2 X t q ≤ 7000 := fun t q ht hq => by have := barX.bd hb' hk ht hq; omega
 obtain ⟨a', d0, d1, d2, s1, s2, s3, s4⟩ := barX.step hk hr ho
 rw [hd] at s1 s3
 have I2 := fun kI => redI2 hN (v1 := v1) (M := A) (P := P) (last := last) (c := c) (p := p) (C := C) (R := R) (by omega) hR hv hr hc hX lX rX bX l0 kI R 0 N (by omega) (by omega)
 have bY : ∀ t q, t < R → q < C → -7000 ≤ at2 Y t q ∧ at2 Y t q ≤ 7000 := fun t q ht hq => by
  obtain ⟨u, u0, hu⟩ := relX t ht
  exact mult_bd u0 (hu q hq) (bX t q ht hq)
 have bY' : ∀ t i, t < R → -7000 ≤ (Y.getD t []).getD i 0 ∧ (Y.getD t []).getD i 0 ≤ 7000 := fun t i ht => by
  by_cases hi : i < C
  ·exact bY t i ht hi
  ·rw [List.getD_eq_getElem?_getD, List.getElem?_eq_none (by rw [rY t ht]; omega)]; simp
 have hSp : S.getD p [] = Y.getD P.length [] := by rw [gY, if_pos rfl]
 obtain ⟨ur, ur0, hur⟩ := relX P.length hr
 have hYr : at2 Y P.length c ≠ 0 := fun e => hnz (by rw [← hd, hur c hc, e, Int.mul_zero])
 have exW : ∀ t, ∃ W : List Int, t < R → t ≠ P.length → at2 Y t c ≠ 0 → (S_l9Without N (Y.getD t []) (S.getD p []) (c : Int) = some W ∧ W.length = C ∧ (∃ z : Int, z ≠ 0 ∧ ∀ q, q < C → at2 Y t q * at2 Y P.length c - at2 Y P.length q * at2 Y t c = z * W.getD q 0) ∧ Prm W) := fun t => by
  by_cases ht : t < R
  ·obtain ⟨w, z, w1, w2, w3, w4, w5⟩ := without_s hN (a := Y.getD t []) (r := Y.getD P.length []) (by rw [rY t ht, rY _ hr]) (by rw [rY t ht]; omega) (fun i => bY' t i ht) (fun i => bY' _ i hr) (j := c) (by rw [rY t ht]; exact hc) hYr
   rw [rY t ht] at w2 w4
   exact ⟨w, fun _ _ _ => ⟨by rw [hSp]; exact w1, w2, ⟨z, w3, w4⟩, w5⟩⟩
  ·exact ⟨[], fun h => absurd h ht⟩
 let W : Nat → List Int := fun t => (exW t).choose
 have hW : ∀ t, t < R → t ≠ P.length → at2 Y t c ≠ 0 → (S_l9Without N (Y.getD t []) (S.getD p []) (c : Int) = some (W t) ∧ (W t).length = C ∧ (∃ z : Int, z ≠ 0 ∧ ∀ q, q < C → at2 Y t q * at2 Y P.length c - at2 Y P.length q * at2 Y t c = z * (W t).getD q 0) ∧ Prm (W t)) := fun t => (exW t).choose_spec
 have S2 := fun kS => redS2 hN (l7 := l7) (S := S) (P := P) (c := c) (p := p) (C := C) (R := R) hR h7 hr hc (X := Y) lY rY (W := W) (fun t h1 h2 h3 => (hW t h1 h2 h3).1) kS R 0 N (by omega) (by omega)
 have i0 : stI X P.length c C R last 0 = X := by
  refine ext_getD [] (by rw [lX]; exact tab_len _ _) fun t ht => ?_
  rw [show (stI X P.length c C R last 0).length = R from tab_len _ _] at ht
  unfold stI; rw [tab_get _ _ ht, if_neg (by omega)]
 have s0 : stS Y W P.length c R 0 = Y := by
  refine ext_getD [] (by rw [lY]; exact tab_len _ _) fun t ht => ?_
  rw [show (stS Y W P.length c R 0).length = R from tab_len _ _] at ht
  unfold stS; rw [tab_get _ _ ht, if_neg (by omega)]
 simp only [i0] at I2
 simp only [s0] at S2
 have new : ∀ t q, t < R → q < C → at2 (stI X P.length c C R last R) t q = a' t q := fun t q ht hq => by
  unfold at2 stI
  rw [tab_get _ _ ht]
  by_cases h1 : t = P.length
  ·rw [if_neg (by omega), h1]; exact (s2 q hq).symm
  ·rw [if_pos ⟨ht, h1⟩, tab_get _ _ hq, hd, s1 t q ht hq h1]
   exact Int.mul_tdiv_cancel_left _ l0
 refine ⟨stI X P.length c C R last R, stS Y W P.length c R R, _, d0, d1, d2, hb', ⟨tab_len _ _, tab_len _ _, fun t ht => ?_, fun t ht => ?_, fun t ht => ?_, fun t ht => ?_, ?_, hnz⟩, s4, ?_, ?_, ?_, fun kI => by rw [hX]; exact I2 kI, fun kS => by rw [hY]; exact S2 kS⟩
 ·unfold stI
  rw [tab_get _ _ ht]
  split
  ·exact tab_len _ _
  ·exact rX t ht
 ·unfold stS
  rw [tab_get _ _ ht]
  split
  ·rename_i h1; exact (hW t ht h1.2.1 h1.2.2).2.1
  ·exact rY t ht
 ·by_cases h1 : t = P.length
  ·refine ⟨ur, ur0, fun q hq => ?_⟩
   rw [new t q ht hq, h1, s2 q hq, hur q hq]
   unfold at2 stS
   rw [tab_get _ _ hr, if_neg (by omega)]
  ·obtain ⟨u, u0, hu⟩ := relX t ht
   have base : ∀ q, q < C → last * a' t q = u * ur * (at2 Y t q * at2 Y P.length c - at2 Y P.length q * at2 Y t c) := fun q hq => by
    rw [← s1 t q ht hq h1, ← hd, hur c hc, hu q hq, hu c hc, hur q hq]; grind
   by_cases h0 : at2 Y t c = 0
   ·obtain ⟨u', v0, hv'⟩ := mult_of (C := C) (W := Y.getD t []) (rY t ht) (prmY t ht) (x := a' t) (w := u * ur * at2 Y P.length c) l0 (Int.mul_ne_zero (Int.mul_ne_zero u0 ur0) hYr) (fun q hq => by
     rw [base q hq, h0, Int.mul_zero, Int.sub_zero]
     show _ = u * ur * at2 Y P.length c * at2 Y t q
     grind)
    refine ⟨u', v0, fun q hq => ?_⟩
    rw [new t q ht hq, hv' q hq]
    unfold at2 stS
    rw [tab_get _ _ ht, if_neg (fun h => h.2.2 h0)]
   ·obtain ⟨w1, w2, ⟨z, z0, hz⟩, w5⟩ := hW t ht h1 h0
    obtain ⟨u', v0, hv'⟩ := mult_of (C := C) (W := W t) w2 w5 (x := a' t) (w := u * ur * z) l0 (Int.mul_ne_zero (Int.mul_ne_zero u0 ur0) z0) (fun q hq => by rw [base q hq, hz q hq]; exact (Int.mul_assoc (u * ur) z _).symm)
    refine ⟨u', v0, fun q hq => ?_⟩
    rw [new t q ht hq, hv' q hq]
    show _ = u' * ((stS Y W P.length c R R).getD t []).getD q 0
    unfold stS
    rw [tab_get _ _ ht, if_pos ⟨ht, h1, h0⟩]
 ·unfold stS
  rw [tab_get _ _ ht]
  split
  ·rename_i h1; exact (hW t ht h1.2.1 h1.2.2).2.2.2
  ·exact prmY t ht
 ·refine Bar.ext s3 fun t q ht hq => new t q ht hq
 ·rw [hX]; exact hd
 ·rw [hX]; exact lX
 ·rw [hX]; exact rX _ hr
end Go.Proofs.Ytkklfgcelmeccaa
namespace Go.Proofs.Ytkklfgcelmeccaa
variable (N : Nat)
end Go.Proofs.Ytkklfgcelmeccaa
namespace Go.Proofs.Ytkklfgcelmeccaa
variable (N : Nat)
def freeJ (l : Lnk) : List Int := cnd (isLk l) (outside l.ground l.f.places.length) []
theorem freeI_s (hN : 4000000 ≤ N) {l : Lnk} (hp : l.f.places.length ≤ 3000000) (hg : l.ground.length ≤ 3000000) : I_FreeJoints N l = some (freeJ l) := by
 unfold I_FreeJoints freeJ
 rw [isLkI_s N hN hp hg, Option.bind_some, cnd_not]
 cases h : isLk l with
 | false => rfl
 | true =>
  rw [cnd_true, cnd_true]
  refine (fold (len := l.f.places.length) (st := outside l.ground) (fin := some (outside l.ground l.f.places.length)) (by omega) ?_ ?_)
  ·intro n i hi
   have hl := outside_len l.ground i
   rw [I_FreeJoints_l1]
   simp (disch := omega) only [Int.toNat_natCast, tk0, List.length_cons, List.length_nil, grd_pos, grd_T, grd_R, cnd_dt, cnd_df, cnd_true, cnd_false, Option.bind_some, contains_s N hN hg, cnd_not, succ_cast, outside_succ]
   cases l.ground.contains (i : Int) <;> rfl
  ·intro n
   rw [I_FreeJoints_l1]
   simp (disch := omega) only [Int.toNat_natCast, tk0, List.length_cons, List.length_nil, grd_pos, grd_T, grd_R, cnd_dt, cnd_df, cnd_true, cnd_false, Option.bind_some]
theorem freeS_s (hN : 4000000 ≤ N) {l : Lnk} (hp : l.f.places.length ≤ 3000000) (hg : l.ground.length ≤ 3000000) : S_FreeJoints N l = some (freeJ l) := by
 unfold S_FreeJoints freeJ
 cases h : isLk l with
 | false =>
  obtain ⟨M, rfl⟩ : ∃ M, N = M + 1 := ⟨N - 1, by omega⟩
  rw [S_FreeJoints_l1, isLkS_s _ hN hp hg, Option.bind_some, h]
  cases decide ((0 : Int) < (l.f.places.length : Int)) <;> rfl
 | true =>
  rw [cnd_true]
  refine (fold (len := l.f.places.length) (st := outside l.ground) (fin := some (outside l.ground l.f.places.length)) (by omega) ?_ ?_)
  ·intro n i hi
   have hl := outside_len l.ground i
   rw [S_FreeJoints_l1]
   simp (disch := omega) only [Int.toNat_natCast, tk0, List.length_cons, List.length_nil, grd_pos, grd_T, grd_R, cnd_dt, cnd_df, cnd_true, cnd_false, Option.bind_some, isLkS_s N hN hp hg, h, l2Has_s N hN hg, cnd_not, succ_cast, outside_succ]
   cases l.ground.contains (i : Int) <;> rfl
  ·intro n
   rw [S_FreeJoints_l1]
   simp (disch := omega) only [Int.toNat_natCast, tk0, List.length_cons, List.length_nil, grd_pos, grd_T, grd_R, cnd_dt, cnd_df, cnd_true, cnd_false, Option.bind_some]
end Go.Proofs.Ytkklfgcelmeccaa
namespace Go.Proofs.Ytkklfgcelmeccaa
variable {N : Nat}
theorem red_rest (hN : 4000000 ≤ N) {R C : Nat} (hC : C ≤ 4) (hR : R ≤ 1000) {l7 S : List (List Int)} {P : List Int} (h7 : l7.length = R) (lS : S.length = R) (rS : ∀ t, t < R → (S.getD t []).length = C) (hP : P.length = R) (kS : List (List Int) × List Int → Option (List (List Int) × List Int)) : ∀ (n c fS : Nat), c + n = C → n < fS → S_l9Reduced_l1 N l7 kS fS (S, P, (c : Int)) = kS (S, P) := by
 intro n
 induction n with
 | zero =>
  intro c fS h1 h2
  obtain ⟨fS, rfl⟩ : ∃ g, fS = g + 1 := ⟨fS - 1, by omega⟩
  rw [S_l9Reduced_l1]
  by_cases hR0 : 0 < R
  ·have r0 := rS 0 hR0
   rw [cnd_dt (by omega), show ((0 : Int)).toNat = 0 from rfl, r0, grd_pos (by omega), grd_pos (by omega), cnd_df (by omega)]
  ·rw [cnd_df (by omega)]
 | succ n ih =>
  intro c fS h1 h2
  obtain ⟨fS, rfl⟩ : ∃ g, fS = g + 1 := ⟨fS - 1, by omega⟩
  rw [S_l9Reduced_l1]
  by_cases hR0 : 0 < R
  ·have r0 := rS 0 hR0
   obtain ⟨M, rfl⟩ : ∃ M, N = M + 1 := ⟨N - 1, by omega⟩
   rw [cnd_dt (by omega), show ((0 : Int)).toNat = 0 from rfl, r0, grd_pos (by omega), grd_pos (by omega), cnd_dt (by omega), S_l9Reduced_l3, cnd_df (by omega)]
   have e : (((P.length : Nat) : Int) == ((l7.length : Nat) : Int)) = true := by rw [beq_iff_eq]; omega
   rw [e, cnd_true, grd_R (by omega) (by omega), succ_cast]
   exact ih (c + 1) fS (by omega) (by omega)
  ·rw [cnd_df (by omega)]
set_option maxHeartbeats 1600000 in
theorem red_main (hN : 4000000 ≤ N) {R C : Nat} (hC : C ≤ 4) (hR : R ≤ 1000) {v1 l7 : List (List Int)} (hv : v1.length = R) (h7 : l7.length = R) (kI : List (List Int) × List Int × Int → Option (List (List Int) × List Int × Int)) (kS : List (List Int) × List Int → Option (List (List Int) × List Int)) :
  ∀ (n c : Nat) (A S : List (List Int)) (b : Nat → Nat → Int) (P : List Int) (c0 c1 c2 : Nat) (last : Int) (fI fS : Nat), c + n = C → n < fI → n < fS → Sm4 b → Inv R C A S b P.length c0 c1 c2 last → ((1 ≤ P.length → c0 < c) ∧ (2 ≤ P.length → c0 < c1 ∧ c1 < c) ∧ (3 ≤ P.length → c1 < c2 ∧ c2 < c)) → P.length ≤ c → P.length ≤ R →
  ∃ (Af Sf : List (List Int)) (Pf : List Int) (lf : Int), Af.length = R ∧ Sf.length = R ∧ Pf.length ≤ C ∧ I_reduced_l1 N (C : Int) v1 kI fI (A, P, last, (c : Int)) = kI (Af, Pf, lf) ∧ S_l9Reduced_l1 N l7 kS fS (S, P, (c : Int)) = kS (Sf, Pf) := by
 intro n
 induction n with
 | zero =>
  intro c A S b P c0 c1 c2 last fI fS h1 h2 h3 hb hi ho hk hkR
  obtain ⟨fI, rfl⟩ : ∃ g, fI = g + 1 := ⟨fI - 1, by omega⟩
  obtain ⟨fS, rfl⟩ : ∃ g, fS = g + 1 := ⟨fS - 1, by omega⟩
  refine ⟨A, S, P, last, hi.lA, hi.lS, by omega, ?_, ?_⟩
  ·rw [I_reduced_l1, cnd_df (by omega)]
  ·have lS := hi.lS
   rw [S_l9Reduced_l1]
   by_cases hR0 : 0 < R
   ·have r0 := hi.rS 0 hR0
    rw [cnd_dt (by omega), show ((0 : Int)).toNat = 0 from rfl, r0, grd_pos (by omega), grd_pos (by omega), cnd_df (by omega)]
   ·rw [cnd_df (by omega)]
 | succ n ih =>
  intro c A S b P c0 c1 c2 last fI fS h1 h2 h3 hb hi ho hk hkR
  by_cases hPR : P.length < R
  ·obtain ⟨fI, rfl⟩ : ∃ g, fI = g + 1 := ⟨fI - 1, by omega⟩
   obtain ⟨fS, rfl⟩ : ∃ g, fS = g + 1 := ⟨fS - 1, by omega⟩
   have hc : c < C := by omega
   have lA := hi.lA
   have lS := hi.lS
   have r0 := hi.rS 0 (by omega)
   obtain ⟨t, t1, t2, t3, t4, t5⟩ := srch_x hN hR hv h7 hi.lA hi.lS hi.rA hi.rS hc (hi.zero hc) (R - P.length) P.length N N (by omega) (by omega) (by omega)
   have et : ((t : Int)).toNat = t := Int.toNat_natCast t
   have ec : ((c : Int)).toNat = c := Int.toNat_natCast c
   have eP : (((P.length : Nat) : Int)).toNat = P.length := Int.toNat_natCast _
   by_cases htR : t < R
   ·have hnz := t3 htR
    obtain ⟨A', S', b', d0, d1, d2, a1, a2, a3, a4, a5, a6, a7, a8⟩ := hi.pivot hN hC hR hb (c := c) (p := t) ⟨ho.1, ho.2.1, ho.2.2, hc, hC⟩ (by omega) t1 htR hnz hv h7
    have hPl : (P ++ [(c : Int)]).length = P.length + 1 := by rw [List.length_append, List.length_singleton]
    rw [← hPl] at a2
    obtain ⟨Af, Sf, Pf, lf, b1, b2, b3, b4, b5⟩ := ih (c + 1) A' S' b' (P ++ [(c : Int)]) d0 d1 d2 (at2 A t c) fI fS (by omega) (by omega) (by omega) a1 a2 (by rw [hPl]; omega) (by omega) (by omega)
    refine ⟨Af, Sf, Pf, lf, b1, b2, b3, ?_, ?_⟩
    ·have e : ((t : Int) == ((v1.length : Nat) : Int)) = false := by rw [beq_eq_false_iff_ne]; omega
     rw [I_reduced_l1, cnd_dt (by omega), cnd_dt (by omega), t4, e, cnd_false, et, ec, eP, a4, a5, a6, grd_pos (by omega), grd_pos (by omega), grd_pos (by omega), grd_pos (by omega), grd_pos (by omega), grd_pos (by omega), a7]
     rw [grd_pos (by omega), grd_R (by omega) (by omega), succ_cast]
     exact b4
    ·have e : ((t : Int) == ((l7.length : Nat) : Int)) = false := by rw [beq_eq_false_iff_ne]; omega
     rw [S_l9Reduced_l1, cnd_dt (by omega), show ((0 : Int)).toNat = 0 from rfl, r0, grd_pos (by omega), grd_pos (by omega), cnd_dt (by omega), t5, e, cnd_false, et, eP, List.length_set, grd_pos (by omega), grd_pos (by omega), grd_pos (by omega), grd_pos (by omega), grd_pos (by omega), a8]
     rw [grd_pos (by omega), grd_R (by omega) (by omega), succ_cast]
     exact b5
   ·obtain ⟨Af, Sf, Pf, lf, b1, b2, b3, b4, b5⟩ := ih (c + 1) A S b P c0 c1 c2 last fI fS (by omega) (by omega) (by omega) hb hi (by omega) (by omega) (by omega)
    refine ⟨Af, Sf, Pf, lf, b1, b2, b3, ?_, ?_⟩
    ·have e : ((t : Int) == ((v1.length : Nat) : Int)) = true := by rw [beq_iff_eq]; omega
     rw [I_reduced_l1, cnd_dt (by omega), cnd_dt (by omega), t4, e, cnd_true, grd_R (by omega) (by omega), succ_cast]
     exact b4
    ·have e : ((t : Int) == ((l7.length : Nat) : Int)) = true := by rw [beq_iff_eq]; omega
     rw [S_l9Reduced_l1, cnd_dt (by omega), show ((0 : Int)).toNat = 0 from rfl, r0, grd_pos (by omega), grd_pos (by omega), cnd_dt (by omega), t5, e, cnd_true, grd_R (by omega) (by omega), succ_cast]
     exact b5
  ·refine ⟨A, S, P, last, hi.lA, hi.lS, by omega, ?_, red_rest hN hC hR h7 hi.lS hi.rS (by omega) kS (n + 1) c fS h1 h3⟩
   obtain ⟨fI, rfl⟩ : ∃ g, fI = g + 1 := ⟨fI - 1, by omega⟩
   rw [I_reduced_l1, cnd_dt (by omega), cnd_df (by omega)]
structure M4 (R C : Nat) (m : List (List Int)) : Prop where
 len : m.length = R
 row : ∀ t, t < R → (m.getD t []).length = C
 bd : ∀ t q, -4 ≤ at2 m t q ∧ at2 m t q ≤ 4
theorem copyL_s (hN : 4000000 ≤ N) {m : List (List Int)} (hl : m.length ≤ 1000) (hr : ∀ t, t < m.length → (m.getD t []).length ≤ 1000) : I_copyLists N m = some m := by
 have key : ∀ (fuel i : Nat), i ≤ m.length → m.length < fuel + i → I_copyLists_l1 N m (fun (l7 : List (List Int)) => some l7) fuel (m.take i, (i : Int)) = some m := by
  intro fuel
  induction fuel with
  | zero => intro i h1 h2; omega
  | succ fuel ih =>
   intro i h1 h2
   rw [I_copyLists_l1]
   by_cases hi : i < m.length
   ·have r1 := hr i hi
    have e : m.take (i + 1) = m.take i ++ [m.getD i []] := by
     rw [List.take_add_one, List.getElem?_eq_getElem hi, List.getD_eq_getElem?_getD, List.getElem?_eq_getElem hi]; rfl
    have hl2 : (m.take i).length = i := by rw [List.length_take]; omega
    unfold I_copyInts
    rw [cnd_dt (by omega), grd_pos (by omega), show ((i : Int)).toNat = i from Int.toNat_natCast i, grd_pos (by omega), Option.bind_some, grd_pos (by omega), grd_R (by omega) (by omega), succ_cast, List.nil_append, ← e]
    exact ih (i + 1) (by omega) (by omega)
   ·rw [cnd_df (by omega), List.take_of_length_le (by omega)]
 exact key N 0 (by omega) (by omega)
theorem cleanAll (hN : 4000000 ≤ N) {R C : Nat} (hC : C ≤ 4) (hR : R ≤ 1000) {m : List (List Int)} (hm : M4 R C m) : ∃ S : List (List Int), S.length = R ∧ (∀ t, t < R → (S.getD t []).length = C) ∧ (∀ t, t < R → ∃ u : Int, u ≠ 0 ∧ ∀ q, q < C → at2 m t q = u * at2 S t q) ∧ (∀ t, t < R → Prm (S.getD t [])) ∧
  ∀ kS : List (List Int) → Option (List (List Int) × List Int), S_l9Reduced_l4 N m kS N (([] : List (List Int)), (0 : Int)) = kS S := by
 have hml := hm.len
 have ex : ∀ t, ∃ w : List Int, t < R → (S_l9Clean N (m.getD t []) = some w ∧ w.length = C ∧ (∃ u : Int, u ≠ 0 ∧ ∀ q, (m.getD t []).getD q 0 = u * w.getD q 0) ∧ Prm w) := fun t => by
  by_cases ht : t < R
  ·obtain ⟨w, u, w1, w2, w3, w4, w5⟩ := prim_s hN (v := m.getD t []) ⟨by rw [hm.row t ht]; omega, fun x hx => by
    obtain ⟨q, hq, rfl⟩ := List.mem_iff_getElem.1 hx
    have := hm.bd t q
    unfold at2 at this
    rw [List.getD_eq_getElem?_getD (i := q), List.getElem?_eq_getElem hq] at this
    simp only [Option.getD_some] at this
    omega⟩
   exact ⟨w, fun _ => ⟨w1, by rw [w2]; exact hm.row t ht, ⟨u, w3, w4⟩, w5⟩⟩
  ·exact ⟨[], fun h => absurd h ht⟩
 let W : Nat → List Int := fun t => (ex t).choose
 have hW : ∀ t, t < R → (S_l9Clean N (m.getD t []) = some (W t) ∧ (W t).length = C ∧ (∃ u : Int, u ≠ 0 ∧ ∀ q, (m.getD t []).getD q 0 = u * (W t).getD q 0) ∧ Prm (W t)) := fun t => (ex t).choose_spec
 refine ⟨tab R W, tab_len _ _, fun t ht => by rw [tab_get _ _ ht]; exact (hW t ht).2.1, fun t ht => ?_, fun t ht => by rw [tab_get _ _ ht]; exact (hW t ht).2.2.2, fun kS => ?_⟩
 ·obtain ⟨u, u0, hu⟩ := (hW t ht).2.2.1
  refine ⟨u, u0, fun q hq => ?_⟩
  unfold at2
  rw [tab_get _ _ ht]; exact hu q
 ·have key : ∀ (fuel i : Nat), i ≤ R → R < fuel + i → S_l9Reduced_l4 N m kS fuel (tab i W, (i : Int)) = kS (tab R W) := by
   intro fuel
   induction fuel with
   | zero => intro i h1 h2; omega
   | succ fuel ih =>
    intro i h1 h2
    rw [S_l9Reduced_l4]
    by_cases hi : i < R
    ·have e : tab (i + 1) W = tab i W ++ [W i] := by unfold tab; rw [List.range_succ, List.map_append]; rfl
     have hl2 : (tab i W).length = i := tab_len _ _
     rw [cnd_dt (by omega), grd_pos (by omega), show ((i : Int)).toNat = i from Int.toNat_natCast i, (hW i hi).1, Option.bind_some, grd_pos (by omega), grd_R (by omega) (by omega), succ_cast, ← e]
     exact ih (i + 1) (by omega) (by omega)
    ·rw [cnd_df (by omega), show i = R from by omega]
  exact key N 0 (by omega) (by omega)
theorem rank_xx (hN : 4000000 ≤ N) {R C : Nat} (hC : C ≤ 4) (hR : R ≤ 1000) {m : List (List Int)} (hm : M4 R C m) : ∃ (Sf : List (List Int)) (Pf : List Int), Pf.length ≤ 4 ∧ S_l9Reduced N m = some (Sf, Pf) ∧ I_rank N m (C : Int) = some (Pf.length : Int) := by
 have hml := hm.len
 obtain ⟨S, s1, s2, s3, s4, s5⟩ := cleanAll hN hC hR hm
 have hinv : Inv R C m S (at2 m) 0 0 0 0 1 := ⟨hml, s1, hm.row, s2, s3, s4, ⟨rfl, fun _ _ _ _ => rfl⟩, by decide⟩
 obtain ⟨Af, Sf, Pf, lf, b1, b2, b3, b4, b5⟩ := red_main hN hC hR (v1 := m) (l7 := S) hml s1 (fun x => match x with | (l191, l192, last193) => grd (m.length = l191.length) <| some (l191, l192, last193)) (fun x => match x with | (l76, l77) => grd (S.length = l76.length) <| some (l76, l77)) C 0 m S (at2 m) [] 0 0 0 1 N N (by omega) (by omega) (by omega) hm.bd hinv (by simp) (by simp) (by simp)
 refine ⟨Sf, Pf, by omega, ?_, ?_⟩
 ·unfold S_l9Reduced
  rw [s5]
  refine Eq.trans b5 ?_
  show grd _ _ = _
  rw [grd_pos (by omega)]
 ·unfold I_rank I_reduced
  rw [copyL_s hN (by omega) (fun t ht => by rw [hm.row t (by omega)]; omega), Option.bind_some]
  have : I_reduced_l1 N (C : Int) m (fun x => match x with | (l191, l192, last193) => grd (m.length = l191.length) <| some (l191, l192, last193)) N (m, ([] : List Int), (1 : Int), (0 : Int)) = some (Af, Pf, lf) := by
   refine Eq.trans b4 ?_
   show grd _ _ = _
   rw [grd_pos (by omega)]
  refine (congrArg (fun z : Option (List (List Int) × List Int × Int) => z.bind fun v1 => some ((v1.2.1.length : Nat) : Int)) this).trans rfl
end Go.Proofs.Ytkklfgcelmeccaa
namespace Go.Proofs.Ytkklfgcelmeccaa
abbrev VS := Int → Bool
def v2 (a b : Int) : VS := fun v => v == a || v == b
end Go.Proofs.Ytkklfgcelmeccaa
namespace Go.Proofs.Ytkklfgcelmeccaa
def oth (e : Int × Int) (v : Int) : Int := e.1 + e.2 - v
variable {n : Nat} {E : List (Int × Int)} {f T : List Int}
end Go.Proofs.Ytkklfgcelmeccaa
namespace Go.Proofs.Ytkklfgcelmeccaa
variable {n : Nat} {E : List (Int × Int)} {f T : List Int} {a b : Int} {q : List Int} {fr : Int → Int} {k m : Nat}
end Go.Proofs.Ytkklfgcelmeccaa
namespace Go.Proofs.Ytkklfgcelmeccaa
variable {N : Nat}
theorem outside_snoc_out {g : List Int} {n : Nat} (h : (n : Int) ∉ g) : outside g (n + 1) = outside g n ++ [(n : Int)] := by
 rw [outside_succ]
 have : g.contains (n : Int) = false := by simpa using h
 rw [this]; rfl
theorem outside_congr {g g' : List Int} : ∀ {n : Nat}, (∀ v : Nat, v < n → g.contains (v : Int) = g'.contains (v : Int)) → outside g n = outside g' n
 | 0, _ => rfl
 | n + 1, h => by
  rw [outside_succ, outside_succ, h n (by omega), outside_congr (n := n) fun v hv => h v (by omega)]
theorem outside_count : ∀ {n : Nat} {g : List Int}, g.Nodup → (∀ v ∈ g, 0 ≤ v ∧ v < n) → (outside g n).length + g.length = n
 | 0, g, _, hr => by
  cases g with
  | nil => rfl
  | cons x g => have := hr x (by simp); omega
 | n + 1, g, hn, hr => by
  by_cases hm : (n : Int) ∈ g
  ·have ih := outside_count (n := n) (hn.erase (n : Int)) fun v hv => by
    have := (hn.mem_erase_iff).1 hv
    have h2 := hr v this.2
    have := this.1
    omega
   have hc : g.contains (n : Int) = true := by simpa using hm
   rw [List.length_erase_of_mem hm, outside_congr (g' := g) fun v hv => by
    rw [Bool.eq_iff_iff]
    simp only [List.contains_eq_mem, decide_eq_true_eq]
    rw [hn.mem_erase_iff]
    exact ⟨fun h => h.2, fun h => ⟨by omega, h⟩⟩] at ih
   have hpos := List.length_pos_of_mem hm
   rw [outside_succ, hc, cnd_true]
   omega
  ·have ih := outside_count (n := n) hn fun v hv => by
    have h2 := hr v hv
    have : v ≠ (n : Int) := fun e => hm (e ▸ hv)
    omega
   rw [outside_snoc_out hm, List.length_append]
   simp; omega
theorem asc_lt3 {n : Int} {l : List Int} (h : asc n l = true) : ∀ j i : Nat, i < j → j < l.length → l.getD i 0 < l.getD j 0
 | 0, i, h1, _ => by omega
 | j + 1, i, h1, h2 => by
  have ha := asc_at h h2
  simp only [ascAt, Bool.and_eq_true, Bool.or_eq_true, decide_eq_true_eq, Nat.add_sub_cancel] at ha
  have hs : l.getD j 0 < l.getD (j + 1) 0 := ha.2.resolve_left (by omega)
  by_cases e : i = j
  ·subst e; exact hs
  ·have := asc_lt3 h j i (by omega) (by omega); omega
theorem asc_nodup {n : Int} {l : List Int} (h : asc n l = true) : l.Nodup := by
 rw [List.Nodup, List.pairwise_iff_getElem]
 intro i j hi hj hij e
 have := asc_lt3 h j i hij hj
 rw [List.getD_eq_getElem?_getD, List.getD_eq_getElem?_getD, List.getElem?_eq_getElem hi, List.getElem?_eq_getElem hj] at this
 simp at this
 omega
theorem free_facts {l : Lnk} (h : isLk l = true) : (freeJ l).length ≤ 2 ∧ (freeJ l).Nodup ∧ ∀ v ∈ freeJ l, 0 ≤ v ∧ v < (l.f.places.length : Int) := by
 obtain ⟨hf, h1, h2, h3⟩ := isLk_parts h
 obtain ⟨hg, h4, h5, h6, h7, h8⟩ := isFr_parts hf
 have hn := isGraph_nn hg
 have e : freeJ l = outside l.ground l.f.places.length := by unfold freeJ; rw [h]; rfl
 rw [e]
 refine ⟨?_, ?_, fun v hv => ?_⟩
 ·have := outside_count (n := l.f.places.length) (asc_nodup h3) fun v hv => by have := asc_in h3 hv; omega
  omega
 ·unfold outside
  exact List.Pairwise.filter _ (List.Pairwise.map _ (fun a b h e => h (Int.ofNat.inj e)) List.nodup_range)
 ·have := outside_mem l.ground l.f.places.length v
  have hc : (outside l.ground l.f.places.length).contains v = true := by simpa using hv
  rw [hc] at this
  have := (Bool.and_eq_true _ _ ▸ this.symm).1
  rw [inB_true] at this
  omega
section
variable {l : Lnk} {F : List Int}
end
end Go.Proofs.Ytkklfgcelmeccaa
namespace Go.Proofs.Ytkklfgcelmeccaa
variable {N : Nat}
def rigR (f : Frm) (i : Nat) : List Int :=
 ((((List.replicate ((((2 : Int) * f.g.n)).toNat) (0 : Int)).set ((((2 : Int) * ((f.g.bars.getD i (0, 0)).1))).toNat) (((f.places.getD (((f.g.bars.getD i (0, 0)).1).toNat) (0, 0)).1) - ((f.places.getD (((f.g.bars.getD i (0, 0)).2).toNat) (0, 0)).1))).set (((((2 : Int) * ((f.g.bars.getD i (0, 0)).1)) + (1 : Int))).toNat) (((f.places.getD (((f.g.bars.getD i (0, 0)).1).toNat) (0, 0)).2) - ((f.places.getD (((f.g.bars.getD i (0, 0)).2).toNat) (0, 0)).2))).set ((((2 : Int) * ((f.g.bars.getD i (0, 0)).2))).toNat) (-(((f.places.getD (((f.g.bars.getD i (0, 0)).1).toNat) (0, 0)).1) - ((f.places.getD (((f.g.bars.getD i (0, 0)).2).toNat) (0, 0)).1)))).set (((((2 : Int) * ((f.g.bars.getD i (0, 0)).2)) + (1 : Int))).toNat) (-(((f.places.getD (((f.g.bars.getD i (0, 0)).1).toNat) (0, 0)).2) - ((f.places.getD (((f.g.bars.getD i (0, 0)).2).toNat) (0, 0)).2)))
theorem place_bd {f : Frm} (hf : isFr f = true) (x : Nat) : 0 ≤ (f.places.getD x (0, 0)).1 ∧ (f.places.getD x (0, 0)).1 ≤ 4 ∧ 0 ≤ (f.places.getD x (0, 0)).2 ∧ (f.places.getD x (0, 0)).2 ≤ 4 := by
 obtain ⟨_, _, _, _, h, _⟩ := isFr_parts hf
 by_cases hx : x < f.places.length
 ·exact onGrid_bd (h x hx)
 ·rw [List.getD_eq_getElem?_getD, List.getElem?_eq_none (by omega)]; simp
theorem tab_succ {α : Type} (i : Nat) (f : Nat → α) : tab (i + 1) f = tab i f ++ [f i] := by unfold tab; rw [List.range_succ, List.map_append]; rfl
set_option maxHeartbeats 1600000 in
theorem rigS_s (hN : 4000000 ≤ N) {f : Frm} (hf : isFr f = true) : S_RigidityMatrix N f = some (tab f.g.bars.length (rigR f)) := by
 obtain ⟨hg, h1, h2, h3, h4, h5⟩ := isFr_parts hf
 have hfr : S_IsFramework N f = some true := by rw [isFrS_s N hN (by omega), hf]
 unfold S_RigidityMatrix
 have key : ∀ (fuel i : Nat), i ≤ f.g.bars.length → f.g.bars.length < fuel + i → S_RigidityMatrix_l1 N f (fun (l7 : List (List Int)) => some l7) fuel (tab i (rigR f), (i : Int)) = some (tab f.g.bars.length (rigR f)) := by
  intro fuel
  induction fuel with
  | zero => intro i h1 h2; omega
  | succ fuel ih =>
   intro i h6 h7
   by_cases hi : i < f.g.bars.length
   ·have hb := bar_bdd hg hi
    have hp1 := place_bd hf ((f.g.bars.getD i (0, 0)).1.toNat)
    have hp2 := place_bd hf ((f.g.bars.getD i (0, 0)).2.toNat)
    have hl : (tab i (rigR f)).length = i := tab_len _ _
    have nx := ih (i + 1) (by omega) (by omega)
    rw [tab_succ] at nx
    unfold rigR at nx hl ⊢
    rw [S_RigidityMatrix_l1, cnd_dt (by omega), hfr, Option.bind_some, cnd_true, show ((i : Int)).toNat = i from Int.toNat_natCast i]
    generalize (f.g.bars.getD i (0, 0)).1 = a at *
    generalize (f.g.bars.getD i (0, 0)).2 = b at *
    generalize f.places.getD a.toNat (0, 0) = p at *
    generalize f.places.getD b.toNat (0, 0) = q at *
    have hz : ∀ x : Int, ((List.replicate ((2 * f.g.n).toNat) x).length : Int) = 2 * f.g.n := fun x => by rw [List.length_replicate]; omega
    have hz2 : ∀ x : Int, (List.replicate ((2 * f.g.n).toNat) x).length = (2 * f.g.n).toNat := fun x => List.length_replicate ..
    repeat rw [List.length_set]
    rw [hz]
    repeat (first | rw [grd_R (by omega) (by omega)] | rw [grd_pos (by omega)])
    rw [succ_cast]
    exact nx
   ·rw [S_RigidityMatrix_l1, cnd_df (by omega), show i = f.g.bars.length from by omega]
 exact key N 0 (by omega) (by omega)
set_option maxHeartbeats 1600000 in
theorem rigI_s (hN : 4000000 ≤ N) {f : Frm} (hf : isFr f = true) : I_RigidityMatrix N f = some (tab f.g.bars.length (rigR f)) := by
 obtain ⟨hg, h1, h2, h3, h4, h5⟩ := isFr_parts hf
 unfold I_RigidityMatrix
 rw [isFrI_s N hN (by omega), hf, Option.bind_some, Bool.not_true, cnd_false]
 have key : ∀ (fuel i : Nat), i ≤ f.g.bars.length → f.g.bars.length < fuel + i → I_RigidityMatrix_l1 N f (fun (l4 : List (List Int)) => some l4) fuel (tab i (rigR f), (i : Int)) = some (tab f.g.bars.length (rigR f)) := by
  intro fuel
  induction fuel with
  | zero => intro i h1 h2; omega
  | succ fuel ih =>
   intro i h6 h7
   by_cases hi : i < f.g.bars.length
   ·have hb := bar_bdd hg hi
    have hp1 := place_bd hf ((f.g.bars.getD i (0, 0)).1.toNat)
    have hp2 := place_bd hf ((f.g.bars.getD i (0, 0)).2.toNat)
    have hl : (tab i (rigR f)).length = i := tab_len _ _
    have nx := ih (i + 1) (by omega) (by omega)
    rw [tab_succ] at nx
    unfold rigR at nx hl ⊢
    rw [I_RigidityMatrix_l1, cnd_dt (by omega), show ((i : Int)).toNat = i from Int.toNat_natCast i]
    generalize (f.g.bars.getD i (0, 0)).1 = a at *
    generalize (f.g.bars.getD i (0, 0)).2 = b at *
    generalize f.places.getD a.toNat (0, 0) = p at *
    generalize f.places.getD b.toNat (0, 0) = q at *
    have hz : ∀ x : Int, ((List.replicate ((2 * f.g.n).toNat) x).length : Int) = 2 * f.g.n := fun x => by rw [List.length_replicate]; omega
    have e1 : q.1 - p.1 = -(p.1 - q.1) := by omega
    have e2 : q.2 - p.2 = -(p.2 - q.2) := by omega
    rw [e1, e2]
    repeat rw [List.length_set]
    rw [hz]
    repeat (first | rw [grd_R (by omega) (by omega)] | rw [grd_pos (by omega)])
    rw [succ_cast]
    exact nx
   ·rw [I_RigidityMatrix_l1, cnd_df (by omega), show i = f.g.bars.length from by omega]
 exact key N 0 (by omega) (by omega)
theorem set_bd {l : List Int} {i : Nat} {x : Int} (h : ∀ q, -4 ≤ l.getD q 0 ∧ l.getD q 0 ≤ 4) (hx : -4 ≤ x ∧ x ≤ 4) (q : Nat) : -4 ≤ (l.set i x).getD q 0 ∧ (l.set i x).getD q 0 ≤ 4 := by
 by_cases hi : i < l.length
 ·rw [gset _ _ _ _ _ hi]
  split
  ·exact hx
  ·exact h q
 ·rw [List.set_eq_of_length_le (by omega)]; exact h q
theorem rigR_len (f : Frm) (i : Nat) : (rigR f i).length = (2 * f.g.n).toNat := by
 unfold rigR
 repeat rw [List.length_set]
 rw [List.length_replicate]
theorem rigR_bd {f : Frm} (hf : isFr f = true) (i q : Nat) : -4 ≤ (rigR f i).getD q 0 ∧ (rigR f i).getD q 0 ≤ 4 := by
 have hp1 := place_bd hf ((f.g.bars.getD i (0, 0)).1.toNat)
 have hp2 := place_bd hf ((f.g.bars.getD i (0, 0)).2.toNat)
 unfold rigR
 refine set_bd (set_bd (set_bd (set_bd (fun q => ?_) ?_) ?_) ?_) ?_ q
 ·by_cases hq : q < (2 * f.g.n).toNat
  ·rw [List.getD_eq_getElem?_getD, List.getElem?_replicate, if_pos hq]; simp
  ·rw [List.getD_eq_getElem?_getD, List.getElem?_replicate, if_neg hq]; simp
 all_goals omega
def colsF (row : List Int) (F : List Int) : List Int := F.flatMap fun v => [row.getD ((2 * v).toNat) 0, row.getD ((2 * v + 1).toNat) 0]
theorem colsF_len (row : List Int) : ∀ F : List Int, (colsF row F).length = 2 * F.length
 | [] => rfl
 | v :: F => by
  have := colsF_len row F
  unfold colsF at this ⊢
  rw [List.flatMap_cons, List.length_append, this, List.length_cons]
  simp; omega
theorem colsF_bd {row : List Int} (h : ∀ q, -4 ≤ row.getD q 0 ∧ row.getD q 0 ≤ 4) (F : List Int) (q : Nat) : -4 ≤ (colsF row F).getD q 0 ∧ (colsF row F).getD q 0 ≤ 4 := by
 by_cases hq : q < (colsF row F).length
 ·have hm := memE (l := colsF row F) 0 hq
  unfold colsF at hm
  rw [List.mem_flatMap] at hm
  obtain ⟨v, _, hv⟩ := hm
  unfold colsF
  rcases List.mem_cons.1 hv with hv | hv
  ·rw [hv]; exact h _
  ·rw [List.mem_singleton.1 hv]; exact h _
 ·rw [List.getD_eq_getElem?_getD, List.getElem?_eq_none (by omega)]; simp
theorem colsF_snoc (row : List Int) (F : List Int) (v : Int) : colsF row (F ++ [v]) = colsF row F ++ [row.getD ((2 * v).toNat) 0, row.getD ((2 * v + 1).toNat) 0] := by
 unfold colsF
 rw [List.flatMap_append]; simp
theorem take_sn {l : List Int} {i : Nat} (h : i < l.length) : l.take (i + 1) = l.take i ++ [l.getD i 0] := by
 rw [List.take_add_one, List.getElem?_eq_getElem h, List.getD_eq_getElem?_getD, List.getElem?_eq_getElem h]; rfl
theorem lfS2 (hN : 4000000 ≤ N) {F : List Int} {M : List (List Int)} {n : Int} {i : Nat} (hn : 0 ≤ n ∧ n ≤ 10) (hF : F.length ≤ 2) (hFv : ∀ v ∈ F, 0 ≤ v ∧ v < n) (hi : i < M.length) (hM : M.length ≤ 100) (hr : (M.getD i []).length = (2 * n).toNat) (k : List Int → Option Int) : ∀ (fuel j : Nat), j ≤ F.length → F.length < fuel + j →
  S_LinkageFreedom_l2 N M F (i : Int) k fuel (colsF (M.getD i []) (F.take j), (j : Int)) = k (colsF (M.getD i []) F) ∧ I_LinkageFreedom_l2 N F M (i : Int) k fuel (colsF (M.getD i []) (F.take j), (j : Int)) = k (colsF (M.getD i []) F) := by
 intro fuel
 induction fuel with
 | zero => intro j h1 h2; omega
 | succ fuel ih =>
  intro j h1 h2
  by_cases hj : j < F.length
  ·have hv := hFv _ (memE 0 hj)
   have nx := ih (j + 1) (by omega) (by omega)
   rw [take_sn hj, colsF_snoc] at nx
   have hl := colsF_len (M.getD i []) (F.take j)
   rw [List.length_take] at hl
   have ei : ((i : Int)).toNat = i := Int.toNat_natCast i
   have ej : ((j : Int)).toNat = j := Int.toNat_natCast j
   constructor
   ·rw [S_LinkageFreedom_l2, cnd_dt (by omega), ei, ej, hr]
    repeat (first | rw [grd_R (by omega) (by omega)] | rw [grd_pos (by omega)])
    rw [succ_cast]
    exact nx.1
   ·rw [I_LinkageFreedom_l2, cnd_dt (by omega), ei, ej, hr]
    repeat (first | rw [grd_R (by omega) (by omega)] | rw [grd_pos (by omega)])
    rw [succ_cast]
    exact nx.2
  ·have e : F.take j = F := List.take_of_length_le (by omega)
   rw [e]
   constructor
   ·rw [S_LinkageFreedom_l2, cnd_df (by omega)]
   ·rw [I_LinkageFreedom_l2, cnd_df (by omega)]
theorem lf1 (hN : 4000000 ≤ N) {F : List Int} {M : List (List Int)} {n : Int} (hn : 0 ≤ n ∧ n ≤ 10) (hF : F.length ≤ 2) (hFv : ∀ v ∈ F, 0 ≤ v ∧ v < n) (hM : M.length ≤ 100) (hr : ∀ i, i < M.length → (M.getD i []).length = (2 * n).toNat) (kS kI : List (List Int) → Option Int) : ∀ (fuel i : Nat), i ≤ M.length → M.length < fuel + i →
  S_LinkageFreedom_l1 N M F kS fuel (tab i fun t => colsF (M.getD t []) F, (i : Int)) = kS (tab M.length fun t => colsF (M.getD t []) F) ∧ I_LinkageFreedom_l1 N F M kI fuel (tab i fun t => colsF (M.getD t []) F, (i : Int)) = kI (tab M.length fun t => colsF (M.getD t []) F) := by
 intro fuel
 induction fuel with
 | zero => intro i h1 h2; omega
 | succ fuel ih =>
  intro i h1 h2
  by_cases hi : i < M.length
  ·have nx := ih (i + 1) (by omega) (by omega)
   rw [tab_succ] at nx
   have hl : (tab i fun t => colsF (M.getD t []) F).length = i := tab_len _ _
   have z0 : ∀ row : List Int, colsF row (F.take 0) = [] := fun row => by rw [List.take_zero]; rfl
   constructor
   ·have h3 := (lfS2 hN hn hF hFv hi hM (hr i hi) (fun (l55 : List Int) =>
      grd ((tab i fun t => colsF (M.getD t []) F).length + 1 ≤ 4294967296) <|
      grd (Rg64 ((i : Int) + (1 : Int))) <|
      S_LinkageFreedom_l1 N M F kS fuel ((tab i fun t => colsF (M.getD t []) F) ++ ([l55] : List (List Int)), ((i : Int) + (1 : Int)))) N 0 (by omega) (by omega)).1
    rw [z0] at h3
    rw [S_LinkageFreedom_l1, cnd_dt (by omega)]
    refine Eq.trans h3 ?_
    show grd _ (grd _ _) = _
    rw [grd_pos (by omega), grd_R (by omega) (by omega), succ_cast]
    exact nx.1
   ·have h3 := (lfS2 hN hn hF hFv hi hM (hr i hi) (fun (l55 : List Int) =>
      grd ((tab i fun t => colsF (M.getD t []) F).length + 1 ≤ 4294967296) <|
      grd (Rg64 ((i : Int) + (1 : Int))) <|
      I_LinkageFreedom_l1 N F M kI fuel ((tab i fun t => colsF (M.getD t []) F) ++ ([l55] : List (List Int)), ((i : Int) + (1 : Int)))) N 0 (by omega) (by omega)).2
    rw [z0] at h3
    rw [I_LinkageFreedom_l1, cnd_dt (by omega), grd_pos (by omega)]
    refine Eq.trans h3 ?_
    show grd _ (grd _ _) = _
    rw [grd_pos (by omega), grd_R (by omega) (by omega), succ_cast]
    exact nx.2
  ·have e : i = M.length := by omega
   constructor
   ·rw [S_LinkageFreedom_l1, cnd_df (by omega), e]
   ·rw [I_LinkageFreedom_l1, cnd_df (by omega), e]
theorem freedom_x (hN : 4000000 ≤ N) {l : Lnk} (hp : l.f.places.length ≤ 3000000) (hg : l.ground.length ≤ 3000000) : ∃ x : Int, S_LinkageFreedom N l = some x ∧ I_LinkageFreedom N l = some x := by
 unfold S_LinkageFreedom I_LinkageFreedom
 rw [isLkS_s N hN hp hg, isLkI_s N hN hp hg, Option.bind_some, Option.bind_some]
 cases hl : isLk l with
 | false => exact ⟨-1, rfl, rfl⟩
 | true =>
  have hf := (isLk_parts hl).1
  obtain ⟨hgr, h1, h2, h3, h4, h5⟩ := isFr_parts hf
  have hnn := isGraph_nn hgr
  obtain ⟨f1, f2, f3⟩ := free_facts hl
  rw [Bool.not_true, cnd_false, cnd_false, rigS_s hN hf, rigI_s hN hf, freeS_s N hN hp hg, freeI_s N hN hp hg, Option.bind_some, Option.bind_some, Option.bind_some, Option.bind_some]
  obtain ⟨M, hM⟩ : ∃ M, tab l.f.g.bars.length (rigR l.f) = M := ⟨_, rfl⟩
  have lM : M.length = l.f.g.bars.length := by rw [← hM]; exact tab_len _ _
  have gM : ∀ i, i < M.length → M.getD i [] = rigR l.f i := fun i hi => by rw [← hM]; exact tab_get _ _ (by omega)
  rw [hM]
  have lt := lf1 hN (F := freeJ l) (M := M) (n := l.f.g.n) (by omega) f1 (fun v hv => by have := f3 v hv; omega) (by omega) (fun i hi => by rw [gM i hi]; exact rigR_len _ _)
   (fun (l30 : List (List Int)) =>
     (S_l9Reduced N l30).bind fun v31 =>
     grd (Rg64 ((2 : Int) * ((freeJ l).length : Int))) <|
     grd (Rg64 (((2 : Int) * ((freeJ l).length : Int)) - (v31.2.length : Int))) <|
     some (((2 : Int) * ((freeJ l).length : Int)) - (v31.2.length : Int)))
   (fun (l30 : List (List Int)) =>
     grd (Rg64 ((2 : Int) * ((freeJ l).length : Int))) <|
     (I_rank N l30 ((2 : Int) * ((freeJ l).length : Int))).bind fun v31 =>
     grd (Rg64 (((2 : Int) * ((freeJ l).length : Int)) - v31)) <|
     some (((2 : Int) * ((freeJ l).length : Int)) - v31)) N 0 (by omega) (by omega)
  have hm4 : M4 M.length (2 * (freeJ l).length) (tab M.length fun t => colsF (M.getD t []) (freeJ l)) := by
   refine ⟨tab_len _ _, fun t ht => by rw [tab_get _ _ ht]; exact colsF_len _ _, fun t q => ?_⟩
   unfold at2
   by_cases ht : t < M.length
   ·rw [tab_get _ _ ht]
    exact colsF_bd (fun q => by rw [gM t ht]; exact rigR_bd hf t q) _ q
   ·have e : (tab M.length fun t => colsF (M.getD t []) (freeJ l)).getD t [] = [] := by
     rw [List.getD_eq_getElem?_getD, List.getElem?_eq_none (by rw [tab_len]; omega)]; rfl
    rw [e]; simp
  obtain ⟨Sf, Pf, r1, r2, r3⟩ := rank_xx hN (by omega) (by omega) hm4
  have ec : ((2 * (freeJ l).length : Nat) : Int) = (2 : Int) * ((freeJ l).length : Int) := by omega
  rw [ec] at r3
  refine ⟨((2 : Int) * ((freeJ l).length : Int)) - (Pf.length : Int), Eq.trans lt.1 ?_, Eq.trans lt.2 ?_⟩
  ·show (S_l9Reduced N _).bind _ = _
   rw [r2, Option.bind_some]
   show grd _ (grd (Rg64 (_ - (Pf.length : Int))) _) = _
   rw [grd_R (by omega) (by omega), grd_R (by omega) (by omega)]
  ·show grd _ _ = _
   rw [grd_R (by omega) (by omega), r3, Option.bind_some, grd_R (by omega) (by omega)]
end Go.Proofs.Ytkklfgcelmeccaa
namespace Go.Proofs.Ytkklfgcelmeccaa
open Go.RowKit
def L_FnExactLinkageFreedom (N : Nat) (aL_0 : Lnk) : Option (Bool) :=
 (L_szLinkage N aL_0 (1048576 : Int)).bind fun v1 =>
 cnd (decide (v1 < (0 : Int))) (
  some true) (
  (L_toLinkage N aL_0).bind fun v2 =>
  (S_LinkageFreedom N v2).bind fun v3 =>
  (L_toLinkage N aL_0).bind fun v4 =>
  (I_LinkageFreedom N v4).bind fun v5 =>
  cnd (v5 != v3) (
   some false) (
   (L_toLinkage N aL_0).bind fun v6 =>
   (L_eqLinkage N v4 v6).bind fun v7 =>
   cnd (!v7) (
    some false) (
    some true)))
set_option maxRecDepth 20000 in
set_option maxHeartbeats 1600000 in
theorem L_FnExactLinkageFreedom_w (N : Nat) (aL_0 : Lnk) (r : Bool) (h : L_FnExactLinkageFreedom N aL_0 = some r) : PCall Try.prog 4 [lD aL_0] [] (.bool r) := by
 unfold L_FnExactLinkageFreedom at h
 refine pcall_intro (TT := TT) tt Try.func4 rfl rfl Try.ntmps4 (congrArg Array.toList Try.results4) rfl rfl fun w0 => ?_
 refine vSeq ?_
 refine vRegion ?_
 refine oBox rfl rfl rfl rfl rfl rfl rfl rfl rfl ?_
 refine oVal tt rfl rfl rfl rfl rfl trivial ?_
 refine vNil ?_
 change VC _ _ _ _
 refine vSeq ?_
 refine vRegion ?_
 refine oVal tt rfl rfl rfl rfl rfl trivial ?_
 refine vNil ?_
 change VC _ _ _ _
 refine vSeq ?_
 refine vRegion ?_
 iterate 2 refine oVal tt rfl rfl rfl rfl rfl trivial ?_
 obtain ⟨v1, hc1, h⟩ := bind_inv h
 refine oCall (L_szLinkage_w N aL_0 (1048576 : Int) v1 hc1) rfl rfl rfl rfl rfl rfl rfl rfl ⟨⟨rfl, rfl, rfl, rfl, trivial⟩, rfl, trivial⟩ ?_
 refine oVal tt rfl rfl rfl rfl rfl trivial ?_
 refine vNil ?_
 change VC _ _ _ _
 iterate 2 refine vSeq ?_
 refine vRegion ?_
 iterate 2 refine oVal tt rfl rfl rfl rfl rfl trivial ?_
 refine vNil ?_
 change VC _ _ _ _
 refine vCond rfl (fun hb2 => ?_) (fun hb2 => ?_)
 ·replace h := cnd_t hb2 h
  refine vSeq ?_
  refine vRegion ?_
  refine oVal tt rfl rfl rfl rfl rfl trivial ?_
  refine vNil ?_
  change VC _ _ _ _
  refine vRet ?_
  change ∃ _, _
  cases h
  exact ⟨[], _, rfl, trivial, rfl, (.eq rfl), rfl⟩
 ·replace h := cnd_f hb2 h
  refine vSkip ?_
  change VC _ _ _ _
  refine vSeq ?_
  refine vRegion ?_
  refine oVal tt rfl rfl rfl rfl rfl trivial ?_
  obtain ⟨v2, hc3, h⟩ := bind_inv h
  refine oCall (L_toLinkage_w N aL_0 v2 hc3) rfl rfl rfl rfl rfl rfl rfl rfl ⟨⟨rfl, rfl, rfl, rfl, trivial⟩, trivial⟩ ?_
  obtain ⟨v3, hc4, h⟩ := bind_inv h
  refine oCall (S_LinkageFreedom_w N v2 v3 hc4) rfl rfl rfl rfl rfl rfl rfl rfl ⟨⟨rfl, (.inl ⟨rfl, rfl⟩), (.inl ⟨rfl, rfl⟩), (.inl ⟨rfl, rfl⟩), trivial⟩, trivial⟩ ?_
  refine oVal tt rfl rfl rfl rfl rfl trivial ?_
  refine vNil ?_
  change VC _ _ _ _
  refine vSeq ?_
  refine vRegion ?_
  refine oVal tt rfl rfl rfl rfl rfl trivial ?_
  obtain ⟨v4, hc5, h⟩ := bind_inv h
  refine oCall (L_toLinkage_w N aL_0 v4 hc5) rfl rfl rfl rfl rfl rfl rfl rfl ⟨⟨rfl, rfl, rfl, rfl, trivial⟩, trivial⟩ ?_
  refine oAlloc tt rfl rfl rfl rfl rfl rfl rfl rfl rfl ?_
  refine oStore tt rfl rfl rfl rfl rfl rfl rfl rfl rfl rfl rfl ⟨trivial, trivial, trivial, trivial, trivial⟩ ?_
  refine vNil ?_
  change VC _ _ _ _
  refine vSeq ?_
  refine vRegion ?_
  refine oVal tt rfl rfl rfl rfl rfl trivial ?_
  obtain ⟨v5, hc6, h⟩ := bind_inv h
  refine oCall (I_LinkageFreedom_w N v4 v5 hc6) rfl rfl rfl rfl rfl rfl rfl rfl ⟨⟨rfl, (.inl ⟨rfl, rfl⟩), (.inl ⟨rfl, rfl⟩), (.inl ⟨rfl, rfl⟩), trivial⟩, trivial⟩ ?_
  refine oVal tt rfl rfl rfl rfl rfl trivial ?_
  refine vNil ?_
  change VC _ _ _ _
  iterate 2 refine vSeq ?_
  refine vRegion ?_
  iterate 3 refine oVal tt rfl rfl rfl rfl rfl trivial ?_
  refine vNil ?_
  change VC _ _ _ _
  refine vCond rfl (fun hb7 => ?_) (fun hb7 => ?_)
  ·replace h := cnd_t hb7 h
   refine vSeq ?_
   refine vRegion ?_
   refine oVal tt rfl rfl rfl rfl rfl trivial ?_
   refine vNil ?_
   change VC _ _ _ _
   refine vRet ?_
   change ∃ _, _
   cases h
   exact ⟨[], _, rfl, trivial, rfl, (.eq rfl), rfl⟩
  ·replace h := cnd_f hb7 h
   refine vSkip ?_
   change VC _ _ _ _
   iterate 2 refine vSeq ?_
   refine vRegionN 3 [2] [0, 0, 2, 7, 15] (by kernel_rfl) (by kernel_rfl) (by kernel_rfl) (by kernel_rfl) (by kernel_rfl) rfl (by rfl) ?_
   iterate 2 refine nVal tt rfl (wNone rfl) rfl rfl rfl rfl rfl trivial ?_
   obtain ⟨v6, hc8, h⟩ := bind_inv h
   refine nCallR (L_toLinkage_w N aL_0 v6 hc8) rfl (wNone rfl) rfl rfl rfl rfl rfl rfl (by first | rfl | kernel_rfl | (simp [nrL, nm, gdst, nmT, rowB]; done)) rfl (by first | rfl | kernel_rfl | (simp [chkE, nrL, nm, gdst, nmT, rowB, hid, ment, mentA, mentS]; done) | (simp [chkE, nrL, nm, gdst, nmT, rowB, hid, ment, mentA, mentS]; decide)) ⟨⟨rfl, rfl, rfl, rfl, trivial⟩, trivial⟩ ?_
   refine nNil ?_
   change VO _ _ _ _ _
   obtain ⟨v7, hc9, h⟩ := bind_inv h
   refine oCall (L_eqLinkage_w N v4 v6 v7 hc9) rfl rfl rfl rfl rfl rfl rfl rfl ⟨⟨rfl, (.inl ⟨rfl, rfl⟩), (.inl ⟨rfl, rfl⟩), (.inl ⟨rfl, rfl⟩), trivial⟩, ⟨rfl, (.inl ⟨rfl, rfl⟩), (.inl ⟨rfl, rfl⟩), (.inl ⟨rfl, rfl⟩), trivial⟩, trivial⟩ ?_
   refine oVal tt rfl rfl rfl rfl rfl trivial ?_
   refine vNil ?_
   change VC _ _ _ _
   refine vCond rfl (fun hb10 => ?_) (fun hb10 => ?_)
   ·replace h := cnd_t hb10 h
    refine vSeq ?_
    refine vRegion ?_
    refine oVal tt rfl rfl rfl rfl rfl trivial ?_
    refine vNil ?_
    change VC _ _ _ _
    refine vRet ?_
    change ∃ _, _
    cases h
    exact ⟨[], _, rfl, trivial, rfl, (.eq rfl), rfl⟩
   ·replace h := cnd_f hb10 h
    refine vSkip ?_
    change VC _ _ _ _
    refine vSeq ?_
    refine vRegion ?_
    refine oVal tt rfl rfl rfl rfl rfl trivial ?_
    refine vNil ?_
    change VC _ _ _ _
    refine vRet ?_
    change ∃ _, _
    cases h
    exact ⟨[], _, rfl, trivial, rfl, (.eq rfl), rfl⟩
end Go.Proofs.Ytkklfgcelmeccaa
