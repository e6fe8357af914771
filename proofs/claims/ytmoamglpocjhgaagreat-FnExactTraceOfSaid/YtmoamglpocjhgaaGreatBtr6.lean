/- Texts that the proof needs, put together: Qj G67 G68 Ql G90 Sm SoS G93 G95 Qm G102 SoP. -/
import Derived.Sort.Grow
import Derived.Sort.EveryDepth
import Derived.Shelf.Sort.AssemblyIn
import Derived.Shelf.Slices.In.SortNone
import Derived.Ground.NamesProg
import Derived.WalkKit
import Derived.Shelf.SlSortCmp.NoneTotal
import Derived.Ground.SlsfProg
import Derived.Test.YtmoamglpocjhgaaGreatBtr3
import Derived.Test.YtmoamglpocjhgaaGreatBtr4
import Derived.Test.YtmoamglpocjhgaaGreatBtr5
set_option linter.unusedVariables false
set_option linter.unusedSimpArgs false
namespace Go.Proofs.YtmoamglpocjhgaaGreat
variable {N : Nat}
theorem outside_snoc_out {g : List Int} {n : Nat} (h : (n : Int) ∉ g) : outside g (n + 1) = outside g n ++ [(n : Int)] := by
 rw [outside_succ]
 have : g.contains (n : Int) = false := by simpa using h
 rw [this]; rfl
theorem outside_congr {g g' : List Int} : ∀ {n : Nat}, (∀ v : Nat, v < n → g.contains (v : Int) = g'.contains (v : Int)) → outside g n = outside g' n
 | 0, _ => rfl
 | n + 1, h => by
  rw [outside_succ, outside_succ, h n (by omega), outside_congr (n := n) fun v hv => h v (by omega)]
theorem outside_count : ∀ {n : Nat} {g : List Int}, g.Nodup → (∀ v ∈ g, 0 ≤ v ∧ v < n) → (outside g n).length + g.length = n
 | 0, g, _, hr => by
  cases g with
  | nil => rfl
  | cons x g => have := hr x (by simp); omega
 | n + 1, g, hn, hr => by
  by_cases hm : (n : Int) ∈ g
  ·have ih := outside_count (n := n) (hn.erase (n : Int)) fun v hv => by
    have := (hn.mem_erase_iff).1 hv
    have h2 := hr v this.2
    have := this.1
    omega
   have hc : g.contains (n : Int) = true := by simpa using hm
   rw [List.length_erase_of_mem hm, outside_congr (g' := g) fun v hv => by
    rw [Bool.eq_iff_iff]
    simp only [List.contains_eq_mem, decide_eq_true_eq]
    rw [hn.mem_erase_iff]
    exact ⟨fun h => h.2, fun h => ⟨by omega, h⟩⟩] at ih
   have hpos := List.length_pos_of_mem hm
   rw [outside_succ, hc, cnd_true]
   omega
  ·have ih := outside_count (n := n) hn fun v hv => by
    have h2 := hr v hv
    have : v ≠ (n : Int) := fun e => hm (e ▸ hv)
    omega
   rw [outside_snoc_out hm, List.length_append]
   simp; omega
theorem asc_lt3 {n : Int} {l : List Int} (h : asc n l = true) : ∀ j i : Nat, i < j → j < l.length → l.getD i 0 < l.getD j 0
 | 0, i, h1, _ => by omega
 | j + 1, i, h1, h2 => by
  have ha := asc_at h h2
  simp only [ascAt, Bool.and_eq_true, Bool.or_eq_true, decide_eq_true_eq, Nat.add_sub_cancel] at ha
  have hs : l.getD j 0 < l.getD (j + 1) 0 := ha.2.resolve_left (by omega)
  by_cases e : i = j
  ·subst e; exact hs
  ·have := asc_lt3 h j i (by omega) (by omega); omega
theorem asc_nodup {n : Int} {l : List Int} (h : asc n l = true) : l.Nodup := by
 rw [List.Nodup, List.pairwise_iff_getElem]
 intro i j hi hj hij e
 have := asc_lt3 h j i hij hj
 rw [List.getD_eq_getElem?_getD, List.getD_eq_getElem?_getD, List.getElem?_eq_getElem hi, List.getElem?_eq_getElem hj] at this
 simp at this
 omega
theorem free_facts {l : Lnk} (h : isLk l = true) : (freeJ l).length ≤ 2 ∧ (freeJ l).Nodup ∧ ∀ v ∈ freeJ l, 0 ≤ v ∧ v < (l.f.places.length : Int) := by
 obtain ⟨hf, h1, h2, h3⟩ := isLk_parts h
 obtain ⟨hg, h4, h5, h6, h7, h8⟩ := isFr_parts hf
 have hn := isGraph_nn hg
 have e : freeJ l = outside l.ground l.f.places.length := by unfold freeJ; rw [h]; rfl
 rw [e]
 refine ⟨?_, ?_, fun v hv => ?_⟩
 ·have := outside_count (n := l.f.places.length) (asc_nodup h3) fun v hv => by have := asc_in h3 hv; omega
  omega
 ·unfold outside
  exact List.Pairwise.filter _ (List.Pairwise.map _ (fun a b h e => h (Int.ofNat.inj e)) List.nodup_range)
 ·have := outside_mem l.ground l.f.places.length v
  have hc : (outside l.ground l.f.places.length).contains v = true := by simpa using hv
  rw [hc] at this
  have := (Bool.and_eq_true _ _ ▸ this.symm).1
  rw [inB_true] at this
  omega
def pAll (a : List (Int × Int)) : List Int → List (List (Int × Int))
 | [] => [a]
 | v :: fr => (List.range 5).flatMap fun (y : Nat) => (List.range 5).flatMap fun (x : Nat) => pAll (a.set v.toNat ((x : Int), (y : Int))) fr
def Agr (fr : List Int) (a b : List (Int × Int)) : Prop := a.length = b.length ∧ ∀ j : Nat, (∀ v ∈ fr, v.toNat ≠ j) → a[j]? = b[j]?
theorem Agr.refl (fr : List Int) (a : List (Int × Int)) : Agr fr a a := ⟨rfl, fun _ _ => rfl⟩
theorem Agr.trans {fr : List Int} {a b c : List (Int × Int)} (h : Agr fr a b) (h' : Agr fr b c) : Agr fr a c := ⟨h.1.trans h'.1, fun j hj => (h.2 j hj).trans (h'.2 j hj)⟩
theorem Agr.cons {fr : List Int} {v : Int} {a b : List (Int × Int)} (h : Agr fr a b) : Agr (v :: fr) a b := ⟨h.1, fun j hj => h.2 j fun u hu => hj u (by simp [hu])⟩
theorem Agr.set {fr : List Int} {v : Int} {a b : List (Int × Int)} (h : Agr (v :: fr) a b) (c : Int × Int) : Agr fr (a.set v.toNat c) (b.set v.toNat c) := by
 refine ⟨by rw [List.length_set, List.length_set, h.1], fun j hj => ?_⟩
 rw [List.getElem?_set, List.getElem?_set, h.1]
 by_cases hv : v.toNat = j
 ·rw [if_pos hv, if_pos hv]
 ·rw [if_neg hv, if_neg hv]
  exact h.2 j fun u hu => by
   rcases List.mem_cons.1 hu with rfl | hu
   ·exact hv
   ·exact hj u hu
theorem Agr.put (fr : List Int) (v : Int) (a : List (Int × Int)) (c : Int × Int) : Agr (v :: fr) (a.set v.toNat c) a := by
 refine ⟨List.length_set, fun j hj => ?_⟩
 rw [List.getElem?_set, if_neg (hj v (by simp))]
theorem flatMap_congr' {β : Type} {m : Nat} {f g : Nat → List β} (h : ∀ a, a < m → f a = g a) : (List.range m).flatMap f = (List.range m).flatMap g := by
 rw [List.flatMap_def, List.flatMap_def]
 congr 1
 exact List.map_congr_left fun a ha => h a (by simpa using ha)
theorem pAll_congr : ∀ {fr : List Int} {a b : List (Int × Int)}, Agr fr a b → pAll a fr = pAll b fr
 | [], a, b, h => by
  have : a = b := List.ext_getElem? fun j => h.2 j (fun v hv => by cases hv)
  rw [this]
 | v :: fr, a, b, h => by
  unfold pAll
  exact flatMap_congr' fun y _ => flatMap_congr' fun x _ => pAll_congr (h.set _)
theorem flat_len {β : Type} {c : Nat} {f : Nat → List β} : ∀ {m : Nat}, (∀ a, a < m → (f a).length ≤ c) → ((List.range m).flatMap f).length ≤ m * c
 | 0, _ => by simp
 | m + 1, h => by
  rw [List.range_succ, List.flatMap_append, List.length_append]
  have h1 := flat_len (m := m) fun a ha => h a (by omega)
  have h2 := h m (by omega)
  have e : (List.flatMap f [m]).length = (f m).length := by simp
  rw [e, Nat.succ_mul]; omega
theorem pAll_len : ∀ {fr : List Int} {a : List (Int × Int)}, (pAll a fr).length ≤ 25 ^ fr.length
 | [], a => by simp [pAll]
 | v :: fr, a => by
  unfold pAll
  have h := flat_len (m := 5) (c := 5 * 25 ^ fr.length) (f := fun (y : Nat) => (List.range 5).flatMap fun (x : Nat) => pAll (a.set v.toNat ((x : Int), (y : Int))) fr) fun y _ => flat_len fun x _ => pAll_len
  rw [List.length_cons, Nat.pow_succ]
  omega
theorem pAll_mem : ∀ {fr : List Int} {a p : List (Int × Int)}, p ∈ pAll a fr → p.length = a.length
 | [], a, p, h => by simp [pAll] at h; rw [h]
 | v :: fr, a, p, h => by
  unfold pAll at h
  simp only [List.mem_flatMap] at h
  obtain ⟨y, _, x, _, h⟩ := h
  rw [pAll_mem h, List.length_set]
theorem set_two {a : List (Int × Int)} {i : Nat} {x y : Int} (h : i < a.length) : (a.set i (x, (a.getD i (0, 0)).2)).set i (((a.set i (x, (a.getD i (0, 0)).2)).getD i (0, 0)).1, y) = a.set i (x, y) := set_pair a i x y h
theorem flat_snoc {β : Type} (f : Nat → List β) (m : Nat) : (List.range (m + 1)).flatMap f = (List.range m).flatMap f ++ f m := by
 rw [List.range_succ, List.flatMap_append]; simp
section
variable {l : Lnk} {F : List Int}
abbrev PR := Option (List Int × List (Int × Int) × List (List (Int × Int)))
def TryOK (l : Lnk) (F : List Int) (rec_ : Int → List Int → Lnk → List (Int × Int) → List (List (Int × Int)) → PR) (i B : Nat) : Prop :=
 ∀ (a : List (Int × Int)) (out : List (List (Int × Int))), a.length = l.f.places.length → out.length ≤ B → ∃ a', rec_ (i : Int) F l a out = some (F, a', out ++ (pAll a (F.drop i)).filter (isPs l)) ∧ Agr (F.drop i) a' a
theorem try2_s (hN : 4000000 ≤ N) (hpl : l.f.places.length ≤ 3000000) (hF : ∀ v ∈ F, 0 ≤ v ∧ v < (l.f.places.length : Int)) {rec_ : Int → List Int → Lnk → List (Int × Int) → List (List (Int × Int)) → PR} {i : Nat} (hi : i < F.length) (hF2 : F.length ≤ 2) {B : Nat} (hB : B ≤ 1000000) (hr : TryOK l F rec_ (i + 1) B) {a : List (Int × Int)} (ha : a.length = l.f.places.length) {y : Nat} (kk : List Int × List (Int × Int) × List (List (Int × Int)) → PR) (out : List (List (Int × Int))) :
  ∀ (fuel x : Nat) (A : List (Int × Int)), x ≤ 5 → 5 < fuel + x → Agr (F.drop i) A a → out.length + 5 * 625 ≤ B →
  ∃ A', I_PosesOf_1_l2 N (i : Int) l rec_ (y : Int) kk fuel (F, A, out ++ ((List.range x).flatMap fun (x : Nat) => pAll (a.set (F.getD i 0).toNat ((x : Int), (y : Int))) (F.drop (i + 1))).filter (isPs l), (x : Int)) = kk (F, A', out ++ ((List.range 5).flatMap fun (x : Nat) => pAll (a.set (F.getD i 0).toNat ((x : Int), (y : Int))) (F.drop (i + 1))).filter (isPs l)) ∧ Agr (F.drop i) A' a := by
 have hdrop : F.drop i = F.getD i 0 :: F.drop (i + 1) := by
  rw [List.drop_eq_getElem_cons hi, List.getD_eq_getElem?_getD, List.getElem?_eq_getElem hi]; rfl
 have hv := hF (F.getD i 0) (getD_mem hi)
 have hfl : ∀ x, x ≤ 5 → (((List.range x).flatMap fun (x : Nat) => pAll (a.set (F.getD i 0).toNat ((x : Int), (y : Int))) (F.drop (i + 1))).filter (isPs l)).length ≤ 5 * 625 := fun x hx => by
  refine Nat.le_trans (List.length_filter_le _ _) ?_
  have h1 := flat_len (m := x) (c := 625) (f := fun (x : Nat) => pAll (a.set (F.getD i 0).toNat ((x : Int), (y : Int))) (F.drop (i + 1))) fun x _ => by
   refine Nat.le_trans pAll_len ?_
   have h2 : (F.drop (i + 1)).length ≤ 2 := by rw [List.length_drop]; omega
   have := Nat.pow_le_pow_right (n := 25) (by omega) h2
   omega
  exact Nat.le_trans h1 (Nat.mul_le_mul_right 625 hx)
 intro fuel
 induction fuel with
 | zero => intro x A h1 h2; omega
 | succ fuel ih =>
  intro x A h1 h2 hA ho
  rw [I_PosesOf_1_l2]
  by_cases hx : x < 5
  ·have ei : ((i : Int)).toNat = i := by omega
   have hAl : A.length = l.f.places.length := hA.1.trans ha
   have hs2 := set_two (a := A) (i := (F.getD i 0).toNat) (x := (x : Int)) (y := (y : Int)) (by omega)
   have hl3 := hfl x h1
   have hA2 : Agr (F.drop (i + 1)) (A.set (F.getD i 0).toNat ((x : Int), (y : Int))) (a.set (F.getD i 0).toNat ((x : Int), (y : Int))) := by rw [hdrop] at hA; exact hA.set _
   obtain ⟨A1, e1, g1⟩ := hr (A.set (F.getD i 0).toNat ((x : Int), (y : Int))) (out ++ ((List.range x).flatMap fun (x : Nat) => pAll (a.set (F.getD i 0).toNat ((x : Int), (y : Int))) (F.drop (i + 1))).filter (isPs l)) (by rw [List.length_set]; exact hAl) (by rw [List.length_append]; omega)
   have hA1 : Agr (F.drop i) A1 a := by
    rw [hdrop] at hA ⊢
    exact (g1.cons).trans ((Agr.put _ _ _ _).trans hA)
   obtain ⟨A', e2, g2⟩ := ih (x + 1) A1 (by omega) (by omega) hA1 ho
   refine ⟨A', ?_, g2⟩
   rw [cnd_dt (by omega), grd_pos (by omega), ei, grd_pos (by omega), grd_R (by omega) (by omega), hs2, grd_pos (by rw [List.length_set])]
   have e1' := e1
   rw [← succ_cast] at e1'
   rw [e1', Option.bind_some, grd_R (by omega) (by omega), succ_cast, List.append_assoc, ← List.filter_append, pAll_congr hA2]
   rw [flat_snoc] at e2
   exact e2
  ·obtain rfl : x = 5 := by omega
   rw [cnd_df (by omega)]
   exact ⟨A, rfl, hA⟩
theorem try1_s (hN : 4000000 ≤ N) (hpl : l.f.places.length ≤ 3000000) (hF : ∀ v ∈ F, 0 ≤ v ∧ v < (l.f.places.length : Int)) {rec_ : Int → List Int → Lnk → List (Int × Int) → List (List (Int × Int)) → PR} {i : Nat} (hi : i < F.length) (hF2 : F.length ≤ 2) {B : Nat} (hB : B ≤ 1000000) (hr : TryOK l F rec_ (i + 1) B) {a : List (Int × Int)} (ha : a.length = l.f.places.length) (kk : List Int × List (Int × Int) × List (List (Int × Int)) → PR) (out : List (List (Int × Int))) (ho : out.length + 10 * 5 * 625 ≤ B) :
  ∀ (fuel y : Nat) (A : List (Int × Int)), y ≤ 5 → 5 < fuel + y → Agr (F.drop i) A a →
  ∃ A', I_PosesOf_1_l1 N (i : Int) l rec_ kk fuel (F, A, out ++ ((List.range y).flatMap fun (y : Nat) => (List.range 5).flatMap fun (x : Nat) => pAll (a.set (F.getD i 0).toNat ((x : Int), (y : Int))) (F.drop (i + 1))).filter (isPs l), (y : Int)) = kk (F, A', out ++ (pAll a (F.drop i)).filter (isPs l)) ∧ Agr (F.drop i) A' a := by
 have hdrop : F.drop i = F.getD i 0 :: F.drop (i + 1) := by
  rw [List.drop_eq_getElem_cons hi, List.getD_eq_getElem?_getD, List.getElem?_eq_getElem hi]; rfl
 have hfl : ∀ y, y ≤ 5 → (((List.range y).flatMap fun (y : Nat) => (List.range 5).flatMap fun (x : Nat) => pAll (a.set (F.getD i 0).toNat ((x : Int), (y : Int))) (F.drop (i + 1))).filter (isPs l)).length ≤ 5 * 5 * 625 := fun y hy => by
  refine Nat.le_trans (List.length_filter_le _ _) ?_
  have h1 := flat_len (m := y) (c := 5 * 625) (f := fun (y : Nat) => (List.range 5).flatMap fun (x : Nat) => pAll (a.set (F.getD i 0).toNat ((x : Int), (y : Int))) (F.drop (i + 1))) fun y _ => flat_len fun x _ => by
   refine Nat.le_trans pAll_len ?_
   have h2 : (F.drop (i + 1)).length ≤ 2 := by rw [List.length_drop]; omega
   have := Nat.pow_le_pow_right (n := 25) (by omega) h2
   omega
  exact Nat.le_trans h1 (Nat.le_trans (Nat.mul_le_mul_right (5 * 625) hy) (by decide))
 intro fuel
 induction fuel with
 | zero => intro y A h1 h2; omega
 | succ fuel ih =>
  intro y A h1 h2 hA
  rw [I_PosesOf_1_l1]
  by_cases hy : y < 5
  ·have hl3 := hfl y h1
   obtain ⟨A1, e1, g1⟩ := try2_s hN hpl hF hi hF2 hB hr ha (y := y) (fun (x : (List Int) × (List (Int × Int)) × (List (List (Int × Int)))) =>
     match x with
     | (l113, l114, l115) =>
      grd (Rg64 ((y : Int) + (1 : Int))) <|
      I_PosesOf_1_l1 N (i : Int) l rec_ kk fuel (l113, l114, l115, ((y : Int) + (1 : Int)))) (out ++ ((List.range y).flatMap fun (y : Nat) => (List.range 5).flatMap fun (x : Nat) => pAll (a.set (F.getD i 0).toNat ((x : Int), (y : Int))) (F.drop (i + 1))).filter (isPs l)) N 0 A (by omega) (by omega) hA (by rw [List.length_append]; omega)
   obtain ⟨A', e2, g2⟩ := ih (y + 1) A1 (by omega) (by omega) g1
   refine ⟨A', ?_, g2⟩
   rw [cnd_dt (by omega)]
   have e1' := e1
   simp only [List.range_zero, List.flatMap_nil, List.filter_nil, List.append_nil] at e1'
   refine e1'.trans ?_
   show grd _ _ = _
   rw [grd_R (by omega) (by omega), succ_cast, List.append_assoc, ← List.filter_append]
   rw [flat_snoc] at e2
   exact e2
  ·obtain rfl : y = 5 := by omega
   rw [cnd_df (by omega)]
   refine ⟨A, ?_, hA⟩
   rw [hdrop, pAll]
theorem try_s (hN : 4000000 ≤ N) (hpl : l.f.places.length ≤ 3000000) (hgl : l.ground.length ≤ 3000000) (hF : ∀ v ∈ F, 0 ≤ v ∧ v < (l.f.places.length : Int)) (hF2 : F.length ≤ 2) : ∀ (d i : Nat), i ≤ F.length → F.length < d + i →
  ∀ (a : List (Int × Int)) (out : List (List (Int × Int))), a.length = l.f.places.length → out.length + 40000 * (3 - i) ≤ 1000000 → ∃ a', I_PosesOf_1_r N d (i : Int) F l a out = some (F, a', out ++ (pAll a (F.drop i)).filter (isPs l)) ∧ Agr (F.drop i) a' a := by
 intro d
 induction d with
 | zero => intro i h1 h2; omega
 | succ d ih =>
  intro i h1 h2 a out ha ho
  rw [I_PosesOf_1_r]
  unfold I_PosesOf_1_b
  by_cases hi : i < F.length
  ·rw [cnd_eqf (by omega)]
   have := try1_s hN hpl hF hi hF2 (B := 1000000 - 40000 * (2 - i)) (by omega) (rec_ := I_PosesOf_1_r N d) (fun a out ha ho => by
    have := ih (i + 1) (by omega) (by omega) a out ha (by omega)
    exact this) ha (fun (x : (List Int) × (List (Int × Int)) × (List (List (Int × Int)))) =>
     match x with
     | (l62, l63, l64) => some (l62, l63, l64)) out (by omega) N 0 a (by omega) (by omega) (Agr.refl _ _)
   obtain ⟨A', e, g⟩ := this
   simp only [List.range_zero, List.flatMap_nil, List.filter_nil, List.append_nil] at e
   exact ⟨A', e, g⟩
  ·obtain rfl : i = F.length := by omega
   rw [cnd_eqt rfl, isPoseI_s N hN hpl hgl, Option.bind_some, jn_def, tk0, List.drop_length, List.nil_append]
   refine ⟨a, ?_, Agr.refl _ _⟩
   cases hp : isPs l a with
   | true =>
    rw [cnd_true, grd_pos (by omega), grd_pos (by omega)]
    simp [pAll, hp]
   | false =>
    rw [cnd_false]
    simp [pAll, hp]
end
def dig (c : Nat) : Int × Int := (((c % 5 : Nat) : Int), ((c / 5 % 5 : Nat) : Int))
def asgR : List Int → List (Int × Int) → Nat → List (Int × Int)
 | [], a, _ => a
 | v :: r, a, c => asgR r (a.set v.toNat (dig c)) (c / 25)
theorem asgR_len : ∀ {r : List Int} {a : List (Int × Int)} {c : Nat}, (asgR r a c).length = a.length
 | [], _, _ => rfl
 | v :: r, a, c => by rw [asgR, asgR_len, List.length_set]
theorem asgR_snoc : ∀ {r : List Int} {v : Int} {a : List (Int × Int)} {c : Nat}, asgR (r ++ [v]) a c = (asgR r a c).set v.toNat (dig (c / 25 ^ r.length))
 | [], v, a, c => by simp [asgR]
 | u :: r, v, a, c => by
  rw [List.cons_append, asgR, asgR_snoc, asgR, List.length_cons, Nat.div_div_eq_div_mul, Nat.pow_succ, Nat.mul_comm 25]
theorem asgR_mod : ∀ {r : List Int} {a : List (Int × Int)} {i j : Nat}, asgR r a (i * 25 ^ r.length + j) = asgR r a j
 | [], a, i, j => rfl
 | u :: r, a, i, j => by
  have e : i * 25 ^ (u :: r).length + j = 25 * (i * 25 ^ r.length) + j := by
   rw [List.length_cons, Nat.pow_succ, ← Nat.mul_assoc, Nat.mul_comm _ 25]
  rw [e]
  generalize hK : i * 25 ^ r.length = K
  have d1 : dig (25 * K + j) = dig j := by
   unfold dig
   rw [show (25 * K + j) % 5 = j % 5 by omega, show (25 * K + j) / 5 % 5 = j / 5 % 5 by omega]
  rw [asgR, asgR, d1, show (25 * K + j) / 25 = K + j / 25 by omega, ← hK, asgR_mod]
theorem asgR_set : ∀ {r : List Int} {v : Int} {a : List (Int × Int)} {x : Int × Int} {j : Nat}, (∀ u ∈ r, u.toNat ≠ v.toNat) → asgR r (a.set v.toNat x) j = (asgR r a j).set v.toNat x
 | [], v, a, x, j, _ => rfl
 | u :: r, v, a, x, j, h => by
  rw [asgR, asgR, List.set_comm _ _ (Ne.symm (h u (by simp))), asgR_set fun w hw => h w (by simp [hw])]
theorem rng_mul {β : Type} (f : Nat → β) (b : Nat) : ∀ a : Nat, (List.range (a * b)).map f = (List.range a).flatMap fun i => (List.range b).map fun j => f (i * b + j)
 | 0 => by simp
 | a + 1 => by
  rw [Nat.succ_mul, List.range_add, List.map_append, rng_mul f b a, flat_snoc, List.map_map]; rfl
theorem pAll_codes : ∀ {F : List Int} {a : List (Int × Int)}, (F.map Int.toNat).Nodup → (List.range (25 ^ F.length)).map (asgR F.reverse a) = pAll a F
 | [], a, _ => rfl
 | v :: fr, a, h => by
  rw [List.map_cons] at h
  have h2 := List.nodup_cons.1 h
  have hne : ∀ u ∈ fr.reverse, u.toNat ≠ v.toNat := fun u hu e => h2.1 (by rw [← e]; exact List.mem_map.2 ⟨u, by simpa using hu, rfl⟩)
  have ih := fun a => pAll_codes (F := fr) (a := a) h2.2
  rw [List.length_cons, Nat.pow_succ, Nat.mul_comm, rng_mul, pAll]
  have e1 : ((List.range 25).flatMap fun i => (List.range (25 ^ fr.length)).map fun j => asgR (v :: fr).reverse a (i * 25 ^ fr.length + j)) = (List.range 25).flatMap fun i => pAll (a.set v.toNat (dig i)) fr := by
   refine flatMap_congr' fun i hi => ?_
   rw [← ih]
   refine List.map_congr_left fun j hj => ?_
   have hj' : j < 25 ^ fr.length := by simpa using hj
   have hl : fr.reverse.length = fr.length := List.length_reverse
   rw [List.reverse_cons, asgR_snoc, asgR_set hne, hl, ← hl, asgR_mod, hl]
   congr 2
   rw [Nat.mul_comm, Nat.mul_add_div (by omega), Nat.div_eq_of_lt hj', Nat.add_zero]
  rw [e1]
  have e2 : (List.range 25).flatMap (fun i => pAll (a.set v.toNat (dig i)) fr) = (((List.range (5 * 5)).map fun i => pAll (a.set v.toNat (dig i)) fr).flatten) := by rw [List.flatMap_def]
  rw [e2, rng_mul, List.flatMap_def, List.flatMap_def, List.flatten_flatten, List.map_map]
  congr 1
theorem pow25_s (hN : 4000000 ≤ N) {n : Nat} (hn : n ≤ 2) : S_l17Power N 25 (n : Int) = some ((25 ^ n : Nat) : Int) := by
 have key : ∀ (fuel i : Nat), i ≤ n → n < fuel + i → S_l17Power_l1 N 25 (n : Int) (fun x => some x) fuel (((25 ^ i : Nat) : Int), (i : Int)) = some ((25 ^ n : Nat) : Int) := by
  intro fuel
  induction fuel with
  | zero => intro i h1 h2; omega
  | succ fuel ih =>
   intro i h1 h2
   rw [S_l17Power_l1]
   by_cases hi : i < n
   ·have e : ((25 ^ i : Nat) : Int) * 25 = ((25 ^ (i + 1) : Nat) : Int) := by rw [Nat.pow_succ]; rfl
    have hb : 25 ^ (i + 1) ≤ 25 ^ 2 := Nat.pow_le_pow_right (by omega) (by omega)
    have hb3 : ((25 ^ (i + 1) : Nat) : Int) ≤ 625 := Int.ofNat_le.2 hb
    have hb4 : (0 : Int) ≤ ((25 ^ (i + 1) : Nat) : Int) := Int.natCast_nonneg _
    rw [cnd_dt (by omega), e, grd_pos ⟨Int.le_trans (by decide) hb4, Int.le_trans hb3 (by decide)⟩, grd_R (by omega) (by omega), succ_cast]
    exact ih (i + 1) (by omega) (by omega)
   ·obtain rfl : i = n := by omega
    rw [cnd_df (by omega)]
 exact key N 0 (by omega) (by omega)
theorem take_snoc2 {l : List Int} {i : Nat} (h : i < l.length) : l.take (i + 1) = l.take i ++ [l.getD i 0] := by
 rw [List.take_add_one, List.getElem?_eq_getElem h, List.getD_eq_getElem?_getD, List.getElem?_eq_getElem h]; rfl
theorem codes2_s (hN : 4000000 ≤ N) {l : Lnk} {F : List Int} (hF : ∀ v ∈ F, 0 ≤ v ∧ v < (l.f.places.length : Int)) (hF2 : F.length ≤ 2) (kk : List (Int × Int) → Option (List (List (Int × Int)) × Bool)) : ∀ (fuel i c : Nat) (A : List (Int × Int)), i ≤ F.length → i < fuel → c ≤ 1000 → A.length = l.f.places.length →
  S_PosesOf_l2 N l F kk fuel (A, (c : Int), (i : Int) - 1) = kk (asgR (F.take i).reverse A c) := by
 intro fuel
 induction fuel with
 | zero => intro i c A h1 h2; omega
 | succ fuel ih =>
  intro i c A h1 h2 hc hA
  rw [S_PosesOf_l2]
  cases i with
  | zero => rw [cnd_df (by omega)]; rfl
  | succ i =>
   have e1 : (((i + 1 : Nat) : Int) - 1) = (i : Int) := by omega
   have e2 : ((i : Int)).toNat = i := by omega
   have hv := hF (F.getD i 0) (getD_mem (by omega))
   have d1 : Int.tdiv (c : Int) 5 = ((c / 5 : Nat) : Int) := rfl
   have d2 : Int.tmod (c : Int) 5 = ((c % 5 : Nat) : Int) := rfl
   have d3 : Int.tdiv (c : Int) 25 = ((c / 25 : Nat) : Int) := rfl
   have d4 : Int.tmod ((c / 5 : Nat) : Int) 5 = ((c / 5 % 5 : Nat) : Int) := rfl
   have hnil : (([] : List (Int × Int)) ++ l.f.places).length = l.f.places.length := rfl
   rw [e1, cnd_dt (by omega), grd_pos (by omega), grd_pos (by decide), d1, grd_pos ⟨by decide, by unfold Rg64; omega⟩, e2, hnil, grd_pos (by omega), grd_pos (by omega), d3, grd_pos ⟨by decide, by unfold Rg64; omega⟩, grd_R (by omega) (by omega), d2, d4, set_two (by omega)]
   rw [ih i (c / 25) _ (by omega) (by omega) (by omega) (by rw [List.length_set]; exact hA), take_snoc2 (by omega), List.reverse_append]
   rfl
def posesL (l : Lnk) : List (List (Int × Int)) := cnd (isLk l) ((pAll l.f.places (freeJ l)).filter (isPs l)) []
theorem posesL_len (l : Lnk) : (posesL l).length ≤ 625 := by
 unfold posesL
 cases h : isLk l with
 | false => simp [cnd]
 | true =>
  rw [cnd_true]
  obtain ⟨h1, _⟩ := free_facts h
  refine Nat.le_trans (List.length_filter_le _ _) (Nat.le_trans pAll_len ?_)
  exact Nat.pow_le_pow_right (n := 25) (by omega) h1
theorem posesL_mem {l : Lnk} {p : List (Int × Int)} (h : p ∈ posesL l) : p.length = l.f.places.length ∧ isPs l p = true := by
 unfold posesL at h
 cases hl : isLk l with
 | false => rw [hl] at h; cases h
 | true =>
  rw [hl, cnd_true] at h
  have := List.mem_filter.1 h
  exact ⟨pAll_mem this.1, this.2⟩
theorem posesI_s (hN : 4000000 ≤ N) {l : Lnk} (hp : l.f.places.length ≤ 3000000) (hg : l.ground.length ≤ 3000000) : I_PosesOf N l = some (posesL l, isLk l) := by
 unfold I_PosesOf posesL
 rw [isLkI_s N hN hp hg, Option.bind_some]
 cases h : isLk l with
 | false => rfl
 | true =>
  obtain ⟨h1, h2, h3⟩ := free_facts h
  rw [Bool.not_true, cnd_false, freeI_s N hN hp hg, Option.bind_some, grd_pos (by omega), cnd_true, List.nil_append]
  obtain ⟨a', e, _⟩ := try_s (N := N) hN hp hg h3 h1 N 0 (by omega) (by omega) l.f.places [] rfl (by simp)
  have e' : I_PosesOf_1 N 0 (freeJ l) l l.f.places [] = some (freeJ l, a', (pAll l.f.places (freeJ l)).filter (isPs l)) := e
  rw [e']; rfl
theorem posesS_s (hN : 4000000 ≤ N) {l : Lnk} (hp : l.f.places.length ≤ 3000000) (hg : l.ground.length ≤ 3000000) : S_PosesOf N l = some (posesL l, isLk l) := by
 unfold S_PosesOf posesL
 rw [freeS_s N hN hp hg, Option.bind_some, isLkS_s N hN hp hg, Option.bind_some]
 cases h : isLk l with
 | false => rfl
 | true =>
  obtain ⟨h1, h2, h3⟩ := free_facts h
  rw [Bool.not_true, cnd_false, cnd_true]
  have hb : 25 ^ (freeJ l).length ≤ 625 := Nat.pow_le_pow_right (n := 25) (by omega) h1
  have hnd : ((freeJ l).map Int.toNat).Nodup := by
   rw [List.Nodup, List.pairwise_map]
   refine List.Pairwise.imp_of_mem (fun {a b} ha hb hab => ?_) h2
   have := h3 a ha; have := h3 b hb; omega
  rw [← pAll_codes hnd]
  refine fold (N := N) (len := 25 ^ (freeJ l).length) (st := fun c => ((List.range c).map (asgR (freeJ l).reverse l.f.places)).filter (isPs l)) (F := fun m s => S_PosesOf_l1 N l (freeJ l) (fun (l45 : List (List (Int × Int))) => some (l45, true)) m s) (by omega) (fun m c hc => ?_) fun m => ?_
  ·show S_PosesOf_l1 N l (freeJ l) _ (m + 1) (((List.range c).map (asgR (freeJ l).reverse l.f.places)).filter (isPs l), (c : Int)) = S_PosesOf_l1 N l (freeJ l) _ m (((List.range (c + 1)).map (asgR (freeJ l).reverse l.f.places)).filter (isPs l), ((c + 1 : Nat) : Int))
   have hfl : (((List.range c).map (asgR (freeJ l).reverse l.f.places)).filter (isPs l)).length ≤ c := Nat.le_trans (List.length_filter_le _ _) (by simp)
   have hd := codes2_s (N := N) hN h3 h1 (fun (l83 : List (Int × Int)) =>
      grd ((([] : List (Int × Int)) ++ l.f.places).length = l83.length) <|
      (S_IsPose N l l83).bind fun v84 =>
      cnd v84 (
       grd ((((List.range c).map (asgR (freeJ l).reverse l.f.places)).filter (isPs l)).length + 1 ≤ 4294967296) <|
       grd (Rg64 ((c : Int) + (1 : Int))) <|
       S_PosesOf_l1 N l (freeJ l) (fun (l45 : List (List (Int × Int))) => some (l45, true)) m ((((List.range c).map (asgR (freeJ l).reverse l.f.places)).filter (isPs l) ++ ([l83] : List (List (Int × Int)))), ((c : Int) + (1 : Int)))) (
       grd (Rg64 ((c : Int) + (1 : Int))) <|
       S_PosesOf_l1 N l (freeJ l) (fun (l45 : List (List (Int × Int))) => some (l45, true)) m (((List.range c).map (asgR (freeJ l).reverse l.f.places)).filter (isPs l), ((c : Int) + (1 : Int))))) N (freeJ l).length c l.f.places (Nat.le_refl _) (by omega) (by omega) rfl
   rw [S_PosesOf_l1, pow25_s hN h1, Option.bind_some, cnd_dt (by omega), grd_pos (by omega), grd_R (by omega) (by omega)]
   refine hd.trans ?_
   show grd _ _ = _
   rw [List.take_length, grd_pos (by rw [asgR_len]; rfl), isPoseS_s N hN hp hg, Option.bind_some, grd_pos (by omega), grd_R (by omega) (by omega), grd_R (by omega) (by omega), succ_cast, List.range_succ, List.map_append, List.filter_append]
   cases hq : isPs l (asgR (freeJ l).reverse l.f.places c) with
   | true => rw [cnd_true]; simp [hq]
   | false => rw [cnd_false]; simp [hq]
  ·show S_PosesOf_l1 N l (freeJ l) _ (m + 1) (((List.range (25 ^ (freeJ l).length)).map (asgR (freeJ l).reverse l.f.places)).filter (isPs l), ((25 ^ (freeJ l).length : Nat) : Int)) = _
   rw [S_PosesOf_l1, pow25_s hN h1, Option.bind_some, cnd_df (by omega)]
end Go.Proofs.YtmoamglpocjhgaaGreat
namespace Go.Proofs.YtmoamglpocjhgaaGreat
open Go.RowKit
def I_AreNear_l1 (N : Nat) (a_0 : List (Int × Int)) (b_1 : List (Int × Int)) (k : Unit → Option (Bool)) : Nat → Int → Option (Bool)
 | 0, _ => none
 | n + 1, x19 =>
  cnd (decide (x19 < (a_0.length : Int))) (
   grd (0 ≤ x19 ∧ x19 < (a_0.length : Int)) <|
   grd (0 ≤ x19 ∧ x19 < (b_1.length : Int)) <|
   (I_isPlace N (a_0.getD ((x19).toNat) (0, 0))).bind fun v24 =>
   cnd (!v24) (
    some false) (
    (I_isPlace N (b_1.getD ((x19).toNat) (0, 0))).bind fun v25 =>
    cnd (!v25) (
     some false) (
     grd (Rg64 (((a_0.getD ((x19).toNat) (0, 0)).1) - ((b_1.getD ((x19).toNat) (0, 0)).1))) <|
     (I_within N (((a_0.getD ((x19).toNat) (0, 0)).1) - ((b_1.getD ((x19).toNat) (0, 0)).1)) (-1 : Int) (1 : Int)).bind fun v26 =>
     cnd (!v26) (
      some false) (
      grd (Rg64 (((a_0.getD ((x19).toNat) (0, 0)).2) - ((b_1.getD ((x19).toNat) (0, 0)).2))) <|
      (I_within N (((a_0.getD ((x19).toNat) (0, 0)).2) - ((b_1.getD ((x19).toNat) (0, 0)).2)) (-1 : Int) (1 : Int)).bind fun v27 =>
      cnd (!v27) (
       some false) (
       grd (Rg64 (x19 + (1 : Int))) <|
       I_AreNear_l1 N a_0 b_1 k n (x19 + (1 : Int))))))) (
   k ())
def I_AreNear (N : Nat) (a_0 : List (Int × Int)) (b_1 : List (Int × Int)) : Option (Bool) :=
 cnd ((a_0.length : Int) != (b_1.length : Int)) (
  some false) (
  I_AreNear_l1 N a_0 b_1 (fun (_ : Unit) =>
     some true) N (0 : Int))
set_option maxRecDepth 20000 in
set_option maxHeartbeats 1600000 in
theorem I_AreNear_w (N : Nat) (a_0 : List (Int × Int)) (b_1 : List (Int × Int)) (r : Bool) (h : I_AreNear N a_0 b_1 = some r) : PCall Tryz.prog 112 [.ro false (.pairs a_0), .ro false (.pairs b_1)] [] (.bool r) := by
 unfold I_AreNear at h
 refine pcall_intro (TT := TT) tt Tryz.func112 rfl rfl Tryz.ntmps112 (congrArg Array.toList Tryz.results112) rfl rfl fun w0 => ?_
 refine vSeq ?_
 refine vRegion ?_
 refine oVal tt rfl rfl rfl rfl rfl trivial ?_
 refine vNil ?_
 change VC _ _ _ _
 iterate 2 refine vSeq ?_
 refine vRegion ?_
 iterate 5 refine oVal tt rfl rfl rfl rfl rfl trivial ?_
 refine vNil ?_
 change VC _ _ _ _
 refine vCond rfl (fun hb1 => ?_) (fun hb1 => ?_)
 ·replace h := cnd_t hb1 h
  refine vSeq ?_
  refine vRegion ?_
  refine oVal tt rfl rfl rfl rfl rfl trivial ?_
  refine vNil ?_
  change VC _ _ _ _
  refine vRet ?_
  change ∃ _, _
  cases h
  exact ⟨[], _, rfl, trivial, rfl, (.eq rfl), rfl⟩
 ·replace h := cnd_f hb1 h
  refine vSkip ?_
  change VC _ _ _ _
  iterate 2 refine vSeq ?_
  refine vRegion ?_
  iterate 3 refine oVal tt rfl rfl rfl rfl rfl trivial ?_
  refine vNil ?_
  change VC _ _ _ _
  refine vJoin (F := fun k => I_AreNear_l1 N a_0 b_1 k) h (α := Unit) (J := fun (_ : Unit) => (⟨[], [], []⟩ : PS)) ?_ ?_
  ·rintro ⟨⟩ h
   show VC _ _ _ (⟨[], [], []⟩ : PS)
   refine vSeq ?_
   refine vRegion ?_
   refine oVal tt rfl rfl rfl rfl rfl trivial ?_
   refine vNil ?_
   change VC _ _ _ _
   refine vRet ?_
   change ∃ _, _
   cases h
   exact ⟨[], _, rfl, trivial, rfl, (.eq rfl), rfl⟩
  ·intro k h
   refine vBlock ?_
   refine vLoopS (α := Int) (fun (x19 : Int) => (⟨[(1, .ro false (.pairs b_1)), (13, .ro false (.pairs a_0)), (14, .int (a_0.length : Int)), (15, .int x19)], [], []⟩ : PS)) (I_AreNear_l1 N a_0 b_1 k) h (En.of ⟨rfl, rfl, rfl, rfl, trivial⟩ trivial trivial) (fun _ => rfl) ?_
   rintro n x19 h
   rw [I_AreNear_l1] at h
   show VC _ _ _ (⟨[(1, .ro false (.pairs b_1)), (13, .ro false (.pairs a_0)), (14, .int (a_0.length : Int)), (15, .int x19)], [], []⟩ : PS)
   refine vSeq ?_
   refine vRegion ?_
   refine oVal tt rfl rfl rfl rfl rfl trivial ?_
   refine vNil ?_
   change VC _ _ _ _
   refine vSeq ?_
   refine vCond rfl (fun hb2 => ?_) (fun hb2 => ?_)
   ·replace h := cnd_t hb2 h
    refine vSkip ?_
    change VC _ _ _ _
    refine vSeq ?_
    refine vBlock ?_
    refine vSeq ?_
    refine vRegion ?_
    refine oVal tt rfl rfl rfl rfl rfl trivial ?_
    obtain ⟨hg3, h⟩ := grd_inv h
    refine oVal tt rfl rfl rfl rfl rfl hg3 ?_
    refine oVal tt rfl rfl rfl rfl rfl trivial ?_
    refine oAlloc tt rfl rfl rfl rfl rfl rfl rfl rfl rfl ?_
    refine oVal tt rfl rfl rfl rfl rfl trivial ?_
    refine oStore tt rfl rfl rfl rfl rfl rfl rfl rfl rfl rfl rfl ⟨trivial, trivial, trivial⟩ ?_
    refine vNil ?_
    change VC _ _ _ _
    refine vSeq ?_
    refine vRegion ?_
    iterate 2 refine oVal tt rfl rfl rfl rfl rfl trivial ?_
    obtain ⟨hg4, h⟩ := grd_inv h
    refine oVal tt rfl rfl rfl rfl rfl hg4 ?_
    refine oVal tt rfl rfl rfl rfl rfl trivial ?_
    refine oAlloc tt rfl rfl rfl rfl rfl rfl rfl rfl rfl ?_
    refine oStore tt rfl rfl rfl rfl rfl rfl rfl rfl rfl rfl rfl ⟨trivial, trivial, trivial⟩ ?_
    refine vNil ?_
    change VC _ _ _ _
    refine vSeq ?_
    refine vRegion ?_
    refine oVal tt rfl rfl rfl rfl rfl trivial ?_
    obtain ⟨v24, hc5, h⟩ := bind_inv h
    refine oCall (I_isPlace_w N (a_0.getD ((x19).toNat) (0, 0)) v24 hc5) rfl rfl rfl rfl rfl rfl rfl rfl ⟨⟨rfl, rfl, trivial⟩, trivial⟩ ?_
    iterate 2 refine oVal tt rfl rfl rfl rfl rfl trivial ?_
    refine oSplit rfl rfl rfl (fun hb6 => ?_) (fun hb6 => ?_)
    ·replace h := cnd_t hb6 h
     iterate 3 refine oNoF rfl rfl rfl rfl hb6 rfl rfl ?_
     refine oPick rfl rfl rfl rfl rfl hb6 rfl ?_
     refine oVal tt rfl rfl rfl rfl rfl trivial ?_
     iterate 7 refine oNoF rfl rfl rfl rfl rfl rfl rfl ?_
     refine oPick rfl rfl rfl rfl rfl rfl rfl ?_
     refine oVal tt rfl rfl rfl rfl rfl trivial ?_
     iterate 7 refine oNoF rfl rfl rfl rfl rfl rfl rfl ?_
     refine oPick rfl rfl rfl rfl rfl rfl rfl ?_
     refine vNil ?_
     change VC _ _ _ _
     refine vCondT rfl rfl ?_
     refine vSeq ?_
     refine vRegion ?_
     refine oVal tt rfl rfl rfl rfl rfl trivial ?_
     refine vNil ?_
     change VC _ _ _ _
     refine vRet ?_
     change ∃ _, _
     cases h
     exact ⟨[], _, rfl, trivial, rfl, (.eq rfl), rfl⟩
    ·replace h := cnd_f hb6 h
     refine oValG tt rfl rfl rfl rfl rfl hb6 rfl rfl rfl trivial ?_
     obtain ⟨v25, hc7, h⟩ := bind_inv h
     refine oCallG (I_isPlace_w N (b_1.getD ((x19).toNat) (0, 0)) v25 hc7) rfl rfl rfl rfl hb6 rfl rfl rfl rfl rfl rfl rfl ⟨⟨rfl, rfl, trivial⟩, trivial⟩ ?_
     refine oValG tt rfl rfl rfl rfl rfl hb6 rfl rfl rfl trivial ?_
     refine oPickF rfl rfl rfl rfl rfl hb6 rfl ?_
     refine oVal tt rfl rfl rfl rfl rfl trivial ?_
     refine oSplit rfl rfl rfl (fun hb8 => ?_) (fun hb8 => ?_)
     ·replace h := cnd_t hb8 h
      iterate 7 refine oNoF rfl rfl rfl rfl hb8 rfl rfl ?_
      refine oPick rfl rfl rfl rfl rfl hb8 rfl ?_
      refine oVal tt rfl rfl rfl rfl rfl trivial ?_
      iterate 7 refine oNoF rfl rfl rfl rfl rfl rfl rfl ?_
      refine oPick rfl rfl rfl rfl rfl rfl rfl ?_
      refine vNil ?_
      change VC _ _ _ _
      refine vCondT rfl rfl ?_
      refine vSeq ?_
      refine vRegion ?_
      refine oVal tt rfl rfl rfl rfl rfl trivial ?_
      refine vNil ?_
      change VC _ _ _ _
      refine vRet ?_
      change ∃ _, _
      cases h
      exact ⟨[], _, rfl, trivial, rfl, (.eq rfl), rfl⟩
     ·replace h := cnd_f hb8 h
      iterate 4 refine oValG tt rfl rfl rfl rfl rfl hb8 rfl rfl rfl trivial ?_
      obtain ⟨hg9, h⟩ := grd_inv h
      refine oValG tt rfl rfl rfl rfl rfl hb8 rfl rfl rfl hg9 ?_
      obtain ⟨v26, hc10, h⟩ := bind_inv h
      refine oCallG (I_within_w N (((a_0.getD ((x19).toNat) (0, 0)).1) - ((b_1.getD ((x19).toNat) (0, 0)).1)) (-1 : Int) (1 : Int) v26 hc10) rfl rfl rfl rfl hb8 rfl rfl rfl rfl rfl rfl rfl ⟨rfl, rfl, rfl, trivial⟩ ?_
      refine oValG tt rfl rfl rfl rfl rfl hb8 rfl rfl rfl trivial ?_
      refine oPickF rfl rfl rfl rfl rfl hb8 rfl ?_
      refine oVal tt rfl rfl rfl rfl rfl trivial ?_
      refine oSplit rfl rfl rfl (fun hb11 => ?_) (fun hb11 => ?_)
      ·replace h := cnd_t hb11 h
       iterate 7 refine oNoF rfl rfl rfl rfl hb11 rfl rfl ?_
       refine oPick rfl rfl rfl rfl rfl hb11 rfl ?_
       refine vNil ?_
       change VC _ _ _ _
       refine vCondT rfl rfl ?_
       refine vSeq ?_
       refine vRegion ?_
       refine oVal tt rfl rfl rfl rfl rfl trivial ?_
       refine vNil ?_
       change VC _ _ _ _
       refine vRet ?_
       change ∃ _, _
       cases h
       exact ⟨[], _, rfl, trivial, rfl, (.eq rfl), rfl⟩
      ·replace h := cnd_f hb11 h
       iterate 4 refine oValG tt rfl rfl rfl rfl rfl hb11 rfl rfl rfl trivial ?_
       obtain ⟨hg12, h⟩ := grd_inv h
       refine oValG tt rfl rfl rfl rfl rfl hb11 rfl rfl rfl hg12 ?_
       obtain ⟨v27, hc13, h⟩ := bind_inv h
       refine oCallG (I_within_w N (((a_0.getD ((x19).toNat) (0, 0)).2) - ((b_1.getD ((x19).toNat) (0, 0)).2)) (-1 : Int) (1 : Int) v27 hc13) rfl rfl rfl rfl hb11 rfl rfl rfl rfl rfl rfl rfl ⟨rfl, rfl, rfl, trivial⟩ ?_
       refine oValG tt rfl rfl rfl rfl rfl hb11 rfl rfl rfl trivial ?_
       refine oPickF rfl rfl rfl rfl rfl hb11 rfl ?_
       refine vNil ?_
       change VC _ _ _ _
       refine vCond rfl (fun hb14 => ?_) (fun hb14 => ?_)
       ·replace h := cnd_t hb14 h
        refine vSeq ?_
        refine vRegion ?_
        refine oVal tt rfl rfl rfl rfl rfl trivial ?_
        refine vNil ?_
        change VC _ _ _ _
        refine vRet ?_
        change ∃ _, _
        cases h
        exact ⟨[], _, rfl, trivial, rfl, (.eq rfl), rfl⟩
       ·replace h := cnd_f hb14 h
        refine vSkip ?_
        change VC _ _ _ _
        refine vRegion ?_
        obtain ⟨hg15, h⟩ := grd_inv h
        refine oVal tt rfl rfl rfl rfl rfl hg15 ?_
        refine oVal tt rfl rfl rfl rfl rfl trivial ?_
        refine vNil ?_
        change ∃ _, _
        exact ⟨(x19 + (1 : Int)), (En.of ⟨rfl, rfl, rfl, rfl, trivial⟩ trivial trivial), h⟩
   ·replace h := cnd_f hb2 h
    refine vExit ?_
    change ∃ _, _
    exact ⟨(), (En.of trivial trivial trivial), h⟩
def S_l5With_l1 (N : Nat) (l_0 : List Int) (x_1 : Int) (k : ((List Int) × Bool) → Option (List Int)) : Nat → ((List Int) × Bool × Int) → Option (List Int)
 | 0, _ => none
 | n + 1, (l19, placed20, i21) =>
  cnd (decide (i21 < (l_0.length : Int))) (
   grd (0 ≤ i21 ∧ i21 < (l_0.length : Int)) <|
   jn (fun (placed24 : Bool) =>
      cnd (decide ((l_0.getD ((i21).toNat) 0) > x_1)) (
       cnd (!placed24) (
        grd (l19.length + 1 ≤ 4294967296) <|
        grd ((l19 ++ ([x_1] : List Int)).length + 1 ≤ 4294967296) <|
        grd (Rg64 (i21 + (1 : Int))) <|
        S_l5With_l1 N l_0 x_1 k n (((l19 ++ ([x_1] : List Int)) ++ ([(l_0.getD ((i21).toNat) 0)] : List Int)), true, (i21 + (1 : Int)))) (
        grd (l19.length + 1 ≤ 4294967296) <|
        grd (Rg64 (i21 + (1 : Int))) <|
        S_l5With_l1 N l_0 x_1 k n ((l19 ++ ([(l_0.getD ((i21).toNat) 0)] : List Int)), placed24, (i21 + (1 : Int))))) (
       grd (l19.length + 1 ≤ 4294967296) <|
       grd (Rg64 (i21 + (1 : Int))) <|
       S_l5With_l1 N l_0 x_1 k n ((l19 ++ ([(l_0.getD ((i21).toNat) 0)] : List Int)), placed24, (i21 + (1 : Int))))) fun k25 =>
    cnd ((l_0.getD ((i21).toNat) 0) == x_1) (
     k25 true) (
     k25 placed20)) (
   k (l19, placed20))
def S_l5With (N : Nat) (l_0 : List Int) (x_1 : Int) : Option (List Int) :=
 S_l5With_l1 N l_0 x_1 (fun (x : (List Int) × Bool) =>
   match x with
   | (l12, placed13) =>
    cnd (!placed13) (
     grd (l12.length + 1 ≤ 4294967296) <|
     some (l12 ++ ([x_1] : List Int))) (
     some l12)) N (([] : List Int), false, (0 : Int))
set_option maxRecDepth 20000 in
set_option maxHeartbeats 1600000 in
theorem S_l5With_w (N : Nat) (l_0 : List Int) (x_1 : Int) (r : List Int) (h : S_l5With N l_0 x_1 = some r) : PCall Tryz.prog 34 [.ro false (.ints l_0), .int x_1] [(3, .ints r)] (.row 0 0 r.length) := by
 unfold S_l5With at h
 refine pcall_intro (TT := TT) tt Tryz.func34 rfl rfl Tryz.ntmps34 (congrArg Array.toList Tryz.results34) rfl rfl fun w0 => ?_
 refine vSeq ?_
 refine vRegion ?_
 refine oVal tt rfl rfl rfl rfl rfl trivial ?_
 refine vNil ?_
 change VC _ _ _ _
 refine vSeq ?_
 refine vRegion ?_
 refine oEmpty tt (wNone rfl) rfl rfl rfl rfl ?_
 refine oVal tt rfl rfl rfl rfl rfl trivial ?_
 refine vNil ?_
 change VC _ _ _ _
 refine vSeq ?_
 refine vRegion ?_
 refine oVal tt rfl rfl rfl rfl rfl trivial ?_
 refine vNil ?_
 change VC _ _ _ _
 iterate 2 refine vSeq ?_
 refine vRegion ?_
 refine oVal tt rfl rfl rfl rfl rfl trivial ?_
 refine vNil ?_
 change VC _ _ _ _
 refine vJoin (F := fun k => S_l5With_l1 N l_0 x_1 k) h (α := (List Int) × Bool) (J := fun | (l12, placed13) => (⟨[(1, .int x_1), (5, .row 34 0 l12.length), (6, .bool placed13)], [(34, some (3, .ints l12))], []⟩ : PS)) ?_ ?_
 ·rintro ⟨l12, placed13⟩ h
  show VC _ _ _ (⟨[(1, .int x_1), (5, .row 34 0 l12.length), (6, .bool placed13)], [(34, some (3, .ints l12))], []⟩ : PS)
  iterate 2 refine vSeq ?_
  refine vRegion ?_
  iterate 2 refine oVal tt rfl rfl rfl rfl rfl trivial ?_
  refine vNil ?_
  change VC _ _ _ _
  refine vCond rfl (fun hb1 => ?_) (fun hb1 => ?_)
  ·replace h := cnd_t hb1 h
   refine vRegion ?_
   iterate 2 refine oVal tt rfl rfl rfl rfl rfl trivial ?_
   refine oBuild tt rfl rfl rfl rfl rfl rfl rfl rfl rfl rfl rfl ?_
   obtain ⟨hg2, h⟩ := grd_inv h
   refine oAppend tt rfl rfl rfl rfl rfl rfl rfl rfl rfl rfl rfl rfl rfl rfl rfl rfl (Nat.le_of_eq (Nat.zero_add _)) hg2 ?_
   refine oVal tt rfl rfl rfl rfl rfl trivial ?_
   refine vNil ?_
   change VC _ _ _ _
   refine vSeq ?_
   refine vRegion ?_
   iterate 2 refine oVal tt rfl rfl rfl rfl rfl trivial ?_
   refine vNil ?_
   change VC _ _ _ _
   refine vRet ?_
   change ∃ _, _
   cases h
   exact ⟨[34], _, rfl, ⟨rfl, trivial⟩, rfl, (.eq rfl), rfl⟩
  ·replace h := cnd_f hb1 h
   refine vSkip ?_
   change VC _ _ _ _
   refine vSeq ?_
   refine vRegion ?_
   iterate 2 refine oVal tt rfl rfl rfl rfl rfl trivial ?_
   refine vNil ?_
   change VC _ _ _ _
   refine vRet ?_
   change ∃ _, _
   cases h
   exact ⟨[34], _, rfl, ⟨rfl, trivial⟩, rfl, (.eq rfl), rfl⟩
 ·intro k h
  refine vBlock ?_
  refine vNilT 5 34 3 (.ints []) rfl rfl rfl rfl ?_
  refine vLoopS (α := (List Int) × Bool × Int) (fun | (l19, placed20, i21) => (⟨[(0, .ro false (.ints l_0)), (1, .int x_1), (5, .row 34 0 l19.length), (6, .bool placed20), (7, .int i21)], [(34, some (3, .ints l19))], []⟩ : PS)) (S_l5With_l1 N l_0 x_1 k) h (En.of ⟨rfl, rfl, rfl, rfl, rfl, trivial⟩ ⟨rfl, trivial⟩ trivial) (fun _ => rfl) ?_
  rintro n ⟨l19, placed20, i21⟩ h
  rw [S_l5With_l1] at h
  show VC _ _ _ (⟨[(0, .ro false (.ints l_0)), (1, .int x_1), (5, .row 34 0 l19.length), (6, .bool placed20), (7, .int i21)], [(34, some (3, .ints l19))], []⟩ : PS)
  iterate 2 refine vSeq ?_
  refine vRegion ?_
  iterate 4 refine oVal tt rfl rfl rfl rfl rfl trivial ?_
  refine vNil ?_
  change VC _ _ _ _
  refine vCond rfl (fun hb3 => ?_) (fun hb3 => ?_)
  ·replace h := cnd_t hb3 h
   refine vSkip ?_
   change VC _ _ _ _
   refine vSeq ?_
   refine vBlock ?_
   iterate 2 refine vSeq ?_
   refine vRegion ?_
   iterate 2 refine oVal tt rfl rfl rfl rfl rfl trivial ?_
   obtain ⟨hg4, h⟩ := grd_inv h
   refine oVal tt rfl rfl rfl rfl rfl hg4 ?_
   iterate 3 refine oVal tt rfl rfl rfl rfl rfl trivial ?_
   refine vNil ?_
   change VC _ _ _ _
   refine vJoinN h (α := Bool) (J := fun (placed24 : Bool) => (⟨[(0, .ro false (.ints l_0)), (1, .int x_1), (5, .row 34 0 l19.length), (6, .bool placed24), (7, .int i21)], [(34, some (3, .ints l19))], []⟩ : PS)) ?_ ?_
   ·rintro placed24 h
    show VC _ _ _ (⟨[(0, .ro false (.ints l_0)), (1, .int x_1), (5, .row 34 0 l19.length), (6, .bool placed24), (7, .int i21)], [(34, some (3, .ints l19))], []⟩ : PS)
    iterate 2 refine vSeq ?_
    refine vRegion ?_
    iterate 2 refine oVal tt rfl rfl rfl rfl rfl trivial ?_
    refine oVal tt rfl rfl rfl rfl rfl hg4 ?_
    iterate 4 refine oVal tt rfl rfl rfl rfl rfl trivial ?_
    refine oSplit rfl rfl rfl (fun hb5 => ?_) (fun hb5 => ?_)
    ·replace h := cnd_t hb5 h
     iterate 2 refine oValG tt rfl rfl rfl rfl rfl hb5 rfl rfl rfl trivial ?_
     refine oPick rfl rfl rfl rfl rfl hb5 rfl ?_
     refine vNil ?_
     change VC _ _ _ _
     refine vCond rfl (fun hb6 => ?_) (fun hb6 => ?_)
     ·replace h := cnd_t hb6 h
      refine vSeq ?_
      refine vRegion ?_
      iterate 2 refine oVal tt rfl rfl rfl rfl rfl trivial ?_
      refine oBuild tt rfl rfl rfl rfl rfl rfl rfl rfl rfl rfl rfl ?_
      obtain ⟨hg7, h⟩ := grd_inv h
      refine oAppend tt rfl rfl rfl rfl rfl rfl rfl rfl rfl rfl rfl rfl rfl rfl rfl rfl (Nat.le_of_eq (Nat.zero_add _)) hg7 ?_
      refine oVal tt rfl rfl rfl rfl rfl trivial ?_
      refine vNil ?_
      change VC _ _ _ _
      refine vRegion ?_
      refine oVal tt rfl rfl rfl rfl rfl trivial ?_
      refine vNil ?_
      change VC _ _ _ _
      refine vRegion ?_
      iterate 3 refine oVal tt rfl rfl rfl rfl rfl trivial ?_
      refine oVal tt rfl rfl rfl rfl rfl hg4 ?_
      refine oVal tt rfl rfl rfl rfl rfl trivial ?_
      refine oBuild tt rfl rfl rfl rfl rfl rfl rfl rfl rfl rfl rfl ?_
      obtain ⟨hg8, h⟩ := grd_inv h
      refine oAppend tt rfl rfl rfl rfl rfl rfl rfl rfl rfl rfl rfl rfl rfl rfl rfl rfl (Nat.le_of_eq (Nat.zero_add _)) hg8 ?_
      refine oVal tt rfl rfl rfl rfl rfl trivial ?_
      refine vNil ?_
      change VC _ _ _ _
      refine vRegion ?_
      refine oVal tt rfl rfl rfl rfl rfl trivial ?_
      obtain ⟨hg9, h⟩ := grd_inv h
      refine oVal tt rfl rfl rfl rfl rfl hg9 ?_
      refine oVal tt rfl rfl rfl rfl rfl trivial ?_
      refine vNil ?_
      change ∃ _, _
      exact ⟨(((l19 ++ ([x_1] : List Int)) ++ ([(l_0.getD ((i21).toNat) 0)] : List Int)), true, (i21 + (1 : Int))), (En.of ⟨rfl, rfl, rfl, rfl, rfl, trivial⟩ ⟨rfl, trivial⟩ trivial), h⟩
     ·replace h := cnd_f hb6 h
      refine vSkip ?_
      change VC _ _ _ _
      refine vRegion ?_
      iterate 3 refine oVal tt rfl rfl rfl rfl rfl trivial ?_
      refine oVal tt rfl rfl rfl rfl rfl hg4 ?_
      refine oVal tt rfl rfl rfl rfl rfl trivial ?_
      refine oBuild tt rfl rfl rfl rfl rfl rfl rfl rfl rfl rfl rfl ?_
      obtain ⟨hg10, h⟩ := grd_inv h
      refine oAppend tt rfl rfl rfl rfl rfl rfl rfl rfl rfl rfl rfl rfl rfl rfl rfl rfl (Nat.le_of_eq (Nat.zero_add _)) hg10 ?_
      refine oVal tt rfl rfl rfl rfl rfl trivial ?_
      refine vNil ?_
      change VC _ _ _ _
      refine vRegion ?_
      refine oVal tt rfl rfl rfl rfl rfl trivial ?_
      obtain ⟨hg11, h⟩ := grd_inv h
      refine oVal tt rfl rfl rfl rfl rfl hg11 ?_
      refine oVal tt rfl rfl rfl rfl rfl trivial ?_
      refine vNil ?_
      change ∃ _, _
      exact ⟨((l19 ++ ([(l_0.getD ((i21).toNat) 0)] : List Int)), placed24, (i21 + (1 : Int))), (En.of ⟨rfl, rfl, rfl, rfl, rfl, trivial⟩ ⟨rfl, trivial⟩ trivial), h⟩
    ·replace h := cnd_f hb5 h
     iterate 2 refine oNoT rfl rfl rfl rfl hb5 rfl rfl ?_
     refine oPickF rfl rfl rfl rfl rfl hb5 rfl ?_
     refine vNil ?_
     change VC _ _ _ _
     refine vCondF rfl rfl ?_
     refine vSkip ?_
     change VC _ _ _ _
     refine vRegion ?_
     iterate 3 refine oVal tt rfl rfl rfl rfl rfl trivial ?_
     refine oVal tt rfl rfl rfl rfl rfl hg4 ?_
     refine oVal tt rfl rfl rfl rfl rfl trivial ?_
     refine oBuild tt rfl rfl rfl rfl rfl rfl rfl rfl rfl rfl rfl ?_
     obtain ⟨hg12, h⟩ := grd_inv h
     refine oAppend tt rfl rfl rfl rfl rfl rfl rfl rfl rfl rfl rfl rfl rfl rfl rfl rfl (Nat.le_of_eq (Nat.zero_add _)) hg12 ?_
     refine oVal tt rfl rfl rfl rfl rfl trivial ?_
     refine vNil ?_
     change VC _ _ _ _
     refine vRegion ?_
     refine oVal tt rfl rfl rfl rfl rfl trivial ?_
     obtain ⟨hg13, h⟩ := grd_inv h
     refine oVal tt rfl rfl rfl rfl rfl hg13 ?_
     refine oVal tt rfl rfl rfl rfl rfl trivial ?_
     refine vNil ?_
     change ∃ _, _
     exact ⟨((l19 ++ ([(l_0.getD ((i21).toNat) 0)] : List Int)), placed24, (i21 + (1 : Int))), (En.of ⟨rfl, rfl, rfl, rfl, rfl, trivial⟩ ⟨rfl, trivial⟩ trivial), h⟩
   ·intro k25 h
    refine vCond rfl (fun hb14 => ?_) (fun hb14 => ?_)
    ·replace h := cnd_t hb14 h
     refine vRegion ?_
     refine oVal tt rfl rfl rfl rfl rfl trivial ?_
     refine vNil ?_
     change ∃ _, _
     exact ⟨true, (En.of ⟨rfl, rfl, rfl, rfl, rfl, trivial⟩ ⟨rfl, trivial⟩ trivial), h⟩
    ·replace h := cnd_f hb14 h
     refine vSkip ?_
     change ∃ _, _
     exact ⟨placed20, (En.of ⟨rfl, rfl, rfl, rfl, rfl, trivial⟩ ⟨rfl, trivial⟩ trivial), h⟩
  ·replace h := cnd_f hb3 h
   refine vExit ?_
   change ∃ _, _
   exact ⟨(l19, placed20), (En.of ⟨rfl, rfl, rfl, trivial⟩ ⟨rfl, trivial⟩ trivial), h⟩
def S_RoomsOf_l2 (N : Nat) (v210 : (List Int) × (List Int)) (k : ((List Int) × (List Int)) → Option ((List (List Int)) × Bool)) : Nat → ((List Int) × (List Int) × Int) → Option ((List (List Int)) × Bool)
 | 0, _ => none
 | n + 1, (l225, l226, k227) =>
  cnd (decide (k227 < (v210.1.length : Int))) (
   grd (0 ≤ k227 ∧ k227 < (v210.1.length : Int)) <|
   (S_l5With N l226 (v210.1.getD ((k227).toNat) 0)).bind fun v229 =>
   grd (l225.length + 1 ≤ 4294967296) <|
   grd (Rg64 (k227 + (1 : Int))) <|
   S_RoomsOf_l2 N v210 k n ((l225 ++ ([(v210.1.getD ((k227).toNat) 0)] : List Int)), v229, (k227 + (1 : Int)))) (
   k (l225, l226))
def S_RoomsOf_l1 (N : Nat) (v1 : (List (List (Int × Int))) × Bool) (k : (List (List Int)) → Option ((List (List Int)) × Bool)) : Nat → ((List (List Int)) × (List Int) × Int) → Option ((List (List Int)) × Bool)
 | 0, _ => none
 | n + 1, (l185, l186, i187) =>
  cnd (decide (i187 < (v1.1.length : Int))) (
   (S_l2Has N l186 i187).bind fun v209 =>
   cnd v209 (
    grd (Rg64 (i187 + (1 : Int))) <|
    S_RoomsOf_l1 N v1 k n (l185, l186, (i187 + (1 : Int)))) (
    (S_l25Reach N v1.1 i187).bind fun v210 =>
    S_RoomsOf_l2 N v210 (fun (x : (List Int) × (List Int)) =>
      match x with
      | (l219, l220) =>
       grd (l185.length + 1 ≤ 4294967296) <|
       grd (Rg64 (i187 + (1 : Int))) <|
       S_RoomsOf_l1 N v1 k n ((l185 ++ ([l220] : List (List Int))), l219, (i187 + (1 : Int)))) N (l186, ([] : List Int), (0 : Int)))) (
   k l185)
def S_RoomsOf (N : Nat) (l_0 : Lnk) : Option ((List (List Int)) × Bool) :=
 (S_PosesOf N l_0).bind fun v1 =>
 cnd (!v1.2) (
  some (([] : List (List Int)), false)) (
  cnd (decide ((v1.1.length : Int) > (100 : Int))) (
   some (([] : List (List Int)), false)) (
   S_RoomsOf_l1 N v1 (fun (l115 : List (List Int)) =>
      some (l115, true)) N (([] : List (List Int)), ([] : List Int), (0 : Int))))
set_option maxRecDepth 20000 in
set_option maxHeartbeats 1600000 in
theorem S_RoomsOf_w (N : Nat) (l_0 : Lnk) (r : (List (List Int)) × Bool) (h : S_RoomsOf N l_0 = some r) : PCall Tryz.prog 80 [lD l_0] [(25, .intss r.1)] (.tup [.row 0 0 r.1.length, .bool r.2]) := by
 unfold S_RoomsOf at h
 refine pcall_intro (TT := TT) tt Tryz.func80 rfl rfl Tryz.ntmps80 (congrArg Array.toList Tryz.results80) rfl rfl fun w0 => ?_
 refine vSeq ?_
 refine vRegion ?_
 refine oBox rfl rfl rfl rfl rfl rfl rfl rfl rfl ?_
 iterate 2 refine oVal tt rfl rfl rfl rfl rfl trivial ?_
 refine vNil ?_
 change VC _ _ _ _
 refine vSeq ?_
 refine vRegion ?_
 refine oEmpty tt (wNone rfl) rfl rfl rfl rfl ?_
 refine oVal tt rfl rfl rfl rfl rfl trivial ?_
 refine vNil ?_
 change VC _ _ _ _
 refine vSeq ?_
 refine vRegion ?_
 refine oVal tt rfl rfl rfl rfl rfl trivial ?_
 obtain ⟨v1, hc1, h⟩ := bind_inv h
 refine oCall (S_PosesOf_w N l_0 v1 hc1) rfl rfl rfl rfl rfl rfl rfl rfl ⟨⟨rfl, rfl, rfl, rfl, trivial⟩, trivial⟩ ?_
 iterate 5 refine oVal tt rfl rfl rfl rfl rfl trivial ?_
 refine vNil ?_
 change VC _ _ _ _
 iterate 2 refine vSeq ?_
 refine vRegion ?_
 iterate 3 refine oVal tt rfl rfl rfl rfl rfl trivial ?_
 refine oSplit rfl rfl rfl (fun hb2 => ?_) (fun hb2 => ?_)
 ·replace h := cnd_t hb2 h
  iterate 3 refine oNoF rfl rfl rfl rfl hb2 rfl rfl ?_
  refine oPick rfl rfl rfl rfl rfl hb2 rfl ?_
  refine vNil ?_
  change VC _ _ _ _
  refine vCondT rfl rfl ?_
  refine vSeq ?_
  refine vRegion ?_
  iterate 3 refine oVal tt rfl rfl rfl rfl rfl trivial ?_
  refine vNil ?_
  change VC _ _ _ _
  refine vNilT 2 9001 25 (.intss []) rfl rfl rfl rfl ?_
  refine vRet ?_
  change ∃ _, _
  cases h
  exact ⟨[9001], _, rfl, ⟨rfl, trivial⟩, rfl, (.eq rfl), rfl⟩
 ·replace h := cnd_f hb2 h
  iterate 3 refine oValG tt rfl rfl rfl rfl rfl hb2 rfl rfl rfl trivial ?_
  refine oPickF rfl rfl rfl rfl rfl hb2 rfl ?_
  refine vNil ?_
  change VC _ _ _ _
  refine vCond rfl (fun hb3 => ?_) (fun hb3 => ?_)
  ·replace h := cnd_t hb3 h
   refine vSeq ?_
   refine vRegion ?_
   iterate 3 refine oVal tt rfl rfl rfl rfl rfl trivial ?_
   refine vNil ?_
   change VC _ _ _ _
   refine vNilT 2 9001 25 (.intss []) rfl rfl rfl rfl ?_
   refine vRet ?_
   change ∃ _, _
   cases h
   exact ⟨[9001], _, rfl, ⟨rfl, trivial⟩, rfl, (.eq rfl), rfl⟩
  ·replace h := cnd_f hb3 h
   refine vSkip ?_
   change VC _ _ _ _
   refine vSeq ?_
   refine vRegion ?_
   refine oEmpty tt (wNone rfl) rfl rfl rfl rfl ?_
   refine oVal tt rfl rfl rfl rfl rfl trivial ?_
   refine vNil ?_
   change VC _ _ _ _
   iterate 2 refine vSeq ?_
   refine vRegion ?_
   refine oVal tt rfl rfl rfl rfl rfl trivial ?_
   refine vNil ?_
   change VC _ _ _ _
   refine vJoin (F := fun k => S_RoomsOf_l1 N v1 k) h (α := List (List Int)) (J := fun (l115 : List (List Int)) => (⟨[(4, .row 66 0 l115.length)], [(66, some (25, .intss l115))], []⟩ : PS)) ?_ ?_
   ·rintro l115 h
    show VC _ _ _ (⟨[(4, .row 66 0 l115.length)], [(66, some (25, .intss l115))], []⟩ : PS)
    refine vSeq ?_
    refine vRegion ?_
    iterate 3 refine oVal tt rfl rfl rfl rfl rfl trivial ?_
    refine vNil ?_
    change VC _ _ _ _
    refine vRet ?_
    change ∃ _, _
    cases h
    exact ⟨[66], _, rfl, ⟨rfl, trivial⟩, rfl, (.eq rfl), rfl⟩
   ·intro k h
    refine vBlock ?_
    refine vNilT 4 66 25 (.intss []) rfl rfl rfl rfl ?_
    refine vNilT 7 62 3 (.ints []) rfl rfl rfl rfl ?_
    refine vLoopS (α := (List (List Int)) × (List Int) × Int) (fun | (l185, l186, i187) => (⟨[(4, .row 66 0 l185.length), (5, .row 1160 0 v1.1.length), (7, .row 62 0 l186.length), (8, .int i187)], [(66, some (25, .intss l185)), (1160, some (49, .pairss v1.1)), (62, some (3, .ints l186))], []⟩ : PS)) (S_RoomsOf_l1 N v1 k) h (En.of ⟨rfl, rfl, rfl, rfl, trivial⟩ ⟨rfl, rfl, rfl, trivial⟩ trivial) (fun _ => rfl) ?_
    rintro n ⟨l185, l186, i187⟩ h
    rw [S_RoomsOf_l1] at h
    show VC _ _ _ (⟨[(4, .row 66 0 l185.length), (5, .row 1160 0 v1.1.length), (7, .row 62 0 l186.length), (8, .int i187)], [(66, some (25, .intss l185)), (1160, some (49, .pairss v1.1)), (62, some (3, .ints l186))], []⟩ : PS)
    iterate 2 refine vSeq ?_
    refine vRegion ?_
    iterate 4 refine oVal tt rfl rfl rfl rfl rfl trivial ?_
    refine vNil ?_
    change VC _ _ _ _
    refine vCond rfl (fun hb4 => ?_) (fun hb4 => ?_)
    ·replace h := cnd_t hb4 h
     refine vSkip ?_
     change VC _ _ _ _
     refine vSeq ?_
     refine vBlock ?_
     iterate 2 refine vSeq ?_
     refine vRegion ?_
     iterate 2 refine oVal tt rfl rfl rfl rfl rfl trivial ?_
     obtain ⟨v209, hc5, h⟩ := bind_inv h
     refine oCall (S_l2Has_w N l186 i187 v209 hc5) rfl rfl rfl rfl rfl rfl rfl rfl ⟨(.inl ⟨rfl, rfl⟩), rfl, trivial⟩ ?_
     refine vNil ?_
     change VC _ _ _ _
     refine vCond rfl (fun hb6 => ?_) (fun hb6 => ?_)
     ·replace h := cnd_t hb6 h
      refine vExit ?_
      change VC _ _ _ _
      refine vRegion ?_
      refine oVal tt rfl rfl rfl rfl rfl trivial ?_
      obtain ⟨hg7, h⟩ := grd_inv h
      refine oVal tt rfl rfl rfl rfl rfl hg7 ?_
      refine oVal tt rfl rfl rfl rfl rfl trivial ?_
      refine vNil ?_
      change ∃ _, _
      exact ⟨(l185, l186, (i187 + (1 : Int))), (En.of ⟨rfl, rfl, rfl, rfl, trivial⟩ ⟨rfl, rfl, rfl, trivial⟩ trivial), h⟩
     ·replace h := cnd_f hb6 h
      refine vSkip ?_
      change VC _ _ _ _
      refine vSeq ?_
      refine vRegion ?_
      iterate 2 refine oVal tt rfl rfl rfl rfl rfl trivial ?_
      obtain ⟨v210, hc8, h⟩ := bind_inv h
      refine oCall (S_l25Reach_w N v1.1 i187 v210 hc8) rfl rfl rfl rfl rfl rfl rfl rfl ⟨(.inl ⟨rfl, rfl⟩), rfl, trivial⟩ ?_
      iterate 5 refine oVal tt rfl rfl rfl rfl rfl trivial ?_
      refine vNil ?_
      change VC _ _ _ _
      refine vSeq ?_
      refine vRegion ?_
      refine oEmpty tt (wNone rfl) rfl rfl rfl rfl ?_
      refine oVal tt rfl rfl rfl rfl rfl trivial ?_
      refine vNil ?_
      change VC _ _ _ _
      iterate 2 refine vSeq ?_
      refine vRegion ?_
      refine oVal tt rfl rfl rfl rfl rfl trivial ?_
      refine vNil ?_
      change VC _ _ _ _
      refine vJoin (F := fun k => S_RoomsOf_l2 N v210 k) h (α := (List Int) × (List Int)) (J := fun | (l219, l220) => (⟨[(4, .row 66 0 l185.length), (5, .row 1160 0 v1.1.length), (7, .row 62 0 l219.length), (8, .int i187), (11, .row 9539 0 l220.length)], [(66, some (25, .intss l185)), (1160, some (49, .pairss v1.1)), (62, some (3, .ints l219)), (9539, some (3, .ints l220))], []⟩ : PS)) ?_ ?_
      ·rintro ⟨l219, l220⟩ h
       show VC _ _ _ (⟨[(4, .row 66 0 l185.length), (5, .row 1160 0 v1.1.length), (7, .row 62 0 l219.length), (8, .int i187), (11, .row 9539 0 l220.length)], [(66, some (25, .intss l185)), (1160, some (49, .pairss v1.1)), (62, some (3, .ints l219)), (9539, some (3, .ints l220))], []⟩ : PS)
       refine vRegion ?_
       iterate 2 refine oVal tt rfl rfl rfl rfl rfl trivial ?_
       refine oFreeze (t := 64) rfl rfl rfl rfl ?_
       refine oBuild tt rfl rfl rfl rfl rfl rfl rfl rfl rfl rfl rfl ?_
       obtain ⟨hg9, h⟩ := grd_inv h
       refine oAppend tt rfl rfl rfl rfl rfl rfl rfl rfl rfl rfl rfl rfl rfl rfl rfl rfl (Nat.le_of_eq (Nat.zero_add _)) hg9 ?_
       refine oVal tt rfl rfl rfl rfl rfl trivial ?_
       refine vNil ?_
       change VC _ _ _ _
       refine vRegion ?_
       refine oVal tt rfl rfl rfl rfl rfl trivial ?_
       obtain ⟨hg10, h⟩ := grd_inv h
       refine oVal tt rfl rfl rfl rfl rfl hg10 ?_
       refine oVal tt rfl rfl rfl rfl rfl trivial ?_
       refine vNil ?_
       change ∃ _, _
       exact ⟨((l185 ++ ([l220] : List (List Int))), l219, (i187 + (1 : Int))), (En.of ⟨rfl, rfl, rfl, rfl, trivial⟩ ⟨rfl, rfl, rfl, trivial⟩ trivial), h⟩
      ·intro k h
       refine vBlock ?_
       refine vNilT 11 9540 3 (.ints []) rfl rfl rfl rfl ?_
       refine vLoopS (α := (List Int) × (List Int) × Int) (fun | (l225, l226, k227) => (⟨[(4, .row 66 0 l185.length), (5, .row 1160 0 v1.1.length), (7, .row 62 0 l225.length), (8, .int i187), (9, .row 1400 0 v210.1.length), (11, .row 9540 0 l226.length), (12, .int k227)], [(66, some (25, .intss l185)), (1160, some (49, .pairss v1.1)), (62, some (3, .ints l225)), (1400, some (3, .ints v210.1)), (9540, some (3, .ints l226))], []⟩ : PS)) (S_RoomsOf_l2 N v210 k) h (En.of ⟨rfl, rfl, rfl, rfl, rfl, rfl, rfl, trivial⟩ ⟨rfl, rfl, rfl, rfl, rfl, trivial⟩ trivial) (fun _ => rfl) ?_
       rintro n ⟨l225, l226, k227⟩ h
       rw [S_RoomsOf_l2] at h
       show VC _ _ _ (⟨[(4, .row 66 0 l185.length), (5, .row 1160 0 v1.1.length), (7, .row 62 0 l225.length), (8, .int i187), (9, .row 1400 0 v210.1.length), (11, .row 9540 0 l226.length), (12, .int k227)], [(66, some (25, .intss l185)), (1160, some (49, .pairss v1.1)), (62, some (3, .ints l225)), (1400, some (3, .ints v210.1)), (9540, some (3, .ints l226))], []⟩ : PS)
       iterate 2 refine vSeq ?_
       refine vRegion ?_
       iterate 4 refine oVal tt rfl rfl rfl rfl rfl trivial ?_
       refine vNil ?_
       change VC _ _ _ _
       refine vCond rfl (fun hb11 => ?_) (fun hb11 => ?_)
       ·replace h := cnd_t hb11 h
        refine vSkip ?_
        change VC _ _ _ _
        refine vSeq ?_
        refine vBlock ?_
        refine vSeq ?_
        refine vRegion ?_
        iterate 3 refine oVal tt rfl rfl rfl rfl rfl trivial ?_
        obtain ⟨hg12, h⟩ := grd_inv h
        iterate 2 refine oVal tt rfl rfl rfl rfl rfl hg12 ?_
        obtain ⟨v229, hc13, h⟩ := bind_inv h
        refine oCall (S_l5With_w N l226 (v210.1.getD ((k227).toNat) 0) v229 hc13) rfl rfl rfl rfl rfl rfl rfl rfl ⟨(.inl ⟨rfl, rfl⟩), rfl, trivial⟩ ?_
        refine oVal tt rfl rfl rfl rfl rfl trivial ?_
        refine vNil ?_
        change VC _ _ _ _
        refine vRegion ?_
        iterate 3 refine oVal tt rfl rfl rfl rfl rfl trivial ?_
        iterate 2 refine oVal tt rfl rfl rfl rfl rfl hg12 ?_
        refine oBuild tt rfl rfl rfl rfl rfl rfl rfl rfl rfl rfl rfl ?_
        obtain ⟨hg14, h⟩ := grd_inv h
        refine oAppend tt rfl rfl rfl rfl rfl rfl rfl rfl rfl rfl rfl rfl rfl rfl rfl rfl (Nat.le_of_eq (Nat.zero_add _)) hg14 ?_
        refine oVal tt rfl rfl rfl rfl rfl trivial ?_
        refine vNil ?_
        change VC _ _ _ _
        refine vRegion ?_
        refine oVal tt rfl rfl rfl rfl rfl trivial ?_
        obtain ⟨hg15, h⟩ := grd_inv h
        refine oVal tt rfl rfl rfl rfl rfl hg15 ?_
        refine oVal tt rfl rfl rfl rfl rfl trivial ?_
        refine vNil ?_
        change ∃ _, _
        exact ⟨((l225 ++ ([(v210.1.getD ((k227).toNat) 0)] : List Int)), v229, (k227 + (1 : Int))), (En.ren [9540] [1550] rfl ⟨.inr rfl, .inr rfl, .inr rfl, .inr rfl, .inr rfl, .inr rfl, .inr rfl, trivial⟩ ⟨.inr rfl, .inr rfl, .inr rfl, .inr rfl, .inr rfl, trivial⟩ trivial), h⟩
       ·replace h := cnd_f hb11 h
        refine vExit ?_
        change ∃ _, _
        exact ⟨(l225, l226), (En.ren [9539] [9540] rfl ⟨.inr rfl, .inr rfl, .inr rfl, .inr rfl, .inr rfl, trivial⟩ ⟨.inr rfl, .inr rfl, .inr rfl, .inr rfl, trivial⟩ trivial), h⟩
    ·replace h := cnd_f hb4 h
     refine vExit ?_
     change ∃ _, _
     exact ⟨l185, (En.of ⟨rfl, trivial⟩ ⟨rfl, trivial⟩ trivial), h⟩
end Go.Proofs.YtmoamglpocjhgaaGreat
namespace Go.Proofs.YtmoamglpocjhgaaGreat
open Go.RowKit
def S_IndexOfPose_l2 (N : Nat) (l_0 : List (List (Int × Int))) (p_1 : List (Int × Int)) (i27 : Int) (k : Bool → Option (Int)) : Nat → (Bool × Int) → Option (Int)
 | 0, _ => none
 | n + 1, (same38, k39) =>
  cnd (decide (k39 < (p_1.length : Int))) (
   cnd same38 (
    grd (0 ≤ k39 ∧ k39 < ((l_0.getD ((i27).toNat) []).length : Int)) <|
    grd (0 ≤ k39 ∧ k39 < (p_1.length : Int)) <|
    grd (Rg64 (k39 + (1 : Int))) <|
    S_IndexOfPose_l2 N l_0 p_1 i27 k n (((((l_0.getD ((i27).toNat) []).getD ((k39).toNat) (0, 0)).1 == (p_1.getD ((k39).toNat) (0, 0)).1) && (((l_0.getD ((i27).toNat) []).getD ((k39).toNat) (0, 0)).2 == (p_1.getD ((k39).toNat) (0, 0)).2)), (k39 + (1 : Int)))) (
    k same38)) (
   k same38)
def S_IndexOfPose_l1 (N : Nat) (l_0 : List (List (Int × Int))) (p_1 : List (Int × Int)) (k : Unit → Option (Int)) : Nat → Int → Option (Int)
 | 0, _ => none
 | n + 1, i27 =>
  cnd (decide (i27 < (l_0.length : Int))) (
   grd (0 ≤ i27 ∧ i27 < (l_0.length : Int)) <|
   S_IndexOfPose_l2 N l_0 p_1 i27 (fun (same36 : Bool) =>
      cnd same36 (
       some i27) (
       grd (Rg64 (i27 + (1 : Int))) <|
       S_IndexOfPose_l1 N l_0 p_1 k n (i27 + (1 : Int)))) N ((((l_0.getD ((i27).toNat) []).length : Int) == (p_1.length : Int)), (0 : Int))) (
   k ())
def S_IndexOfPose (N : Nat) (l_0 : List (List (Int × Int))) (p_1 : List (Int × Int)) : Option (Int) :=
 S_IndexOfPose_l1 N l_0 p_1 (fun (_ : Unit) =>
    some (-1 : Int)) N (0 : Int)
set_option maxRecDepth 20000 in
set_option maxHeartbeats 1600000 in
theorem S_IndexOfPose_w (N : Nat) (l_0 : List (List (Int × Int))) (p_1 : List (Int × Int)) (r : Int) (h : S_IndexOfPose N l_0 p_1 = some r) : PCall Tryz.prog 81 [.ro false (.pairss l_0), .ro false (.pairs p_1)] [] (.int r) := by
 unfold S_IndexOfPose at h
 refine pcall_intro (TT := TT) tt Tryz.func81 rfl rfl Tryz.ntmps81 (congrArg Array.toList Tryz.results81) rfl rfl fun w0 => ?_
 refine vSeq ?_
 refine vRegion ?_
 refine oVal tt rfl rfl rfl rfl rfl trivial ?_
 refine vNil ?_
 change VC _ _ _ _
 iterate 2 refine vSeq ?_
 refine vRegion ?_
 refine oVal tt rfl rfl rfl rfl rfl trivial ?_
 refine vNil ?_
 change VC _ _ _ _
 refine vJoin (F := fun k => S_IndexOfPose_l1 N l_0 p_1 k) h (α := Unit) (J := fun (_ : Unit) => (⟨[], [], []⟩ : PS)) ?_ ?_
 ·rintro ⟨⟩ h
  show VC _ _ _ (⟨[], [], []⟩ : PS)
  refine vSeq ?_
  refine vRegion ?_
  refine oVal tt rfl rfl rfl rfl rfl trivial ?_
  refine vNil ?_
  change VC _ _ _ _
  refine vRet ?_
  change ∃ _, _
  cases h
  exact ⟨[], _, rfl, trivial, rfl, (.eq rfl), rfl⟩
 ·intro k h
  refine vBlock ?_
  refine vLoopS (α := Int) (fun (i27 : Int) => (⟨[(0, .ro false (.pairss l_0)), (1, .ro false (.pairs p_1)), (5, .int i27)], [], []⟩ : PS)) (S_IndexOfPose_l1 N l_0 p_1 k) h (En.of ⟨rfl, rfl, rfl, trivial⟩ trivial trivial) (fun _ => rfl) ?_
  rintro n i27 h
  rw [S_IndexOfPose_l1] at h
  show VC _ _ _ (⟨[(0, .ro false (.pairss l_0)), (1, .ro false (.pairs p_1)), (5, .int i27)], [], []⟩ : PS)
  iterate 2 refine vSeq ?_
  refine vRegion ?_
  iterate 4 refine oVal tt rfl rfl rfl rfl rfl trivial ?_
  refine vNil ?_
  change VC _ _ _ _
  refine vCond rfl (fun hb1 => ?_) (fun hb1 => ?_)
  ·replace h := cnd_t hb1 h
   refine vSkip ?_
   change VC _ _ _ _
   refine vSeq ?_
   refine vBlock ?_
   refine vSeq ?_
   refine vRegion ?_
   iterate 2 refine oVal tt rfl rfl rfl rfl rfl trivial ?_
   obtain ⟨hg2, h⟩ := grd_inv h
   refine oVal tt rfl rfl rfl rfl rfl hg2 ?_
   iterate 6 refine oVal tt rfl rfl rfl rfl rfl trivial ?_
   refine vNil ?_
   change VC _ _ _ _
   iterate 2 refine vSeq ?_
   refine vRegion ?_
   refine oVal tt rfl rfl rfl rfl rfl trivial ?_
   refine vNil ?_
   change VC _ _ _ _
   refine vJoin (F := fun k => S_IndexOfPose_l2 N l_0 p_1 i27 k) h (α := Bool) (J := fun (same36 : Bool) => (⟨[(0, .ro false (.pairss l_0)), (1, .ro false (.pairs p_1)), (5, .int i27), (6, .bool same36)], [], []⟩ : PS)) ?_ ?_
   ·rintro same36 h
    show VC _ _ _ (⟨[(0, .ro false (.pairss l_0)), (1, .ro false (.pairs p_1)), (5, .int i27), (6, .bool same36)], [], []⟩ : PS)
    refine vSeq ?_
    refine vRegion ?_
    refine oVal tt rfl rfl rfl rfl rfl trivial ?_
    refine vNil ?_
    change VC _ _ _ _
    refine vCond rfl (fun hb3 => ?_) (fun hb3 => ?_)
    ·replace h := cnd_t hb3 h
     refine vSeq ?_
     refine vRegion ?_
     iterate 2 refine oVal tt rfl rfl rfl rfl rfl trivial ?_
     refine vNil ?_
     change VC _ _ _ _
     refine vRet ?_
     change ∃ _, _
     cases h
     exact ⟨[], _, rfl, trivial, rfl, (.eq rfl), rfl⟩
    ·replace h := cnd_f hb3 h
     refine vSkip ?_
     change VC _ _ _ _
     refine vRegion ?_
     refine oVal tt rfl rfl rfl rfl rfl trivial ?_
     obtain ⟨hg4, h⟩ := grd_inv h
     refine oVal tt rfl rfl rfl rfl rfl hg4 ?_
     refine oVal tt rfl rfl rfl rfl rfl trivial ?_
     refine vNil ?_
     change ∃ _, _
     exact ⟨(i27 + (1 : Int)), (En.of ⟨rfl, rfl, rfl, trivial⟩ trivial trivial), h⟩
   ·intro k h
    refine vBlock ?_
    refine vLoopS (α := Bool × Int) (fun | (same38, k39) => (⟨[(0, .ro false (.pairss l_0)), (1, .ro false (.pairs p_1)), (5, .int i27), (6, .bool same38), (7, .int k39)], [], []⟩ : PS)) (S_IndexOfPose_l2 N l_0 p_1 i27 k) h (En.of ⟨rfl, rfl, rfl, rfl, rfl, trivial⟩ trivial trivial) (fun _ => rfl) ?_
    rintro n ⟨same38, k39⟩ h
    rw [S_IndexOfPose_l2] at h
    show VC _ _ _ (⟨[(0, .ro false (.pairss l_0)), (1, .ro false (.pairs p_1)), (5, .int i27), (6, .bool same38), (7, .int k39)], [], []⟩ : PS)
    iterate 2 refine vSeq ?_
    refine vRegion ?_
    iterate 5 refine oVal tt rfl rfl rfl rfl rfl trivial ?_
    refine oSplit rfl rfl rfl (fun hb5 => ?_) (fun hb5 => ?_)
    ·replace h := cnd_t hb5 h
     refine oValG tt rfl rfl rfl rfl rfl hb5 rfl rfl rfl trivial ?_
     refine oPick rfl rfl rfl rfl rfl hb5 rfl ?_
     refine vNil ?_
     change VC _ _ _ _
     refine vCond rfl (fun hb6 => ?_) (fun hb6 => ?_)
     ·replace h := cnd_t hb6 h
      refine vSkip ?_
      change VC _ _ _ _
      refine vSeq ?_
      refine vBlock ?_
      refine vRegionD (by kernel_rfl) (by kernel_rfl) ?_
      iterate 2 refine cVal tt rfl (wNone rfl) rfl rfl rfl trivial ?_
      refine cVal tt rfl (wNone rfl) rfl rfl rfl hg2 ?_
      iterate 2 refine cVal tt rfl (wNone rfl) rfl rfl rfl trivial ?_
      obtain ⟨hg7, h⟩ := grd_inv h
      refine cVal tt rfl (wNone rfl) rfl rfl rfl hg7 ?_
      iterate 3 refine cVal tt rfl (wNone rfl) rfl rfl rfl trivial ?_
      obtain ⟨hg8, h⟩ := grd_inv h
      refine cVal tt rfl (wNone rfl) rfl rfl rfl hg8 ?_
      refine cVal tt rfl (wNone rfl) rfl rfl rfl trivial ?_
      refine cPure (wNone rfl) (pEqP eqP_impl_Place rfl rfl rfl) rfl rfl ?_
      refine cVal tt rfl (wNone rfl) rfl rfl rfl trivial ?_
      refine cNil ?_
      change VC _ _ _ _
      refine vRegion ?_
      refine oVal tt rfl rfl rfl rfl rfl trivial ?_
      obtain ⟨hg9, h⟩ := grd_inv h
      refine oVal tt rfl rfl rfl rfl rfl hg9 ?_
      refine oVal tt rfl rfl rfl rfl rfl trivial ?_
      refine vNil ?_
      change ∃ _, _
      exact ⟨(((((l_0.getD ((i27).toNat) []).getD ((k39).toNat) (0, 0)).1 == (p_1.getD ((k39).toNat) (0, 0)).1) && (((l_0.getD ((i27).toNat) []).getD ((k39).toNat) (0, 0)).2 == (p_1.getD ((k39).toNat) (0, 0)).2)), (k39 + (1 : Int))), (En.of ⟨rfl, rfl, rfl, rfl, rfl, trivial⟩ trivial trivial), h⟩
     ·replace h := cnd_f hb6 h
      refine vExit ?_
      change ∃ _, _
      exact ⟨same38, (En.of ⟨rfl, rfl, rfl, rfl, trivial⟩ trivial trivial), h⟩
    ·replace h := cnd_f hb5 h
     refine oNoT rfl rfl rfl rfl hb5 rfl rfl ?_
     refine oPickF rfl rfl rfl rfl rfl hb5 rfl ?_
     refine vNil ?_
     change VC _ _ _ _
     refine vCondF rfl rfl ?_
     refine vExit ?_
     change ∃ _, _
     exact ⟨same38, (En.of ⟨rfl, rfl, rfl, rfl, trivial⟩ trivial trivial), h⟩
  ·replace h := cnd_f hb1 h
   refine vExit ?_
   change ∃ _, _
   exact ⟨(), (En.of trivial trivial trivial), h⟩
def S_RoomOf_l1 (N : Nat) (v1 : (List (List Int)) × Bool) (v3 : Int) (k : Unit → Option (List Int)) : Nat → Int → Option (List Int)
 | 0, _ => none
 | n + 1, i10 =>
  cnd (decide (i10 < (v1.1.length : Int))) (
   cnd v1.2 (
    grd (0 ≤ i10 ∧ i10 < (v1.1.length : Int)) <|
    (S_l2Has N (v1.1.getD ((i10).toNat) []) v3).bind fun v12 =>
    cnd v12 (
     grd ((v1.1.getD ((i10).toNat) []).length ≤ 4294967296) <|
     some (([] : List Int) ++ (v1.1.getD ((i10).toNat) []))) (
     grd (Rg64 (i10 + (1 : Int))) <|
     S_RoomOf_l1 N v1 v3 k n (i10 + (1 : Int)))) (
    k ())) (
   k ())
def S_RoomOf (N : Nat) (l_0 : Lnk) : Option (List Int) :=
 (S_RoomsOf N l_0).bind fun v1 =>
 (S_PosesOf N l_0).bind fun v2 =>
 (S_IndexOfPose N v2.1 l_0.f.places).bind fun v3 =>
 S_RoomOf_l1 N v1 v3 (fun (_ : Unit) =>
    some ([] : List Int)) N (0 : Int)
set_option maxRecDepth 20000 in
set_option maxHeartbeats 1600000 in
theorem S_RoomOf_w (N : Nat) (l_0 : Lnk) (r : List Int) (h : S_RoomOf N l_0 = some r) : PCall Tryz.prog 49 [lD l_0] [(3, .ints r)] (.row 0 0 r.length) := by
 unfold S_RoomOf at h
 refine pcall_intro (TT := TT) tt Tryz.func49 rfl rfl Tryz.ntmps49 (congrArg Array.toList Tryz.results49) rfl rfl fun w0 => ?_
 refine vSeq ?_
 refine vRegion ?_
 refine oBox rfl rfl rfl rfl rfl rfl rfl rfl rfl ?_
 refine oVal tt rfl rfl rfl rfl rfl trivial ?_
 refine vNil ?_
 change VC _ _ _ _
 refine vSeq ?_
 refine vRegion ?_
 refine oVal tt rfl rfl rfl rfl rfl trivial ?_
 obtain ⟨v1, hc1, h⟩ := bind_inv h
 refine oCall (S_RoomsOf_w N l_0 v1 hc1) rfl rfl rfl rfl rfl rfl rfl rfl ⟨⟨rfl, rfl, rfl, rfl, trivial⟩, trivial⟩ ?_
 iterate 5 refine oVal tt rfl rfl rfl rfl rfl trivial ?_
 refine vNil ?_
 change VC _ _ _ _
 refine vSeq ?_
 refine vRegion ?_
 refine oVal tt rfl rfl rfl rfl rfl trivial ?_
 obtain ⟨v2, hc2, h⟩ := bind_inv h
 refine oCall (S_PosesOf_w N l_0 v2 hc2) rfl rfl rfl rfl rfl rfl rfl rfl ⟨⟨rfl, rfl, rfl, rfl, trivial⟩, trivial⟩ ?_
 iterate 5 refine oVal tt rfl rfl rfl rfl rfl trivial ?_
 refine vNil ?_
 change VC _ _ _ _
 refine vSeq ?_
 refine vRegion ?_
 iterate 4 refine oVal tt rfl rfl rfl rfl rfl trivial ?_
 obtain ⟨v3, hc3, h⟩ := bind_inv h
 refine oCall (S_IndexOfPose_w N v2.1 l_0.f.places v3 hc3) rfl rfl rfl rfl rfl rfl rfl rfl ⟨(.inl ⟨rfl, rfl⟩), rfl, trivial⟩ ?_
 refine oVal tt rfl rfl rfl rfl rfl trivial ?_
 refine vNil ?_
 change VC _ _ _ _
 iterate 2 refine vSeq ?_
 refine vRegion ?_
 refine oVal tt rfl rfl rfl rfl rfl trivial ?_
 refine vNil ?_
 change VC _ _ _ _
 refine vJoin (F := fun k => S_RoomOf_l1 N v1 v3 k) h (α := Unit) (J := fun (_ : Unit) => (⟨[], [], []⟩ : PS)) ?_ ?_
 ·rintro ⟨⟩ h
  show VC _ _ _ (⟨[], [], []⟩ : PS)
  refine vSeq ?_
  refine vRegion ?_
  refine oEmpty tt (wNone rfl) rfl rfl rfl rfl ?_
  refine oVal tt rfl rfl rfl rfl rfl trivial ?_
  refine vNil ?_
  change VC _ _ _ _
  refine vNilT 2 9001 3 (.ints []) rfl rfl rfl rfl ?_
  refine vRet ?_
  change ∃ _, _
  cases h
  exact ⟨[9001], _, rfl, ⟨rfl, trivial⟩, rfl, (.eq rfl), rfl⟩
 ·intro k h
  refine vBlock ?_
  refine vLoopS (α := Int) (fun (i10 : Int) => (⟨[(3, .row 1110 0 v1.1.length), (4, .bool v1.2), (7, .int v3), (8, .int i10)], [(1110, some (25, .intss v1.1))], []⟩ : PS)) (S_RoomOf_l1 N v1 v3 k) h (En.of ⟨rfl, rfl, rfl, rfl, trivial⟩ ⟨rfl, trivial⟩ trivial) (fun _ => rfl) ?_
  rintro n i10 h
  rw [S_RoomOf_l1] at h
  show VC _ _ _ (⟨[(3, .row 1110 0 v1.1.length), (4, .bool v1.2), (7, .int v3), (8, .int i10)], [(1110, some (25, .intss v1.1))], []⟩ : PS)
  iterate 2 refine vSeq ?_
  refine vRegion ?_
  iterate 5 refine oVal tt rfl rfl rfl rfl rfl trivial ?_
  refine oSplit rfl rfl rfl (fun hb4 => ?_) (fun hb4 => ?_)
  ·replace h := cnd_t hb4 h
   refine oValG tt rfl rfl rfl rfl rfl hb4 rfl rfl rfl trivial ?_
   refine oPick rfl rfl rfl rfl rfl hb4 rfl ?_
   refine vNil ?_
   change VC _ _ _ _
   refine vCond rfl (fun hb5 => ?_) (fun hb5 => ?_)
   ·replace h := cnd_t hb5 h
    refine vSkip ?_
    change VC _ _ _ _
    refine vSeq ?_
    refine vBlock ?_
    refine vSeq ?_
    refine vRegion ?_
    iterate 2 refine oVal tt rfl rfl rfl rfl rfl trivial ?_
    obtain ⟨hg6, h⟩ := grd_inv h
    iterate 2 refine oVal tt rfl rfl rfl rfl rfl hg6 ?_
    refine oVal tt rfl rfl rfl rfl rfl trivial ?_
    obtain ⟨v12, hc7, h⟩ := bind_inv h
    refine oCall (S_l2Has_w N (v1.1.getD ((i10).toNat) []) v3 v12 hc7) rfl rfl rfl rfl rfl rfl rfl rfl ⟨rfl, rfl, trivial⟩ ?_
    refine vNil ?_
    change VC _ _ _ _
    refine vCond rfl (fun hb8 => ?_) (fun hb8 => ?_)
    ·replace h := cnd_t hb8 h
     refine vSeq ?_
     refine vRegion ?_
     refine oEmpty tt (wNone rfl) rfl rfl rfl rfl ?_
     iterate 2 refine oVal tt rfl rfl rfl rfl rfl trivial ?_
     iterate 2 refine oVal tt rfl rfl rfl rfl rfl hg6 ?_
     obtain ⟨hg9, h⟩ := grd_inv h
     refine oAppNil tt (wNone rfl) rfl rfl rfl rfl rfl rfl rfl (fun _ => rfl) rfl rfl rfl rfl rfl hg9 ?_
     refine oVal tt rfl rfl rfl rfl rfl trivial ?_
     refine vNil ?_
     change VC _ _ _ _
     refine vRet ?_
     change ∃ _, _
     cases h
     exact ⟨[44], _, rfl, ⟨rfl, trivial⟩, rfl, (.eq rfl), rfl⟩
    ·replace h := cnd_f hb8 h
     refine vSkip ?_
     change VC _ _ _ _
     refine vRegion ?_
     refine oVal tt rfl rfl rfl rfl rfl trivial ?_
     obtain ⟨hg10, h⟩ := grd_inv h
     refine oVal tt rfl rfl rfl rfl rfl hg10 ?_
     refine oVal tt rfl rfl rfl rfl rfl trivial ?_
     refine vNil ?_
     change ∃ _, _
     exact ⟨(i10 + (1 : Int)), (En.of ⟨rfl, rfl, rfl, rfl, trivial⟩ ⟨rfl, trivial⟩ trivial), h⟩
   ·replace h := cnd_f hb5 h
    refine vExit ?_
    change ∃ _, _
    exact ⟨(), (En.of trivial trivial trivial), h⟩
  ·replace h := cnd_f hb4 h
   refine oNoT rfl rfl rfl rfl hb4 rfl rfl ?_
   refine oPickF rfl rfl rfl rfl rfl hb4 rfl ?_
   refine vNil ?_
   change VC _ _ _ _
   refine vCondF rfl rfl ?_
   refine vExit ?_
   change ∃ _, _
   exact ⟨(), (En.of trivial trivial trivial), h⟩
def G_Equal_Place_l1 (N : Nat) (s1_0 : List (Int × Int)) (s2_1 : List (Int × Int)) (k : Unit → Option (Bool)) : Nat → Int → Option (Bool)
 | 0, _ => none
 | n + 1, x3 =>
  cnd (decide (x3 < (s1_0.length : Int))) (
   grd (0 ≤ x3 ∧ x3 < (s1_0.length : Int)) <|
   grd (0 ≤ x3 ∧ x3 < (s2_1.length : Int)) <|
   cnd (!(((s1_0.getD ((x3).toNat) (0, 0)).1 == (s2_1.getD ((x3).toNat) (0, 0)).1) && ((s1_0.getD ((x3).toNat) (0, 0)).2 == (s2_1.getD ((x3).toNat) (0, 0)).2))) (
    some false) (
    grd (Rg64 (x3 + (1 : Int))) <|
    G_Equal_Place_l1 N s1_0 s2_1 k n (x3 + (1 : Int)))) (
   k ())
def G_Equal_Place (N : Nat) (s1_0 : List (Int × Int)) (s2_1 : List (Int × Int)) : Option (Bool) :=
 cnd ((s1_0.length : Int) != (s2_1.length : Int)) (
  some false) (
  G_Equal_Place_l1 N s1_0 s2_1 (fun (_ : Unit) =>
     some true) N (0 : Int))
set_option maxRecDepth 20000 in
set_option maxHeartbeats 1600000 in
theorem G_Equal_Place_w (N : Nat) (s1_0 : List (Int × Int)) (s2_1 : List (Int × Int)) (r : Bool) (h : G_Equal_Place N s1_0 s2_1 = some r) : PCall Tryz.prog 114 [.ro false (.pairs s1_0), .ro false (.pairs s2_1)] [] (.bool r) := by
 unfold G_Equal_Place at h
 refine pcall_intro (TT := TT) tt Tryz.func114 rfl rfl Tryz.ntmps114 (congrArg Array.toList Tryz.results114) rfl rfl fun w0 => ?_
 refine vSeq ?_
 refine vRegion ?_
 refine oVal tt rfl rfl rfl rfl rfl trivial ?_
 refine vNil ?_
 change VC _ _ _ _
 iterate 2 refine vSeq ?_
 refine vRegion ?_
 iterate 5 refine oVal tt rfl rfl rfl rfl rfl trivial ?_
 refine vNil ?_
 change VC _ _ _ _
 refine vCond rfl (fun hb1 => ?_) (fun hb1 => ?_)
 ·replace h := cnd_t hb1 h
  refine vSeq ?_
  refine vRegion ?_
  refine oVal tt rfl rfl rfl rfl rfl trivial ?_
  refine vNil ?_
  change VC _ _ _ _
  refine vRet ?_
  change ∃ _, _
  cases h
  exact ⟨[], _, rfl, trivial, rfl, (.eq rfl), rfl⟩
 ·replace h := cnd_f hb1 h
  refine vSkip ?_
  change VC _ _ _ _
  iterate 2 refine vSeq ?_
  refine vRegion ?_
  iterate 3 refine oVal tt rfl rfl rfl rfl rfl trivial ?_
  refine vNil ?_
  change VC _ _ _ _
  refine vJoin (F := fun k => G_Equal_Place_l1 N s1_0 s2_1 k) h (α := Unit) (J := fun (_ : Unit) => (⟨[], [], []⟩ : PS)) ?_ ?_
  ·rintro ⟨⟩ h
   show VC _ _ _ (⟨[], [], []⟩ : PS)
   refine vSeq ?_
   refine vRegion ?_
   refine oVal tt rfl rfl rfl rfl rfl trivial ?_
   refine vNil ?_
   change VC _ _ _ _
   refine vRet ?_
   change ∃ _, _
   cases h
   exact ⟨[], _, rfl, trivial, rfl, (.eq rfl), rfl⟩
  ·intro k h
   refine vBlock ?_
   refine vLoopS (α := Int) (fun (x3 : Int) => (⟨[(0, .ro false (.pairs s1_0)), (1, .ro false (.pairs s2_1)), (12, .int (s1_0.length : Int)), (13, .int x3)], [], []⟩ : PS)) (G_Equal_Place_l1 N s1_0 s2_1 k) h (En.of ⟨rfl, rfl, rfl, rfl, trivial⟩ trivial trivial) (fun _ => rfl) ?_
   rintro n x3 h
   rw [G_Equal_Place_l1] at h
   show VC _ _ _ (⟨[(0, .ro false (.pairs s1_0)), (1, .ro false (.pairs s2_1)), (12, .int (s1_0.length : Int)), (13, .int x3)], [], []⟩ : PS)
   refine vSeq ?_
   refine vRegion ?_
   refine oVal tt rfl rfl rfl rfl rfl trivial ?_
   refine vNil ?_
   change VC _ _ _ _
   refine vSeq ?_
   refine vCond rfl (fun hb2 => ?_) (fun hb2 => ?_)
   ·replace h := cnd_t hb2 h
    refine vSkip ?_
    change VC _ _ _ _
    refine vSeq ?_
    refine vBlock ?_
    refine vSeq ?_
    refine vRegion ?_
    iterate 2 refine oVal tt rfl rfl rfl rfl rfl trivial ?_
    refine vNil ?_
    change VC _ _ _ _
    refine vSeq ?_
    refine vRegionD (by kernel_rfl) (by kernel_rfl) ?_
    iterate 2 refine cVal tt rfl (wNone rfl) rfl rfl rfl trivial ?_
    obtain ⟨hg3, h⟩ := grd_inv h
    refine cVal tt rfl (wNone rfl) rfl rfl rfl hg3 ?_
    iterate 3 refine cVal tt rfl (wNone rfl) rfl rfl rfl trivial ?_
    obtain ⟨hg4, h⟩ := grd_inv h
    refine cVal tt rfl (wNone rfl) rfl rfl rfl hg4 ?_
    refine cVal tt rfl (wNone rfl) rfl rfl rfl trivial ?_
    refine cPure (wNone rfl) (pNeP eqP_impl_Place rfl rfl rfl) rfl rfl ?_
    refine cNil ?_
    change VC _ _ _ _
    refine vCond rfl (fun hb5 => ?_) (fun hb5 => ?_)
    ·replace h := cnd_t hb5 h
     refine vSeq ?_
     refine vRegion ?_
     refine oVal tt rfl rfl rfl rfl rfl trivial ?_
     refine vNil ?_
     change VC _ _ _ _
     refine vRet ?_
     change ∃ _, _
     cases h
     exact ⟨[], _, rfl, trivial, rfl, (.eq rfl), rfl⟩
    ·replace h := cnd_f hb5 h
     refine vSkip ?_
     change VC _ _ _ _
     refine vRegion ?_
     obtain ⟨hg6, h⟩ := grd_inv h
     refine oVal tt rfl rfl rfl rfl rfl hg6 ?_
     refine oVal tt rfl rfl rfl rfl rfl trivial ?_
     refine vNil ?_
     change ∃ _, _
     exact ⟨(x3 + (1 : Int)), (En.of ⟨rfl, rfl, rfl, rfl, trivial⟩ trivial trivial), h⟩
   ·replace h := cnd_f hb2 h
    refine vExit ?_
    change ∃ _, _
    exact ⟨(), (En.of trivial trivial trivial), h⟩
def I_IndexOfPose_l1 (N : Nat) (l_0 : List (List (Int × Int))) (p_1 : List (Int × Int)) (k : Unit → Option (Int)) : Nat → Int → Option (Int)
 | 0, _ => none
 | n + 1, x7 =>
  cnd (decide (x7 < (l_0.length : Int))) (
   grd (0 ≤ x7 ∧ x7 < (l_0.length : Int)) <|
   (G_Equal_Place N (l_0.getD ((x7).toNat) []) p_1).bind fun v9 =>
   cnd v9 (
    some x7) (
    grd (Rg64 (x7 + (1 : Int))) <|
    I_IndexOfPose_l1 N l_0 p_1 k n (x7 + (1 : Int)))) (
   k ())
def I_IndexOfPose (N : Nat) (l_0 : List (List (Int × Int))) (p_1 : List (Int × Int)) : Option (Int) :=
 I_IndexOfPose_l1 N l_0 p_1 (fun (_ : Unit) =>
    some (-1 : Int)) N (0 : Int)
set_option maxRecDepth 20000 in
set_option maxHeartbeats 1600000 in
theorem I_IndexOfPose_w (N : Nat) (l_0 : List (List (Int × Int))) (p_1 : List (Int × Int)) (r : Int) (h : I_IndexOfPose N l_0 p_1 = some r) : PCall Tryz.prog 93 [.ro false (.pairss l_0), .ro false (.pairs p_1)] [] (.int r) := by
 unfold I_IndexOfPose at h
 refine pcall_intro (TT := TT) tt Tryz.func93 rfl rfl Tryz.ntmps93 (congrArg Array.toList Tryz.results93) rfl rfl fun w0 => ?_
 refine vSeq ?_
 refine vRegion ?_
 refine oVal tt rfl rfl rfl rfl rfl trivial ?_
 refine vNil ?_
 change VC _ _ _ _
 iterate 2 refine vSeq ?_
 refine vRegion ?_
 iterate 3 refine oVal tt rfl rfl rfl rfl rfl trivial ?_
 refine vNil ?_
 change VC _ _ _ _
 refine vJoin (F := fun k => I_IndexOfPose_l1 N l_0 p_1 k) h (α := Unit) (J := fun (_ : Unit) => (⟨[], [], []⟩ : PS)) ?_ ?_
 ·rintro ⟨⟩ h
  show VC _ _ _ (⟨[], [], []⟩ : PS)
  refine vSeq ?_
  refine vRegion ?_
  refine oVal tt rfl rfl rfl rfl rfl trivial ?_
  refine vNil ?_
  change VC _ _ _ _
  refine vRet ?_
  change ∃ _, _
  cases h
  exact ⟨[], _, rfl, trivial, rfl, (.eq rfl), rfl⟩
 ·intro k h
  refine vBlock ?_
  refine vLoopS (α := Int) (fun (x7 : Int) => (⟨[(1, .ro false (.pairs p_1)), (7, .ro false (.pairss l_0)), (8, .int (l_0.length : Int)), (9, .int x7)], [], []⟩ : PS)) (I_IndexOfPose_l1 N l_0 p_1 k) h (En.of ⟨rfl, rfl, rfl, rfl, trivial⟩ trivial trivial) (fun _ => rfl) ?_
  rintro n x7 h
  rw [I_IndexOfPose_l1] at h
  show VC _ _ _ (⟨[(1, .ro false (.pairs p_1)), (7, .ro false (.pairss l_0)), (8, .int (l_0.length : Int)), (9, .int x7)], [], []⟩ : PS)
  refine vSeq ?_
  refine vRegion ?_
  refine oVal tt rfl rfl rfl rfl rfl trivial ?_
  refine vNil ?_
  change VC _ _ _ _
  refine vSeq ?_
  refine vCond rfl (fun hb1 => ?_) (fun hb1 => ?_)
  ·replace h := cnd_t hb1 h
   refine vSkip ?_
   change VC _ _ _ _
   refine vSeq ?_
   refine vBlock ?_
   refine vSeq ?_
   refine vRegion ?_
   refine oVal tt rfl rfl rfl rfl rfl trivial ?_
   obtain ⟨hg2, h⟩ := grd_inv h
   refine oVal tt rfl rfl rfl rfl rfl hg2 ?_
   iterate 3 refine oVal tt rfl rfl rfl rfl rfl trivial ?_
   refine vNil ?_
   change VC _ _ _ _
   refine vSeq ?_
   refine vRegion ?_
   iterate 2 refine oVal tt rfl rfl rfl rfl rfl trivial ?_
   obtain ⟨v9, hc3, h⟩ := bind_inv h
   refine oCall (G_Equal_Place_w N (l_0.getD ((x7).toNat) []) p_1 v9 hc3) rfl rfl rfl rfl rfl rfl rfl rfl ⟨rfl, rfl, trivial⟩ ?_
   refine vNil ?_
   change VC _ _ _ _
   refine vCond rfl (fun hb4 => ?_) (fun hb4 => ?_)
   ·replace h := cnd_t hb4 h
    refine vSeq ?_
    refine vRegion ?_
    iterate 2 refine oVal tt rfl rfl rfl rfl rfl trivial ?_
    refine vNil ?_
    change VC _ _ _ _
    refine vRet ?_
    change ∃ _, _
    cases h
    exact ⟨[], _, rfl, trivial, rfl, (.eq rfl), rfl⟩
   ·replace h := cnd_f hb4 h
    refine vSkip ?_
    change VC _ _ _ _
    refine vRegion ?_
    obtain ⟨hg5, h⟩ := grd_inv h
    refine oVal tt rfl rfl rfl rfl rfl hg5 ?_
    refine oVal tt rfl rfl rfl rfl rfl trivial ?_
    refine vNil ?_
    change ∃ _, _
    exact ⟨(x7 + (1 : Int)), (En.of ⟨rfl, rfl, rfl, rfl, trivial⟩ trivial trivial), h⟩
  ·replace h := cnd_f hb1 h
   refine vExit ?_
   change ∃ _, _
   exact ⟨(), (En.of trivial trivial trivial), h⟩
end Go.Proofs.YtmoamglpocjhgaaGreat
namespace Go.Proofs.YtmoamglpocjhgaaGreat
variable {N : Nat}
def stepB (p q : Int × Int) : Bool := onGrid p && (onGrid q && (inB (p.1 - q.1) (-1) 1 && inB (p.2 - q.2) (-1) 1))
def stepAt (a b : List (Int × Int)) (i : Nat) : Bool := stepB (a.getD i (0, 0)) (b.getD i (0, 0))
def nearB (a b : List (Int × Int)) : Bool := decide (a.length = b.length) && (List.range a.length).all (stepAt a b)
theorem stepB_sym (p q : Int × Int) : stepB p q = stepB q p := by
 rw [Bool.eq_iff_iff]
 unfold stepB
 simp only [Bool.and_eq_true, inB_true]
 constructor <;> (rintro ⟨h1, h2, h3, h4⟩; exact ⟨h2, h1, by omega, by omega⟩)
theorem nearB_sym (a b : List (Int × Int)) : nearB a b = nearB b a := by
 unfold nearB
 by_cases h : a.length = b.length
 ·rw [decide_eq_true h, decide_eq_true h.symm, h]
  congr 2
  funext i
  exact stepB_sym _ _
 ·rw [decide_eq_false h, decide_eq_false (Ne.symm h)]; rfl
theorem l10On_s (N : Nat) (p : Int × Int) : S_l10On N p = some (onGrid p) := by
 unfold S_l10On onGrid
 rw [l1In_s, Option.bind_some, l1In_s]
 cases inB p.1 0 4 <;> rfl
theorem l25Step_s (N : Nat) (p q : Int × Int) : S_l25Step N p q = some (stepB p q) := by
 unfold S_l25Step stepB
 rw [l10On_s, Option.bind_some, l10On_s]
 cases hp : onGrid p with
 | false => rfl
 | true =>
  rw [cnd_true, Option.bind_some]
  cases hq : onGrid q with
  | false => rfl
  | true =>
   have h1 := onGrid_bd hp
   have h2 := onGrid_bd hq
   rw [cnd_true, grd_R (by omega) (by omega), l1In_s, Option.bind_some, grd_R (by omega) (by omega), l1In_s]
   cases inB (p.1 - q.1) (-1) 1 <;> rfl
theorem nearS_s (hN : 4000000 ≤ N) {a b : List (Int × Int)} (ha : a.length ≤ 3000000) : S_AreNear N a b = some (nearB a b) := by
 unfold S_AreNear
 refine (srch (len := min a.length b.length) (ok := stepAt a b) (bad := some false) (fin := some (decide (a.length = b.length))) (by omega) ?_ ?_).trans ?_
 ·intro n i hi _
  have e : ((i : Int)).toNat = i := by omega
  rw [S_AreNear_l1, cnd_dt (by omega), cnd_dt (by omega), grd_pos (by omega), grd_pos (by omega), e, l25Step_s, Option.bind_some, grd_R (by omega) (by omega), succ_cast, cnd_not]
  rfl
 ·intro n _
  have e : (((a.length : Int)) == (b.length : Int)) = decide (a.length = b.length) := by
   rw [Bool.eq_iff_iff]; simp; omega
  rw [S_AreNear_l1, e]
  by_cases h1 : min a.length b.length < a.length
  ·rw [cnd_dt (by omega), cnd_df (by omega)]
  ·rw [cnd_df (by omega)]
 ·rw [cnd_some]
  unfold nearB
  by_cases h : a.length = b.length
  ·rw [decide_eq_true h, h, Nat.min_self, cnd_bool]; rfl
  ·rw [decide_eq_false h]
   cases ((List.range (min a.length b.length)).all (stepAt a b)) <;> rfl
theorem nearI_s (hN : 4000000 ≤ N) {a b : List (Int × Int)} (ha : a.length ≤ 3000000) : I_AreNear N a b = some (nearB a b) := by
 unfold I_AreNear nearB
 by_cases h : a.length = b.length
 ·rw [cnd_nef (by omega), decide_eq_true h, Bool.true_and]
  refine (srch (len := a.length) (ok := stepAt a b) (bad := some false) (fin := some true) (by omega) ?_ ?_).trans ?_
  ·intro n i hi _
   have e : ((i : Int)).toNat = i := by omega
   rw [I_AreNear_l1, cnd_dt (by omega), grd_pos (by omega), grd_pos (by omega), e, isPlace_s, Option.bind_some, isPlace_s, Option.bind_some, within_s, Option.bind_some, within_s, Option.bind_some]
   unfold stepAt stepB
   cases hp : onGrid (a.getD i (0, 0)) with
   | false => rfl
   | true =>
    cases hq : onGrid (b.getD i (0, 0)) with
    | false => rfl
    | true =>
     have h1 := onGrid_bd hp
     have h2 := onGrid_bd hq
     rw [Bool.not_true, cnd_false, cnd_false, grd_R (by omega) (by omega), grd_R (by omega) (by omega), grd_R (by omega) (by omega), succ_cast]
     cases inB ((a.getD i (0, 0)).1 - (b.getD i (0, 0)).1) (-1) 1 <;> cases inB ((a.getD i (0, 0)).2 - (b.getD i (0, 0)).2) (-1) 1 <;> rfl
  ·intro n _
   rw [I_AreNear_l1, cnd_df (by omega)]
  ·rw [cnd_some, cnd_bool]
 ·rw [cnd_net (by omega), decide_eq_false h]; rfl
abbrev QF := List Int × List Int
def rowP (nr : Int → Int → Bool) (k : Nat) (st : QF) : Nat → QF
 | 0 => st
 | j + 1 => cnd (!(rowP nr k st j).1.contains (j : Int) && nr (st.1.getD k 0) (j : Int)) ((rowP nr k st j).1 ++ [(j : Int)], (rowP nr k st j).2 ++ [(k : Int)]) (rowP nr k st j)
def bfsP (nr : Int → Int → Bool) (m : Nat) : Nat → Nat → QF → QF
 | 0, _, st => st
 | f + 1, k, st => if k < st.1.length then bfsP nr m f (k + 1) (rowP nr k st m) else st
structure BQ (nr : Int → Int → Bool) (m : Nat) (s : Int) (st : QF) (k : Nat) : Prop where
 hd : st.1.getD 0 0 = s
 pos : 0 < st.1.length
 len : st.2.length = st.1.length
 nd : st.1.Nodup
 rg : ∀ x ∈ st.1, 0 ≤ x ∧ x < (m : Int)
 f0 : st.2.getD 0 0 = -1
 fr : ∀ i, 0 < i → i < st.1.length → 0 ≤ st.2.getD i 0 ∧ st.2.getD i 0 < (i : Int) ∧ st.2.getD i 0 < (k : Int) + 1 ∧ nr (st.1.getD (st.2.getD i 0).toNat 0) (st.1.getD i 0) = true
 cl : ∀ i, i < k → i < st.1.length → ∀ j : Nat, j < m → nr (st.1.getD i 0) (j : Int) = true → (j : Int) ∈ st.1
theorem getD_app1 {l r : List Int} {i : Nat} (h : i < l.length) : (l ++ r).getD i 0 = l.getD i 0 := by
 rw [List.getD_eq_getElem?_getD, List.getElem?_append_left h, ← List.getD_eq_getElem?_getD]
theorem getD_app2 (l : List Int) (x : Int) : (l ++ [x]).getD l.length 0 = x := by
 rw [List.getD_eq_getElem?_getD, List.getElem?_append_right (Nat.le_refl _), Nat.sub_self]; rfl
theorem BQ.qlen {nr : Int → Int → Bool} {m k : Nat} {s : Int} {st : QF} (h : BQ nr m s st k) : st.1.length ≤ m := nodup_le h.nd h.rg
theorem rowP_inv {nr : Int → Int → Bool} {m k : Nat} {s : Int} {st : QF} (h : BQ nr m s st k) (hk : k < st.1.length) : ∀ j, j ≤ m → BQ nr m s (rowP nr k st j) k ∧ (∃ r, (rowP nr k st j).1 = st.1 ++ r) ∧ ∀ i : Nat, i < j → nr (st.1.getD k 0) (i : Int) = true → (i : Int) ∈ (rowP nr k st j).1
 | 0, _ => ⟨h, ⟨[], by simp [rowP]⟩, fun i hi => by omega⟩
 | j + 1, hj => by
  obtain ⟨h1, ⟨r, hr⟩, h3⟩ := rowP_inv h hk j (by omega)
  rw [rowP]
  cases hc : (!(rowP nr k st j).1.contains (j : Int) && nr (st.1.getD k 0) (j : Int)) with
  | false =>
   rw [cnd_false]
   refine ⟨h1, ⟨r, hr⟩, fun i hi hn => ?_⟩
   by_cases hij : i = j
   ·subst hij
    rw [hn, Bool.and_true, Bool.not_eq_false'] at hc
    simpa using hc
   ·exact h3 i (by omega) hn
  | true =>
   rw [cnd_true]
   simp only [Bool.and_eq_true, Bool.not_eq_true'] at hc
   have hn : (j : Int) ∉ (rowP nr k st j).1 := by simpa using hc.1
   have hgk : (rowP nr k st j).1.getD k 0 = st.1.getD k 0 := by rw [hr]; exact getD_app1 hk
   have hkl : k < (rowP nr k st j).1.length := by rw [hr, List.length_append]; omega
   refine ⟨⟨?_, by simp, by simp [h1.len], List.nodup_append.2 ⟨h1.nd, by simp, fun x hx y hy e => hn ?_⟩, fun x hx => ?_, ?_, fun i hi hil => ?_, fun i hi hil j' hj' hn' => ?_⟩, ⟨r ++ [(j : Int)], ?_⟩, fun i hi hn' => ?_⟩
   ·show ((rowP nr k st j).1 ++ [(j : Int)]).getD 0 0 = s
    rw [getD_app1 h1.pos]; exact h1.hd
   ·rw [← List.mem_singleton.1 hy, ← e]; exact hx
   ·rcases List.mem_append.1 hx with hx | hx
    ·exact h1.rg x hx
    ·rw [List.mem_singleton.1 hx]; omega
   ·show ((rowP nr k st j).2 ++ [(k : Int)]).getD 0 0 = -1
    rw [getD_app1 (by rw [h1.len]; exact h1.pos)]; exact h1.f0
   ·show 0 ≤ ((rowP nr k st j).2 ++ [(k : Int)]).getD i 0 ∧ ((rowP nr k st j).2 ++ [(k : Int)]).getD i 0 < (i : Int) ∧ ((rowP nr k st j).2 ++ [(k : Int)]).getD i 0 < (k : Int) + 1 ∧ nr (((rowP nr k st j).1 ++ [(j : Int)]).getD (((rowP nr k st j).2 ++ [(k : Int)]).getD i 0).toNat 0) (((rowP nr k st j).1 ++ [(j : Int)]).getD i 0) = true
    have hil' : i < (rowP nr k st j).1.length + 1 := by simpa using hil
    by_cases hl : i < (rowP nr k st j).1.length
    ·have h4 := h1.fr i hi hl
     rw [getD_app1 (by rw [h1.len]; exact hl), getD_app1 hl, getD_app1 (by omega)]
     exact h4
    ·obtain rfl : i = (rowP nr k st j).1.length := by omega
     have e1 : ((rowP nr k st j).2 ++ [(k : Int)]).getD (rowP nr k st j).1.length 0 = (k : Int) := by rw [← h1.len]; exact getD_app2 _ _
     rw [e1, getD_app2, show ((k : Int)).toNat = k by omega, getD_app1 hkl, hgk]
     exact ⟨by omega, by omega, by omega, hc.2⟩
   ·have hl : i < (rowP nr k st j).1.length := by omega
    have hn2 : nr (((rowP nr k st j).1 ++ [(j : Int)]).getD i 0) (j' : Int) = true := hn'
    rw [getD_app1 hl] at hn2
    exact List.mem_append_left _ (h1.cl i hi hl j' hj' hn2)
   ·show (rowP nr k st j).1 ++ [(j : Int)] = _
    rw [hr, List.append_assoc]
   ·show (i : Int) ∈ (rowP nr k st j).1 ++ [(j : Int)]
    by_cases hij : i = j
    ·subst hij; simp
    ·exact List.mem_append_left _ (h3 i (by omega) hn')
theorem BQ.next {nr : Int → Int → Bool} {m k : Nat} {s : Int} {st : QF} (h : BQ nr m s st k) (hk : k < st.1.length) : BQ nr m s (rowP nr k st m) (k + 1) ∧ k < (rowP nr k st m).1.length := by
 obtain ⟨h1, ⟨r, hr⟩, h3⟩ := rowP_inv h hk m (Nat.le_refl _)
 have hgk : (rowP nr k st m).1.getD k 0 = st.1.getD k 0 := by rw [hr]; exact getD_app1 hk
 refine ⟨⟨h1.hd, h1.pos, h1.len, h1.nd, h1.rg, h1.f0, fun i hi hil => by have := h1.fr i hi hil; exact ⟨this.1, this.2.1, by omega, this.2.2.2⟩, fun i hi hil j hj hn => ?_⟩, by rw [hr, List.length_append]; omega⟩
 by_cases hik : i = k
 ·subst hik
  rw [hgk] at hn
  exact h3 j hj hn
 ·exact h1.cl i (by omega) hil j hj hn
theorem bfsP_inv {nr : Int → Int → Bool} {m : Nat} {s : Int} : ∀ (f k : Nat) (st : QF), BQ nr m s st k → k ≤ st.1.length → m < f + k → BQ nr m s (bfsP nr m f k st) (bfsP nr m f k st).1.length
 | 0, k, st, h, h1, h2 => by have := h.qlen; omega
 | f + 1, k, st, h, h1, h2 => by
  rw [bfsP]
  by_cases hk : k < st.1.length
  ·rw [if_pos hk]
   have hn := h.next hk
   exact bfsP_inv f (k + 1) _ hn.1 (by omega) (by omega)
  ·rw [if_neg hk]
   obtain rfl : k = st.1.length := by omega
   exact h
def bfs0 (nr : Int → Int → Bool) (m : Nat) (s : Int) : QF := bfsP nr m (m + 1) 0 ([s], [-1])
theorem BQ.start {nr : Int → Int → Bool} {m : Nat} {s : Int} (h : 0 ≤ s ∧ s < (m : Int)) : BQ nr m s ([s], [-1]) 0 :=
 ⟨rfl, by simp, rfl, by simp, fun x hx => by rw [List.mem_singleton.1 hx]; exact h, rfl, fun i h1 h2 => by simp at h2; omega, fun i hi => by omega⟩
theorem bfs0_inv {nr : Int → Int → Bool} {m : Nat} {s : Int} (h : 0 ≤ s ∧ s < (m : Int)) : BQ nr m s (bfs0 nr m s) (bfs0 nr m s).1.length := bfsP_inv _ _ _ (BQ.start h) (by simp) (by omega)
theorem bfsP_more {nr : Int → Int → Bool} {m : Nat} {s : Int} : ∀ (f g k : Nat) (st : QF), BQ nr m s st k → k ≤ st.1.length → m < f + k → f ≤ g → bfsP nr m f k st = bfsP nr m g k st
 | 0, g, k, st, h, h1, h2, _ => by have := h.qlen; omega
 | f + 1, 0, k, st, h, h1, h2, hg => by omega
 | f + 1, g + 1, k, st, h, h1, h2, hg => by
  rw [bfsP, bfsP]
  by_cases hk : k < st.1.length
  ·rw [if_pos hk, if_pos hk]
   have hn := h.next hk
   exact bfsP_more f g (k + 1) _ hn.1 (by omega) (by omega) (by omega)
  ·rw [if_neg hk, if_neg hk]
def nrP (P : List (List (Int × Int))) (i j : Int) : Bool := nearB (P.getD i.toNat []) (P.getD j.toNat [])
theorem nrP_sym (P : List (List (Int × Int))) (i j : Int) : nrP P i j = nrP P j i := nearB_sym _ _
theorem reach2P_s (hN : 4000000 ≤ N) {P : List (List (Int × Int))} (hP : P.length ≤ 1000) (hPl : ∀ x ∈ P, x.length ≤ 3000000) {s : Int} {k : Nat} {st : QF} (h : BQ (nrP P) P.length s st k) (hk : k < st.1.length) (kk : QF → Option QF) : ∀ (fuel j : Nat), j ≤ P.length → P.length < fuel + j →
  S_l25Reach_l2 N P (k : Int) kk fuel ((rowP (nrP P) k st j).1, (rowP (nrP P) k st j).2, (j : Int)) = kk (rowP (nrP P) k st P.length) := by
 intro fuel
 induction fuel with
 | zero => intro j h1 h2; omega
 | succ fuel ih =>
  intro j h1 h2
  obtain ⟨hB, ⟨r, hr⟩, _⟩ := rowP_inv h hk j h1
  have hql := hB.qlen
  rw [S_l25Reach_l2]
  by_cases hj : j < P.length
  ·have e1 : ((j : Int)).toNat = j := by omega
   have e2 : ((k : Int)).toNat = k := by omega
   have hgk : (rowP (nrP P) k st j).1.getD k 0 = st.1.getD k 0 := by rw [hr]; exact getD_app1 hk
   have hkl : k < (rowP (nrP P) k st j).1.length := by rw [hr, List.length_append]; omega
   have hrg := h.rg (st.1.getD k 0) (getD_mem hk)
   have hx : (P.getD (st.1.getD k 0).toNat []).length ≤ 3000000 := hPl _ (getD_mem (by omega))
   have hfl := hB.len
   have nx := ih (j + 1) (by omega) (by omega)
   rw [rowP] at nx
   have hnr : nrP P (st.1.getD k 0) (j : Int) = nearB (P.getD (st.1.getD k 0).toNat []) (P.getD j []) := by unfold nrP; rw [e1]
   rw [hnr] at nx
   rw [cnd_dt (by omega), l2Has_s N hN (by omega), Option.bind_some, e1, e2, hgk, grd_pos (by omega), grd_pos (by omega), grd_pos (by omega), nearS_s hN hx, Option.bind_some]
   cases hc : (rowP (nrP P) k st j).1.contains (j : Int) with
   | true =>
    rw [hc, Bool.not_true, Bool.false_and, cnd_false] at nx
    rw [Bool.not_true, cnd_false, grd_R (by omega) (by omega), succ_cast]
    exact nx
   | false =>
    rw [hc, Bool.not_false, Bool.true_and] at nx
    rw [Bool.not_false, cnd_true]
    cases hn : nearB (P.getD (st.1.getD k 0).toNat []) (P.getD j []) with
    | true =>
     rw [hn, cnd_true] at nx
     rw [cnd_true, grd_pos (by omega), grd_pos (by omega), grd_R (by omega) (by omega), succ_cast]
     exact nx
    | false =>
     rw [hn, cnd_false] at nx
     rw [cnd_false, grd_R (by omega) (by omega), succ_cast]
     exact nx
  ·obtain rfl : j = P.length := by omega
   rw [cnd_df (by omega)]
theorem reach1P_s (hN : 4000000 ≤ N) {P : List (List (Int × Int))} (hP : P.length ≤ 1000) (hPl : ∀ x ∈ P, x.length ≤ 3000000) {s : Int} (kk : QF → Option QF) : ∀ (fuel k : Nat) (st : QF), BQ (nrP P) P.length s st k → k ≤ st.1.length → P.length < fuel + k →
  S_l25Reach_l1 N P kk fuel (st.1, st.2, (k : Int)) = kk (bfsP (nrP P) P.length fuel k st) := by
 intro fuel
 induction fuel with
 | zero => intro k st h h1 h2; have := h.qlen; omega
 | succ fuel ih =>
  intro k st h h1 h2
  have hql := h.qlen
  rw [S_l25Reach_l1, bfsP]
  by_cases hk : k < st.1.length
  ·have hn := h.next hk
   rw [cnd_dt (by omega), if_pos hk]
   have := reach2P_s hN hP hPl h hk (fun (x : (List Int) × (List Int)) =>
     match x with
     | (l124, l125) =>
      grd (Rg64 ((k : Int) + (1 : Int))) <|
      S_l25Reach_l1 N P kk fuel (l124, l125, ((k : Int) + (1 : Int)))) N 0 (by omega) (by omega)
   refine this.trans ?_
   show grd _ (S_l25Reach_l1 N P kk fuel ((rowP (nrP P) k st P.length).1, (rowP (nrP P) k st P.length).2, _)) = _
   rw [grd_R (by omega) (by omega), succ_cast]
   exact ih (k + 1) _ hn.1 (by omega) (by omega)
  ·rw [cnd_df (by omega), if_neg hk]
theorem reachP_s (hN : 4000000 ≤ N) {P : List (List (Int × Int))} (hP : P.length ≤ 1000) (hPl : ∀ x ∈ P, x.length ≤ 3000000) {s : Int} (hs : 0 ≤ s ∧ s < (P.length : Int)) : S_l25Reach N P s = some (bfs0 (nrP P) P.length s) := by
 unfold S_l25Reach
 refine (reach1P_s hN hP hPl (s := s) (fun (x : (List Int) × (List Int)) =>
   match x with
   | (l67, l68) =>
    some (l67, l68)) N 0 ([s], [-1]) (BQ.start hs) (by simp) (by omega)).trans ?_
 show some (bfsP (nrP P) P.length N 0 ([s], [-1])) = _
 rw [bfs0, bfsP_more (P.length + 1) N 0 _ (BQ.start hs) (by simp) (by omega) (by omega)]
def insR : List Int → Int → Bool → List Int
 | [], x, p => cnd (!p) [x] []
 | e :: l, x, p => cnd (decide (e > x)) (cnd (!(p || (e == x))) (x :: e :: insR l x true) (e :: insR l x (p || (e == x)))) (e :: insR l x (p || (e == x)))
theorem insR_true : ∀ (l : List Int) (x : Int), insR l x true = l
 | [], x => rfl
 | e :: l, x => by
  rw [insR, Bool.true_or, Bool.not_true, cnd_false, insR_true, cnd_same]
theorem insR_perm : ∀ {l : List Int} {x : Int}, x ∉ l → (insR l x false).Perm (x :: l)
 | [], x, _ => List.Perm.refl _
 | e :: l, x, h => by
  have hne : (e == x) = false := by rw [beq_eq_false_iff_ne]; exact fun h' => h (by simp [h'])
  have hx : x ∉ l := fun h' => h (by simp [h'])
  rw [insR, hne, Bool.or_false, Bool.not_false, cnd_true]
  by_cases he : e > x
  ·rw [cnd_dt he, insR_true]
  ·rw [cnd_df he]
   exact ((insR_perm hx).cons e).trans (List.Perm.swap x e l)
theorem insR_srt : ∀ {l : List Int} {x : Int}, x ∉ l → l.Pairwise (· ≤ ·) → (insR l x false).Pairwise (· ≤ ·)
 | [], x, _, _ => List.pairwise_singleton _ _
 | e :: l, x, h, hs => by
  have hne : (e == x) = false := by rw [beq_eq_false_iff_ne]; exact fun h' => h (by simp [h'])
  have hx : x ∉ l := fun h' => h (by simp [h'])
  have hs2 := List.pairwise_cons.1 hs
  rw [insR, hne, Bool.or_false, Bool.not_false, cnd_true]
  by_cases he : e > x
  ·rw [cnd_dt he, insR_true]
   refine List.pairwise_cons.2 ⟨fun y hy => ?_, hs⟩
   rcases List.mem_cons.1 hy with rfl | hy
   ·omega
   ·have := hs2.1 y hy; omega
  ·rw [cnd_df he]
   refine List.pairwise_cons.2 ⟨fun y hy => ?_, insR_srt hx hs2.2⟩
   rcases List.mem_cons.1 ((insR_perm hx).mem_iff.1 hy) with rfl | hy
   ·omega
   ·exact hs2.1 y hy
theorem l5With_s (hN : 4000000 ≤ N) {l : List Int} (hl : l.length ≤ 1000) (x : Int) : S_l5With N l x = some (insR l x false) := by
 have key : ∀ (fuel i : Nat) (out : List Int) (p : Bool), i ≤ l.length → l.length < fuel + i → out.length ≤ i + 1 → (p = false → out.length ≤ i) → S_l5With_l1 N l x (fun (x_1 : (List Int) × Bool) =>
   match x_1 with
   | (l12, placed13) =>
    cnd (!placed13) (
     grd (l12.length + 1 ≤ 4294967296) <|
     some (l12 ++ ([x] : List Int))) (
     some l12)) fuel (out, p, (i : Int)) = some (out ++ insR (l.drop i) x p) := by
  intro fuel
  induction fuel with
  | zero => intro i out p h1 h2; omega
  | succ fuel ih =>
   intro i out p h1 h2 h3 h4
   rw [S_l5With_l1]
   by_cases hi : i < l.length
   ·have e : ((i : Int)).toNat = i := by omega
    have hd : l.drop i = l.getD i 0 :: l.drop (i + 1) := by
     rw [List.drop_eq_getElem_cons hi, List.getD_eq_getElem?_getD, List.getElem?_eq_getElem hi]; rfl
    rw [cnd_dt (by omega), grd_pos (by omega), jn_def, e, hd, insR]
    have step : ∀ q : Bool, (q = false → out.length ≤ i) → cnd (decide (l.getD i 0 > x)) (
       cnd (!q) (
        grd (out.length + 1 ≤ 4294967296) <|
        grd ((out ++ ([x] : List Int)).length + 1 ≤ 4294967296) <|
        grd (Rg64 ((i : Int) + (1 : Int))) <|
        S_l5With_l1 N l x (fun (x_1 : (List Int) × Bool) =>
   match x_1 with
   | (l12, placed13) =>
    cnd (!placed13) (
     grd (l12.length + 1 ≤ 4294967296) <|
     some (l12 ++ ([x] : List Int))) (
     some l12)) fuel (((out ++ ([x] : List Int)) ++ ([l.getD i 0] : List Int)), true, ((i : Int) + (1 : Int)))) (
        grd (out.length + 1 ≤ 4294967296) <|
        grd (Rg64 ((i : Int) + (1 : Int))) <|
        S_l5With_l1 N l x (fun (x_1 : (List Int) × Bool) =>
   match x_1 with
   | (l12, placed13) =>
    cnd (!placed13) (
     grd (l12.length + 1 ≤ 4294967296) <|
     some (l12 ++ ([x] : List Int))) (
     some l12)) fuel ((out ++ ([l.getD i 0] : List Int)), q, ((i : Int) + (1 : Int))))) (
       grd (out.length + 1 ≤ 4294967296) <|
       grd (Rg64 ((i : Int) + (1 : Int))) <|
       S_l5With_l1 N l x (fun (x_1 : (List Int) × Bool) =>
   match x_1 with
   | (l12, placed13) =>
    cnd (!placed13) (
     grd (l12.length + 1 ≤ 4294967296) <|
     some (l12 ++ ([x] : List Int))) (
     some l12)) fuel ((out ++ ([l.getD i 0] : List Int)), q, ((i : Int) + (1 : Int)))) = some (out ++ cnd (decide (l.getD i 0 > x)) (cnd (!q) (x :: l.getD i 0 :: insR (l.drop (i + 1)) x true) (l.getD i 0 :: insR (l.drop (i + 1)) x q)) (l.getD i 0 :: insR (l.drop (i + 1)) x q)) := by
     intro q hq
     by_cases hg : l.getD i 0 > x
     ·cases q with
      | false =>
       have ho := hq rfl
       have nx := ih (i + 1) ((out ++ [x]) ++ [l.getD i 0]) true (by omega) (by omega) (by simp; omega) (fun h => by cases h)
       rw [cnd_dt hg, Bool.not_false, cnd_true, grd_pos (by omega), grd_pos (by simp; omega), grd_R (by omega) (by omega), succ_cast, nx, cnd_dt hg, cnd_true, List.append_assoc, List.append_assoc]
       rfl
      | true =>
       have nx := ih (i + 1) (out ++ [l.getD i 0]) true (by omega) (by omega) (by simp; omega) (fun h => by cases h)
       rw [cnd_dt hg, Bool.not_true, cnd_false, grd_pos (by omega), grd_R (by omega) (by omega), succ_cast, nx, cnd_dt hg, cnd_false, List.append_assoc]
       rfl
     ·have nx := ih (i + 1) (out ++ [l.getD i 0]) q (by omega) (by omega) (by simp; omega) (fun h => by have := hq h; simp; omega)
      rw [cnd_df hg, grd_pos (by omega), grd_R (by omega) (by omega), succ_cast, nx, cnd_df hg, List.append_assoc]
      rfl
    cases hb : (l.getD i 0 == x) with
    | true =>
     rw [cnd_true, Bool.or_true]
     exact step true fun h => by cases h
    | false =>
     rw [cnd_false, Bool.or_false]
     exact step p h4
   ·obtain rfl : i = l.length := by omega
    rw [cnd_df (by omega), List.drop_length, insR]
    cases p with
    | false =>
     show cnd (!false) _ _ = _
     rw [Bool.not_false, cnd_true, grd_pos (by omega), cnd_true]
    | true =>
     show cnd (!true) _ _ = _
     rw [Bool.not_true, cnd_false, cnd_false, List.append_nil]
 exact key N 0 [] false (by omega) (by omega) (by simp) (by simp)
theorem foldIns_sort {Q : List Int} (h : Q.Nodup) : Q.foldl (fun l x => insR l x false) [] = Q.mergeSort fun x y => decide (x ≤ y) := by
 have key : ∀ (Q l : List Int), (l ++ Q).Nodup → l.Pairwise (· ≤ ·) → (Q.foldl (fun l x => insR l x false) l).Pairwise (· ≤ ·) ∧ (Q.foldl (fun l x => insR l x false) l).Perm (l ++ Q) := by
  intro Q
  induction Q with
  | nil => intro l _ hs; rw [List.append_nil]; exact ⟨hs, List.Perm.refl _⟩
  | cons x Q ih =>
   intro l hn hs
   have hx : x ∉ l := fun h' => by
    have := (List.nodup_append.1 hn).2.2 x h' x (by simp)
    exact this rfl
   have hp := insR_perm hx
   have hp2 : (insR l x false ++ Q).Perm (l ++ x :: Q) := by
    refine (hp.append_right Q).trans ?_
    rw [List.cons_append]
    exact List.perm_middle.symm
   obtain ⟨g1, g2⟩ := ih (insR l x false) (hp2.symm.nodup hn) (insR_srt hx hs)
   exact ⟨g1, g2.trans hp2⟩
 obtain ⟨g1, g2⟩ := key Q [] h List.Pairwise.nil
 have hm := List.pairwise_mergeSort (le := fun x y : Int => decide (x ≤ y)) (fun a b c h1 h2 => by simp at *; omega) (fun a b => by simp; omega) Q
 refine List.Perm.eq_of_pairwise (le := fun x y : Int => x ≤ y) (fun a b _ _ h1 h2 => by omega) g1 (hm.imp fun h => by simpa using h) ?_
 exact g2.trans (List.mergeSort_perm Q _).symm
end Go.Proofs.YtmoamglpocjhgaaGreat
namespace Go.Proofs.YtmoamglpocjhgaaGreat
open Go.RowKit
def I_poses (N : Nat) (l_0 : Lnk) : Option ((List (List (Int × Int))) × Bool) :=
 (I_PosesOf N l_0).bind fun v1 =>
 cnd v1.2 (
  some (v1.1, (decide ((v1.1.length : Int) ≤ (100 : Int))))) (
  some (v1.1, false))
set_option maxRecDepth 20000 in
set_option maxHeartbeats 1600000 in
theorem I_poses_w (N : Nat) (l_0 : Lnk) (r : (List (List (Int × Int))) × Bool) (h : I_poses N l_0 = some r) : PCallD Tryz.prog 111 [lD l_0] 49 83 (.pairss r.1) (.tup [.row 0 0 r.1.length, .bool r.2]) := by
 unfold I_poses at h
 refine pcallD_intro (TT := TT) tt Tryz.func111 rfl rfl Tryz.ntmps111 (congrArg Array.toList Tryz.results111) rfl rfl rfl fun w0 => ?_
 refine vSeq ?_
 refine vRegion ?_
 refine oBox rfl rfl rfl rfl rfl rfl rfl rfl rfl ?_
 iterate 2 refine oVal tt rfl rfl rfl rfl rfl trivial ?_
 refine vNil ?_
 change VC _ _ _ _
 refine vSeq ?_
 refine vRegion ?_
 refine oVal tt rfl rfl rfl rfl rfl trivial ?_
 obtain ⟨v1, hc1, h⟩ := bind_inv h
 refine oCallD 10 (I_PosesOf_w N l_0 v1 hc1) rfl rfl rfl rfl rfl rfl rfl rfl rfl rfl rfl (fun _ h => by cases h) ⟨⟨rfl, rfl, rfl, rfl, trivial⟩, trivial⟩ ?_
 iterate 5 refine oVal tt rfl rfl rfl rfl rfl trivial ?_
 refine vNil ?_
 change VC _ _ _ _
 refine vSeq ?_
 refine vRegion ?_
 iterate 3 refine oVal tt rfl rfl rfl rfl rfl trivial ?_
 refine oSplit rfl rfl rfl (fun hb2 => ?_) (fun hb2 => ?_)
 ·replace h := cnd_t hb2 h
  iterate 3 refine oValG tt rfl rfl rfl rfl rfl hb2 rfl rfl rfl trivial ?_
  refine oPick rfl rfl rfl rfl rfl hb2 rfl ?_
  iterate 2 refine oVal tt rfl rfl rfl rfl rfl trivial ?_
  refine vNil ?_
  change VC _ _ _ _
  refine vRet ?_
  change ∃ _, _
  cases h
  exact ⟨1080, 10, _, rfl, rfl, rfl, rfl, rfl, (.eq rfl), rfl⟩
 ·replace h := cnd_f hb2 h
  iterate 3 refine oNoT rfl rfl rfl rfl hb2 rfl rfl ?_
  refine oPickF rfl rfl rfl rfl rfl hb2 rfl ?_
  iterate 2 refine oVal tt rfl rfl rfl rfl rfl trivial ?_
  refine vNil ?_
  change VC _ _ _ _
  refine vRet ?_
  change ∃ _, _
  cases h
  exact ⟨1080, 10, _, rfl, rfl, rfl, rfl, rfl, (.eq rfl), rfl⟩
end Go.Proofs.YtmoamglpocjhgaaGreat
namespace Go.Proofs.YtmoamglpocjhgaaGreat
open Go.RowKit Go.Deep Go.Sort
structure RowPut (w w' : World) (blk m : Nat) (F' : Nat → Value) : Prop where
 os : w'.os = w.os
 tape : w'.tape = w.tape
 output : w'.output = w.output
 size : w.heap.size ≤ w'.heap.size
 else_ : ∀ k, k < w.heap.size → k ≠ blk → w'.heap[k]? = w.heap[k]?
 here : ∀ cur e fr, w.heap[blk]? = some (.cells cur e fr) → ∃ cur' : Array Value, w'.heap[blk]? = some (.cells cur' e fr) ∧ cur'.size = cur.size ∧ ∀ t, t < m → t < cur.size → cur'.getD t undef = F' t
theorem RowPut.to {w w' : World} {blk m m' : Nat} {F F' : Nat → Value} (h : RowPut w w' blk m F) (hm : m' = m) (hF : ∀ t, t < m → F t = F' t) : RowPut w w' blk m' F' :=
 ⟨h.os, h.tape, h.output, h.size, h.else_, fun cur e fr hb => by
  obtain ⟨c, h1, h2, h3⟩ := h.here cur e fr hb
  exact ⟨c, h1, h2, fun t h4 h5 => by rw [h3 t (by omega) h5, hF t (by omega)]⟩⟩
theorem rowPut_of {α : Type} [Inhabited α] {enc : α → Value} {w : World} {blk n : Nat} {d : Array α} {os : Array Obj} : RowPut w (grow (putRow enc (Sort.ahead w n) blk 0 d) os) blk d.size (fun t => enc d[t]!) := by
 refine ⟨rfl, rfl, rfl, by simp, fun k hk hne => ?_, fun cur e fr h => ?_⟩
 ·rw [heap_grow_old _ _ (by simpa using hk)]
  simp [putRow, mapBlock, Sort.ahead, Array.getElem?_modify, Ne.symm hne]
 ·refine ⟨putCells enc 0 d cur, ?_, by simp [putCells], fun t h1 h2 => ?_⟩
  ·have hg : blk < w.heap.size := (Array.getElem?_eq_some_iff.1 h).1
   rw [heap_grow_old _ _ (by simpa using hg)]
   simp [putRow, mapBlock, Sort.ahead, Array.getElem?_modify, h, onCells]
  ·simp [putCells, h1, h2]
def cellsQ : Sq → Nat → Value
 | .ints l, t => .int .i64 (l.getD t 0)
 | .pairs l, t => .int .i64 (match t % 2 with | 0 => (l.getD (t / 2) (0, 0)).1 | _ => (l.getD (t / 2) (0, 0)).2)
 | _, _ => undef
def isIP : Sq → Bool
 | .ints _ | .pairs _ => true
 | _ => false
theorem cellsQ_rel {q : Sq} (hq : isIP q = true) {M : Mp} {A : Bool → Nat → Prop} {w : World} {i j : Nat} {d : D} (hi : i < q.len) (hd : (q.relem i)[j]? = some d) : VR M A w d (cellsQ q (i * q.sz + j)) := by
 cases q <;> first | (cases hq; done) | skip
 ·rename_i l
  rcases j with _ | j <;> simp [Sq.relem, Sq.elem] at hd
  subst hd
  simp only [cellsQ, Sq.sz, Nat.mul_one, Nat.add_zero]
  simp only [List.getD_eq_getElem?_getD]
  exact .int _
 ·rename_i l
  rcases j with _ | _ | j <;> simp [Sq.relem, Sq.elem] at hd
  ·subst hd
   have e1 : (i * 2 + 0) % 2 = 0 := by omega
   have e2 : (i * 2 + 0) / 2 = i := by omega
   simp only [cellsQ, Sq.sz, e1, e2]
   simp only [List.getD_eq_getElem?_getD]
   exact .int _
  ·subst hd
   have e1 : (i * 2 + (0 + 1)) % 2 = 1 := by omega
   have e2 : (i * 2 + (0 + 1)) / 2 = i := by omega
   simp only [cellsQ, Sq.sz, e1, e2]
   simp only [List.getD_eq_getElem?_getD]
   exact .int _
theorem VR.int_val {M : Mp} {A : Bool → Nat → Prop} {w : World} {n : Int} {v : Value} (h : VR M A w (.int n) v) : v = .int .i64 n := by cases h; rfl
theorem cellsQ_read {q : Sq} (hq : isIP q = true) {M : Mp} {A : Bool → Nat → Prop} {w : World} {f : Nat → Value} (h : ∀ i j d, i < q.len → (q.relem i)[j]? = some d → VR M A w d (f (i * q.sz + j))) {t : Nat} (ht : t < q.len * q.sz) : f t = cellsQ q t := by
 cases q <;> first | (cases hq; done) | skip
 ·rename_i l
  simp only [Sq.len, Sq.sz, Nat.mul_one] at ht h
  have := (h t 0 (.int (l.getD t 0)) ht (by simp [Sq.relem, Sq.elem, List.getD_eq_getElem?_getD])).int_val
  simpa [cellsQ] using this
 ·rename_i l
  simp only [Sq.len, Sq.sz] at ht h
  have h0 : t / 2 < l.length := by omega
  rcases (by omega : t % 2 = 0 ∨ t % 2 = 1) with e | e
  ·have := (h (t / 2) 0 (.int (l.getD (t / 2) (0, 0)).1) h0 (by simp [Sq.relem, Sq.elem, List.getD_eq_getElem?_getD])).int_val
   rw [show t / 2 * 2 + 0 = t by omega] at this
   rw [this]; simp [cellsQ, e]
  ·have := (h (t / 2) 1 (.int (l.getD (t / 2) (0, 0)).2) h0 (by simp [Sq.relem, Sq.elem, List.getD_eq_getElem?_getD])).int_val
   rw [show t / 2 * 2 + 1 = t by omega] at this
   rw [this]; simp [cellsQ, e]
structure Lays1 (P : Program) (f : FuncId) (vs : List Value) (q q' : Sq) : Prop where
 some_ : ∀ (blk cap : Nat) (w : World), (∀ t, t < q.len * q.sz → w.cell? ⟨blk, t, none⟩ = some (cellsQ q t) ∧ w.frozen? ⟨blk, t, none⟩ = false) → blk < w.heap.size → q.len ≤ maxLen →
  Calls P f (Value.slice (some ⟨blk, 0, none⟩) q.len cap :: vs).toArray w fun e w' => e = .returned (.tuple #[]) ∧ RowPut w w' blk (q'.len * q'.sz) (cellsQ q')
 none_ : q.len = 0 → ∀ (p : Option Addr) (cap : Nat) (w : World), Calls P f (Value.slice p 0 cap :: vs).toArray w fun e w' => e = .returned (.tuple #[]) ∧ w' = w
theorem mcall_lays {P : Program} {f : FuncId} (en : ∀ args w, (callFunc f args).run P w = .ok (.enter f args) w) {ds : List D} {vs : List Value} {e : TypeId} {q q' : Sq} (hq : isIP q = true) (hq' : isIP q' = true) (hl : q'.len = q.len) (hz : q'.sz = q.sz)
  (hvs : ds.length = vs.length) (hds : ∀ M A w i d v, ds[i]? = some d → VR M A w d v → vs.getD i undef = v) (hL : Lays1 P f vs q q') :
  MCall P f (.row 1000000 0 q.len :: ds) [1000000] [] [(e, q)] [(e, q')] [] [] (.tup []) := by
 have hrf : q'.refF = none := by cases q' <;> first | (cases hq'; done) | rfl
 refine ⟨en, ⟨rfl, rfl, rfl, rfl⟩, rfl, rfl, by simp [conR, hrf], rfl, ⟨rfl, rfl⟩, fun w N args A hA1 hA2 hM hargs => ?_⟩
 obtain ⟨ha, hv⟩ := hargs
 have h0 := hv 0 _ rfl
 have hargs' : args = (args.getD 0 undef :: vs).toArray := by
  apply Array.ext
  ·simpa [hvs] using ha
  ·intro i h1 h2
   rcases i with _ | i
   ·simp [Array.getD_eq_getD_getElem?, h1]
   ·have hi : i < vs.length := by simpa using h2
    have hi' : i < ds.length := by omega
    have := hds N A w i ds[i] _ (by simp [hi']) (hv (i + 1) ds[i] (by simp [hi']))
    rw [Array.getD_eq_getD_getElem?, Array.getElem?_eq_getElem h1] at this
    simp [List.getD_eq_getElem?_getD, hi] at this
    simp [this]
 have hrow := hM.row 1000000 e q (by rfl)
 have hvr : ∀ x, N.γ 1000000 = some x → RowV x 0 q.len (args.getD 0 undef) := by cases h0 with | row _ _ _ _ _ h => exact h
 have hγ : ∀ r, r ≠ 1000000 → N.γ r = none := fun r hr => hM.rown r (by
  show PS.r ⟨[], [(1000000, some (e, q))], []⟩ r = none
  unfold PS.r
  cases hb : Nat.ble BIG r with
  | true =>
   simp only [PS.inn]
   have : look [(1000000, some (e, q))] (FK + unF r) = none := by rw [look_cons_ne (by have : FK = 8589934592 := rfl; omega)]; rfl
   rw [this]; rfl
  | false => simp only; rw [look_cons_ne (Ne.symm hr)]; rfl)
 rcases hrow with ⟨hn, h00⟩ | ⟨g, cap, cur, hg, hblk, hlc, hcm, hcs, hcells⟩
 ·have hv2 := hvr _ hn
  obtain ⟨⟨ao, hv3⟩, h3, _⟩ := hv2
  rw [hargs', hv3]
  refine (hL.none_ h00 ao 0 w).mono ?_
  rintro x w' ⟨rfl, rfl⟩
  refine ⟨_, rfl, N, ⟨?_, hM.boxn, fun r e' q'' hr => ?_, fun r hr => ?_, hM.inj1, hM.inj2, hM.inj3⟩, fun _ => rfl, fun _ _ _ => rfl, fun k hk => .inl hk, rfl, rfl, rfl, Nat.le_refl _, fun _ _ _ => rfl, ?_⟩
  ·intro b cs hb; cases hb
  ·by_cases hr1 : r = 1000000
   ·subst hr1
    have : (e, q') = (e', q'') := by simpa [PS.r, asL, look_cons_self, show Nat.ble BIG 1000000 = false from rfl] using hr
    cases this
    exact .inl ⟨hn, by omega⟩
   ·exfalso
    have : PS.r ⟨[], [(1000000, some (e, q'))], []⟩ r = none := by
     unfold PS.r
     cases hb : Nat.ble BIG r with
     | true =>
      simp only [PS.inn]
      have : look [(1000000, some (e, q'))] (FK + unF r) = none := by rw [look_cons_ne (by have : FK = 8589934592 := rfl; omega)]; rfl
      rw [this]; rfl
     | false => simp only; rw [look_cons_ne (Ne.symm hr1)]; rfl
    have hr' : PS.r ⟨[], [(1000000, some (e, q'))], []⟩ r = some (e', q'') := hr
    rw [this] at hr'; cases hr'
  ·by_cases hr1 : r = 1000000
   ·subst hr1
    have hr' : PS.r ⟨[], [(1000000, some (e, q'))], []⟩ 1000000 = none := hr
    simp [PS.r, look_cons_self, show Nat.ble BIG 1000000 = false from rfl] at hr'
   ·exact hγ r hr1
  ·exact .tup [] #[] rfl (fun i d h => by simp at h)
 ·obtain ⟨_, ao, hv3, hao⟩ := hvr _ hg
  have hao' := hao (.inr rfl)
  subst hao'
  have hgs : g < w.heap.size := heap_lt hblk
  have hlen : q.len ≤ maxLen := Nat.le_trans hlc hcm
  rw [Nat.zero_mul] at hv3
  rw [hargs', hv3]
  have hsz : q.len * q.sz ≤ cur.size := by rw [hcs]; exact Nat.mul_le_mul_right _ hlc
  have hcq : ∀ t, t < q.len * q.sz → cur.getD t undef = cellsQ q t := fun t ht => cellsQ_read hq (f := fun t => cur.getD t undef) hcells ht
  refine (hL.some_ g (cap - 0) w (fun t ht => ?_) hgs hlen).mono ?_
  ·have h1 := hcq t ht
   have ht2 : t < cur.size := by omega
   rw [Array.getD_eq_getD_getElem?, Array.getElem?_eq_getElem ht2] at h1
   refine ⟨?_, by simp [World.frozen?, hblk]⟩
   simp only [World.cell?, hblk]
   simp only [Option.isSome_none, Bool.false_eq_true, if_false]
   rw [Array.getElem?_eq_getElem ht2]
   simpa using h1
  rintro x w' ⟨rfl, hP⟩
  obtain ⟨cur', hb', hs', hc'⟩ := hP.here _ _ _ hblk
  refine ⟨_, rfl, N, ⟨?_, hM.boxn, fun r e' q'' hr => ?_, fun r hr => ?_, hM.inj1, hM.inj2, hM.inj3⟩, fun _ => rfl, fun _ _ _ => rfl, fun k hk => .inl hk, hP.os, hP.tape, hP.output, hP.size, fun k hk hno => hP.else_ k hk fun e1 => hno (.inr ⟨1000000, cap, q.sz, by rw [hg, e1]⟩), ?_⟩
  ·intro b cs hb; cases hb
  ·by_cases hr1 : r = 1000000
   ·subst hr1
    have : (e, q') = (e', q'') := by simpa [PS.r, asL, look_cons_self, show Nat.ble BIG 1000000 = false from rfl] using hr
    cases this
    refine .inr ⟨g, cap, cur', by rw [hg, hz], hb', by omega, hcm, by rw [hs', hcs, hz], fun i j d hi hd => ?_⟩
    have hj : j < q'.sz := by
     cases q' <;> first | (cases hq'; done) | skip
     ·rcases j with _ | j <;> simp [Sq.relem, Sq.elem] at hd; simp [Sq.sz]
     ·rcases j with _ | _ | j <;> simp [Sq.relem, Sq.elem] at hd <;> simp [Sq.sz]
    have hin : i * q'.sz + j < q'.len * q'.sz := by
     have h5 := Nat.mul_le_mul_right q'.sz (show i + 1 ≤ q'.len from hi)
     rw [Nat.add_mul, Nat.one_mul] at h5; omega
    rw [hc' _ hin (by rw [hl, hz] at hin; rw [hz]; omega)]
    exact cellsQ_rel hq' hi hd
   ·exfalso
    have : PS.r ⟨[], [(1000000, some (e, q'))], []⟩ r = none := by
     unfold PS.r
     cases hb : Nat.ble BIG r with
     | true =>
      simp only [PS.inn]
      have : look [(1000000, some (e, q'))] (FK + unF r) = none := by rw [look_cons_ne (by have : FK = 8589934592 := rfl; omega)]; rfl
      rw [this]; rfl
     | false => simp only; rw [look_cons_ne (Ne.symm hr1)]; rfl
    have hr' : PS.r ⟨[], [(1000000, some (e, q'))], []⟩ r = some (e', q'') := hr
    rw [this] at hr'; cases hr'
  ·by_cases hr1 : r = 1000000
   ·subst hr1
    have hr' : PS.r ⟨[], [(1000000, some (e, q'))], []⟩ 1000000 = none := hr
    simp [PS.r, look_cons_self, show Nat.ble BIG 1000000 = false from rfl] at hr'
   ·exact hγ r hr1
  ·exact .tup [] #[] rfl (fun i d h => by simp at h)
end Go.Proofs.YtmoamglpocjhgaaGreat
namespace Go.Proofs.YtmoamglpocjhgaaGreat
open Go.RowKit Go.Deep Go.Sort
def layS_ren : Go.Shelf.Ren := ⟨fun | 189 => 113 | 125 => 97 | 257 => 144 | 128 => 124 | 129 => 125 | 294 => 160 | 295 => 161 | 296 => 162 | 297 => 163 | 298 => 164 | 299 => 165 | 216 => 166 | 300 => 167 | 301 => 168 | 328 => 178 | 329 => 146 | 330 => 147 | 331 => 179 | 332 => 180 | 215 => 181 | 343 => 188 | n => n, fun | 28 => 25 | 3 => 3 | 46 => 114 | 0 => 0 | 51 => 133 | 53 => 135 | 4 => 4 | 183 => 126 | 182 => 125 | 131 => 130 | 5 => 5 | 9 => 9 | 218 => 146 | 222 => 150 | 228 => 161 | 229 => 162 | n => n, fun | n => n⟩
theorem layS : Go.Proofs.Lays.n189 Tryz.prog layS_ren := {
 mixed := by kernel_rfl
 f125 := Tryz.func97.trans (congrArg some (by kernel_rfl))
 f128 := Tryz.func124.trans (congrArg some (by kernel_rfl))
 f129 := Tryz.func125.trans (congrArg some (by kernel_rfl))
 f189 := Tryz.func113.trans (congrArg some (by kernel_rfl))
 f215 := Tryz.func181.trans (congrArg some (by kernel_rfl))
 f216 := Tryz.func166.trans (congrArg some (by kernel_rfl))
 f257 := Tryz.func144.trans (congrArg some (by kernel_rfl))
 f294 := Tryz.func160.trans (congrArg some (by kernel_rfl))
 f295 := Tryz.func161.trans (congrArg some (by kernel_rfl))
 f296 := Tryz.func162.trans (congrArg some (by kernel_rfl))
 f297 := Tryz.func163.trans (congrArg some (by kernel_rfl))
 f298 := Tryz.func164.trans (congrArg some (by kernel_rfl))
 f299 := Tryz.func165.trans (congrArg some (by kernel_rfl))
 f300 := Tryz.func167.trans (congrArg some (by kernel_rfl))
 f301 := Tryz.func168.trans (congrArg some (by kernel_rfl))
 f328 := Tryz.func178.trans (congrArg some (by kernel_rfl))
 f329 := Tryz.func146.trans (congrArg some (by kernel_rfl))
 f330 := Tryz.func147.trans (congrArg some (by kernel_rfl))
 f331 := Tryz.func179.trans (congrArg some (by kernel_rfl))
 f332 := Tryz.func180.trans (congrArg some (by kernel_rfl))
 f343 := Tryz.func188.trans (congrArg some (by kernel_rfl))
 t0 := Tryz.underlying0
 a0 := Tryz.isAgg0
 z0 := Tryz.sizeOf0
 v0 := Tryz.zeroValue0
 t3 := Tryz.underlying3
 a3 := Tryz.isAgg3
 z3 := Tryz.sizeOf3
 v3 := Tryz.zeroValue3
 t4 := Tryz.underlying4
 a4 := Tryz.isAgg4
 z4 := Tryz.sizeOf4
 v4 := Tryz.zeroValue4
 t5 := Tryz.underlying5
 a5 := Tryz.isAgg5
 z5 := Tryz.sizeOf5
 v5 := Tryz.zeroValue5
 t9 := Tryz.underlying9
 a9 := Tryz.isAgg9
 z9 := Tryz.sizeOf9
 v9 := Tryz.zeroValue9
 t28 := Tryz.underlying25
 a28 := Tryz.isAgg25
 z28 := Tryz.sizeOf25
 v28 := Tryz.zeroValue25
 t46 := Tryz.underlying114
 a46 := Tryz.isAgg114
 z46 := Tryz.sizeOf114
 v46 := Tryz.zeroValue114
 t51 := Tryz.underlying133
 a51 := Tryz.isAgg133
 z51 := Tryz.sizeOf133
 v51 := Tryz.zeroValue133
 t53 := Tryz.underlying135
 a53 := Tryz.isAgg135
 z53 := Tryz.sizeOf135
 v53 := Tryz.zeroValue135
 t131 := Tryz.underlying130
 a131 := Tryz.isAgg130
 z131 := Tryz.sizeOf130
 v131 := Tryz.zeroValue130
 t182 := Tryz.underlying125
 a182 := Tryz.isAgg125
 z182 := Tryz.sizeOf125
 v182 := Tryz.zeroValue125
 t183 := Tryz.underlying126
 a183 := Tryz.isAgg126
 z183 := Tryz.sizeOf126
 v183 := Tryz.zeroValue126
 t218 := Tryz.underlying146
 a218 := Tryz.isAgg146
 z218 := Tryz.sizeOf146
 v218 := Tryz.zeroValue146
 t222 := Tryz.underlying150
 a222 := Tryz.isAgg150
 z222 := Tryz.sizeOf150
 v222 := Tryz.zeroValue150
 t228 := Tryz.underlying161
 a228 := Tryz.isAgg161
 z228 := Tryz.sizeOf161
 v228 := Tryz.zeroValue161
 t229 := Tryz.underlying162
 a229 := Tryz.isAgg162
 z229 := Tryz.sizeOf162
 v229 := Tryz.zeroValue162 }
def G_Sort_int (N : Nat) (a_0 : List Int) : Option (List Int) :=
 grd (a_0.length < 4611686018427387904) (some (a_0.mergeSort fun x y => decide (x ≤ y)))
theorem lays_sort (l : List Int) (hl2 : l.length < 4611686018427387904) : Lays1 Tryz.prog 113 [] (.ints l) (.ints (l.mergeSort fun x y => decide (x ≤ y))) := by
 refine ⟨fun blk cap w hc hb hl => ?_, fun h p cap w => ?_⟩
 ·have hH : Holds (Value.int .i64) w blk 0 l.toArray := fun j hj => by
   have hj' : j < l.length := by simpa using hj
   have := hc j (by simpa [Sq.len, Sq.sz] using hj')
   simp only [Nat.zero_add]
   refine ⟨?_, this.2⟩
   rw [this.1]
   simp [cellsQ, hj']
  refine (calls_of_every_depth fun D => AnyS.slices_Sort_int_in layS D blk 0 cap l w hH hb hl2).mono ?_
  rintro e w' ⟨rfl, n, os, rfl⟩
  refine ⟨rfl, ?_⟩
  have h := rowPut_of (enc := Value.int .i64) (w := w) (blk := blk) (n := n) (d := (l.mergeSort fun x y => decide (x ≤ y)).toArray) (os := os)
  refine h.to (by simp [Sq.len, Sq.sz]) fun t ht => ?_
  have ht' : t < (l.mergeSort fun x y => decide (x ≤ y)).length := by simpa using ht
  simp only [cellsQ, List.getD_eq_getElem?_getD]
  rw [List.getElem?_eq_getElem ht']
  simp
  rw [List.getElem?_eq_getElem ht']; rfl
 ·exact calls_of_every_depth fun D => AnyS.slices_Sort_int_none_in layS D p cap w
theorem G_Sort_int_w (N : Nat) (a_0 : List Int) (r : List Int) (h : G_Sort_int N a_0 = some r) : MCall Tryz.prog 113 [.row 1000000 0 a_0.length] [1000000] [] [(3, .ints a_0)] [(3, .ints r)] [] [] (.tup []) := by
 obtain ⟨h2, h⟩ := grd_inv h
 cases h
 exact mcall_lays (q := .ints a_0) (q' := .ints (a_0.mergeSort fun x y => decide (x ≤ y))) (ds := []) (vs := []) (enters_of Tryz.func113 (by kernel_rfl) rfl) rfl rfl (by show (a_0.mergeSort _).length = a_0.length; simp) rfl rfl (fun _ _ _ i d v h => by simp at h) (lays_sort a_0 h2)
end Go.Proofs.YtmoamglpocjhgaaGreat
namespace Go.Proofs.YtmoamglpocjhgaaGreat
open Go.RowKit Go.Deep
def I_RoomsOf_l3 (N : Nat) (v1 : (List (List (Int × Int))) × Bool) (k781 : Int) (k : ((List Bool) × (List Int)) → Option ((List (List Int)) × Bool)) : Nat → ((List Bool) × (List Int) × Int) → Option ((List (List Int)) × Bool)
 | 0, _ => none
 | n + 1, (l807, l808, x809) =>
  cnd (decide (x809 < (v1.1.length : Int))) (
   grd (0 ≤ x809 ∧ x809 < ((List.replicate (((v1.1.length : Int)).toNat) (false : Bool)).length : Int)) <|
   grd (0 ≤ x809 ∧ x809 < (l807.length : Int)) <|
   cnd (!(l807.getD ((x809).toNat) false)) (
    grd (0 ≤ k781 ∧ k781 < (l808.length : Int)) <|
    grd (0 ≤ (l808.getD ((k781).toNat) 0) ∧ (l808.getD ((k781).toNat) 0) < (v1.1.length : Int)) <|
    grd (0 ≤ x809 ∧ x809 < (v1.1.length : Int)) <|
    (I_AreNear N (v1.1.getD (((l808.getD ((k781).toNat) 0)).toNat) []) (v1.1.getD ((x809).toNat) [])).bind fun v811 =>
    cnd v811 (
     grd (l808.length + 1 ≤ 4294967296) <|
     grd (Rg64 (x809 + (1 : Int))) <|
     I_RoomsOf_l3 N v1 k781 k n ((l807.set ((x809).toNat) true), (l808 ++ ([x809] : List Int)), (x809 + (1 : Int)))) (
     grd (Rg64 (x809 + (1 : Int))) <|
     I_RoomsOf_l3 N v1 k781 k n (l807, l808, (x809 + (1 : Int))))) (
    grd (Rg64 (x809 + (1 : Int))) <|
    I_RoomsOf_l3 N v1 k781 k n (l807, l808, (x809 + (1 : Int))))) (
   k (l807, l808))
def I_RoomsOf_l2 (N : Nat) (v1 : (List (List (Int × Int))) × Bool) (k : ((List Bool) × (List Int)) → Option ((List (List Int)) × Bool)) : Nat → ((List Bool) × (List Int) × Int) → Option ((List (List Int)) × Bool)
 | 0, _ => none
 | n + 1, (l779, l780, k781) =>
  cnd (decide (k781 < (l780.length : Int))) (
   I_RoomsOf_l3 N v1 k781 (fun (x : (List Bool) × (List Int)) =>
     match x with
     | (l803, l804) =>
      grd (Rg64 (k781 + (1 : Int))) <|
      I_RoomsOf_l2 N v1 k n (l803, l804, (k781 + (1 : Int)))) N (l779, l780, (0 : Int))) (
   k (l779, l780))
def I_RoomsOf_l1 (N : Nat) (v1 : (List (List (Int × Int))) × Bool) (k : (List (List Int)) → Option ((List (List Int)) × Bool)) : Nat → ((List (List Int)) × (List Bool) × Int) → Option ((List (List Int)) × Bool)
 | 0, _ => none
 | n + 1, (l609, l610, x611) =>
  cnd (decide (x611 < (v1.1.length : Int))) (
   grd (0 ≤ x611 ∧ x611 < ((List.replicate (((v1.1.length : Int)).toNat) (false : Bool)).length : Int)) <|
   grd (0 ≤ x611 ∧ x611 < (l610.length : Int)) <|
   cnd (l610.getD ((x611).toNat) false) (
    grd (Rg64 (x611 + (1 : Int))) <|
    I_RoomsOf_l1 N v1 k n (l609, l610, (x611 + (1 : Int)))) (
    I_RoomsOf_l2 N v1 (fun (x : (List Bool) × (List Int)) =>
      match x with
      | (l760, l761) =>
       (G_Sort_int N l761).bind fun v762 =>
       grd (l761.length = v762.length) <|
       grd (l609.length + 1 ≤ 4294967296) <|
       grd (Rg64 (x611 + (1 : Int))) <|
       I_RoomsOf_l1 N v1 k n ((l609 ++ [v762]), l760, (x611 + (1 : Int)))) N ((l610.set ((x611).toNat) true), ([x611] : List Int), (0 : Int)))) (
   k l609)
def I_RoomsOf (N : Nat) (l_0 : Lnk) : Option ((List (List Int)) × Bool) :=
 (I_poses N l_0).bind fun v1 =>
 cnd (!v1.2) (
  some (([] : List (List Int)), false)) (
  grd (0 ≤ (v1.1.length : Int) ∧ (v1.1.length : Int) ≤ 4294967296) <|
  I_RoomsOf_l1 N v1 (fun (l406 : List (List Int)) =>
     some (l406, true)) N (([] : List (List Int)), (List.replicate (((v1.1.length : Int)).toNat) (false : Bool)), (0 : Int)))
set_option maxRecDepth 20000 in
set_option maxHeartbeats 1600000 in
theorem I_RoomsOf_w (N : Nat) (l_0 : Lnk) (r : (List (List Int)) × Bool) (h : I_RoomsOf N l_0 = some r) : PCallD Tryz.prog 92 [lD l_0] 25 3 (.intss r.1) (.tup [.row 0 0 r.1.length, .bool r.2]) := by
 unfold I_RoomsOf at h
 refine pcallD_intro (TT := TT) tt Tryz.func92 rfl rfl Tryz.ntmps92 (congrArg Array.toList Tryz.results92) rfl rfl rfl fun w0 => ?_
 refine vSeq ?_
 refine vRegion ?_
 refine oBox rfl rfl rfl rfl rfl rfl rfl rfl rfl ?_
 iterate 2 refine oVal tt rfl rfl rfl rfl rfl trivial ?_
 refine vNil ?_
 change VC _ _ _ _
 refine vSeq ?_
 refine vRegion ?_
 refine oEmpty tt (wNone rfl) rfl rfl rfl rfl ?_
 refine oVal tt rfl rfl rfl rfl rfl trivial ?_
 refine vNil ?_
 change VC _ _ _ _
 refine vSeq ?_
 refine vRegion ?_
 refine oVal tt rfl rfl rfl rfl rfl trivial ?_
 obtain ⟨v1, hc1, h⟩ := bind_inv h
 refine oCallD 10 (I_poses_w N l_0 v1 hc1) rfl rfl rfl rfl rfl rfl rfl rfl rfl rfl rfl (fun _ h => by cases h) ⟨⟨rfl, rfl, rfl, rfl, trivial⟩, trivial⟩ ?_
 iterate 5 refine oVal tt rfl rfl rfl rfl rfl trivial ?_
 refine vNil ?_
 change VC _ _ _ _
 iterate 2 refine vSeq ?_
 refine vRegion ?_
 iterate 2 refine oVal tt rfl rfl rfl rfl rfl trivial ?_
 refine vNil ?_
 change VC _ _ _ _
 refine vCond rfl (fun hb2 => ?_) (fun hb2 => ?_)
 ·replace h := cnd_t hb2 h
  refine vSeq ?_
  refine vRegion ?_
  iterate 3 refine oVal tt rfl rfl rfl rfl rfl trivial ?_
  refine vNil ?_
  change VC _ _ _ _
  refine vNilT 2 9001 25 (.intss []) rfl rfl rfl rfl ?_
  refine vEn (En.newFam 12 3 (.ints []) rfl rfl rfl rfl (fun _ h => by cases h) rfl) ?_
  refine vEn (En.asRefs 9001 12 (q := .intss []) (qR := dR 12 (.intss [])) rfl rfl rfl rfl) ?_
  refine vRet ?_
  change ∃ _, _
  cases h
  exact ⟨9001, 12, _, rfl, rfl, rfl, rfl, rfl, (.eq rfl), rfl⟩
 ·replace h := cnd_f hb2 h
  refine vSkip ?_
  change VC _ _ _ _
  refine vSeq ?_
  refine vRegion ?_
  iterate 2 refine oVal tt rfl rfl rfl rfl rfl trivial ?_
  obtain ⟨hg3, h⟩ := grd_inv h
  refine oMake tt rfl rfl rfl rfl rfl rfl rfl rfl rfl rfl rfl hg3 ?_
  refine oVal tt rfl rfl rfl rfl rfl trivial ?_
  refine vNil ?_
  change VC _ _ _ _
  iterate 2 refine vSeq ?_
  refine vRegion ?_
  iterate 3 refine oVal tt rfl rfl rfl rfl rfl trivial ?_
  refine vNil ?_
  change VC _ _ _ _
  refine vJoin (F := fun k => I_RoomsOf_l1 N v1 k) h (α := List (List Int)) (J := fun (l406 : List (List Int)) => (⟨[(4, .row 9506 0 l406.length)], [(9506, some (25, dR 11 (.intss l406))), (8589934603, some (3, dF (.intss l406)))], []⟩ : PS)) ?_ ?_
  ·rintro l406 h
   show VC _ _ _ (⟨[(4, .row 9506 0 l406.length)], [(9506, some (25, dR 11 (.intss l406))), (8589934603, some (3, dF (.intss l406)))], []⟩ : PS)
   refine vSeq ?_
   refine vRegion ?_
   iterate 3 refine oVal tt rfl rfl rfl rfl rfl trivial ?_
   refine vNil ?_
   change VC _ _ _ _
   refine vRet ?_
   change ∃ _, _
   cases h
   exact ⟨9506, 11, _, rfl, rfl, rfl, rfl, rfl, (.eq rfl), rfl⟩
  ·intro k h
   refine vBlock ?_
   refine vNilT 4 9508 25 (.intss []) rfl rfl rfl rfl ?_
   refine vEn (En.newFam 11 3 (.ints []) rfl rfl rfl rfl (fun _ h => by cases h) rfl) ?_
   refine vEn (En.asRefs 9508 11 (q := .intss []) (qR := dR 11 (.intss [])) rfl rfl rfl rfl) ?_
   refine vLoopS (α := (List (List Int)) × (List Bool) × Int) (fun | (l609, l610, x611) => (⟨[(4, .row 9508 0 l609.length), (5, .row 1150 0 v1.1.length), (7, .row 23 0 ((List.replicate (((v1.1.length : Int)).toNat) (false : Bool)).length)), (25, .int (v1.1.length : Int)), (26, .int x611)], [(9508, some (25, dR 11 (.intss l609))), (8589934603, some (3, dF (.intss l609))), (1150, some (49, dR 10 (.pairss v1.1))), (8589934602, some (83, dF (.pairss v1.1))), (23, some (4, .bools l610))], []⟩ : PS)) (I_RoomsOf_l1 N v1 k) h (En.of ⟨rfl, rfl, rfl, rfl, rfl, trivial⟩ ⟨rfl, rfl, rfl, rfl, rfl, trivial⟩ trivial) (fun _ => rfl) ?_
   rintro n ⟨l609, l610, x611⟩ h
   rw [I_RoomsOf_l1] at h
   show VC _ _ _ (⟨[(4, .row 9508 0 l609.length), (5, .row 1150 0 v1.1.length), (7, .row 23 0 ((List.replicate (((v1.1.length : Int)).toNat) (false : Bool)).length)), (25, .int (v1.1.length : Int)), (26, .int x611)], [(9508, some (25, dR 11 (.intss l609))), (8589934603, some (3, dF (.intss l609))), (1150, some (49, dR 10 (.pairss v1.1))), (8589934602, some (83, dF (.pairss v1.1))), (23, some (4, .bools l610))], []⟩ : PS)
   refine vSeq ?_
   refine vRegion ?_
   refine oVal tt rfl rfl rfl rfl rfl trivial ?_
   refine vNil ?_
   change VC _ _ _ _
   refine vSeq ?_
   refine vCond rfl (fun hb4 => ?_) (fun hb4 => ?_)
   ·replace h := cnd_t hb4 h
    refine vSkip ?_
    change VC _ _ _ _
    refine vSeq ?_
    refine vBlock ?_
    refine vSeq ?_
    refine vRegion ?_
    iterate 2 refine oVal tt rfl rfl rfl rfl rfl trivial ?_
    refine vNil ?_
    change VC _ _ _ _
    iterate 2 refine vSeq ?_
    refine vRegion ?_
    iterate 2 refine oVal tt rfl rfl rfl rfl rfl trivial ?_
    obtain ⟨hg5, h⟩ := grd_inv h
    refine oVal tt rfl rfl rfl rfl rfl hg5 ?_
    obtain ⟨hg6, h⟩ := grd_inv h
    refine oVal tt rfl rfl rfl rfl rfl hg6 ?_
    refine vNil ?_
    change VC _ _ _ _
    refine vCond rfl (fun hb7 => ?_) (fun hb7 => ?_)
    ·replace h := cnd_t hb7 h
     refine vExit ?_
     change VC _ _ _ _
     refine vRegion ?_
     obtain ⟨hg8, h⟩ := grd_inv h
     refine oVal tt rfl rfl rfl rfl rfl hg8 ?_
     refine oVal tt rfl rfl rfl rfl rfl trivial ?_
     refine vNil ?_
     change ∃ _, _
     exact ⟨(l609, l610, (x611 + (1 : Int))), (En.of ⟨rfl, rfl, rfl, rfl, rfl, trivial⟩ ⟨rfl, rfl, rfl, rfl, rfl, trivial⟩ trivial), h⟩
    ·replace h := cnd_f hb7 h
     refine vSkip ?_
     change VC _ _ _ _
     refine vSeq ?_
     refine vRegion ?_
     iterate 2 refine oVal tt rfl rfl rfl rfl rfl trivial ?_
     refine oVal tt rfl rfl rfl rfl rfl hg5 ?_
     refine oStore tt rfl rfl rfl rfl rfl rfl rfl rfl rfl rfl ⟨_, _, rfl, hg6.1, hg6.2⟩ ⟨hg6, trivial⟩ ?_
     refine vNil ?_
     change VC _ _ _ _
     refine vSeq ?_
     refine vRegion ?_
     refine oVal tt rfl rfl rfl rfl rfl trivial ?_
     refine oBuild tt rfl rfl rfl rfl rfl rfl rfl rfl rfl rfl rfl ?_
     refine oVal tt rfl rfl rfl rfl rfl trivial ?_
     refine vNil ?_
     change VC _ _ _ _
     iterate 2 refine vSeq ?_
     refine vRegion ?_
     refine oVal tt rfl rfl rfl rfl rfl trivial ?_
     refine vNil ?_
     change VC _ _ _ _
     refine vJoin (F := fun k => I_RoomsOf_l2 N v1 k) h (α := (List Bool) × (List Int)) (J := fun | (l760, l761) => (⟨[(4, .row 9508 0 l609.length), (5, .row 1150 0 v1.1.length), (7, .row 23 0 ((List.replicate (((v1.1.length : Int)).toNat) (false : Bool)).length)), (9, .row 37 0 l761.length), (25, .int (v1.1.length : Int)), (26, .int x611)], [(9508, some (25, dR 11 (.intss l609))), (8589934603, some (3, dF (.intss l609))), (1150, some (49, dR 10 (.pairss v1.1))), (8589934602, some (83, dF (.pairss v1.1))), (23, some (4, .bools l760)), (37, some (3, .ints l761))], []⟩ : PS)) ?_ ?_
     ·rintro ⟨l760, l761⟩ h
      show VC _ _ _ (⟨[(4, .row 9508 0 l609.length), (5, .row 1150 0 v1.1.length), (7, .row 23 0 ((List.replicate (((v1.1.length : Int)).toNat) (false : Bool)).length)), (9, .row 37 0 l761.length), (25, .int (v1.1.length : Int)), (26, .int x611)], [(9508, some (25, dR 11 (.intss l609))), (8589934603, some (3, dF (.intss l609))), (1150, some (49, dR 10 (.pairss v1.1))), (8589934602, some (83, dF (.pairss v1.1))), (23, some (4, .bools l760)), (37, some (3, .ints l761))], []⟩ : PS)
      refine vSeq ?_
      refine vRegion ?_
      refine oVal tt rfl rfl rfl rfl rfl trivial ?_
      obtain ⟨v762, hc9, h⟩ := bind_inv h
      refine oMCall (G_Sort_int_w N l761 v762 hc9) [37] [] [37] rfl rfl rfl rfl rfl rfl ⟨rfl, trivial⟩ trivial ⟨⟨rfl, rfl⟩, trivial⟩ ?_
      refine vNil ?_
      change VC _ _ _ _
      refine vRegion ?_
      iterate 2 refine oVal tt rfl rfl rfl rfl rfl trivial ?_
      obtain ⟨hg10, h⟩ := grd_inv h
      refine oRowT 79 37 hg10 rfl ?_
      refine vEnO (En.adopt 79 37 9508 11 (q := (.intss l609)) rfl rfl rfl rfl rfl rfl (by simp [Sq.len, Fq.len, famOf, Fq.hole]) (pushI _ _) rfl (d' := .irow 11 l609.length v762.length) (by simp [Fq.len]) rfl) ?_
      refine oBuildI tt rfl rfl rfl rfl rfl rfl rfl rfl rfl rfl ?_
      obtain ⟨hg11, h⟩ := grd_inv h
      refine oAppendD (.intss (l609 ++ [v762])) tt (q := (.intss l609)) rfl rfl rfl rfl rfl rfl rfl rfl (Nat.le_of_eq (Nat.zero_add _)) rfl rfl rfl rfl rfl rfl rfl (appI 11 l609 v762) hg11 ?_
      refine oVal tt rfl rfl rfl rfl rfl trivial ?_
      refine vNil ?_
      change VC _ _ _ _
      refine vRegion ?_
      obtain ⟨hg12, h⟩ := grd_inv h
      refine oVal tt rfl rfl rfl rfl rfl hg12 ?_
      refine oVal tt rfl rfl rfl rfl rfl trivial ?_
      refine vNil ?_
      change ∃ _, _
      exact ⟨((l609 ++ [v762]), l760, (x611 + (1 : Int))), (En.of ⟨rfl, rfl, rfl, rfl, rfl, trivial⟩ ⟨rfl, rfl, rfl, rfl, rfl, trivial⟩ trivial), h⟩
     ·intro k h
      refine vBlock ?_
      refine vLoopS (α := (List Bool) × (List Int) × Int) (fun | (l779, l780, k781) => (⟨[(4, .row 9508 0 l609.length), (5, .row 1150 0 v1.1.length), (7, .row 23 0 ((List.replicate (((v1.1.length : Int)).toNat) (false : Bool)).length)), (9, .row 37 0 l780.length), (10, .int k781), (25, .int (v1.1.length : Int)), (26, .int x611)], [(9508, some (25, dR 11 (.intss l609))), (8589934603, some (3, dF (.intss l609))), (1150, some (49, dR 10 (.pairss v1.1))), (8589934602, some (83, dF (.pairss v1.1))), (23, some (4, .bools l779)), (37, some (3, .ints l780))], []⟩ : PS)) (I_RoomsOf_l2 N v1 k) h (En.of ⟨rfl, rfl, rfl, rfl, rfl, rfl, rfl, trivial⟩ ⟨rfl, rfl, rfl, rfl, rfl, rfl, trivial⟩ trivial) (fun _ => rfl) ?_
      rintro n ⟨l779, l780, k781⟩ h
      rw [I_RoomsOf_l2] at h
      show VC _ _ _ (⟨[(4, .row 9508 0 l609.length), (5, .row 1150 0 v1.1.length), (7, .row 23 0 ((List.replicate (((v1.1.length : Int)).toNat) (false : Bool)).length)), (9, .row 37 0 l780.length), (10, .int k781), (25, .int (v1.1.length : Int)), (26, .int x611)], [(9508, some (25, dR 11 (.intss l609))), (8589934603, some (3, dF (.intss l609))), (1150, some (49, dR 10 (.pairss v1.1))), (8589934602, some (83, dF (.pairss v1.1))), (23, some (4, .bools l779)), (37, some (3, .ints l780))], []⟩ : PS)
      iterate 2 refine vSeq ?_
      refine vRegion ?_
      iterate 4 refine oVal tt rfl rfl rfl rfl rfl trivial ?_
      refine vNil ?_
      change VC _ _ _ _
      refine vCond rfl (fun hb13 => ?_) (fun hb13 => ?_)
      ·replace h := cnd_t hb13 h
       refine vSkip ?_
       change VC _ _ _ _
       refine vSeq ?_
       refine vBlock ?_
       refine vSeq ?_
       refine vRegion ?_
       iterate 3 refine oVal tt rfl rfl rfl rfl rfl trivial ?_
       refine vNil ?_
       change VC _ _ _ _
       refine vJoin (F := fun k => I_RoomsOf_l3 N v1 k781 k) h (α := (List Bool) × (List Int)) (J := fun | (l803, l804) => (⟨[(4, .row 9508 0 l609.length), (5, .row 1150 0 v1.1.length), (7, .row 23 0 ((List.replicate (((v1.1.length : Int)).toNat) (false : Bool)).length)), (9, .row 37 0 l804.length), (10, .int k781), (25, .int (v1.1.length : Int)), (26, .int x611)], [(9508, some (25, dR 11 (.intss l609))), (8589934603, some (3, dF (.intss l609))), (1150, some (49, dR 10 (.pairss v1.1))), (8589934602, some (83, dF (.pairss v1.1))), (23, some (4, .bools l803)), (37, some (3, .ints l804))], []⟩ : PS)) ?_ ?_
       ·rintro ⟨l803, l804⟩ h
        show VC _ _ _ (⟨[(4, .row 9508 0 l609.length), (5, .row 1150 0 v1.1.length), (7, .row 23 0 ((List.replicate (((v1.1.length : Int)).toNat) (false : Bool)).length)), (9, .row 37 0 l804.length), (10, .int k781), (25, .int (v1.1.length : Int)), (26, .int x611)], [(9508, some (25, dR 11 (.intss l609))), (8589934603, some (3, dF (.intss l609))), (1150, some (49, dR 10 (.pairss v1.1))), (8589934602, some (83, dF (.pairss v1.1))), (23, some (4, .bools l803)), (37, some (3, .ints l804))], []⟩ : PS)
        refine vRegion ?_
        refine oVal tt rfl rfl rfl rfl rfl trivial ?_
        obtain ⟨hg14, h⟩ := grd_inv h
        refine oVal tt rfl rfl rfl rfl rfl hg14 ?_
        refine oVal tt rfl rfl rfl rfl rfl trivial ?_
        refine vNil ?_
        change ∃ _, _
        exact ⟨(l803, l804, (k781 + (1 : Int))), (En.of ⟨rfl, rfl, rfl, rfl, rfl, rfl, rfl, trivial⟩ ⟨rfl, rfl, rfl, rfl, rfl, rfl, trivial⟩ trivial), h⟩
       ·intro k h
        refine vBlock ?_
        refine vLoopS (α := (List Bool) × (List Int) × Int) (fun | (l807, l808, x809) => (⟨[(4, .row 9508 0 l609.length), (5, .row 1150 0 v1.1.length), (7, .row 23 0 ((List.replicate (((v1.1.length : Int)).toNat) (false : Bool)).length)), (9, .row 37 0 l808.length), (10, .int k781), (25, .int (v1.1.length : Int)), (26, .int x611), (45, .int (v1.1.length : Int)), (46, .int x809)], [(9508, some (25, dR 11 (.intss l609))), (8589934603, some (3, dF (.intss l609))), (1150, some (49, dR 10 (.pairss v1.1))), (8589934602, some (83, dF (.pairss v1.1))), (23, some (4, .bools l807)), (37, some (3, .ints l808))], []⟩ : PS)) (I_RoomsOf_l3 N v1 k781 k) h (En.of ⟨rfl, rfl, rfl, rfl, rfl, rfl, rfl, rfl, rfl, trivial⟩ ⟨rfl, rfl, rfl, rfl, rfl, rfl, trivial⟩ trivial) (fun _ => rfl) ?_
        rintro n ⟨l807, l808, x809⟩ h
        rw [I_RoomsOf_l3] at h
        show VC _ _ _ (⟨[(4, .row 9508 0 l609.length), (5, .row 1150 0 v1.1.length), (7, .row 23 0 ((List.replicate (((v1.1.length : Int)).toNat) (false : Bool)).length)), (9, .row 37 0 l808.length), (10, .int k781), (25, .int (v1.1.length : Int)), (26, .int x611), (45, .int (v1.1.length : Int)), (46, .int x809)], [(9508, some (25, dR 11 (.intss l609))), (8589934603, some (3, dF (.intss l609))), (1150, some (49, dR 10 (.pairss v1.1))), (8589934602, some (83, dF (.pairss v1.1))), (23, some (4, .bools l807)), (37, some (3, .ints l808))], []⟩ : PS)
        refine vSeq ?_
        refine vRegion ?_
        refine oVal tt rfl rfl rfl rfl rfl trivial ?_
        refine vNil ?_
        change VC _ _ _ _
        refine vSeq ?_
        refine vCond rfl (fun hb15 => ?_) (fun hb15 => ?_)
        ·replace h := cnd_t hb15 h
         refine vSkip ?_
         change VC _ _ _ _
         refine vSeq ?_
         refine vBlock ?_
         refine vSeq ?_
         refine vRegion ?_
         iterate 2 refine oVal tt rfl rfl rfl rfl rfl trivial ?_
         refine vNil ?_
         change VC _ _ _ _
         refine vSeq ?_
         refine vRegionD (by kernel_rfl) (by kernel_rfl) ?_
         iterate 2 refine cVal tt rfl (wNone rfl) rfl rfl rfl trivial ?_
         obtain ⟨hg16, h⟩ := grd_inv h
         refine cVal tt rfl (wNone rfl) rfl rfl rfl hg16 ?_
         obtain ⟨hg17, h⟩ := grd_inv h
         refine cVal tt rfl (wNone rfl) rfl rfl rfl hg17 ?_
         iterate 2 refine cVal tt rfl (wNone rfl) rfl rfl rfl trivial ?_
         refine cSplit rfl rfl rfl (fun hb18 => ?_) (fun hb18 => ?_)
         ·replace h := cnd_t hb18 h
          iterate 3 refine cVal tt rfl (wSome rfl rfl rfl rfl hb18) rfl rfl rfl trivial ?_
          obtain ⟨hg19, h⟩ := grd_inv h
          iterate 2 refine cVal tt rfl (wSome rfl rfl rfl rfl hb18) rfl rfl rfl hg19 ?_
          obtain ⟨hg20, h⟩ := grd_inv h
          refine cVal tt rfl (wSome rfl rfl rfl rfl hb18) rfl rfl rfl hg20 ?_
          refine cLoadD tt (wSome rfl rfl rfl rfl hb18) (.pairss v1.1) rfl rfl rfl rfl rfl rfl rfl rfl rfl hg20 ?_
          iterate 2 refine cVal tt rfl (wSome rfl rfl rfl rfl hb18) rfl rfl rfl trivial ?_
          obtain ⟨hg21, h⟩ := grd_inv h
          refine cVal tt rfl (wSome rfl rfl rfl rfl hb18) rfl rfl rfl hg21 ?_
          refine cLoadD tt (wSome rfl rfl rfl rfl hb18) (.pairss v1.1) rfl rfl rfl rfl rfl rfl rfl rfl rfl hg21 ?_
          obtain ⟨v811, hc22, h⟩ := bind_inv h
          refine cCall (I_AreNear_w N (v1.1.getD (((l808.getD ((k781).toNat) 0)).toNat) []) (v1.1.getD ((x809).toNat) []) v811 hc22) rfl (wSome rfl rfl rfl rfl hb18) rfl rfl rfl rfl rfl rfl ⟨⟨_, deep_at (q := (.pairss v1.1)) rfl rfl rfl (by simp only [Sq.len, List.length_set, List.length_append, List.length_replicate] at *; omega), rfl, rfl⟩, ⟨_, deep_at (q := (.pairss v1.1)) rfl rfl rfl (by simp only [Sq.len, List.length_set, List.length_append, List.length_replicate] at *; omega), rfl, rfl⟩, trivial⟩ ?_
          refine cPickT rfl (wNone rfl) rfl rfl rfl hb18 rfl ?_
          refine cNil ?_
          change VC _ _ _ _
          refine vCond rfl (fun hb23 => ?_) (fun hb23 => ?_)
          ·replace h := cnd_t hb23 h
           refine vSeq ?_
           refine vRegion ?_
           iterate 2 refine oVal tt rfl rfl rfl rfl rfl trivial ?_
           refine oVal tt rfl rfl rfl rfl rfl hg16 ?_
           refine oStore tt rfl rfl rfl rfl rfl rfl rfl rfl rfl rfl ⟨_, _, rfl, hg17.1, hg17.2⟩ ⟨hg17, trivial⟩ ?_
           refine vNil ?_
           change VC _ _ _ _
           refine vRegion ?_
           iterate 2 refine oVal tt rfl rfl rfl rfl rfl trivial ?_
           refine oBuild tt rfl rfl rfl rfl rfl rfl rfl rfl rfl rfl rfl ?_
           obtain ⟨hg24, h⟩ := grd_inv h
           refine oAppend tt rfl rfl rfl rfl rfl rfl rfl rfl rfl rfl rfl rfl rfl rfl rfl rfl (Nat.le_of_eq (Nat.zero_add _)) hg24 ?_
           refine oVal tt rfl rfl rfl rfl rfl trivial ?_
           refine vNil ?_
           change VC _ _ _ _
           refine vRegion ?_
           obtain ⟨hg25, h⟩ := grd_inv h
           refine oVal tt rfl rfl rfl rfl rfl hg25 ?_
           refine oVal tt rfl rfl rfl rfl rfl trivial ?_
           refine vNil ?_
           change ∃ _, _
           exact ⟨((l807.set ((x809).toNat) true), (l808 ++ ([x809] : List Int)), (x809 + (1 : Int))), (En.of ⟨rfl, rfl, rfl, rfl, rfl, rfl, rfl, rfl, rfl, trivial⟩ ⟨rfl, rfl, rfl, rfl, rfl, rfl, trivial⟩ trivial), h⟩
          ·replace h := cnd_f hb23 h
           refine vSkip ?_
           change VC _ _ _ _
           refine vRegion ?_
           obtain ⟨hg26, h⟩ := grd_inv h
           refine oVal tt rfl rfl rfl rfl rfl hg26 ?_
           refine oVal tt rfl rfl rfl rfl rfl trivial ?_
           refine vNil ?_
           change ∃ _, _
           exact ⟨(l807, l808, (x809 + (1 : Int))), (En.of ⟨rfl, rfl, rfl, rfl, rfl, rfl, rfl, rfl, rfl, trivial⟩ ⟨rfl, rfl, rfl, rfl, rfl, rfl, trivial⟩ trivial), h⟩
         ·replace h := cnd_f hb18 h
          iterate 12 refine cNoT rfl rfl rfl rfl hb18 rfl rfl ?_
          refine cPickF rfl (wNone rfl) rfl rfl rfl hb18 rfl ?_
          refine cNil ?_
          change VC _ _ _ _
          refine vCondF rfl rfl ?_
          refine vSkip ?_
          change VC _ _ _ _
          refine vRegion ?_
          obtain ⟨hg27, h⟩ := grd_inv h
          refine oVal tt rfl rfl rfl rfl rfl hg27 ?_
          refine oVal tt rfl rfl rfl rfl rfl trivial ?_
          refine vNil ?_
          change ∃ _, _
          exact ⟨(l807, l808, (x809 + (1 : Int))), (En.of ⟨rfl, rfl, rfl, rfl, rfl, rfl, rfl, rfl, rfl, trivial⟩ ⟨rfl, rfl, rfl, rfl, rfl, rfl, trivial⟩ trivial), h⟩
        ·replace h := cnd_f hb15 h
         refine vExit ?_
         change ∃ _, _
         exact ⟨(l807, l808), (En.of ⟨rfl, rfl, rfl, rfl, rfl, rfl, rfl, trivial⟩ ⟨rfl, rfl, rfl, rfl, rfl, rfl, trivial⟩ trivial), h⟩
      ·replace h := cnd_f hb13 h
       refine vExit ?_
       change ∃ _, _
       exact ⟨(l779, l780), (En.of ⟨rfl, rfl, rfl, rfl, rfl, rfl, trivial⟩ ⟨rfl, rfl, rfl, rfl, rfl, rfl, trivial⟩ trivial), h⟩
   ·replace h := cnd_f hb4 h
    refine vExit ?_
    change ∃ _, _
    exact ⟨l609, (En.ren [9506] [9508] rfl ⟨.inr rfl, trivial⟩ ⟨.inr rfl, .inr rfl, trivial⟩ trivial), h⟩
end Go.Proofs.YtmoamglpocjhgaaGreat
namespace Go.Proofs.YtmoamglpocjhgaaGreat
open Go.RowKit Go.Deep
def I_RoomOf_l1 (N : Nat) (v1 : (List (List Int)) × Bool) (v3 : Int) (k : Unit → Option (List Int)) : Nat → Int → Option (List Int)
 | 0, _ => none
 | n + 1, x10 =>
  cnd (decide (x10 < (v1.1.length : Int))) (
   grd (0 ≤ x10 ∧ x10 < (v1.1.length : Int)) <|
   (G_Contains_int N (v1.1.getD ((x10).toNat) []) v3).bind fun v12 =>
   cnd v12 (
    some (v1.1.getD ((x10).toNat) [])) (
    grd (Rg64 (x10 + (1 : Int))) <|
    I_RoomOf_l1 N v1 v3 k n (x10 + (1 : Int)))) (
   k ())
def I_RoomOf (N : Nat) (l_0 : Lnk) : Option (List Int) :=
 (I_RoomsOf N l_0).bind fun v1 =>
 cnd (!v1.2) (
  some ([] : List Int)) (
  (I_PosesOf N l_0).bind fun v2 =>
  (I_IndexOfPose N v2.1 l_0.f.places).bind fun v3 =>
  I_RoomOf_l1 N v1 v3 (fun (_ : Unit) =>
     some ([] : List Int)) N (0 : Int))
set_option maxRecDepth 20000 in
set_option maxHeartbeats 1600000 in
theorem I_RoomOf_w (N : Nat) (l_0 : Lnk) (r : List Int) (h : I_RoomOf N l_0 = some r) : PCall Tryz.prog 54 [lD l_0] [(3, .ints r)] (.row 0 0 r.length) := by
 unfold I_RoomOf at h
 refine pcall_intro (TT := TT) tt Tryz.func54 rfl rfl Tryz.ntmps54 (congrArg Array.toList Tryz.results54) rfl rfl fun w0 => ?_
 refine vSeq ?_
 refine vRegion ?_
 refine oBox rfl rfl rfl rfl rfl rfl rfl rfl rfl ?_
 refine oVal tt rfl rfl rfl rfl rfl trivial ?_
 refine vNil ?_
 change VC _ _ _ _
 refine vSeq ?_
 refine vRegion ?_
 refine oVal tt rfl rfl rfl rfl rfl trivial ?_
 obtain ⟨v1, hc1, h⟩ := bind_inv h
 refine oCallD 10 (I_RoomsOf_w N l_0 v1 hc1) rfl rfl rfl rfl rfl rfl rfl rfl rfl rfl rfl (fun _ h => by cases h) ⟨⟨rfl, rfl, rfl, rfl, trivial⟩, trivial⟩ ?_
 iterate 5 refine oVal tt rfl rfl rfl rfl rfl trivial ?_
 refine vNil ?_
 change VC _ _ _ _
 iterate 2 refine vSeq ?_
 refine vRegion ?_
 iterate 2 refine oVal tt rfl rfl rfl rfl rfl trivial ?_
 refine vNil ?_
 change VC _ _ _ _
 refine vCond rfl (fun hb2 => ?_) (fun hb2 => ?_)
 ·replace h := cnd_t hb2 h
  refine vSeq ?_
  refine vRegion ?_
  refine oEmpty tt (wNone rfl) rfl rfl rfl rfl ?_
  refine oVal tt rfl rfl rfl rfl rfl trivial ?_
  refine vNil ?_
  change VC _ _ _ _
  refine vNilT 2 9001 3 (.ints []) rfl rfl rfl rfl ?_
  refine vRet ?_
  change ∃ _, _
  cases h
  exact ⟨[9001], _, rfl, ⟨rfl, trivial⟩, rfl, (.eq rfl), rfl⟩
 ·replace h := cnd_f hb2 h
  refine vSkip ?_
  change VC _ _ _ _
  refine vSeq ?_
  refine vRegion ?_
  refine oVal tt rfl rfl rfl rfl rfl trivial ?_
  obtain ⟨v2, hc3, h⟩ := bind_inv h
  refine oCallD 11 (I_PosesOf_w N l_0 v2 hc3) rfl rfl rfl rfl rfl rfl rfl rfl rfl rfl rfl (fun _ h => by cases h) ⟨⟨rfl, rfl, rfl, rfl, trivial⟩, trivial⟩ ?_
  iterate 5 refine oVal tt rfl rfl rfl rfl rfl trivial ?_
  refine vNil ?_
  change VC _ _ _ _
  refine vSeq ?_
  refine vRegion ?_
  iterate 4 refine oVal tt rfl rfl rfl rfl rfl trivial ?_
  obtain ⟨v3, hc4, h⟩ := bind_inv h
  refine oCall (I_IndexOfPose_w N v2.1 l_0.f.places v3 hc4) rfl rfl rfl rfl rfl rfl rfl rfl ⟨(.inr (.inr ⟨11, _, by decide, rfl, rfl, rfl, rfl⟩)), rfl, trivial⟩ ?_
  refine oVal tt rfl rfl rfl rfl rfl trivial ?_
  refine vNil ?_
  change VC _ _ _ _
  iterate 2 refine vSeq ?_
  refine vRegion ?_
  iterate 3 refine oVal tt rfl rfl rfl rfl rfl trivial ?_
  refine vNil ?_
  change VC _ _ _ _
  refine vJoin (F := fun k => I_RoomOf_l1 N v1 v3 k) h (α := Unit) (J := fun (_ : Unit) => (⟨[], [], []⟩ : PS)) ?_ ?_
  ·rintro ⟨⟩ h
   show VC _ _ _ (⟨[], [], []⟩ : PS)
   refine vSeq ?_
   refine vRegion ?_
   refine oEmpty tt (wNone rfl) rfl rfl rfl rfl ?_
   refine oVal tt rfl rfl rfl rfl rfl trivial ?_
   refine vNil ?_
   change VC _ _ _ _
   refine vNilT 2 9001 3 (.ints []) rfl rfl rfl rfl ?_
   refine vRet ?_
   change ∃ _, _
   cases h
   exact ⟨[9001], _, rfl, ⟨rfl, trivial⟩, rfl, (.eq rfl), rfl⟩
  ·intro k h
   refine vBlock ?_
   refine vLoopS (α := Int) (fun (x10 : Int) => (⟨[(7, .int v3), (28, .row 1120 0 v1.1.length), (29, .int (v1.1.length : Int)), (30, .int x10)], [(1120, some (25, dR 10 (.intss v1.1))), (8589934602, some (3, dF (.intss v1.1)))], []⟩ : PS)) (I_RoomOf_l1 N v1 v3 k) h (En.of ⟨rfl, rfl, rfl, rfl, trivial⟩ ⟨rfl, rfl, trivial⟩ trivial) (fun _ => rfl) ?_
   rintro n x10 h
   rw [I_RoomOf_l1] at h
   show VC _ _ _ (⟨[(7, .int v3), (28, .row 1120 0 v1.1.length), (29, .int (v1.1.length : Int)), (30, .int x10)], [(1120, some (25, dR 10 (.intss v1.1))), (8589934602, some (3, dF (.intss v1.1)))], []⟩ : PS)
   refine vSeq ?_
   refine vRegion ?_
   refine oVal tt rfl rfl rfl rfl rfl trivial ?_
   refine vNil ?_
   change VC _ _ _ _
   refine vSeq ?_
   refine vCond rfl (fun hb5 => ?_) (fun hb5 => ?_)
   ·replace h := cnd_t hb5 h
    refine vSkip ?_
    change VC _ _ _ _
    refine vSeq ?_
    refine vBlock ?_
    refine vSeq ?_
    refine vRegion ?_
    obtain ⟨hg6, h⟩ := grd_inv h
    refine oVal tt rfl rfl rfl rfl rfl hg6 ?_
    refine oLoadD tt (wNone rfl) (.intss v1.1) rfl rfl rfl rfl rfl rfl rfl rfl rfl hg6 ?_
    refine oVal tt rfl rfl rfl rfl rfl trivial ?_
    refine vNil ?_
    change VC _ _ _ _
    refine vSeq ?_
    refine vRegion ?_
    iterate 2 refine oVal tt rfl rfl rfl rfl rfl trivial ?_
    obtain ⟨v12, hc7, h⟩ := bind_inv h
    refine oCall (G_Contains_int_w N (v1.1.getD ((x10).toNat) []) v3 v12 hc7) rfl rfl rfl rfl rfl rfl rfl rfl ⟨⟨_, deep_at (q := (.intss v1.1)) rfl rfl rfl (by simp only [Sq.len, List.length_set, List.length_append, List.length_replicate] at *; omega), rfl, rfl⟩, rfl, trivial⟩ ?_
    refine vNil ?_
    change VC _ _ _ _
    refine vCond rfl (fun hb8 => ?_) (fun hb8 => ?_)
    ·replace h := cnd_t hb8 h
     refine vSeq ?_
     refine vRegion ?_
     iterate 2 refine oVal tt rfl rfl rfl rfl rfl trivial ?_
     refine vNil ?_
     change VC _ _ _ _
     refine vEn (En.pull 2 9502 10 ((x10).toNat) rfl rfl (fam_get (q := (.intss v1.1)) rfl (by simp only [Sq.len, List.length_set, List.length_append, List.length_replicate] at *; omega)) rfl rfl rfl rfl) ?_
     refine vRet ?_
     change ∃ _, _
     cases h
     exact ⟨[9502], _, rfl, ⟨rfl, trivial⟩, rfl, (.eq rfl), rfl⟩
    ·replace h := cnd_f hb8 h
     refine vSkip ?_
     change VC _ _ _ _
     refine vRegion ?_
     obtain ⟨hg9, h⟩ := grd_inv h
     refine oVal tt rfl rfl rfl rfl rfl hg9 ?_
     refine oVal tt rfl rfl rfl rfl rfl trivial ?_
     refine vNil ?_
     change ∃ _, _
     exact ⟨(x10 + (1 : Int)), (En.of ⟨rfl, rfl, rfl, rfl, trivial⟩ ⟨rfl, rfl, trivial⟩ trivial), h⟩
   ·replace h := cnd_f hb5 h
    refine vExit ?_
    change ∃ _, _
    exact ⟨(), (En.of trivial trivial trivial), h⟩
end Go.Proofs.YtmoamglpocjhgaaGreat
namespace Go.Proofs.YtmoamglpocjhgaaGreat
variable {N : Nat}
abbrev roomQ (P : List (List (Int × Int))) (s : Int) : List Int := (bfs0 (nrP P) P.length s).1
def sortL (l : List Int) : List Int := l.mergeSort fun x y => decide (x ≤ y)
def rmS (P : List (List (Int × Int))) : Nat → List (List Int) × List Int
 | 0 => ([], [])
 | i + 1 => cnd ((rmS P i).2.contains (i : Int)) (rmS P i) ((rmS P i).1 ++ [sortL (roomQ P (i : Int))], (rmS P i).2 ++ roomQ P (i : Int))
theorem room_inv (P : List (List (Int × Int))) {i : Nat} (hi : i < P.length) : BQ (nrP P) P.length (i : Int) (bfs0 (nrP P) P.length (i : Int)) (roomQ P (i : Int)).length := bfs0_inv ⟨by omega, by omega⟩
structure RM (P : List (List (Int × Int))) (i : Nat) : Prop where
 rg : ∀ x ∈ (rmS P i).2, 0 ≤ x ∧ x < (P.length : Int)
 nd : (rmS P i).2.Nodup
 cl : ∀ u ∈ (rmS P i).2, ∀ j : Nat, j < P.length → nrP P u (j : Int) = true → (j : Int) ∈ (rmS P i).2
 ln : (rmS P i).1.length ≤ i
 rl : ∀ r ∈ (rmS P i).1, r.length ≤ P.length
theorem bq_closed {nr : Int → Int → Bool} {m : Nat} {s : Int} {st : QF} (h : BQ nr m s st st.1.length) {u : Int} (hu : u ∈ st.1) {j : Nat} (hj : j < m) (hn : nr u (j : Int) = true) : (j : Int) ∈ st.1 := by
 obtain ⟨i, hi, rfl⟩ := List.mem_iff_getElem.1 hu
 exact h.cl i hi hi j hj (by rw [List.getD_eq_getElem?_getD, List.getElem?_eq_getElem hi]; exact hn)
theorem rowP_apart {nr : Int → Int → Bool} (hsym : ∀ a b, nr a b = nr b a) {m k : Nat} {D : List Int} (hD : ∀ u ∈ D, ∀ j : Nat, j < m → nr u (j : Int) = true → (j : Int) ∈ D) {s : Int} {st : QF} (h : BQ nr m s st k) (hk : k < st.1.length) (ha : ∀ x ∈ st.1, x ∉ D) : ∀ j, j ≤ m → ∀ x ∈ (rowP nr k st j).1, x ∉ D
 | 0, _ => ha
 | j + 1, hj => by
  have ih := rowP_apart hsym hD h hk ha j (by omega)
  rw [rowP]
  cases hc : (!(rowP nr k st j).1.contains (j : Int) && nr (st.1.getD k 0) (j : Int)) with
  | false => rw [cnd_false]; exact ih
  | true =>
   rw [cnd_true]
   intro x hx
   rcases List.mem_append.1 hx with hx | hx
   ·exact ih x hx
   ·rw [List.mem_singleton.1 hx]
    intro hjD
    have hn : nr (j : Int) (st.1.getD k 0) = true := by rw [hsym]; exact (Bool.and_eq_true _ _ ▸ hc).2
    have hr := h.rg _ (getD_mem (d := 0) hk)
    have he : (((st.1.getD k 0).toNat : Nat) : Int) = st.1.getD k 0 := by omega
    have := hD _ hjD (st.1.getD k 0).toNat (by omega) (by rw [he]; exact hn)
    rw [he] at this
    exact ha _ (getD_mem hk) this
theorem bfsP_apart {nr : Int → Int → Bool} (hsym : ∀ a b, nr a b = nr b a) {m : Nat} {D : List Int} (hD : ∀ u ∈ D, ∀ j : Nat, j < m → nr u (j : Int) = true → (j : Int) ∈ D) {s : Int} : ∀ (f k : Nat) (st : QF), BQ nr m s st k → (∀ x ∈ st.1, x ∉ D) → ∀ x ∈ (bfsP nr m f k st).1, x ∉ D
 | 0, k, st, h, ha => ha
 | f + 1, k, st, h, ha => by
  rw [bfsP]
  by_cases hk : k < st.1.length
  ·rw [if_pos hk]
   exact bfsP_apart hsym hD f (k + 1) _ (h.next hk).1 (rowP_apart hsym hD h hk ha m (Nat.le_refl _))
  ·rw [if_neg hk]; exact ha
theorem rm_inv (P : List (List (Int × Int))) : ∀ i, i ≤ P.length → RM P i
 | 0, _ => ⟨by simp [rmS], by simp [rmS], by simp [rmS], by simp [rmS], by simp [rmS]⟩
 | i + 1, hi => by
  have h := rm_inv P i (by omega)
  have hr := room_inv P (show i < P.length by omega)
  cases hc : (rmS P i).2.contains (i : Int) with
  | true =>
   have e : rmS P (i + 1) = rmS P i := by rw [rmS, hc, cnd_true]
   exact ⟨by rw [e]; exact h.rg, by rw [e]; exact h.nd, by rw [e]; exact h.cl, by rw [e]; have := h.ln; omega, by rw [e]; exact h.rl⟩
  | false =>
   have e : rmS P (i + 1) = ((rmS P i).1 ++ [sortL (roomQ P (i : Int))], (rmS P i).2 ++ roomQ P (i : Int)) := by rw [rmS, hc, cnd_false]
   have hap := bfsP_apart (nrP_sym P) h.cl (P.length + 1) 0 ([(i : Int)], [-1]) (BQ.start ⟨by omega, by omega⟩) (fun x hx => by rw [List.mem_singleton.1 hx]; simpa using hc)
   refine ⟨fun x hx => ?_, ?_, fun u hu j hj hn => ?_, ?_, fun r hr' => ?_⟩
   ·rw [e] at hx
    rcases List.mem_append.1 hx with hx | hx
    ·exact h.rg x hx
    ·exact hr.rg x hx
   ·rw [e]
    exact List.nodup_append.2 ⟨h.nd, hr.nd, fun a ha b hb hab => hap b hb (by rw [← hab]; exact ha)⟩
   ·rw [e] at hu ⊢
    rcases List.mem_append.1 hu with hu | hu
    ·exact List.mem_append_left _ (h.cl u hu j hj hn)
    ·exact List.mem_append_right _ (bq_closed hr hu hj hn)
   ·rw [e]; have := h.ln; simp; omega
   ·rw [e] at hr'
    rcases List.mem_append.1 hr' with hr' | hr'
    ·exact h.rl r hr'
    ·rw [List.mem_singleton.1 hr', sortL, List.length_mergeSort]; exact hr.qlen
theorem roomsS2_s (hN : 4000000 ≤ N) {D : List Int} (hD : D.length ≤ 1000) {v : QF} (hv : v.1.length ≤ 1000) (hnd : v.1.Nodup) (kk : QF → Option (List (List Int) × Bool)) : S_RoomsOf_l2 N v kk N (D, [], (0 : Int)) = kk (D ++ v.1, sortL v.1) := by
 have hfl : ∀ (l a : List Int), (l.foldl (fun l x => insR l x false) a).length ≤ a.length + l.length := by
  intro l
  induction l with
  | nil => intro a; simp
  | cons x l ih =>
   intro a
   have h1 := ih (insR a x false)
   have h2 : ∀ (a : List Int) (x : Int) (p : Bool), (insR a x p).length ≤ a.length + 1 := by
    intro a
    induction a with
    | nil => intro x p; cases p <;> simp [insR, cnd]
    | cons e a iha =>
     intro x p
     rw [insR]
     by_cases he : e > x
     ·rw [cnd_dt he]
      cases (p || e == x) with
      | true => rw [Bool.not_true, cnd_false]; have := iha x true; simp; omega
      | false => rw [Bool.not_false, cnd_true, insR_true]; simp
     ·rw [cnd_df he]; have := iha x (p || e == x); simp; omega
   have := h2 a x false
   simp only [List.foldl_cons, List.length_cons]; omega
 refine Eq.trans ?_ (fold (N := N) (len := v.1.length) (σ := List Int × List Int) (st := fun i => (D ++ v.1.take i, (v.1.take i).foldl (fun l x => insR l x false) [])) (F := fun m s => S_RoomsOf_l2 N v kk m (s.1.1, s.1.2, s.2)) (fin := kk (D ++ v.1, sortL v.1)) (by omega) (fun m i hi => ?_) fun m => ?_)
 ·simp
 ·show S_RoomsOf_l2 N v kk (m + 1) (D ++ v.1.take i, (v.1.take i).foldl (fun l x => insR l x false) [], (i : Int)) = S_RoomsOf_l2 N v kk m (D ++ v.1.take (i + 1), (v.1.take (i + 1)).foldl (fun l x => insR l x false) [], ((i + 1 : Nat) : Int))
  have e : ((i : Int)).toNat = i := by omega
  have hl := hfl (v.1.take i) []
  have htl : (v.1.take i).length ≤ i := by rw [List.length_take]; omega
  have hDl : (D ++ v.1.take i).length ≤ 2000 := by rw [List.length_append]; omega
  simp only [List.length_nil] at hl
  rw [S_RoomsOf_l2, cnd_dt (by omega), grd_pos (by omega), l5With_s hN (by omega), Option.bind_some, e, grd_pos (by omega), grd_R (by omega) (by omega), succ_cast, take_snoc2 hi, List.foldl_append, List.append_assoc]
  rfl
 ·show S_RoomsOf_l2 N v kk (m + 1) (D ++ v.1.take v.1.length, (v.1.take v.1.length).foldl (fun l x => insR l x false) [], (v.1.length : Int)) = _
  rw [S_RoomsOf_l2, cnd_df (by omega), List.take_length, foldIns_sort hnd]; rfl
theorem roomsS_s (hN : 4000000 ≤ N) {P : List (List (Int × Int))} (hP : P.length ≤ 100) (hPl : ∀ x ∈ P, x.length ≤ 3000000) {b : Bool} (kk : List (List Int) → Option (List (List Int) × Bool)) : S_RoomsOf_l1 N (P, b) kk N ([], [], (0 : Int)) = kk (rmS P P.length).1 := by
 refine (fold (N := N) (len := P.length) (σ := List (List Int) × List Int) (st := fun i => rmS P i) (F := fun m s => S_RoomsOf_l1 N (P, b) kk m (s.1.1, s.1.2, s.2)) (fin := kk (rmS P P.length).1) (by omega) (fun m i hi => ?_) fun m => ?_)
 ·show S_RoomsOf_l1 N (P, b) kk (m + 1) ((rmS P i).1, (rmS P i).2, (i : Int)) = S_RoomsOf_l1 N (P, b) kk m ((rmS P (i + 1)).1, (rmS P (i + 1)).2, ((i + 1 : Nat) : Int))
  have hR := rm_inv P i (by omega)
  have hlen : (rmS P i).2.length ≤ P.length := nodup_le hR.nd hR.rg
  have hr := room_inv P hi
  have hql := hr.qlen
  have hol := hR.ln
  rw [S_RoomsOf_l1, rmS]
  show cnd (decide ((i : Int) < (P.length : Int))) _ _ = _
  rw [cnd_dt (by omega), l2Has_s N hN (by omega), Option.bind_some]
  cases hc : (rmS P i).2.contains (i : Int) with
  | true => rw [cnd_true, cnd_true, grd_R (by omega) (by omega), succ_cast]
  | false =>
   rw [cnd_false, cnd_false]
   show (S_l25Reach N P (i : Int)).bind _ = _
   rw [reachP_s hN (by omega) hPl ⟨by omega, by omega⟩, Option.bind_some, roomsS2_s hN (by omega) (by omega) hr.nd]
   show grd _ _ = _
   rw [grd_pos (by omega), grd_R (by omega) (by omega), succ_cast]
 ·show S_RoomsOf_l1 N (P, b) kk (m + 1) ((rmS P P.length).1, (rmS P P.length).2, (P.length : Int)) = _
  rw [S_RoomsOf_l1]
  show cnd (decide ((P.length : Int) < (P.length : Int))) _ _ = _
  rw [cnd_df (by omega)]
def indL (m : Nat) (D : List Int) : List Bool := (List.range m).map fun (j : Nat) => D.contains (j : Int)
theorem indL_len (m : Nat) (D : List Int) : (indL m D).length = m := by simp [indL]
theorem indL_get {m j : Nat} {D : List Int} (h : j < m) : (indL m D).getD j false = D.contains (j : Int) := by simp [indL, List.getD_eq_getElem?_getD, h]
theorem indL_set {m j : Nat} {D : List Int} (h : j < m) : (indL m D).set j true = indL m (D ++ [(j : Int)]) := by
 apply List.ext_getElem
 ·simp [indL]
 ·intro a h1 h2
  rw [List.getElem_set]
  simp only [indL, List.getElem_map, List.getElem_range, List.contains_append]
  by_cases ha : j = a
  ·subst ha; simp
  ·rw [if_neg ha]
   have : [(j : Int)].contains (a : Int) = false := by simp; omega
   rw [this, Bool.or_false]
theorem indL_zero (m : Nat) : List.replicate m false = indL m [] := by
 apply List.ext_getElem <;> simp [indL]
abbrev RB := Option (List (List Int) × Bool)
theorem roomsI3_s (hN : 4000000 ≤ N) {P : List (List (Int × Int))} (hP : P.length ≤ 100) (hPl : ∀ x ∈ P, x.length ≤ 3000000) {b : Bool} {D : List Int} (hD : ∀ u ∈ D, ∀ j : Nat, j < P.length → nrP P u (j : Int) = true → (j : Int) ∈ D) {s : Int} {k : Nat} {st : QF} (h : BQ (nrP P) P.length s st k) (hk : k < st.1.length) (ha : ∀ x ∈ st.1, x ∉ D) (kk : List Bool × List Int → RB) : ∀ (fuel j : Nat), j ≤ P.length → P.length < fuel + j →
  I_RoomsOf_l3 N (P, b) (k : Int) kk fuel (indL P.length (D ++ (rowP (nrP P) k st j).1), (rowP (nrP P) k st j).1, (j : Int)) = kk (indL P.length (D ++ (rowP (nrP P) k st P.length).1), (rowP (nrP P) k st P.length).1) := by
 intro fuel
 induction fuel with
 | zero => intro j h1 h2; omega
 | succ fuel ih =>
  intro j h1 h2
  obtain ⟨hB, ⟨r, hr⟩, _⟩ := rowP_inv h hk j h1
  have hql := hB.qlen
  rw [I_RoomsOf_l3]
  show cnd (decide ((j : Int) < (P.length : Int))) (grd (0 ≤ (j : Int) ∧ (j : Int) < ((List.replicate (((P.length : Int)).toNat) (false : Bool)).length : Int)) _) _ = _
  by_cases hj : j < P.length
  ·have e1 : ((j : Int)).toNat = j := by omega
   have e2 : ((k : Int)).toNat = k := by omega
   have e3 : ((P.length : Int)).toNat = P.length := by omega
   have hgk : (rowP (nrP P) k st j).1.getD k 0 = st.1.getD k 0 := by rw [hr]; exact getD_app1 hk
   have hkl : k < (rowP (nrP P) k st j).1.length := by rw [hr, List.length_append]; omega
   have hrg := h.rg (st.1.getD k 0) (getD_mem hk)
   have hx : (P.getD (st.1.getD k 0).toNat []).length ≤ 3000000 := hPl _ (getD_mem (by omega))
   have hil := indL_len P.length (D ++ (rowP (nrP P) k st j).1)
   have nx := ih (j + 1) (by omega) (by omega)
   rw [rowP] at nx
   have hnr : nrP P (st.1.getD k 0) (j : Int) = nearB (P.getD (st.1.getD k 0).toNat []) (P.getD j []) := by unfold nrP; rw [e1]
   rw [cnd_dt (by omega), List.length_replicate, e3, grd_pos (by omega), hil, grd_pos (by omega), e1, indL_get hj, List.contains_append, e2, hgk]
   have skip : (!(rowP (nrP P) k st j).1.contains (j : Int) && nrP P (st.1.getD k 0) (j : Int)) = false → grd (Rg64 ((j : Int) + 1)) (I_RoomsOf_l3 N (P, b) (k : Int) kk fuel (indL P.length (D ++ (rowP (nrP P) k st j).1), (rowP (nrP P) k st j).1, ((j : Int) + 1))) = kk (indL P.length (D ++ (rowP (nrP P) k st P.length).1), (rowP (nrP P) k st P.length).1) := fun hc => by
    rw [hc, cnd_false] at nx
    rw [grd_R (by omega) (by omega), succ_cast]
    exact nx
   cases hq : (rowP (nrP P) k st j).1.contains (j : Int) with
   | true =>
    rw [Bool.or_true, Bool.not_true, cnd_false]
    exact skip (by rw [hq]; rfl)
   | false =>
    rw [Bool.or_false]
    cases hd : D.contains (j : Int) with
    | true =>
     rw [Bool.not_true, cnd_false]
     refine skip ?_
     rw [hq, Bool.not_false, Bool.true_and]
     cases hn : nrP P (st.1.getD k 0) (j : Int) with
     | false => rfl
     | true =>
      exfalso
      have he : (((st.1.getD k 0).toNat : Nat) : Int) = st.1.getD k 0 := by omega
      have := hD (j : Int) (by simpa using hd) (st.1.getD k 0).toNat (by omega) (by rw [he, nrP_sym]; exact hn)
      rw [he] at this
      exact ha _ (getD_mem hk) this
    | false =>
     rw [Bool.not_false, cnd_true, grd_pos (by omega)]
     show grd (0 ≤ st.1.getD k 0 ∧ st.1.getD k 0 < (P.length : Int)) (grd (0 ≤ (j : Int) ∧ (j : Int) < (P.length : Int)) ((I_AreNear N (P.getD (st.1.getD k 0).toNat []) (P.getD j [])).bind _)) = _
     rw [grd_pos (by omega), grd_pos (by omega), nearI_s hN hx, Option.bind_some]
     cases hn : nearB (P.getD (st.1.getD k 0).toNat []) (P.getD j []) with
     | true =>
      rw [hnr, hn, hq, Bool.not_false, Bool.true_and, cnd_true, ← List.append_assoc, ← indL_set hj] at nx
      rw [cnd_true, grd_pos (by omega), grd_R (by omega) (by omega), succ_cast]
      exact nx
     | false =>
      rw [cnd_false]
      exact skip (by rw [hnr, hn, Bool.and_false])
  ·obtain rfl : j = P.length := by omega
   rw [cnd_df (by omega)]
theorem roomsI2_s (hN : 4000000 ≤ N) {P : List (List (Int × Int))} (hP : P.length ≤ 100) (hPl : ∀ x ∈ P, x.length ≤ 3000000) {b : Bool} {D : List Int} (hD : ∀ u ∈ D, ∀ j : Nat, j < P.length → nrP P u (j : Int) = true → (j : Int) ∈ D) {s : Int} (kk : List Bool × List Int → RB) : ∀ (fuel k : Nat) (st : QF), BQ (nrP P) P.length s st k → k ≤ st.1.length → P.length < fuel + k → (∀ x ∈ st.1, x ∉ D) →
  I_RoomsOf_l2 N (P, b) kk fuel (indL P.length (D ++ st.1), st.1, (k : Int)) = kk (indL P.length (D ++ (bfsP (nrP P) P.length fuel k st).1), (bfsP (nrP P) P.length fuel k st).1) := by
 intro fuel
 induction fuel with
 | zero => intro k st h h1 h2; have := h.qlen; omega
 | succ fuel ih =>
  intro k st h h1 h2 ha
  have hql := h.qlen
  rw [I_RoomsOf_l2, bfsP]
  by_cases hk : k < st.1.length
  ·have hn := h.next hk
   rw [cnd_dt (by omega), if_pos hk]
   have := roomsI3_s hN hP hPl (b := b) hD h hk ha (fun (x : (List Bool) × (List Int)) =>
     match x with
     | (l803, l804) =>
      grd (Rg64 ((k : Int) + (1 : Int))) <|
      I_RoomsOf_l2 N (P, b) kk fuel (l803, l804, ((k : Int) + (1 : Int)))) N 0 (by omega) (by omega)
   refine this.trans ?_
   show grd _ _ = _
   rw [grd_R (by omega) (by omega), succ_cast]
   exact ih (k + 1) _ hn.1 (by omega) (by omega) (rowP_apart (nrP_sym P) hD h hk ha _ (Nat.le_refl _))
  ·rw [cnd_df (by omega), if_neg hk]
theorem roomsI_s (hN : 4000000 ≤ N) {P : List (List (Int × Int))} (hP : P.length ≤ 100) (hPl : ∀ x ∈ P, x.length ≤ 3000000) {b : Bool} (kk : List (List Int) → RB) : I_RoomsOf_l1 N (P, b) kk N ([], indL P.length [], (0 : Int)) = kk (rmS P P.length).1 := by
 refine (fold (N := N) (len := P.length) (σ := List (List Int) × List Int) (st := fun i => rmS P i) (F := fun m s => I_RoomsOf_l1 N (P, b) kk m (s.1.1, indL P.length s.1.2, s.2)) (fin := kk (rmS P P.length).1) (by omega) (fun m i hi => ?_) fun m => ?_)
 ·show I_RoomsOf_l1 N (P, b) kk (m + 1) ((rmS P i).1, indL P.length (rmS P i).2, (i : Int)) = I_RoomsOf_l1 N (P, b) kk m ((rmS P (i + 1)).1, indL P.length (rmS P (i + 1)).2, ((i + 1 : Nat) : Int))
  have hR := rm_inv P i (by omega)
  have hr := room_inv P hi
  have hql := hr.qlen
  have hol := hR.ln
  have e1 : ((i : Int)).toNat = i := by omega
  have e3 : ((P.length : Int)).toNat = P.length := by omega
  have hil := indL_len P.length (rmS P i).2
  rw [I_RoomsOf_l1, rmS]
  show cnd (decide ((i : Int) < (P.length : Int))) (grd (0 ≤ (i : Int) ∧ (i : Int) < ((List.replicate (((P.length : Int)).toNat) (false : Bool)).length : Int)) _) _ = _
  rw [cnd_dt (by omega), List.length_replicate, e3, grd_pos (by omega), hil, grd_pos (by omega), e1, indL_get hi]
  cases hc : (rmS P i).2.contains (i : Int) with
  | true => rw [cnd_true, cnd_true, grd_R (by omega) (by omega), succ_cast]
  | false =>
   rw [cnd_false, cnd_false, indL_set hi]
   have h2 := roomsI2_s hN hP hPl (b := b) (D := (rmS P i).2) hR.cl (s := (i : Int)) (fun (x : (List Bool) × (List Int)) =>
      match x with
      | (l760, l761) =>
       (G_Sort_int N l761).bind fun v762 =>
       grd (l761.length = v762.length) <|
       grd ((rmS P i).1.length + 1 ≤ 4294967296) <|
       grd (Rg64 ((i : Int) + (1 : Int))) <|
       I_RoomsOf_l1 N (P, b) kk m (((rmS P i).1 ++ [v762]), l760, ((i : Int) + (1 : Int)))) N 0 ([(i : Int)], [-1]) (BQ.start ⟨by omega, by omega⟩) (by simp) (by omega) (fun x hx => by rw [List.mem_singleton.1 hx]; simpa using hc)
   refine h2.trans ?_
   have e4 : bfsP (nrP P) P.length N 0 ([(i : Int)], [-1]) = bfs0 (nrP P) P.length (i : Int) := by
    rw [bfs0, bfsP_more (P.length + 1) N 0 _ (BQ.start ⟨by omega, by omega⟩) (by simp) (by omega) (by omega)]
   rw [e4]
   show (G_Sort_int N (roomQ P (i : Int))).bind _ = _
   have e5 : G_Sort_int N (roomQ P (i : Int)) = some (sortL (roomQ P (i : Int))) := by
    have h7 := (room_inv P hi).qlen
    unfold G_Sort_int; rw [grd_pos (Nat.lt_of_le_of_lt h7 (by omega))]; rfl
   rw [e5, Option.bind_some, grd_pos (by rw [sortL, List.length_mergeSort]), grd_pos (by omega), grd_R (by omega) (by omega), succ_cast]
 ·show I_RoomsOf_l1 N (P, b) kk (m + 1) ((rmS P P.length).1, indL P.length (rmS P P.length).2, (P.length : Int)) = _
  rw [I_RoomsOf_l1]
  show cnd (decide ((P.length : Int) < (P.length : Int))) _ _ = _
  rw [cnd_df (by omega)]
theorem pose_len {l : Lnk} {p : List (Int × Int)} (h : p ∈ posesL l) : p.length ≤ 8 := by
 obtain ⟨h1, h2⟩ := posesL_mem h
 have hlk : isLk l = true := by unfold isPs at h2; exact (Bool.and_eq_true _ _ ▸ h2).1
 obtain ⟨hf, _⟩ := isLk_parts hlk
 obtain ⟨hgr, h4, h5, _⟩ := isFr_parts hf
 omega
def rmOk (l : Lnk) : Bool := isLk l && decide ((posesL l).length ≤ 100)
def roomsL (l : Lnk) : List (List Int) := cnd (rmOk l) (rmS (posesL l) (posesL l).length).1 []
theorem posesP_s (hN : 4000000 ≤ N) {l : Lnk} (hp : l.f.places.length ≤ 3000000) (hg : l.ground.length ≤ 3000000) : I_poses N l = some (posesL l, rmOk l) := by
 unfold I_poses rmOk
 rw [posesI_s hN hp hg, Option.bind_some]
 show cnd (isLk l) (some (posesL l, decide (((posesL l).length : Int) ≤ 100))) (some (posesL l, false)) = _
 have e : decide (((posesL l).length : Int) ≤ 100) = decide ((posesL l).length ≤ 100) := by
  rw [Bool.eq_iff_iff, decide_eq_true_eq, decide_eq_true_eq]; omega
 rw [e]
 cases isLk l <;> rfl
theorem roomsOf_i (hN : 4000000 ≤ N) {l : Lnk} (hp : l.f.places.length ≤ 3000000) (hg : l.ground.length ≤ 3000000) : I_RoomsOf N l = some (roomsL l, rmOk l) := by
 unfold I_RoomsOf roomsL
 rw [posesP_s hN hp hg, Option.bind_some]
 show cnd (!rmOk l) _ _ = _
 cases h : rmOk l with
 | false => rfl
 | true =>
  have h100 : (posesL l).length ≤ 100 := by
   have := (Bool.and_eq_true _ _ ▸ h).2
   simpa using this
  have e3 : (((posesL l).length : Int)).toNat = (posesL l).length := by omega
  rw [Bool.not_true, cnd_false, cnd_true]
  show grd (0 ≤ ((posesL l).length : Int) ∧ ((posesL l).length : Int) ≤ 4294967296) (I_RoomsOf_l1 N (posesL l, true) _ N ([], List.replicate (((posesL l).length : Int)).toNat false, (0 : Int))) = _
  rw [grd_pos (by omega), e3, indL_zero, roomsI_s hN h100 (fun x hx => by have := pose_len hx; omega)]
theorem roomsOf_s (hN : 4000000 ≤ N) {l : Lnk} (hp : l.f.places.length ≤ 3000000) (hg : l.ground.length ≤ 3000000) : S_RoomsOf N l = some (roomsL l, rmOk l) := by
 unfold S_RoomsOf roomsL rmOk
 rw [posesS_s hN hp hg, Option.bind_some]
 show cnd (!isLk l) _ (cnd (decide (((posesL l).length : Int) > 100)) _ _) = _
 cases h : isLk l with
 | false => rfl
 | true =>
  rw [Bool.not_true, cnd_false]
  by_cases h100 : (posesL l).length ≤ 100
  ·rw [cnd_df (by omega), decide_eq_true h100]
   show S_RoomsOf_l1 N (posesL l, true) _ N ([], [], (0 : Int)) = _
   rw [roomsS_s hN h100 (fun x hx => by have := pose_len hx; omega)]; rfl
  ·rw [cnd_dt (by omega), decide_eq_false h100]; rfl
theorem roomsL_bd (l : Lnk) : (roomsL l).length ≤ 100 ∧ ∀ r ∈ roomsL l, r.length ≤ 100 := by
 unfold roomsL
 cases h : rmOk l with
 | false => exact ⟨by simp [cnd], fun r hr => by cases hr⟩
 | true =>
  have h100 : (posesL l).length ≤ 100 := by
   have := (Bool.and_eq_true _ _ ▸ h).2
   simpa using this
  have hR := rm_inv (posesL l) _ (Nat.le_refl _)
  rw [cnd_true]
  exact ⟨Nat.le_trans hR.ln h100, fun r hr => Nat.le_trans (hR.rl r hr) h100⟩
theorem equalPl_s (hN : 4000000 ≤ N) {a b : List (Int × Int)} (ha : a.length ≤ 3000000) : G_Equal_Place N a b = some (decide (a = b)) := by
 unfold G_Equal_Place
 by_cases h : a.length = b.length
 ·rw [cnd_nef (by omega)]
  refine (srch (len := a.length) (ok := fun i => a.getD i (0, 0) == b.getD i (0, 0)) (bad := some false) (fin := some true) (by omega) ?_ ?_).trans ?_
  ·intro n i hi _
   have e : ((i : Int)).toNat = i := by omega
   rw [G_Equal_Place_l1, cnd_dt (by omega), grd_pos (by omega), grd_pos (by omega), e, pair_eq, cnd_not, grd_R (by omega) (by omega), succ_cast]
  ·intro n _
   rw [G_Equal_Place_l1, cnd_df (by omega)]
  ·rw [cnd_some, cnd_bool]
   congr 1
   rw [Bool.eq_iff_iff, List.all_eq_true, decide_eq_true_eq]
   constructor
   ·intro hh
    apply List.ext_getElem h
    intro i h1 h2
    have := hh i (by simpa using h1)
    simpa [List.getD_eq_getElem?_getD, h1, h2] using this
   ·intro hh i hi; rw [hh]; simp
 ·rw [cnd_net (by omega), decide_eq_false (fun e => h (by rw [e]))]
def idxP (P : List (List (Int × Int))) (p : List (Int × Int)) : Nat → Nat → Int
 | 0, _ => -1
 | f + 1, i => cnd (decide (i < P.length)) (cnd (decide (P.getD i [] = p)) (i : Int) (idxP P p f (i + 1))) (-1)
theorem idxI_s (hN : 4000000 ≤ N) {P : List (List (Int × Int))} (hP : P.length ≤ 1000) (hPl : ∀ x ∈ P, x.length ≤ 3000000) (p : List (Int × Int)) : I_IndexOfPose N P p = some (idxP P p (P.length + 1) 0) := by
 have key : ∀ (fuel g i : Nat), i ≤ P.length → P.length < fuel + i → P.length < g + i → I_IndexOfPose_l1 N P p (fun (_ : Unit) => some (-1 : Int)) fuel (i : Int) = some (idxP P p g i) := by
  intro fuel
  induction fuel with
  | zero => intro g i h1 h2; omega
  | succ fuel ih =>
   intro g i h1 h2 h3
   obtain ⟨g, rfl⟩ : ∃ g', g = g' + 1 := ⟨g - 1, by omega⟩
   rw [I_IndexOfPose_l1, idxP]
   by_cases hi : i < P.length
   ·have e : ((i : Int)).toNat = i := by omega
    rw [cnd_dt (by omega), cnd_dt hi, grd_pos (by omega), e, equalPl_s hN (hPl _ (getD_mem hi)), Option.bind_some]
    by_cases hq : P.getD i [] = p
    ·rw [cnd_dt hq, cnd_dt hq]
    ·rw [cnd_df hq, cnd_df hq, grd_R (by omega) (by omega), succ_cast]
     exact ih g (i + 1) (by omega) (by omega) (by omega)
   ·rw [cnd_df (by omega), cnd_df hi]
 exact key N _ 0 (by omega) (by omega) (by omega)
theorem idxS_s (hN : 4000000 ≤ N) {P : List (List (Int × Int))} (hP : P.length ≤ 1000) (p : List (Int × Int)) (hp : p.length ≤ 3000000) : S_IndexOfPose N P p = some (idxP P p (P.length + 1) 0) := by
 have l2 : ∀ (i : Nat) (hi : i < P.length) (kk : Bool → Option Int), S_IndexOfPose_l2 N P p (i : Int) kk N (((((P.getD ((i : Int)).toNat []).length : Int)) == (p.length : Int)), (0 : Int)) = kk (decide (P.getD i [] = p)) := by
  intro i hi kk
  have e : ((i : Int)).toNat = i := by omega
  rw [e]
  by_cases hl : (P.getD i []).length = p.length
  ·have hb : ((((P.getD i []).length : Int)) == (p.length : Int)) = true := by rw [beq_iff_eq]; omega
   rw [hb]
   have key : ∀ (fuel k : Nat) (sm : Bool), k ≤ p.length → p.length < fuel + k → sm = ((List.range k).all fun j => (P.getD i []).getD j (0, 0) == p.getD j (0, 0)) → S_IndexOfPose_l2 N P p (i : Int) kk fuel (sm, (k : Int)) = kk ((List.range p.length).all fun j => (P.getD i []).getD j (0, 0) == p.getD j (0, 0)) := by
    intro fuel
    induction fuel with
    | zero => intro k sm h1 h2; omega
    | succ fuel ih =>
     intro k sm h1 h2 hs
     rw [S_IndexOfPose_l2]
     by_cases hk : k < p.length
     ·have e2 : ((k : Int)).toNat = k := by omega
      rw [cnd_dt (by omega)]
      cases sm with
      | true =>
       rw [cnd_true, e, e2, grd_pos (by omega), grd_pos (by omega), grd_R (by omega) (by omega), succ_cast, pair_eq]
       refine ih (k + 1) _ (by omega) (by omega) ?_
       rw [List.range_succ, List.all_append, ← hs]; simp
      | false =>
       rw [cnd_false]
       congr 1
       rw [eq_comm, List.all_eq_false]
       rw [eq_comm, List.all_eq_false] at hs
       obtain ⟨j, hj, hj2⟩ := hs
       exact ⟨j, by simp at hj ⊢; omega, hj2⟩
     ·obtain rfl : k = p.length := by omega
      rw [cnd_df (by omega), hs]
   refine (key N 0 true (by omega) (by omega) (by simp)).trans ?_
   congr 1
   rw [Bool.eq_iff_iff, List.all_eq_true, decide_eq_true_eq]
   constructor
   ·intro hh
    apply List.ext_getElem hl
    intro j h1 h2
    have := hh j (by simpa using h2)
    have g1 : (P.getD i []).getD j (0, 0) = (P.getD i [])[j] := by rw [List.getD_eq_getElem?_getD, List.getElem?_eq_getElem h1]; rfl
    have g2 : p.getD j (0, 0) = p[j] := by rw [List.getD_eq_getElem?_getD, List.getElem?_eq_getElem h2]; rfl
    rw [g1, g2] at this
    simpa using this
   ·intro hh j hj; rw [hh]; simp
  ·have hb : ((((P.getD i []).length : Int)) == (p.length : Int)) = false := by rw [beq_eq_false_iff_ne]; omega
   rw [hb, decide_eq_false (fun e => hl (by rw [e]))]
   obtain ⟨M, rfl⟩ : ∃ M, N = M + 1 := ⟨N - 1, by omega⟩
   rw [S_IndexOfPose_l2, cnd_false, cnd_same]
 have key : ∀ (fuel g i : Nat), i ≤ P.length → P.length < fuel + i → P.length < g + i → S_IndexOfPose_l1 N P p (fun (_ : Unit) => some (-1 : Int)) fuel (i : Int) = some (idxP P p g i) := by
  intro fuel
  induction fuel with
  | zero => intro g i h1 h2; omega
  | succ fuel ih =>
   intro g i h1 h2 h3
   obtain ⟨g, rfl⟩ : ∃ g', g = g' + 1 := ⟨g - 1, by omega⟩
   rw [S_IndexOfPose_l1, idxP]
   by_cases hi : i < P.length
   ·rw [cnd_dt (by omega), cnd_dt hi, grd_pos (by omega), l2 i hi]
    by_cases hq : P.getD i [] = p
    ·rw [cnd_dt hq, cnd_dt hq]
    ·rw [cnd_df hq, cnd_df hq, grd_R (by omega) (by omega), succ_cast]
     exact ih g (i + 1) (by omega) (by omega) (by omega)
   ·rw [cnd_df (by omega), cnd_df hi]
 exact key N _ 0 (by omega) (by omega) (by omega)
def roomOf (l : Lnk) : List Int := ((roomsL l).find? fun r => r.contains (idxP (posesL l) l.f.places ((posesL l).length + 1) 0)).getD []
theorem roomOf_bd (l : Lnk) : (roomOf l).length ≤ 100 := by
 unfold roomOf
 cases h : (roomsL l).find? fun r => r.contains (idxP (posesL l) l.f.places ((posesL l).length + 1) 0) with
 | none => simp
 | some r => exact (roomsL_bd l).2 r (List.mem_of_find?_eq_some h)
theorem find_step {R : List (List Int)} {f : List Int → Bool} {i : Nat} (hi : i < R.length) : (R.drop i).find? f = cnd (f (R.getD i [])) (some (R.getD i [])) ((R.drop (i + 1)).find? f) := by
 have hd : R.drop i = R.getD i [] :: R.drop (i + 1) := by
  rw [List.drop_eq_getElem_cons hi, List.getD_eq_getElem?_getD, List.getElem?_eq_getElem hi]; rfl
 rw [hd, List.find?_cons]
 cases f (R.getD i []) <;> rfl
theorem roomOf_i (hN : 4000000 ≤ N) {l : Lnk} (hp : l.f.places.length ≤ 3000000) (hg : l.ground.length ≤ 3000000) : I_RoomOf N l = some (roomOf l) := by
 have hbd := roomsL_bd l
 have hpl := posesL_len l
 unfold I_RoomOf roomOf
 rw [roomsOf_i hN hp hg, Option.bind_some]
 show cnd (!rmOk l) _ _ = _
 cases h : rmOk l with
 | false =>
  have : roomsL l = [] := by unfold roomsL; rw [h]; rfl
  rw [this]; rfl
 | true =>
  rw [Bool.not_true, cnd_false, posesI_s hN hp hg, Option.bind_some]
  show (I_IndexOfPose N (posesL l) l.f.places).bind _ = _
  rw [idxI_s hN (by omega) (fun x hx => by have := pose_len hx; omega), Option.bind_some]
  generalize idxP (posesL l) l.f.places ((posesL l).length + 1) 0 = at_
  have key : ∀ (fuel i : Nat), i ≤ (roomsL l).length → (roomsL l).length < fuel + i → I_RoomOf_l1 N (roomsL l, true) at_ (fun (_ : Unit) => some ([] : List Int)) fuel (i : Int) = some ((((roomsL l).drop i).find? fun r => r.contains at_).getD []) := by
   intro fuel
   induction fuel with
   | zero => intro i h1 h2; omega
   | succ fuel ih =>
    intro i h1 h2
    rw [I_RoomOf_l1]
    show cnd (decide ((i : Int) < ((roomsL l).length : Int))) (grd (0 ≤ (i : Int) ∧ (i : Int) < ((roomsL l).length : Int)) ((G_Contains_int N ((roomsL l).getD ((i : Int)).toNat []) at_).bind _)) _ = _
    by_cases hi : i < (roomsL l).length
    ·have e : ((i : Int)).toNat = i := by omega
     have hrl := hbd.2 _ (getD_mem (d := []) hi)
     rw [cnd_dt (by omega), grd_pos (by omega), e, contains_s N hN (by omega), Option.bind_some, find_step hi]
     cases hc : ((roomsL l).getD i []).contains at_ with
     | true =>
      rw [cnd_true, cnd_true]
      show some ((roomsL l).getD ((i : Int)).toNat []) = _
      rw [e]; rfl
     | false =>
      rw [cnd_false, cnd_false, grd_R (by omega) (by omega), succ_cast]
      exact ih (i + 1) (by omega) (by omega)
    ·obtain rfl : i = (roomsL l).length := by omega
     rw [cnd_df (by omega), List.drop_length]; rfl
  have := key N 0 (by omega) (by omega)
  rw [List.drop_zero] at this
  exact this
theorem roomOf_s (hN : 4000000 ≤ N) {l : Lnk} (hp : l.f.places.length ≤ 3000000) (hg : l.ground.length ≤ 3000000) : S_RoomOf N l = some (roomOf l) := by
 have hbd := roomsL_bd l
 have hpl := posesL_len l
 unfold S_RoomOf roomOf
 rw [roomsOf_s hN hp hg, Option.bind_some, posesS_s hN hp hg, Option.bind_some]
 show (S_IndexOfPose N (posesL l) l.f.places).bind _ = _
 rw [idxS_s hN (by omega) _ hp, Option.bind_some]
 generalize idxP (posesL l) l.f.places ((posesL l).length + 1) 0 = at_
 cases h : rmOk l with
 | false =>
  have : roomsL l = [] := by unfold roomsL; rw [h]; rfl
  rw [this]
  obtain ⟨M, rfl⟩ : ∃ M, N = M + 1 := ⟨N - 1, by omega⟩
  rw [S_RoomOf_l1, cnd_df (by simp)]; rfl
 | true =>
  have key : ∀ (fuel i : Nat), i ≤ (roomsL l).length → (roomsL l).length < fuel + i → S_RoomOf_l1 N (roomsL l, true) at_ (fun (_ : Unit) => some ([] : List Int)) fuel (i : Int) = some ((((roomsL l).drop i).find? fun r => r.contains at_).getD []) := by
   intro fuel
   induction fuel with
   | zero => intro i h1 h2; omega
   | succ fuel ih =>
    intro i h1 h2
    rw [S_RoomOf_l1]
    show cnd (decide ((i : Int) < ((roomsL l).length : Int))) (cnd true (grd (0 ≤ (i : Int) ∧ (i : Int) < ((roomsL l).length : Int)) ((S_l2Has N ((roomsL l).getD ((i : Int)).toNat []) at_).bind _)) _) _ = _
    by_cases hi : i < (roomsL l).length
    ·have e : ((i : Int)).toNat = i := by omega
     have hrl := hbd.2 _ (getD_mem (d := []) hi)
     rw [cnd_dt (by omega), cnd_true, grd_pos (by omega), e, l2Has_s N hN (by omega), Option.bind_some, find_step hi]
     cases hc : ((roomsL l).getD i []).contains at_ with
     | true =>
      rw [cnd_true, cnd_true]
      show grd (((roomsL l).getD ((i : Int)).toNat []).length ≤ 4294967296) (some ([] ++ (roomsL l).getD ((i : Int)).toNat [])) = _
      rw [e, grd_pos (by omega)]; rfl
     | false =>
      rw [cnd_false, cnd_false, grd_R (by omega) (by omega), succ_cast]
      exact ih (i + 1) (by omega) (by omega)
    ·obtain rfl : i = (roomsL l).length := by omega
     rw [cnd_df (by omega), List.drop_length]; rfl
  have := key N 0 (by omega) (by omega)
  rw [List.drop_zero] at this
  exact this
end Go.Proofs.YtmoamglpocjhgaaGreat
namespace Go.Proofs.YtmoamglpocjhgaaGreat
open Go.RowKit
def G_Index_Place_l1 (N : Nat) (s_0 : List (Int × Int)) (v_1 : Int × Int) (k : Unit → Option (Int)) : Nat → Int → Option (Int)
 | 0, _ => none
 | n + 1, x3 =>
  cnd (decide (x3 < (s_0.length : Int))) (
   grd (0 ≤ x3 ∧ x3 < (s_0.length : Int)) <|
   cnd ((v_1.1 == (s_0.getD ((x3).toNat) (0, 0)).1) && (v_1.2 == (s_0.getD ((x3).toNat) (0, 0)).2)) (
    some x3) (
    grd (Rg64 (x3 + (1 : Int))) <|
    G_Index_Place_l1 N s_0 v_1 k n (x3 + (1 : Int)))) (
   k ())
def G_Index_Place (N : Nat) (s_0 : List (Int × Int)) (v_1 : Int × Int) : Option (Int) :=
 G_Index_Place_l1 N s_0 v_1 (fun (_ : Unit) =>
    some (-1 : Int)) N (0 : Int)
set_option maxRecDepth 20000 in
set_option maxHeartbeats 1600000 in
theorem G_Index_Place_w (N : Nat) (s_0 : List (Int × Int)) (v_1 : Int × Int) (r : Int) (h : G_Index_Place N s_0 v_1 = some r) : PCall Tryz.prog 95 [.ro false (.pairs s_0), .agg [.int v_1.1, .int v_1.2]] [] (.int r) := by
 unfold G_Index_Place at h
 refine pcall_intro (TT := TT) tt Tryz.func95 rfl rfl Tryz.ntmps95 (congrArg Array.toList Tryz.results95) rfl rfl fun w0 => ?_
 refine vSeq ?_
 refine vRegion ?_
 refine oBox rfl rfl rfl rfl rfl rfl rfl rfl rfl ?_
 refine oVal tt rfl rfl rfl rfl rfl trivial ?_
 refine vNil ?_
 change VC _ _ _ _
 iterate 2 refine vSeq ?_
 refine vRegion ?_
 iterate 3 refine oVal tt rfl rfl rfl rfl rfl trivial ?_
 refine vNil ?_
 change VC _ _ _ _
 refine vJoin (F := fun k => G_Index_Place_l1 N s_0 v_1 k) h (α := Unit) (J := fun (_ : Unit) => (⟨[], [], []⟩ : PS)) ?_ ?_
 ·rintro ⟨⟩ h
  show VC _ _ _ (⟨[], [], []⟩ : PS)
  refine vSeq ?_
  refine vRegion ?_
  refine oVal tt rfl rfl rfl rfl rfl trivial ?_
  refine vNil ?_
  change VC _ _ _ _
  refine vRet ?_
  change ∃ _, _
  cases h
  exact ⟨[], _, rfl, trivial, rfl, (.eq rfl), rfl⟩
 ·intro k h
  refine vBlock ?_
  refine vLoopS (α := Int) (fun (x3 : Int) => (⟨[(0, .ro false (.pairs s_0)), (3, .ptr 3 0), (7, .int (s_0.length : Int)), (8, .int x3)], [], [(3, some [.int v_1.1, .int v_1.2])]⟩ : PS)) (G_Index_Place_l1 N s_0 v_1 k) h (En.of ⟨rfl, rfl, rfl, rfl, trivial⟩ trivial ⟨rfl, trivial⟩) (fun _ => rfl) ?_
  rintro n x3 h
  rw [G_Index_Place_l1] at h
  show VC _ _ _ (⟨[(0, .ro false (.pairs s_0)), (3, .ptr 3 0), (7, .int (s_0.length : Int)), (8, .int x3)], [], [(3, some [.int v_1.1, .int v_1.2])]⟩ : PS)
  refine vSeq ?_
  refine vRegion ?_
  refine oVal tt rfl rfl rfl rfl rfl trivial ?_
  refine vNil ?_
  change VC _ _ _ _
  refine vSeq ?_
  refine vCond rfl (fun hb1 => ?_) (fun hb1 => ?_)
  ·replace h := cnd_t hb1 h
   refine vSkip ?_
   change VC _ _ _ _
   refine vSeq ?_
   refine vBlock ?_
   refine vSeq ?_
   refine vRegion ?_
   iterate 2 refine oVal tt rfl rfl rfl rfl rfl trivial ?_
   refine vNil ?_
   change VC _ _ _ _
   refine vSeq ?_
   refine vRegionD (by kernel_rfl) (by kernel_rfl) ?_
   iterate 3 refine cVal tt rfl (wNone rfl) rfl rfl rfl trivial ?_
   obtain ⟨hg2, h⟩ := grd_inv h
   refine cVal tt rfl (wNone rfl) rfl rfl rfl hg2 ?_
   refine cVal tt rfl (wNone rfl) rfl rfl rfl trivial ?_
   refine cPure (wNone rfl) (pEqP eqP_impl_Place rfl rfl rfl) rfl rfl ?_
   refine cNil ?_
   change VC _ _ _ _
   refine vCond rfl (fun hb3 => ?_) (fun hb3 => ?_)
   ·replace h := cnd_t hb3 h
    refine vSeq ?_
    refine vRegion ?_
    iterate 2 refine oVal tt rfl rfl rfl rfl rfl trivial ?_
    refine vNil ?_
    change VC _ _ _ _
    refine vRet ?_
    change ∃ _, _
    cases h
    exact ⟨[], _, rfl, trivial, rfl, (.eq rfl), rfl⟩
   ·replace h := cnd_f hb3 h
    refine vSkip ?_
    change VC _ _ _ _
    refine vRegion ?_
    obtain ⟨hg4, h⟩ := grd_inv h
    refine oVal tt rfl rfl rfl rfl rfl hg4 ?_
    refine oVal tt rfl rfl rfl rfl rfl trivial ?_
    refine vNil ?_
    change ∃ _, _
    exact ⟨(x3 + (1 : Int)), (En.of ⟨rfl, rfl, rfl, rfl, trivial⟩ trivial ⟨rfl, trivial⟩), h⟩
  ·replace h := cnd_f hb1 h
   refine vExit ?_
   change ∃ _, _
   exact ⟨(), (En.of trivial trivial trivial), h⟩
def G_Contains_Place (N : Nat) (s_0 : List (Int × Int)) (v_1 : Int × Int) : Option (Bool) :=
 (G_Index_Place N s_0 v_1).bind fun v1 =>
 some (decide (v1 ≥ (0 : Int)))
set_option maxRecDepth 20000 in
set_option maxHeartbeats 1600000 in
theorem G_Contains_Place_w (N : Nat) (s_0 : List (Int × Int)) (v_1 : Int × Int) (r : Bool) (h : G_Contains_Place N s_0 v_1 = some r) : PCall Tryz.prog 55 [.ro false (.pairs s_0), .agg [.int v_1.1, .int v_1.2]] [] (.bool r) := by
 unfold G_Contains_Place at h
 refine pcall_intro (TT := TT) tt Tryz.func55 rfl rfl Tryz.ntmps55 (congrArg Array.toList Tryz.results55) rfl rfl fun w0 => ?_
 refine vSeq ?_
 refine vRegion ?_
 refine oBox rfl rfl rfl rfl rfl rfl rfl rfl rfl ?_
 refine oVal tt rfl rfl rfl rfl rfl trivial ?_
 refine vNil ?_
 change VC _ _ _ _
 refine vSeq ?_
 refine vRegion ?_
 iterate 2 refine oVal tt rfl rfl rfl rfl rfl trivial ?_
 obtain ⟨v1, hc1, h⟩ := bind_inv h
 refine oCall (G_Index_Place_w N s_0 v_1 v1 hc1) rfl rfl rfl rfl rfl rfl rfl rfl ⟨rfl, ⟨rfl, rfl, trivial⟩, trivial⟩ ?_
 iterate 2 refine oVal tt rfl rfl rfl rfl rfl trivial ?_
 refine vNil ?_
 change VC _ _ _ _
 refine vRet ?_
 change ∃ _, _
 cases h
 exact ⟨[], _, rfl, trivial, rfl, (.eq rfl), rfl⟩
def S_TraceOf_l3 (N : Nat) (l_0 : Lnk) (joint_1 : Int) (v1 : List Int) (v2 : (List (List (Int × Int))) × Bool) (y284 : Int) (x356 : Int) (k : Bool → Option (List (Int × Int))) : Nat → (Bool × Int) → Option (List (Int × Int))
 | 0, _ => none
 | n + 1, (found367, i368) =>
  cnd (decide (i368 < (v1.length : Int))) (
   cnd (decide (joint_1 ≥ (0 : Int))) (
    cnd (decide (joint_1 < (l_0.f.places.length : Int))) (
     cnd found367 (
      grd (Rg64 (i368 + (1 : Int))) <|
      S_TraceOf_l3 N l_0 joint_1 v1 v2 y284 x356 k n (true, (i368 + (1 : Int)))) (
      grd (0 ≤ i368 ∧ i368 < (v1.length : Int)) <|
      grd (0 ≤ (v1.getD ((i368).toNat) 0) ∧ (v1.getD ((i368).toNat) 0) < (v2.1.length : Int)) <|
      grd (0 ≤ joint_1 ∧ joint_1 < ((v2.1.getD (((v1.getD ((i368).toNat) 0)).toNat) []).length : Int)) <|
      grd (Rg64 (i368 + (1 : Int))) <|
      S_TraceOf_l3 N l_0 joint_1 v1 v2 y284 x356 k n (((((v2.1.getD (((v1.getD ((i368).toNat) 0)).toNat) []).getD ((joint_1).toNat) (0, 0)).1 == x356) && (((v2.1.getD (((v1.getD ((i368).toNat) 0)).toNat) []).getD ((joint_1).toNat) (0, 0)).2 == y284)), (i368 + (1 : Int))))) (
     k found367)) (
    k found367)) (
   k found367)
def S_TraceOf_l2 (N : Nat) (l_0 : Lnk) (joint_1 : Int) (v1 : List Int) (v2 : (List (List (Int × Int))) × Bool) (y284 : Int) (k : (List (Int × Int)) → Option (List (Int × Int))) : Nat → ((List (Int × Int)) × Int) → Option (List (Int × Int))
 | 0, _ => none
 | n + 1, (l355, x356) =>
  cnd (decide (x356 ≤ (4 : Int))) (
   S_TraceOf_l3 N l_0 joint_1 v1 v2 y284 x356 (fun (found365 : Bool) =>
      cnd found365 (
       grd (l355.length + 1 ≤ 4294967296) <|
       grd (Rg64 (x356 + (1 : Int))) <|
       S_TraceOf_l2 N l_0 joint_1 v1 v2 y284 k n ((l355 ++ ([(x356, y284)] : List (Int × Int))), (x356 + (1 : Int)))) (
       grd (Rg64 (x356 + (1 : Int))) <|
       S_TraceOf_l2 N l_0 joint_1 v1 v2 y284 k n (l355, (x356 + (1 : Int))))) N (false, (0 : Int))) (
   k l355)
def S_TraceOf_l1 (N : Nat) (l_0 : Lnk) (joint_1 : Int) (v1 : List Int) (v2 : (List (List (Int × Int))) × Bool) (k : (List (Int × Int)) → Option (List (Int × Int))) : Nat → ((List (Int × Int)) × Int) → Option (List (Int × Int))
 | 0, _ => none
 | n + 1, (l283, y284) =>
  cnd (decide (y284 ≤ (4 : Int))) (
   S_TraceOf_l2 N l_0 joint_1 v1 v2 y284 (fun (l347 : List (Int × Int)) =>
      grd (Rg64 (y284 + (1 : Int))) <|
      S_TraceOf_l1 N l_0 joint_1 v1 v2 k n (l347, (y284 + (1 : Int)))) N (l283, (0 : Int))) (
   k l283)
def S_TraceOf (N : Nat) (l_0 : Lnk) (joint_1 : Int) : Option (List (Int × Int)) :=
 (S_RoomOf N l_0).bind fun v1 =>
 (S_PosesOf N l_0).bind fun v2 =>
 S_TraceOf_l1 N l_0 joint_1 v1 v2 (fun (l185 : List (Int × Int)) =>
    some l185) N (([] : List (Int × Int)), (0 : Int))
set_option maxRecDepth 20000 in
set_option maxHeartbeats 1600000 in
theorem S_TraceOf_w (N : Nat) (l_0 : Lnk) (joint_1 : Int) (r : List (Int × Int)) (h : S_TraceOf N l_0 joint_1 = some r) : PCall Tryz.prog 20 [lD l_0, .int joint_1] [(83, .pairs r)] (.row 0 0 r.length) := by
 unfold S_TraceOf at h
 refine pcall_intro (TT := TT) tt Tryz.func20 rfl rfl Tryz.ntmps20 (congrArg Array.toList Tryz.results20) rfl rfl fun w0 => ?_
 refine vSeq ?_
 refine vRegion ?_
 refine oBox rfl rfl rfl rfl rfl rfl rfl rfl rfl ?_
 refine oVal tt rfl rfl rfl rfl rfl trivial ?_
 refine vNil ?_
 change VC _ _ _ _
 refine vSeq ?_
 refine vRegion ?_
 refine oEmpty tt (wNone rfl) rfl rfl rfl rfl ?_
 refine oVal tt rfl rfl rfl rfl rfl trivial ?_
 refine vNil ?_
 change VC _ _ _ _
 refine vSeq ?_
 refine vRegion ?_
 refine oVal tt rfl rfl rfl rfl rfl trivial ?_
 obtain ⟨v1, hc1, h⟩ := bind_inv h
 refine oCall (S_RoomOf_w N l_0 v1 hc1) rfl rfl rfl rfl rfl rfl rfl rfl ⟨⟨rfl, rfl, rfl, rfl, trivial⟩, trivial⟩ ?_
 refine oVal tt rfl rfl rfl rfl rfl trivial ?_
 refine vNil ?_
 change VC _ _ _ _
 refine vSeq ?_
 refine vRegion ?_
 refine oVal tt rfl rfl rfl rfl rfl trivial ?_
 obtain ⟨v2, hc2, h⟩ := bind_inv h
 refine oCall (S_PosesOf_w N l_0 v2 hc2) rfl rfl rfl rfl rfl rfl rfl rfl ⟨⟨rfl, rfl, rfl, rfl, trivial⟩, trivial⟩ ?_
 iterate 5 refine oVal tt rfl rfl rfl rfl rfl trivial ?_
 refine vNil ?_
 change VC _ _ _ _
 iterate 2 refine vSeq ?_
 refine vRegion ?_
 refine oVal tt rfl rfl rfl rfl rfl trivial ?_
 refine vNil ?_
 change VC _ _ _ _
 refine vJoin (F := fun k => S_TraceOf_l1 N l_0 joint_1 v1 v2 k) h (α := List (Int × Int)) (J := fun (l185 : List (Int × Int)) => (⟨[(5, .row 70 0 l185.length)], [(70, some (83, .pairs l185))], []⟩ : PS)) ?_ ?_
 ·rintro l185 h
  show VC _ _ _ (⟨[(5, .row 70 0 l185.length)], [(70, some (83, .pairs l185))], []⟩ : PS)
  refine vSeq ?_
  refine vRegion ?_
  iterate 2 refine oVal tt rfl rfl rfl rfl rfl trivial ?_
  refine vNil ?_
  change VC _ _ _ _
  refine vRet ?_
  change ∃ _, _
  cases h
  exact ⟨[70], _, rfl, ⟨rfl, trivial⟩, rfl, (.eq rfl), rfl⟩
 ·intro k h
  refine vBlock ?_
  refine vNilT 5 70 83 (.pairs []) rfl rfl rfl rfl ?_
  refine vLoopS (α := (List (Int × Int)) × Int) (fun | (l283, y284) => (⟨[(1, .int joint_1), (2, .ptr 2 0), (5, .row 70 0 l283.length), (6, .row 1150 0 v1.length), (7, .row 1180 0 v2.1.length), (9, .int y284)], [(70, some (83, .pairs l283)), (1150, some (3, .ints v1)), (1180, some (49, .pairss v2.1))], [(2, some [.int l_0.f.g.n, .ro false (.pairs l_0.f.g.bars), .ro false (.pairs l_0.f.places), .ro false (.ints l_0.ground)])]⟩ : PS)) (S_TraceOf_l1 N l_0 joint_1 v1 v2 k) h (En.of ⟨rfl, rfl, rfl, rfl, rfl, rfl, trivial⟩ ⟨rfl, rfl, rfl, trivial⟩ ⟨rfl, trivial⟩) (fun _ => rfl) ?_
  rintro n ⟨l283, y284⟩ h
  rw [S_TraceOf_l1] at h
  show VC _ _ _ (⟨[(1, .int joint_1), (2, .ptr 2 0), (5, .row 70 0 l283.length), (6, .row 1150 0 v1.length), (7, .row 1180 0 v2.1.length), (9, .int y284)], [(70, some (83, .pairs l283)), (1150, some (3, .ints v1)), (1180, some (49, .pairss v2.1))], [(2, some [.int l_0.f.g.n, .ro false (.pairs l_0.f.g.bars), .ro false (.pairs l_0.f.places), .ro false (.ints l_0.ground)])]⟩ : PS)
  iterate 2 refine vSeq ?_
  refine vRegion ?_
  iterate 2 refine oVal tt rfl rfl rfl rfl rfl trivial ?_
  refine vNil ?_
  change VC _ _ _ _
  refine vCond rfl (fun hb3 => ?_) (fun hb3 => ?_)
  ·replace h := cnd_t hb3 h
   refine vSkip ?_
   change VC _ _ _ _
   refine vSeq ?_
   refine vBlock ?_
   refine vSeq ?_
   refine vRegion ?_
   refine oVal tt rfl rfl rfl rfl rfl trivial ?_
   refine vNil ?_
   change VC _ _ _ _
   refine vJoin (F := fun k => S_TraceOf_l2 N l_0 joint_1 v1 v2 y284 k) h (α := List (Int × Int)) (J := fun (l347 : List (Int × Int)) => (⟨[(1, .int joint_1), (2, .ptr 2 0), (5, .row 70 0 l347.length), (6, .row 1150 0 v1.length), (7, .row 1180 0 v2.1.length), (9, .int y284)], [(70, some (83, .pairs l347)), (1150, some (3, .ints v1)), (1180, some (49, .pairss v2.1))], [(2, some [.int l_0.f.g.n, .ro false (.pairs l_0.f.g.bars), .ro false (.pairs l_0.f.places), .ro false (.ints l_0.ground)])]⟩ : PS)) ?_ ?_
   ·rintro l347 h
    show VC _ _ _ (⟨[(1, .int joint_1), (2, .ptr 2 0), (5, .row 70 0 l347.length), (6, .row 1150 0 v1.length), (7, .row 1180 0 v2.1.length), (9, .int y284)], [(70, some (83, .pairs l347)), (1150, some (3, .ints v1)), (1180, some (49, .pairss v2.1))], [(2, some [.int l_0.f.g.n, .ro false (.pairs l_0.f.g.bars), .ro false (.pairs l_0.f.places), .ro false (.ints l_0.ground)])]⟩ : PS)
    refine vRegion ?_
    refine oVal tt rfl rfl rfl rfl rfl trivial ?_
    obtain ⟨hg4, h⟩ := grd_inv h
    refine oVal tt rfl rfl rfl rfl rfl hg4 ?_
    refine oVal tt rfl rfl rfl rfl rfl trivial ?_
    refine vNil ?_
    change ∃ _, _
    exact ⟨(l347, (y284 + (1 : Int))), (En.of ⟨rfl, rfl, rfl, rfl, rfl, rfl, trivial⟩ ⟨rfl, rfl, rfl, trivial⟩ ⟨rfl, trivial⟩), h⟩
   ·intro k h
    refine vBlock ?_
    refine vLoopS (α := (List (Int × Int)) × Int) (fun | (l355, x356) => (⟨[(1, .int joint_1), (2, .ptr 2 0), (5, .row 70 0 l355.length), (6, .row 1150 0 v1.length), (7, .row 1180 0 v2.1.length), (9, .int y284), (10, .int x356)], [(70, some (83, .pairs l355)), (1150, some (3, .ints v1)), (1180, some (49, .pairss v2.1))], [(2, some [.int l_0.f.g.n, .ro false (.pairs l_0.f.g.bars), .ro false (.pairs l_0.f.places), .ro false (.ints l_0.ground)])]⟩ : PS)) (S_TraceOf_l2 N l_0 joint_1 v1 v2 y284 k) h (En.of ⟨rfl, rfl, rfl, rfl, rfl, rfl, rfl, trivial⟩ ⟨rfl, rfl, rfl, trivial⟩ ⟨rfl, trivial⟩) (fun _ => rfl) ?_
    rintro n ⟨l355, x356⟩ h
    rw [S_TraceOf_l2] at h
    show VC _ _ _ (⟨[(1, .int joint_1), (2, .ptr 2 0), (5, .row 70 0 l355.length), (6, .row 1150 0 v1.length), (7, .row 1180 0 v2.1.length), (9, .int y284), (10, .int x356)], [(70, some (83, .pairs l355)), (1150, some (3, .ints v1)), (1180, some (49, .pairss v2.1))], [(2, some [.int l_0.f.g.n, .ro false (.pairs l_0.f.g.bars), .ro false (.pairs l_0.f.places), .ro false (.ints l_0.ground)])]⟩ : PS)
    iterate 2 refine vSeq ?_
    refine vRegion ?_
    iterate 2 refine oVal tt rfl rfl rfl rfl rfl trivial ?_
    refine vNil ?_
    change VC _ _ _ _
    refine vCond rfl (fun hb5 => ?_) (fun hb5 => ?_)
    ·replace h := cnd_t hb5 h
     refine vSkip ?_
     change VC _ _ _ _
     refine vSeq ?_
     refine vBlock ?_
     refine vSeq ?_
     refine vRegion ?_
     refine oVal tt rfl rfl rfl rfl rfl trivial ?_
     refine vNil ?_
     change VC _ _ _ _
     iterate 2 refine vSeq ?_
     refine vRegion ?_
     refine oVal tt rfl rfl rfl rfl rfl trivial ?_
     refine vNil ?_
     change VC _ _ _ _
     refine vJoin (F := fun k => S_TraceOf_l3 N l_0 joint_1 v1 v2 y284 x356 k) h (α := Bool) (J := fun (found365 : Bool) => (⟨[(1, .int joint_1), (2, .ptr 2 0), (5, .row 70 0 l355.length), (6, .row 1150 0 v1.length), (7, .row 1180 0 v2.1.length), (9, .int y284), (10, .int x356), (11, .bool found365)], [(70, some (83, .pairs l355)), (1150, some (3, .ints v1)), (1180, some (49, .pairss v2.1))], [(2, some [.int l_0.f.g.n, .ro false (.pairs l_0.f.g.bars), .ro false (.pairs l_0.f.places), .ro false (.ints l_0.ground)])]⟩ : PS)) ?_ ?_
     ·rintro found365 h
      show VC _ _ _ (⟨[(1, .int joint_1), (2, .ptr 2 0), (5, .row 70 0 l355.length), (6, .row 1150 0 v1.length), (7, .row 1180 0 v2.1.length), (9, .int y284), (10, .int x356), (11, .bool found365)], [(70, some (83, .pairs l355)), (1150, some (3, .ints v1)), (1180, some (49, .pairss v2.1))], [(2, some [.int l_0.f.g.n, .ro false (.pairs l_0.f.g.bars), .ro false (.pairs l_0.f.places), .ro false (.ints l_0.ground)])]⟩ : PS)
      refine vSeq ?_
      refine vRegion ?_
      refine oVal tt rfl rfl rfl rfl rfl trivial ?_
      refine vNil ?_
      change VC _ _ _ _
      refine vCond rfl (fun hb6 => ?_) (fun hb6 => ?_)
      ·replace h := cnd_t hb6 h
       refine vRegion ?_
       iterate 3 refine oVal tt rfl rfl rfl rfl rfl trivial ?_
       refine oPure (wNone rfl) (pBuild bld_impl_Place rfl rfl) rfl rfl ?_
       refine oBuild tt rfl rfl rfl rfl rfl rfl rfl rfl rfl rfl rfl ?_
       obtain ⟨hg7, h⟩ := grd_inv h
       refine oAppend tt rfl rfl rfl rfl rfl rfl rfl rfl rfl rfl rfl rfl rfl rfl rfl rfl (Nat.le_of_eq (Nat.zero_add _)) hg7 ?_
       refine oVal tt rfl rfl rfl rfl rfl trivial ?_
       refine vNil ?_
       change VC _ _ _ _
       refine vRegion ?_
       refine oVal tt rfl rfl rfl rfl rfl trivial ?_
       obtain ⟨hg8, h⟩ := grd_inv h
       refine oVal tt rfl rfl rfl rfl rfl hg8 ?_
       refine oVal tt rfl rfl rfl rfl rfl trivial ?_
       refine vNil ?_
       change ∃ _, _
       exact ⟨((l355 ++ ([(x356, y284)] : List (Int × Int))), (x356 + (1 : Int))), (En.of ⟨rfl, rfl, rfl, rfl, rfl, rfl, rfl, trivial⟩ ⟨rfl, rfl, rfl, trivial⟩ ⟨rfl, trivial⟩), h⟩
      ·replace h := cnd_f hb6 h
       refine vSkip ?_
       change VC _ _ _ _
       refine vRegion ?_
       refine oVal tt rfl rfl rfl rfl rfl trivial ?_
       obtain ⟨hg9, h⟩ := grd_inv h
       refine oVal tt rfl rfl rfl rfl rfl hg9 ?_
       refine oVal tt rfl rfl rfl rfl rfl trivial ?_
       refine vNil ?_
       change ∃ _, _
       exact ⟨(l355, (x356 + (1 : Int))), (En.of ⟨rfl, rfl, rfl, rfl, rfl, rfl, rfl, trivial⟩ ⟨rfl, rfl, rfl, trivial⟩ ⟨rfl, trivial⟩), h⟩
     ·intro k h
      refine vBlock ?_
      refine vLoopS (α := Bool × Int) (fun | (found367, i368) => (⟨[(1, .int joint_1), (2, .ptr 2 0), (5, .row 70 0 l355.length), (6, .row 1150 0 v1.length), (7, .row 1180 0 v2.1.length), (9, .int y284), (10, .int x356), (11, .bool found367), (12, .int i368)], [(70, some (83, .pairs l355)), (1150, some (3, .ints v1)), (1180, some (49, .pairss v2.1))], [(2, some [.int l_0.f.g.n, .ro false (.pairs l_0.f.g.bars), .ro false (.pairs l_0.f.places), .ro false (.ints l_0.ground)])]⟩ : PS)) (S_TraceOf_l3 N l_0 joint_1 v1 v2 y284 x356 k) h (En.of ⟨rfl, rfl, rfl, rfl, rfl, rfl, rfl, rfl, rfl, trivial⟩ ⟨rfl, rfl, rfl, trivial⟩ ⟨rfl, trivial⟩) (fun _ => rfl) ?_
      rintro n ⟨found367, i368⟩ h
      rw [S_TraceOf_l3] at h
      show VC _ _ _ (⟨[(1, .int joint_1), (2, .ptr 2 0), (5, .row 70 0 l355.length), (6, .row 1150 0 v1.length), (7, .row 1180 0 v2.1.length), (9, .int y284), (10, .int x356), (11, .bool found367), (12, .int i368)], [(70, some (83, .pairs l355)), (1150, some (3, .ints v1)), (1180, some (49, .pairss v2.1))], [(2, some [.int l_0.f.g.n, .ro false (.pairs l_0.f.g.bars), .ro false (.pairs l_0.f.places), .ro false (.ints l_0.ground)])]⟩ : PS)
      iterate 2 refine vSeq ?_
      refine vRegion ?_
      iterate 5 refine oVal tt rfl rfl rfl rfl rfl trivial ?_
      refine oSplit rfl rfl rfl (fun hb10 => ?_) (fun hb10 => ?_)
      ·replace h := cnd_t hb10 h
       iterate 2 refine oValG tt rfl rfl rfl rfl rfl hb10 rfl rfl rfl trivial ?_
       refine oPick rfl rfl rfl rfl rfl hb10 rfl ?_
       refine oVal tt rfl rfl rfl rfl rfl trivial ?_
       refine oSplit rfl rfl rfl (fun hb11 => ?_) (fun hb11 => ?_)
       ·replace h := cnd_t hb11 h
        iterate 6 refine oValG tt rfl rfl rfl rfl rfl hb11 rfl rfl rfl trivial ?_
        refine oPick rfl rfl rfl rfl rfl hb11 rfl ?_
        refine vNil ?_
        change VC _ _ _ _
        refine vCond rfl (fun hb12 => ?_) (fun hb12 => ?_)
        ·replace h := cnd_t hb12 h
         refine vSkip ?_
         change VC _ _ _ _
         refine vSeq ?_
         refine vBlock ?_
         refine vRegion ?_
         iterate 2 refine oVal tt rfl rfl rfl rfl rfl trivial ?_
         refine oSplit rfl rfl rfl (fun hb13 => ?_) (fun hb13 => ?_)
         ·replace h := cnd_t hb13 h
          iterate 14 refine oNoF rfl rfl rfl rfl hb13 rfl rfl ?_
          refine oPick rfl rfl rfl rfl rfl hb13 rfl ?_
          refine oVal tt rfl rfl rfl rfl rfl trivial ?_
          refine vNil ?_
          change VC _ _ _ _
          refine vRegion ?_
          refine oVal tt rfl rfl rfl rfl rfl trivial ?_
          obtain ⟨hg14, h⟩ := grd_inv h
          refine oVal tt rfl rfl rfl rfl rfl hg14 ?_
          refine oVal tt rfl rfl rfl rfl rfl trivial ?_
          refine vNil ?_
          change ∃ _, _
          exact ⟨(true, (i368 + (1 : Int))), (En.of ⟨rfl, rfl, rfl, rfl, rfl, rfl, rfl, rfl, rfl, trivial⟩ ⟨rfl, rfl, rfl, trivial⟩ ⟨rfl, trivial⟩), h⟩
         ·replace h := cnd_f hb13 h
          iterate 3 refine oValG tt rfl rfl rfl rfl rfl hb13 rfl rfl rfl trivial ?_
          obtain ⟨hg15, h⟩ := grd_inv h
          iterate 2 refine oValG tt rfl rfl rfl rfl rfl hb13 rfl rfl rfl hg15 ?_
          obtain ⟨hg16, h⟩ := grd_inv h
          iterate 2 refine oValG tt rfl rfl rfl rfl rfl hb13 rfl rfl rfl hg16 ?_
          refine oValG tt rfl rfl rfl rfl rfl hb13 rfl rfl rfl trivial ?_
          obtain ⟨hg17, h⟩ := grd_inv h
          refine oValG tt rfl rfl rfl rfl rfl hb13 rfl rfl rfl hg17 ?_
          iterate 3 refine oValG tt rfl rfl rfl rfl rfl hb13 rfl rfl rfl trivial ?_
          refine oPure (wSome rfl rfl rfl rfl hb13) (pBuild bld_impl_Place rfl rfl) rfl rfl ?_
          refine oPure (wSome rfl rfl rfl rfl hb13) (pEqP eqP_impl_Place rfl rfl rfl) rfl rfl ?_
          refine oPickF rfl rfl rfl rfl rfl hb13 rfl ?_
          refine oVal tt rfl rfl rfl rfl rfl trivial ?_
          refine vNil ?_
          change VC _ _ _ _
          refine vRegion ?_
          refine oVal tt rfl rfl rfl rfl rfl trivial ?_
          obtain ⟨hg18, h⟩ := grd_inv h
          refine oVal tt rfl rfl rfl rfl rfl hg18 ?_
          refine oVal tt rfl rfl rfl rfl rfl trivial ?_
          refine vNil ?_
          change ∃ _, _
          exact ⟨(((((v2.1.getD (((v1.getD ((i368).toNat) 0)).toNat) []).getD ((joint_1).toNat) (0, 0)).1 == x356) && (((v2.1.getD (((v1.getD ((i368).toNat) 0)).toNat) []).getD ((joint_1).toNat) (0, 0)).2 == y284)), (i368 + (1 : Int))), (En.of ⟨rfl, rfl, rfl, rfl, rfl, rfl, rfl, rfl, rfl, trivial⟩ ⟨rfl, rfl, rfl, trivial⟩ ⟨rfl, trivial⟩), h⟩
        ·replace h := cnd_f hb12 h
         refine vExit ?_
         change ∃ _, _
         exact ⟨found367, (En.of ⟨rfl, rfl, rfl, rfl, rfl, rfl, rfl, rfl, trivial⟩ ⟨rfl, rfl, rfl, trivial⟩ ⟨rfl, trivial⟩), h⟩
       ·replace h := cnd_f hb11 h
        iterate 6 refine oNoT rfl rfl rfl rfl hb11 rfl rfl ?_
        refine oPickF rfl rfl rfl rfl rfl hb11 rfl ?_
        refine vNil ?_
        change VC _ _ _ _
        refine vCondF rfl rfl ?_
        refine vExit ?_
        change ∃ _, _
        exact ⟨found367, (En.of ⟨rfl, rfl, rfl, rfl, rfl, rfl, rfl, rfl, trivial⟩ ⟨rfl, rfl, rfl, trivial⟩ ⟨rfl, trivial⟩), h⟩
      ·replace h := cnd_f hb10 h
       iterate 2 refine oNoT rfl rfl rfl rfl hb10 rfl rfl ?_
       refine oPickF rfl rfl rfl rfl rfl hb10 rfl ?_
       refine oVal tt rfl rfl rfl rfl rfl trivial ?_
       iterate 6 refine oNoT rfl rfl rfl rfl rfl rfl rfl ?_
       refine oPickF rfl rfl rfl rfl rfl rfl rfl ?_
       refine vNil ?_
       change VC _ _ _ _
       refine vCondF rfl rfl ?_
       refine vExit ?_
       change ∃ _, _
       exact ⟨found367, (En.of ⟨rfl, rfl, rfl, rfl, rfl, rfl, rfl, rfl, trivial⟩ ⟨rfl, rfl, rfl, trivial⟩ ⟨rfl, trivial⟩), h⟩
    ·replace h := cnd_f hb5 h
     refine vExit ?_
     change ∃ _, _
     exact ⟨l355, (En.of ⟨rfl, rfl, rfl, rfl, rfl, rfl, trivial⟩ ⟨rfl, rfl, rfl, trivial⟩ ⟨rfl, trivial⟩), h⟩
  ·replace h := cnd_f hb3 h
   refine vExit ?_
   change ∃ _, _
   exact ⟨l283, (En.of ⟨rfl, trivial⟩ ⟨rfl, trivial⟩ trivial), h⟩
end Go.Proofs.YtmoamglpocjhgaaGreat
namespace Go.Proofs.YtmoamglpocjhgaaGreat
open Go.RowKit Go.Deep Go.Sort Go.Shelf
def cmpZq (a b : Int) : Int := if a < b then -1 else if a > b then 1 else 0
def cmpQ (x y : Int × Int) : Int := if cmpZq x.2 y.2 ≠ 0 then cmpZq x.2 y.2 else cmpZq x.1 y.1
def encQ (x : Int × Int) : List Value := [.int .i64 x.1, .int .i64 x.2]
theorem ltQ (x y : Int × Int) : ltOf cmpQ x y = decide (x.2 < y.2 ∨ (x.2 = y.2 ∧ x.1 < y.1)) := by
 unfold ltOf cmpQ cmpZq
 apply decide_eq_decide.2
 by_cases h1 : x.2 < y.2
 ·simp [h1]
 ·by_cases h2 : x.2 > y.2
  ·simp [h1, h2]; omega
  ·by_cases h3 : x.1 < y.1
   ·simp [h1, h2, h3]; omega
   ·by_cases h4 : x.1 > y.1
    ·simp [h1, h2, h3, h4]
    ·simp [h1, h2, h3, h4]
theorem swoQ : SWO (ltOf cmpQ) where
 irrefl x := by rw [ltQ]; simp
 trans x y z h1 h2 := by rw [ltQ] at *; simp at *; omega
 ntrans x y z h1 h2 := by rw [ltQ] at *; simp at *; omega
theorem totQ (x y : Int × Int) (h1 : ltOf cmpQ x y = false) (h2 : ltOf cmpQ y x = false) : x = y := by
 rw [ltQ] at *; simp at *
 have e1 : x.1 = y.1 := by omega
 have e2 : x.2 = y.2 := by omega
 exact Prod.ext e1 e2
def layP_ren : Go.Shelf.Ren := ⟨fun | 6 => 56 | 15 => 97 | 14 => 96 | 28 => 124 | 29 => 125 | 20 => 116 | 21 => 117 | 22 => 118 | 23 => 119 | 24 => 120 | 25 => 121 | 26 => 122 | 27 => 123 | 46 => 145 | 47 => 146 | 48 => 147 | 49 => 148 | 50 => 149 | 57 => 169 | n => n, fun | 22 => 49 | 24 => 83 | 25 => 89 | 3 => 3 | 39 => 114 | 0 => 0 | 53 => 133 | 55 => 135 | 4 => 4 | 46 => 126 | 45 => 125 | 50 => 130 | 5 => 5 | 9 => 9 | 66 => 146 | 70 => 150 | 76 => 161 | 77 => 162 | n => n, fun | n => n⟩
theorem layP : Go.Proofs.SlLaysF0.n6 Tryz.prog layP_ren := {
 mixed := by kernel_rfl
 f6 := ⟨Tryz.f56.name, by decide, Tryz.func56.trans (congrArg some (by kernel_rfl))⟩
 f14 := ⟨Tryz.f96.name, by decide, Tryz.func96.trans (congrArg some (by kernel_rfl))⟩
 f15 := Tryz.func97.trans (congrArg some (by kernel_rfl))
 f20 := ⟨Tryz.f116.name, by decide, Tryz.func116.trans (congrArg some (by kernel_rfl))⟩
 f21 := ⟨Tryz.f117.name, by decide, Tryz.func117.trans (congrArg some (by kernel_rfl))⟩
 f22 := ⟨Tryz.f118.name, by decide, Tryz.func118.trans (congrArg some (by kernel_rfl))⟩
 f23 := ⟨Tryz.f119.name, by decide, Tryz.func119.trans (congrArg some (by kernel_rfl))⟩
 f24 := ⟨Tryz.f120.name, by decide, Tryz.func120.trans (congrArg some (by kernel_rfl))⟩
 f25 := ⟨Tryz.f121.name, by decide, Tryz.func121.trans (congrArg some (by kernel_rfl))⟩
 f26 := ⟨Tryz.f122.name, by decide, Tryz.func122.trans (congrArg some (by kernel_rfl))⟩
 f27 := ⟨Tryz.f123.name, by decide, Tryz.func123.trans (congrArg some (by kernel_rfl))⟩
 f28 := Tryz.func124.trans (congrArg some (by kernel_rfl))
 f29 := Tryz.func125.trans (congrArg some (by kernel_rfl))
 f46 := ⟨Tryz.f145.name, by decide, Tryz.func145.trans (congrArg some (by kernel_rfl))⟩
 f47 := Tryz.func146.trans (congrArg some (by kernel_rfl))
 f48 := Tryz.func147.trans (congrArg some (by kernel_rfl))
 f49 := ⟨Tryz.f148.name, by decide, Tryz.func148.trans (congrArg some (by kernel_rfl))⟩
 f50 := ⟨Tryz.f149.name, by decide, Tryz.func149.trans (congrArg some (by kernel_rfl))⟩
 f57 := ⟨Tryz.f169.name, by decide, Tryz.func169.trans (congrArg some (by kernel_rfl))⟩
 t0 := Tryz.underlying0
 a0 := Tryz.isAgg0
 z0 := Tryz.sizeOf0
 v0 := Tryz.zeroValue0
 t3 := Tryz.underlying3
 a3 := Tryz.isAgg3
 z3 := Tryz.sizeOf3
 v3 := Tryz.zeroValue3
 t4 := Tryz.underlying4
 a4 := Tryz.isAgg4
 z4 := Tryz.sizeOf4
 v4 := Tryz.zeroValue4
 t5 := Tryz.underlying5
 a5 := Tryz.isAgg5
 z5 := Tryz.sizeOf5
 v5 := Tryz.zeroValue5
 t9 := Tryz.underlying9
 a9 := Tryz.isAgg9
 z9 := Tryz.sizeOf9
 v9 := Tryz.zeroValue9
 t22 := Tryz.underlying49
 a22 := Tryz.isAgg49
 z22 := Tryz.sizeOf49
 v22 := Tryz.zeroValue49
 t25 := Tryz.underlying89
 a25 := Tryz.isAgg89
 z25 := Tryz.sizeOf89
 v25 := Tryz.zeroValue89
 t39 := Tryz.underlying114
 a39 := Tryz.isAgg114
 z39 := Tryz.sizeOf114
 v39 := Tryz.zeroValue114
 t45 := Tryz.underlying125
 a45 := Tryz.isAgg125
 z45 := Tryz.sizeOf125
 v45 := Tryz.zeroValue125
 t46 := Tryz.underlying126
 a46 := Tryz.isAgg126
 z46 := Tryz.sizeOf126
 v46 := Tryz.zeroValue126
 t50 := Tryz.underlying130
 a50 := Tryz.isAgg130
 z50 := Tryz.sizeOf130
 v50 := Tryz.zeroValue130
 t53 := Tryz.underlying133
 a53 := Tryz.isAgg133
 z53 := Tryz.sizeOf133
 v53 := Tryz.zeroValue133
 t55 := Tryz.underlying135
 a55 := Tryz.isAgg135
 z55 := Tryz.sizeOf135
 v55 := Tryz.zeroValue135
 t66 := Tryz.underlying146
 a66 := Tryz.isAgg146
 z66 := Tryz.sizeOf146
 v66 := Tryz.zeroValue146
 t70 := Tryz.underlying150
 a70 := Tryz.isAgg150
 z70 := Tryz.sizeOf150
 v70 := Tryz.zeroValue150
 t76 := Tryz.underlying161
 a76 := Tryz.isAgg161
 z76 := Tryz.sizeOf161
 v76 := Tryz.zeroValue161
 t77 := Tryz.underlying162
 a77 := Tryz.isAgg162
 z77 := Tryz.sizeOf162
 v77 := Tryz.zeroValue162 }
set_option maxHeartbeats 1000000 in
theorem cmpIntsQ_c (x y : Int) (W : World) : Calls Tryz.prog 58 #[.int .i64 x, .int .i64 y] W fun e w' => e = .returned (.int .i64 (cmpZq x y)) ∧ w' = W := by
 unfold cmpZq
 go_enter Tryz.func58, Tryz.ntmps58
 go_wp2
 all_goals (go_ret; exact ⟨rfl, rfl⟩)
set_option maxHeartbeats 1000000 in
theorem cmpPl_c (x y : Int × Int) (W : World) : Calls Tryz.prog 57 #[.agg #[.int .i64 x.1, .int .i64 x.2], .agg #[.int .i64 y.1, .int .i64 y.2]] W fun e w' => e = .returned (.int .i64 (cmpQ x y)) ∧ ∃ q os', w' = grow (W.drewN q) os' := by
 have hcon := fun a b W' => cmpIntsQ_c a b W'
 unfold cmpQ
 generalize cmpZq = Z at hcon ⊢
 go_enter Tryz.func57, Tryz.ntmps57
 go_wp2_with (go_at_call 58; refine (hcon _ _ _).mono ?_; rintro e w' ⟨rfl, rfl⟩)
 all_goals first
  | (go_ret; exact ⟨rfl, 0, _, by rw [alloc_eq_grow, alloc_eq_grow, grow_grow]; rfl⟩)
  | (exfalso; simp_all; done)
def srtQ (l : List (Int × Int)) : List (Int × Int) := l.mergeSort fun x y => !(ltOf cmpQ) y x
theorem srtQ_len (l : List (Int × Int)) : (srtQ l).length = l.length := by simp [srtQ]
def G_SortFunc_Place (N : Nat) (a_0 : List (Int × Int)) : Option (List (Int × Int)) :=
 grd (a_0.length < 4611686018427387904) (some (srtQ a_0))
theorem flatQ (l : List (Int × Int)) {t : Nat} (ht : t < l.length * 2) : (flatK encQ 2 l.toArray)[t]! = cellsQ (.pairs l) t := by
 have h1 : t / 2 < l.length := by omega
 rw [get_flatK encQ 2 l.toArray t (by simpa using ht)]
 have e : l.toArray[t / 2]! = l.getD (t / 2) (0, 0) := by
  rw [getElem!_pos l.toArray (t / 2) (by simpa using h1), List.getD_eq_getElem?_getD, List.getElem?_eq_getElem h1]; rfl
 rw [e]
 rcases (by omega : t % 2 = 0 ∨ t % 2 = 1) with h | h <;> rw [h] <;> simp [cellsQ, encQ, h]
theorem lays_places (l : List (Int × Int)) (hl2 : l.length < 4611686018427387904) : Lays1 Tryz.prog 56 [.func (.func 57) #[] #[]] (.pairs l) (.pairs (srtQ l)) := by
 refine ⟨fun blk cap w hc hb hl => ?_, fun h p cap w => ?_⟩
 ·have hH : HoldsK encQ 2 w blk 0 l.toArray := fun j hj => by
   have hj' : j < l.length * 2 := by simpa using hj
   have := hc j hj'
   simp only [Nat.zero_add]
   refine ⟨?_, this.2⟩
   rw [this.1, ← flatQ l hj']; rfl
  have hcon := AnyQ.slices_SortFunc_total layP 2 Tryz.isAgg83 Tryz.sizeOf83 encQ (fun _ => rfl) (fun x v hv => by simp [encQ] at hv; rcases hv with rfl | rfl <;> rfl) cmpQ swoQ 57 #[] blk 0 cap l.toArray w (enters_of Tryz.func57 (by kernel_rfl) rfl) (fun _ _ _ _ x y => cmpPl_c x y _) hH hb (by simpa using hl2) totQ
  refine hcon.mono ?_
  rintro e w' ⟨rfl, n, os, rfl⟩
  refine ⟨rfl, ?_⟩
  have h := rowPut_of (enc := id) (w := w) (blk := blk) (n := n) (d := flatK encQ 2 (srtQ l).toArray) (os := os)
  refine h.to (by simp [Sq.len, Sq.sz]) fun t ht => ?_
  have ht' : t < (srtQ l).length * 2 := by simpa using ht
  exact flatQ (srtQ l) ht'
 ·have := AnyF.slices_SortFunc_none { layP with } p cap (.func (.func 57) #[] #[]) w
  exact this
theorem G_SortFunc_Place_w (N : Nat) (a_0 : List (Int × Int)) (r : List (Int × Int)) (h : G_SortFunc_Place N a_0 = some r) : MCall Tryz.prog 56 [.row 1000000 0 a_0.length, .val (.func (.func 57) #[] #[])] [1000000] [] [(83, .pairs a_0)] [(83, .pairs r)] [] [] (.tup []) := by
 obtain ⟨h2, h⟩ := grd_inv h
 cases h
 exact mcall_lays (q := .pairs a_0) (q' := .pairs (srtQ a_0)) (ds := [.val (.func (.func 57) #[] #[])]) (vs := [.func (.func 57) #[] #[]]) (enters_of Tryz.func56 (by kernel_rfl) rfl) rfl rfl (by show (srtQ a_0).length = a_0.length; rw [srtQ_len]) rfl rfl (fun M A w i d v h hv => by
  rcases i with _ | i
  ·simp at h; subst h; cases hv; rfl
  ·simp at h) (lays_places a_0 h2)
end Go.Proofs.YtmoamglpocjhgaaGreat
