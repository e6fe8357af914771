/- Texts that the proof needs, put together: Qz Ra G109. -/
import Derived.Test.YtmoamglpocjhgaaGreatBnm3
import Derived.Test.YtmoamglpocjhgaaGreatBnm6
import Derived.Test.YtmoamglpocjhgaaGreatBnm7
set_option linter.unusedVariables false
set_option linter.unusedSimpArgs false
namespace Go.Proofs.YtmoamglpocjhgaaGreat
variable {N : Nat}
theorem anch_y (hN : 4000000 ≤ N) {g : Grf} (hb : g.bars.length ≤ 3000000) {A : List Int} (hA : A.length ≤ 3000000) : ∃ (r : Grf) (b : Bool), r.bars.length ≤ 1000 ∧ S_AnchoredGraph N g A = some (r, b) ∧ I_AnchoredGraph N g A = some (r, b) ∧ (b = true → isGraph g = true ∧ asc g.n A = true ∧ r.n = g.n ∧ r.bars.length ≤ 1000) := by
 unfold S_AnchoredGraph I_AnchoredGraph S_l2Copy I_copyGraph
 rw [grd_pos (by omega), Option.bind_some, anchS_s N hN hb hA, anchI_s N hN hb hA, Option.bind_some, Option.bind_some]
 cases ho : anchOk g A with
 | false => exact ⟨⟨0, []⟩, false, by simp, rfl, rfl, fun h => by cases h⟩
 | true =>
  rw [Bool.not_true, cnd_false, cnd_false, Option.bind_some]
  simp only [anchOk, isSimple, Bool.and_eq_true] at ho
  have hg := ho.1.1
  have hn := isGraph_n hg
  have h8 := asc_len8 ho.2 (by omega)
  have hs := graph_srt hg
  obtain ⟨L', k1, k2, k3⟩ := anch_l1 hN (by omega) h8 (asc_lt ho.2) (kS := fun x => match x with | (l69, c70) => (S_IsGraph N (⟨c70, l69⟩ : Grf)).bind fun v71 => cnd (!v71) (some ((⟨(0 : Int), ([] : List (Int × Int))⟩ : Grf), false)) (some ((⟨c70, l69⟩ : Grf), true)))
   (kI := fun x => match x with | (l87, c88) => (I_IsGraph N (⟨c88, l87⟩ : Grf)).bind fun v89 => cnd (!v89) (some ((⟨(0 : Int), ([] : List (Int × Int))⟩ : Grf), false)) (some ((⟨c88, l87⟩ : Grf), true))) N 0 g.bars (by omega) (by omega) ⟨hs, by omega, fun e he => he, fun e he => .inl he⟩
  have e : ∀ X : Option (Grf × Bool), X = X := fun _ => rfl
  by_cases h2 : isGraph ⟨g.n, L'⟩ = true
  ·refine ⟨⟨g.n, L'⟩, true, k1, k2.trans ?_, k3.trans ?_, fun _ => ⟨hg, ho.2, rfl, k1⟩⟩
   ·show (S_IsGraph N ⟨g.n, L'⟩).bind _ = _
    rw [isGraphS_s N hN, h2]; rfl
   ·show (I_IsGraph N ⟨g.n, L'⟩).bind _ = _
    rw [isGraphI_s N hN, h2]; rfl
  ·have h2 : isGraph ⟨g.n, L'⟩ = false := by simpa using h2
   refine ⟨⟨0, []⟩, false, by simp, k2.trans ?_, k3.trans ?_, fun h => by cases h⟩
   ·show (S_IsGraph N ⟨g.n, L'⟩).bind _ = _
    rw [isGraphS_s N hN, h2]; rfl
   ·show (I_IsGraph N ⟨g.n, L'⟩).bind _ = _
    rw [isGraphI_s N hN, h2]; rfl
theorem part_s (hN : 4000000 ≤ N) {h : Grf} {n m : Nat} (hn : h.n = (n : Int)) (hn8 : n ≤ 8) (hm : m < 2 ^ n) : S_l23Part N h (setU (m : Int) n) = S_WithoutPoints N h (setU ((2 ^ n - 1 - m : Nat) : Int) n) := by
 unfold S_l23Part
 have hl := setU_len (m : Int) n
 refine Eq.trans ?_ ((fold (N := N) (len := n) (σ := List Int) (st := fun i => setU ((2 ^ n - 1 - m : Nat) : Int) i) (F := fun f s => S_l23Part_l1 N h (setU (m : Int) n) (fun (l7 : List Int) => (S_WithoutPoints N h l7).bind fun v8 => some (⟨v8.n, v8.bars⟩ : Grf)) f (s.1, s.2)) (fin := (S_WithoutPoints N h (setU ((2 ^ n - 1 - m : Nat) : Int) n)).bind fun v8 => some (⟨v8.n, v8.bars⟩ : Grf)) (by omega) (fun f i hi => ?_) fun f => ?_).trans ?_)
 ·simp [setU]
 ·show S_l23Part_l1 N h (setU (m : Int) n) _ (f + 1) (setU ((2 ^ n - 1 - m : Nat) : Int) i, (i : Int)) = S_l23Part_l1 N h (setU (m : Int) n) _ f (setU ((2 ^ n - 1 - m : Nat) : Int) (i + 1), ((i + 1 : Nat) : Int))
  have hl2 := setU_len ((2 ^ n - 1 - m : Nat) : Int) i
  have hc : (setU (m : Int) n).contains (i : Int) = bitB (m : Int) i := by rw [Bool.eq_iff_iff, List.contains_iff_mem, setU_mem hi]
  rw [S_l23Part_l1, cnd_dt (by omega), l2Has_s N hN (by omega), Option.bind_some, hc, setU_succ, setU_comp hn8 hm hi]
  cases bitB (m : Int) i with
  | true => rw [Bool.not_true, cnd_false, cnd_false, grd_R (by omega) (by omega), succ_cast]
  | false => rw [Bool.not_false, cnd_true, cnd_true, grd_pos (by omega), grd_R (by omega) (by omega), succ_cast]
 ·show S_l23Part_l1 N h (setU (m : Int) n) _ (f + 1) (setU ((2 ^ n - 1 - m : Nat) : Int) n, (n : Int)) = _
  rw [S_l23Part_l1, cnd_df (by omega)]
 ·cases S_WithoutPoints N h (setU ((2 ^ n - 1 - m : Nat) : Int) n) <;> rfl
theorem glob_x (hN : 4000000 ≤ N) {h : Grf} (hb : h.bars.length ≤ 1000) {n m : Nat} (hn : h.n = (n : Int)) (hn8 : n ≤ 8) (hm : m < 2 ^ n) : ∃ (v : Grf) (b : Bool), S_l23Part N h (setU (m : Int) n) = some v ∧ S_IsGloballyRigid N v = some b ∧ I_isGlobal N h (m : Int) = some b := by
 have h8 : 2 ^ n ≤ 2 ^ 8 := Nat.pow_le_pow_right (by omega) hn8
 have h88 : (2 : Nat) ^ 8 = 256 := by decide
 have hl := setU_len ((2 ^ n - 1 - m : Nat) : Int) n
 obtain ⟨v, w1, w2, w3, w4, w5⟩ := without_x hN (g := h) (by omega) (set := setU ((2 ^ n - 1 - m : Nat) : Int) n) (by omega)
 obtain ⟨b, g1, g2⟩ := global_x hN (g := v) (by omega)
 refine ⟨v, b, (part_s hN hn hn8 hm).trans w4, g1, ?_⟩
 unfold I_isGlobal
 have e0 : h.n.toNat = n := by omega
 have hpw : (1 : Int) * 2 ^ n = ((2 ^ n : Nat) : Int) := by rw [Int.one_mul]; simp
 have hpos : (0 : Int) ≤ ((2 ^ n : Nat) : Int) := Int.natCast_nonneg _
 rw [e0, hpw]
 have e1 : ((2 ^ n : Nat) : Int) - 1 - (m : Int) = ((2 ^ n - 1 - m : Nat) : Int) := by omega
 rw [grd_pos ⟨by omega, by omega, by omega, by omega⟩, grd_R (by omega) (by omega), grd_R (by omega) (by omega), e1, setI_s hN (by omega), Option.bind_some, e0, w5, Option.bind_some, g2]
 rfl
theorem all_s (hN : 4000000 ≤ N) {A U : List Int} (hA : A.length ≤ 1000) (hU : U.length ≤ 1000) (kk : Bool → Option (List Int)) : ∀ (fuel i : Nat) (f : Bool), i ≤ A.length → A.length < fuel + i → S_LocatedPoints_l3 N A U kk fuel (f, (i : Int)) = kk (f && (A.drop i).all fun x => U.contains x) := by
 intro fuel
 induction fuel with
 | zero => intro i f h1 h2; omega
 | succ fuel ih =>
  intro i f h1 h2
  rw [S_LocatedPoints_l3]
  by_cases hi : i < A.length
  ·have ed : A.drop i = A.getD i 0 :: A.drop (i + 1) := by
    rw [List.drop_eq_getElem_cons hi, List.getD_eq_getElem?_getD, List.getElem?_eq_getElem hi]; rfl
   rw [cnd_dt (by omega), ed, List.all_cons]
   cases f with
   | true =>
    rw [cnd_true, grd_pos (by omega), l2Has_s N hN (by omega), Option.bind_some, grd_R (by omega) (by omega), succ_cast, show ((i : Int)).toNat = i from by omega]
    refine (ih (i + 1) _ (by omega) (by omega)).trans ?_
    rw [Bool.true_and]
   | false =>
    rw [cnd_false, grd_R (by omega) (by omega), succ_cast]
    refine (ih (i + 1) _ (by omega) (by omega)).trans ?_
    simp
  ·rw [cnd_df (by omega), show i = A.length from by omega, List.drop_length]; simp
def insA (l : List Int) (x : Int) : List Int := cnd (!l.contains x) (insR l x false) l
theorem insA_facts {l : List Int} {x : Int} (h1 : l.Nodup) (h2 : l.Pairwise (· ≤ ·)) : (insA l x).Nodup ∧ (insA l x).Pairwise (· ≤ ·) ∧ ∀ y, y ∈ insA l x ↔ y = x ∨ y ∈ l := by
 unfold insA
 cases h : l.contains x with
 | true =>
  have hx : x ∈ l := by simpa using h
  rw [Bool.not_true, cnd_false]
  exact ⟨h1, h2, fun y => ⟨.inr, fun h => by rcases h with rfl | h; exact hx; exact h⟩⟩
 | false =>
  have hx : x ∉ l := by simpa using h
  rw [Bool.not_false, cnd_true]
  have hp := insR_perm hx
  exact ⟨hp.symm.nodup (List.nodup_cons.2 ⟨hx, h1⟩), insR_srt hx h2, fun y => by rw [hp.mem_iff, List.mem_cons]⟩
theorem insF_facts : ∀ (U l : List Int), l.Nodup → l.Pairwise (· ≤ ·) → (U.foldl insA l).Nodup ∧ (U.foldl insA l).Pairwise (· ≤ ·) ∧ ∀ y, y ∈ U.foldl insA l ↔ y ∈ U ∨ y ∈ l
 | [], l, h1, h2 => ⟨h1, h2, fun y => by simp⟩
 | x :: U, l, h1, h2 => by
  obtain ⟨a1, a2, a3⟩ := insA_facts (x := x) h1 h2
  obtain ⟨b1, b2, b3⟩ := insF_facts U (insA l x) a1 a2
  refine ⟨b1, b2, fun y => ?_⟩
  rw [List.foldl_cons, b3, a3, List.mem_cons]
  constructor
  ·rintro (h | h | h)
   ·exact .inl (.inr h)
   ·exact .inl (.inl h)
   ·exact .inr h
  ·rintro ((h | h) | h)
   ·exact .inr (.inl h)
   ·exact .inl h
   ·exact .inr (.inr h)
theorem setU_nd (m : Int) (k : Nat) : (setU m k).Nodup ∧ (setU m k).Pairwise (· ≤ ·) := by
 unfold setU
 constructor
 ·rw [List.nodup_iff_pairwise_ne]
  refine List.Pairwise.map _ (fun a b h => ?_) (List.Pairwise.filter _ (List.nodup_iff_pairwise_ne.1 List.nodup_range))
  omega
 ·refine List.Pairwise.map _ (fun a b h => ?_) (List.Pairwise.filter _ List.pairwise_lt_range)
  omega
theorem or_set {n a m : Nat} (hn : n ≤ 8) (ha : a < 2 ^ n) (hm : m < 2 ^ n) : (setU (m : Int) n).foldl insA (setU (a : Int) n) = setU ((a ||| m : Nat) : Int) n := by
 have h8 : 2 ^ n ≤ 2 ^ 8 := Nat.pow_le_pow_right (by omega) hn
 have h88 : (2 : Nat) ^ 8 = 256 := by decide
 have ho : a ||| m < 2 ^ n := Nat.or_lt_two_pow ha hm
 obtain ⟨a1, a2, a3⟩ := insF_facts (setU (m : Int) n) (setU (a : Int) n) (setU_nd _ _).1 (setU_nd _ _).2
 refine List.Perm.eq_of_pairwise (le := fun x y : Int => x ≤ y) (fun a b _ _ h1 h2 => by omega) a2 (setU_nd _ _).2 ?_
 rw [List.perm_ext_iff_of_nodup a1 (setU_nd _ _).1]
 intro y
 rw [a3]
 by_cases hy : 0 ≤ y ∧ y < (n : Int)
 ·obtain ⟨j, rfl⟩ : ∃ j : Nat, y = (j : Int) := ⟨y.toNat, by omega⟩
  have hj : j < n := by omega
  rw [setU_mem hj, setU_mem hj, setU_mem hj, bitB_nat (by omega) (by omega), bitB_nat (by omega) (by omega), bitB_nat (by omega) (by omega), Nat.testBit_or, Bool.or_eq_true]
  constructor
  ·rintro (h | h)
   ·exact .inr h
   ·exact .inl h
  ·rintro (h | h)
   ·exact .inr h
   ·exact .inl h
 ·constructor
  ·rintro (h | h)
   ·exact absurd (setU_rg h) hy
   ·exact absurd (setU_rg h) hy
  ·intro h; exact absurd (setU_rg h) hy
theorem ins_s (hN : 4000000 ≤ N) {U : List Int} (hU : U.length ≤ 8) (kk : List Int → Option (List Int)) : ∀ (fuel i : Nat) (l : List Int), i ≤ U.length → U.length < fuel + i → l.length ≤ 500 + i → S_LocatedPoints_l2 N U kk fuel (l, (i : Int)) = kk ((U.drop i).foldl insA l) := by
 intro fuel
 induction fuel with
 | zero => intro i l h1 h2; omega
 | succ fuel ih =>
  intro i l h1 h2 h3
  rw [S_LocatedPoints_l2]
  by_cases hi : i < U.length
  ·have ed : U.drop i = U.getD i 0 :: U.drop (i + 1) := by
    rw [List.drop_eq_getElem_cons hi, List.getD_eq_getElem?_getD, List.getElem?_eq_getElem hi]; rfl
   rw [cnd_dt (by omega), grd_pos (by omega), show ((i : Int)).toNat = i from by omega, l2Has_s N hN (by omega), Option.bind_some, ed, List.foldl_cons]
   unfold insA
   cases hc : l.contains (U.getD i 0) with
   | true =>
    rw [Bool.not_true, cnd_false, cnd_false, grd_R (by omega) (by omega), succ_cast]
    exact ih (i + 1) l (by omega) (by omega) (by omega)
   | false =>
    have hx : U.getD i 0 ∉ l := by simpa using hc
    have hpl := (insR_perm hx).length_eq
    rw [List.length_cons] at hpl
    rw [Bool.not_false, cnd_true, cnd_true, l5With_s hN (by omega), Option.bind_some, grd_R (by omega) (by omega), succ_cast]
    exact ih (i + 1) _ (by omega) (by omega) (by omega)
  ·rw [cnd_df (by omega), show i = U.length from by omega, List.drop_length]; rfl
theorem loc_l1 (hN : 4000000 ≤ N) {g h : Grf} {n : Nat} (hgn : g.n = (n : Int)) (hhn : h.n = (n : Int)) (hn8 : n ≤ 8) (hb : h.bars.length ≤ 1000) {A : List Int} (hA8 : A.length ≤ 8) (hA : ∀ x ∈ A, 0 ≤ x ∧ x < (n : Int)) {b : Nat} (hbn : b < 2 ^ n) (hbit : ∀ j, j < n → (b.testBit j = true ↔ (j : Int) ∈ A)) {kS : List Int → Option (List Int)} {kI : Int → Option (List Int)} :
  ∀ (k i a fS fI : Nat), i + k = 2 ^ n → k < fS → k < fI → a < 2 ^ n → ∃ a' : Nat, a' < 2 ^ n ∧ S_LocatedPoints_l1 N g A (h, true) kS fS (setU (a : Int) n, (i : Int)) = kS (setU (a' : Int) n) ∧ I_LocatedPoints_l1 N g (h, true) (b : Int) kI fI ((a : Int), (i : Int)) = kI (a' : Int) := by
 have h8 : 2 ^ n ≤ 2 ^ 8 := Nat.pow_le_pow_right (by omega) hn8
 have h88 : (2 : Nat) ^ 8 = 256 := by decide
 have hpw : (1 : Int) * 2 ^ n = ((2 ^ n : Nat) : Int) := by rw [Int.one_mul]; simp
 have e0 : g.n.toNat = n := by omega
 have hpos : (0 : Int) ≤ ((2 ^ n : Nat) : Int) := Int.natCast_nonneg _
 have hR : Rg64 ((2 ^ n : Nat) : Int) := ⟨by omega, by omega⟩
 intro k
 induction k with
 | zero =>
  intro i a fS fI h1 h2 h3 h4
  obtain ⟨fS, rfl⟩ : ∃ f, fS = f + 1 := ⟨fS - 1, by omega⟩
  obtain ⟨fI, rfl⟩ : ∃ f, fI = f + 1 := ⟨fI - 1, by omega⟩
  rw [S_LocatedPoints_l1, I_LocatedPoints_l1, e0, hpw, grd_pos ⟨by omega, by omega, hR⟩, cnd_df (by omega), cnd_df (by omega)]
  exact ⟨a, h4, rfl, rfl⟩
 | succ k ih =>
  intro i a fS fI h1 h2 h3 h4
  obtain ⟨fS, rfl⟩ : ∃ f, fS = f + 1 := ⟨fS - 1, by omega⟩
  obtain ⟨fI, rfl⟩ : ∃ f, fI = f + 1 := ⟨fI - 1, by omega⟩
  have hi : i < 2 ^ n := by omega
  have hsl := setU_len (i : Int) n
  have hal := setU_len (a : Int) n
  obtain ⟨v, bb, w1, w2, w3⟩ := glob_x hN hb hhn hn8 hi
  have hall : ∀ kk, S_LocatedPoints_l3 N A (setU (i : Int) n) kk N (true, (0 : Int)) = kk (A.all fun x => (setU (i : Int) n).contains x) := fun kk => by
   have := all_s hN (A := A) (U := setU (i : Int) n) (by omega) (by omega) kk N 0 true (by omega) (by omega)
   rw [List.drop_zero, Bool.true_and] at this; exact this
  have hins : ∀ kk, S_LocatedPoints_l2 N (setU (i : Int) n) kk N (setU (a : Int) n, (0 : Int)) = kk (setU ((a ||| i : Nat) : Int) n) := fun kk => by
   have := ins_s hN (U := setU (i : Int) n) (by omega) kk N 0 (setU (a : Int) n) (by omega) (by omega) (by omega)
   rw [List.drop_zero, or_set hn8 h4 hi] at this; exact this
  rw [S_LocatedPoints_l1, I_LocatedPoints_l1, e0, hpw, grd_pos ⟨by omega, by omega, hR⟩, cnd_dt (show (i : Int) < ((2 ^ n : Nat) : Int) by omega), cnd_dt (show (i : Int) < ((2 ^ n : Nat) : Int) by omega), setS_s hN (by omega), e0, Option.bind_some, hall, base_all hn8 hi hbn hA hbit]
  show ∃ a' : Nat, _ ∧ cnd (A.all fun x => (setU (i : Int) n).contains x) _ _ = _ ∧ _
  have noS : ∃ a' : Nat, a' < 2 ^ n ∧ S_LocatedPoints_l1 N g A (h, true) kS fS (setU (a : Int) n, ((i + 1 : Nat) : Int)) = kS (setU (a' : Int) n) ∧ I_LocatedPoints_l1 N g (h, true) (b : Int) kI fI ((a : Int), ((i + 1 : Nat) : Int)) = kI (a' : Int) := ih (i + 1) a fS fI (by omega) (by omega) (by omega) h4
  cases (A.all fun x => (setU (i : Int) n).contains x) with
  | false =>
   obtain ⟨a', k1, k2, k3⟩ := noS
   refine ⟨a', k1, ?_, ?_⟩
   ·rw [cnd_false, grd_R (by omega) (by omega), succ_cast]; exact k2
   ·rw [cnd_false, grd_R (by omega) (by omega), succ_cast]; exact k3
  | true =>
   rw [cnd_true, cnd_true, w1, w3, Option.bind_some, Option.bind_some, w2, Option.bind_some]
   cases bb with
   | false =>
    obtain ⟨a', k1, k2, k3⟩ := noS
    refine ⟨a', k1, ?_, ?_⟩
    ·rw [cnd_false, grd_R (by omega) (by omega), succ_cast]; exact k2
    ·rw [cnd_false, grd_R (by omega) (by omega), succ_cast]; exact k3
   | true =>
    have ho : a ||| i < 2 ^ n := Nat.or_lt_two_pow h4 hi
    obtain ⟨a', k1, k2, k3⟩ := ih (i + 1) (a ||| i) fS fI (by omega) (by omega) (by omega) ho
    refine ⟨a', k1, ?_, ?_⟩
    ·rw [cnd_true, hins]
     show grd (Rg64 ((i : Int) + 1)) _ = _
     rw [grd_R (by omega) (by omega), succ_cast]; exact k2
    ·rw [cnd_true, orI_nat (by omega) (by omega), grd_R (by omega) (by omega), succ_cast]; exact k3
theorem base_s (hN : 4000000 ≤ N) {n : Nat} (hn8 : n ≤ 8) {A : List Int} (hA8 : A.length ≤ 8) (hA : ∀ x ∈ A, 0 ≤ x ∧ x < (n : Int)) (kk : Int → Option (List Int)) :
  ∀ (fuel i b : Nat), i ≤ A.length → A.length < fuel + i → b < 2 ^ n → (∀ j, j < n → (b.testBit j = true ↔ (j : Int) ∈ A.take i)) →
  ∃ b' : Nat, b' < 2 ^ n ∧ (∀ j, j < n → (b'.testBit j = true ↔ (j : Int) ∈ A)) ∧ I_LocatedPoints_l2 N A kk fuel ((b : Int), (i : Int)) = kk (b' : Int) := by
 have h8 : 2 ^ n ≤ 2 ^ 8 := Nat.pow_le_pow_right (by omega) hn8
 have h88 : (2 : Nat) ^ 8 = 256 := by decide
 intro fuel
 induction fuel with
 | zero => intro i b h1 h2; omega
 | succ fuel ih =>
  intro i b h1 h2 h3 h4
  rw [I_LocatedPoints_l2]
  by_cases hi : i < A.length
  ·have hm : A.getD i 0 ∈ A := by rw [List.getD_eq_getElem?_getD, List.getElem?_eq_getElem hi]; exact List.getElem_mem hi
   have hr := hA _ hm
   have et : A.take (i + 1) = A.take i ++ [A.getD i 0] := by
    rw [List.take_add_one, List.getElem?_eq_getElem hi, List.getD_eq_getElem?_getD, List.getElem?_eq_getElem hi]; rfl
   obtain ⟨j0, hj0⟩ : ∃ j : Nat, A.getD i 0 = (j : Int) := ⟨(A.getD i 0).toNat, by omega⟩
   have hj : j0 < n := by omega
   have hp2 : 2 ^ j0 < 2 ^ n := Nat.pow_lt_pow_right (by omega) hj
   have hpw : (1 : Int) * 2 ^ j0 = ((2 ^ j0 : Nat) : Int) := by rw [Int.one_mul]; simp
   have hpos : (0 : Int) ≤ ((2 ^ j0 : Nat) : Int) := Int.natCast_nonneg _
   have hR : Rg64 ((2 ^ j0 : Nat) : Int) := ⟨by omega, by omega⟩
   rw [cnd_dt (by omega), grd_pos (by omega), show ((i : Int)).toNat = i from by omega, hj0, show ((j0 : Int)).toNat = j0 from by omega, hpw, grd_pos ⟨by omega, by omega, hR⟩, grd_R (by omega) (by omega), orI_nat (by omega) (by omega), succ_cast]
   refine ih (i + 1) (b ||| 2 ^ j0) (by omega) (by omega) (Nat.or_lt_two_pow h3 hp2) fun j hjn => ?_
   rw [Nat.testBit_or, Nat.testBit_two_pow, et, List.mem_append, List.mem_singleton, hj0, Bool.or_eq_true, h4 j hjn, decide_eq_true_eq]
   constructor
   ·rintro (h | h)
    ·exact .inl h
    ·exact .inr (by omega)
   ·rintro (h | h)
    ·exact .inl h
    ·exact .inr (by omega)
  ·rw [cnd_df (by omega)]
   rw [show i = A.length from by omega, List.take_length] at h4
   exact ⟨b, h3, h4, rfl⟩
theorem located_x (hN : 4000000 ≤ N) {g : Grf} (hb : g.bars.length ≤ 3000000) {A : List Int} (hA : A.length ≤ 3000000) : ∃ r : List Int, r.length ≤ 8 ∧ S_LocatedPoints N g A = some r ∧ I_LocatedPoints N g A = some r := by
 unfold S_LocatedPoints I_LocatedPoints
 obtain ⟨h, b, h1, h2, h3, h4⟩ := anch_y hN hb hA
 rw [h2, h3, Option.bind_some, Option.bind_some]
 cases b with
 | false => exact ⟨[], by simp, rfl, rfl⟩
 | true =>
  obtain ⟨hg, ha, hn, hl⟩ := h4 rfl
  have hp := isGraph_parts hg
  rw [Bool.not_true, cnd_false, cnd_false]
  by_cases hA3 : (A.length : Int) < 3
  ·rw [cnd_dt hA3, cnd_dt hA3]; exact ⟨[], by simp, rfl, rfl⟩
  ·rw [cnd_df hA3, cnd_df hA3]
   obtain ⟨n, hgn⟩ : ∃ n : Nat, g.n = (n : Int) := ⟨g.n.toNat, by omega⟩
   have hn8 : n ≤ 8 := by omega
   have hA8 := asc_len8 ha (by omega)
   have hAr : ∀ x ∈ A, 0 ≤ x ∧ x < (n : Int) := fun x hx => by
    have h1 : ∀ i, i < A.length → ascAt g.n A i = true := by simpa [asc, List.all_eq_true] using ha
    obtain ⟨i, hi, e⟩ := List.mem_iff_getElem.1 hx
    have h2 := h1 i hi
    simp only [ascAt, inB, Bool.and_eq_true, decide_eq_true_eq] at h2
    rw [List.getD_eq_getElem?_getD, List.getElem?_eq_getElem hi] at h2
    simp only [Option.getD_some, e] at h2
    omega
   have h8 : 2 ^ n ≤ 2 ^ 8 := Nat.pow_le_pow_right (by omega) hn8
   have h88 : (2 : Nat) ^ 8 = 256 := by decide
   have hone : 0 < 2 ^ n := Nat.pow_pos (by omega)
   have hpw : (1 : Int) * 2 ^ n = ((2 ^ n : Nat) : Int) := by rw [Int.one_mul]; simp
   have hpos : (0 : Int) ≤ ((2 ^ n : Nat) : Int) := Int.natCast_nonneg _
   have hR : Rg64 ((2 ^ n : Nat) : Int) := ⟨by omega, by omega⟩
   have e0 : g.n.toNat = n := by omega
   obtain ⟨b, b1, b2, b3⟩ := base_s hN hn8 hA8 hAr (fun (base4 : Int) => grd (0 ≤ g.n ∧ g.n < 64 ∧ Rg64 ((1 : Int) * 2 ^ ((g.n).toNat))) <| I_LocatedPoints_l1 N g (h, true) base4 (fun (all10 : Int) => (I_setOf N all10 g.n).bind fun v11 => some v11) N ((0 : Int), (0 : Int))) N 0 0 (by omega) (by omega) hone (fun j hj => by simp)
   obtain ⟨a', k1, k2, k3⟩ := loc_l1 hN hgn (hn.trans hgn) hn8 hl hA8 hAr b1 b2 (kS := fun (l140 : List Int) => some l140) (kI := fun (all10 : Int) => (I_setOf N all10 g.n).bind fun v11 => some v11) (2 ^ n - 1) 1 0 N (N - 1) (by omega) (by omega) (by omega) hone
   have hz : setU ((0 : Nat) : Int) n = [] := by
    unfold setU
    have : (List.range n).filter (bitB ((0 : Nat) : Int)) = [] := List.filter_eq_nil_iff.2 fun j hj => by
     have := List.mem_range.1 hj
     rw [bitB_nat (by omega) (by omega)]; simp
    rw [this]; rfl
   have hsl := setU_len (a' : Int) n
   refine ⟨setU (a' : Int) n, by omega, ?_, ?_⟩
   ·rw [hz] at k2; exact k2
   ·refine b3.trans ?_
    show grd _ _ = _
    rw [e0, hpw, grd_pos ⟨by omega, by omega, hR⟩]
    obtain ⟨M, rfl⟩ : ∃ M, N = M + 1 := ⟨N - 1, by omega⟩
    have hA0 : (A.all fun x => (setU ((0 : Nat) : Int) n).contains x) = false := by
     rw [hz]
     cases A with
     | nil => simp at hA3
     | cons x A => rfl
    have hb0 := base_all hn8 (m := 0) hone b1 hAr b2
    rw [hA0] at hb0
    rw [I_LocatedPoints_l1, e0, hpw, cnd_dt (by omega)]
    rw [show andI (0 : Int) (b : Int) = andI ((0 : Nat) : Int) (b : Int) from rfl, hb0, cnd_false, grd_R (by omega) (by omega)]
    refine k3.trans ?_
    show (I_setOf (M + 1) (a' : Int) g.n).bind _ = _
    rw [setI_s hN (by omega), e0]; rfl
end Go.Proofs.YtmoamglpocjhgaaGreat
namespace Go.Proofs.YtmoamglpocjhgaaGreat
variable {N : Nat}
theorem next_l1 (hN : 4000000 ≤ N) {g : Grf} (hg : isGraph g = true) (h24 : g.bars.length < 24) {A : List Int} (hA : A.length ≤ 3000000) (ha : anchOk g A = true) {V : List (Int × Int)} (hV : V.length ≤ 1000) {kS kI : Bool × Int × Int → Option ((Int × Int) × Bool)} (hk : ∀ x, ∃ r, kS x = some r ∧ kI x = some r) :
  ∀ (fuel i : Nat) (most : Int) (f : Bool) (c d : Int), i ≤ V.length → V.length < fuel + i → ∃ r, S_NextMeasure_l1 N g A V kS fuel (most, f, (i : Int), c, d) = some r ∧ I_NextMeasure_l1 N g A V kI fuel (f, most, (i : Int), c, d) = some r := by
 intro fuel
 induction fuel with
 | zero => intro i most f c d h1 h2; omega
 | succ fuel ih =>
  intro i most f c d h1 h2
  rw [S_NextMeasure_l1, I_NextMeasure_l1]
  by_cases hi : i < V.length
  ·have e1 : S_l2Put N g (V.getD i (0, 0)) = some ⟨g.n, srtB (g.bars ++ [V.getD i (0, 0)])⟩ := put_srt hN (c := g.n) (L := g.bars) (by omega) (graph_srt hg) _
   have e2 : I_withBars N g [((V.getD i (0, 0)).1, (V.getD i (0, 0)).2)] = some ⟨g.n, srtB (g.bars ++ [V.getD i (0, 0)])⟩ := withBars_s hN (c := g.n) (L := g.bars) (by omega) _
   have hl : (srtB (g.bars ++ [V.getD i (0, 0)])).length ≤ 3000000 := by rw [srtB_len, List.length_append]; simp; omega
   obtain ⟨L, l1, l2, l3⟩ := located_x hN (g := ⟨g.n, srtB (g.bars ++ [V.getD i (0, 0)])⟩) hl hA
   rw [cnd_dt (show (i : Int) < (V.length : Int) by omega), cnd_dt (show (i : Int) < (V.length : Int) by omega), anchS_s N hN (by omega) hA, Option.bind_some, ha, cnd_true, cnd_dt (show (g.bars.length : Int) < 24 by omega), grd_pos (p := 0 ≤ (i : Int) ∧ (i : Int) < (V.length : Int)) (by omega), grd_pos (p := 0 ≤ (i : Int) ∧ (i : Int) < (V.length : Int)) (by omega), show ((i : Int)).toNat = i from by omega, e1, e2, Option.bind_some, Option.bind_some, l2, l3, Option.bind_some, Option.bind_some]
   by_cases hm : (L.length : Int) > most
   ·obtain ⟨r, k1, k2⟩ := ih (i + 1) (L.length : Int) true (V.getD i (0, 0)).1 (V.getD i (0, 0)).2 (by omega) (by omega)
    refine ⟨r, ?_, ?_⟩
    ·rw [cnd_dt hm, grd_R (by omega) (by omega), succ_cast]; exact k1
    ·rw [cnd_dt hm, grd_R (by omega) (by omega), succ_cast]; exact k2
   ·obtain ⟨r, k1, k2⟩ := ih (i + 1) most f c d (by omega) (by omega)
    refine ⟨r, ?_, ?_⟩
    ·rw [cnd_df hm, grd_R (by omega) (by omega), succ_cast]; exact k1
    ·rw [cnd_df hm, grd_R (by omega) (by omega), succ_cast]; exact k2
  ·rw [cnd_df (by omega), cnd_df (by omega)]
   exact hk (f, c, d)
theorem next_x (hN : 4000000 ≤ N) {g : Grf} (hb : g.bars.length ≤ 3000000) {A : List Int} (hA : A.length ≤ 3000000) : ∃ (r : Int × Int) (b : Bool), S_NextMeasure N g A = some (r, b) ∧ I_NextMeasure N g A = some (r, b) := by
 unfold S_NextMeasure I_NextMeasure
 obtain ⟨L, l1, l2, l3⟩ := located_x hN hb hA
 rw [l2, l3, anchI_s N hN hb hA, Option.bind_some, Option.bind_some]
 obtain ⟨M, hM⟩ : ∃ M, N = M + 1 := ⟨N - 1, by omega⟩
 cases hg : isGraph g with
 | false =>
  have ho : anchOk g A = false := by unfold anchOk isSimple; rw [hg]; rfl
  have hm : S_MissingBars N g = some [] := by
   unfold S_MissingBars
   subst hM
   rw [S_MissingBars_l1, isGraphS_s _ hN, Option.bind_some, hg, cnd_false]
   cases decide ((0 : Int) < g.n) <;> rfl
  rw [ho, hm, Option.bind_some, Option.bind_some]
  refine ⟨(0, 0), false, ?_, rfl⟩
  subst hM
  rw [S_NextMeasure_l1, cnd_df (by simp)]
 | true =>
  have hp := isGraph_parts hg
  obtain ⟨m1, m2⟩ := missing_x hN hb hg
  have hml := missM_len g.bars g.n.toNat g.n.toNat
  have hm3 := Nat.mul_le_mul (show g.n.toNat ≤ 8 by omega) (show g.n.toNat ≤ 8 by omega)
  rw [m1, m2, Option.bind_some, Option.bind_some, Option.bind_some]
  generalize missM g.bars g.n.toNat g.n.toNat = V at hml
  have stop : ∀ (X : Option ((Int × Int) × Bool)), (anchOk g A = false ∨ ¬ (g.bars.length : Int) < 24) → S_NextMeasure_l1 N g A V (fun (x : Bool × Int × Int) => match x with | (found17, c18, c19) => some ((c18, c19), found17)) N ((L.length : Int), false, (0 : Int), (0 : Int), (0 : Int)) = some ((0, 0), false) := by
   intro _ h
   subst hM
   rw [S_NextMeasure_l1, anchS_s _ hN hb hA, Option.bind_some]
   rcases h with h | h
   ·rw [h, cnd_false]
    cases decide ((0 : Int) < (V.length : Int)) <;> rfl
   ·rw [cnd_df h]
    cases decide ((0 : Int) < (V.length : Int)) <;> cases anchOk g A <;> rfl
  cases ho : anchOk g A with
  | false => exact ⟨(0, 0), false, stop none (.inl ho), rfl⟩
  | true =>
   rw [Bool.not_true, cnd_false]
   by_cases h24 : g.bars.length = 24
   ·have hbq : ((g.bars.length : Int) == (24 : Int)) = true := by rw [beq_iff_eq]; omega
    rw [hbq, cnd_true]
    exact ⟨(0, 0), false, stop none (.inr (by omega)), rfl⟩
   ·have hbq : ((g.bars.length : Int) == (24 : Int)) = false := by rw [beq_eq_false_iff_ne]; omega
    rw [hbq, cnd_false]
    obtain ⟨r, k1, k2⟩ := next_l1 hN hg (by omega) hA ho (V := V) (by omega) (kS := fun (x : Bool × Int × Int) => match x with | (found17, c18, c19) => some ((c18, c19), found17)) (kI := fun (x : Bool × Int × Int) => match x with | (found15, c16, c17) => some ((c16, c17), found15)) (fun x => ⟨_, rfl, rfl⟩) N 0 (L.length : Int) false 0 0 (by omega) (by omega)
    exact ⟨r.1, r.2, k1, k2⟩
end Go.Proofs.YtmoamglpocjhgaaGreat
namespace Go.Proofs.YtmoamglpocjhgaaGreat
open Go.RowKit
def L_FnExactNextMeasure (N : Nat) (aG_0 : Grf) (aAnchors_1 : List Int) : Option (Bool) :=
 cnd (decide ((aAnchors_1.length : Int) > (1048576 : Int))) (
  some true) (
  (L_szGraph N aG_0 (1048576 : Int)).bind fun v1 =>
  cnd (decide (v1 < (0 : Int))) (
   some true) (
   (L_toGraph N aG_0).bind fun v2 =>
   (L_toIntS N aAnchors_1).bind fun v3 =>
   (S_NextMeasure N v2 v3).bind fun v4 =>
   (L_toGraph N aG_0).bind fun v5 =>
   (L_toIntS N aAnchors_1).bind fun v6 =>
   (I_NextMeasure N v5 v6).bind fun v7 =>
   (L_eqBar N v7.1 v4.1).bind fun v8 =>
   cnd (!v8) (
    some false) (
    cnd (v7.2 != v4.2) (
     some false) (
     (L_toGraph N aG_0).bind fun v9 =>
     (L_eqGraph N v5 v9).bind fun v10 =>
     cnd (!v10) (
      some false) (
      (L_toIntS N aAnchors_1).bind fun v11 =>
      (L_eqIntS N v6 v11).bind fun v12 =>
      cnd (!v12) (
       some false) (
       some true))))))
set_option maxRecDepth 20000 in
set_option maxHeartbeats 1600000 in
theorem L_FnExactNextMeasure_w (N : Nat) (aG_0 : Grf) (aAnchors_1 : List Int) (r : Bool) (h : L_FnExactNextMeasure N aG_0 aAnchors_1 = some r) : PCall Tryz.prog 4 [gD aG_0, .ro false (.ints aAnchors_1)] [] (.bool r) := by
 unfold L_FnExactNextMeasure at h
 refine pcall_intro (TT := TT) tt Tryz.func4 rfl rfl Tryz.ntmps4 (congrArg Array.toList Tryz.results4) rfl rfl fun w0 => ?_
 refine vSeq ?_
 refine vRegion ?_
 refine oBox rfl rfl rfl rfl rfl rfl rfl rfl rfl ?_
 refine oVal tt rfl rfl rfl rfl rfl trivial ?_
 refine vNil ?_
 change VC _ _ _ _
 iterate 2 refine vSeq ?_
 refine vRegion ?_
 iterate 3 refine oVal tt rfl rfl rfl rfl rfl trivial ?_
 refine vNil ?_
 change VC _ _ _ _
 refine vCond rfl (fun hb1 => ?_) (fun hb1 => ?_)
 ·replace h := cnd_t hb1 h
  refine vSeq ?_
  refine vRegion ?_
  refine oVal tt rfl rfl rfl rfl rfl trivial ?_
  refine vNil ?_
  change VC _ _ _ _
  refine vRet ?_
  change ∃ _, _
  cases h
  exact ⟨[], _, rfl, trivial, rfl, (.eq rfl), rfl⟩
 ·replace h := cnd_f hb1 h
  refine vSkip ?_
  change VC _ _ _ _
  refine vSeq ?_
  refine vRegion ?_
  refine oVal tt rfl rfl rfl rfl rfl trivial ?_
  refine vNil ?_
  change VC _ _ _ _
  refine vSeq ?_
  refine vRegion ?_
  iterate 2 refine oVal tt rfl rfl rfl rfl rfl trivial ?_
  obtain ⟨v1, hc2, h⟩ := bind_inv h
  refine oCall (L_szGraph_w N aG_0 (1048576 : Int) v1 hc2) rfl rfl rfl rfl rfl rfl rfl rfl ⟨⟨rfl, rfl, trivial⟩, rfl, trivial⟩ ?_
  refine oVal tt rfl rfl rfl rfl rfl trivial ?_
  refine vNil ?_
  change VC _ _ _ _
  iterate 2 refine vSeq ?_
  refine vRegion ?_
  iterate 2 refine oVal tt rfl rfl rfl rfl rfl trivial ?_
  refine vNil ?_
  change VC _ _ _ _
  refine vCond rfl (fun hb3 => ?_) (fun hb3 => ?_)
  ·replace h := cnd_t hb3 h
   refine vSeq ?_
   refine vRegion ?_
   refine oVal tt rfl rfl rfl rfl rfl trivial ?_
   refine vNil ?_
   change VC _ _ _ _
   refine vRet ?_
   change ∃ _, _
   cases h
   exact ⟨[], _, rfl, trivial, rfl, (.eq rfl), rfl⟩
  ·replace h := cnd_f hb3 h
   refine vSkip ?_
   change VC _ _ _ _
   refine vSeq ?_
   refine vRegion ?_
   refine oVal tt rfl rfl rfl rfl rfl trivial ?_
   obtain ⟨v2, hc4, h⟩ := bind_inv h
   refine oCall (L_toGraph_w N aG_0 v2 hc4) rfl rfl rfl rfl rfl rfl rfl rfl ⟨⟨rfl, rfl, trivial⟩, trivial⟩ ?_
   refine oVal tt rfl rfl rfl rfl rfl trivial ?_
   obtain ⟨v3, hc5, h⟩ := bind_inv h
   refine oCall (L_toIntS_w N aAnchors_1 v3 hc5) rfl rfl rfl rfl rfl rfl rfl rfl ⟨rfl, trivial⟩ ?_
   obtain ⟨v4, hc6, h⟩ := bind_inv h
   refine oCall (S_NextMeasure_w N v2 v3 v4 hc6) rfl rfl rfl rfl rfl rfl rfl rfl ⟨⟨rfl, (.inl ⟨rfl, rfl⟩), trivial⟩, (.inl ⟨rfl, rfl⟩), trivial⟩ ?_
   iterate 3 refine oVal tt rfl rfl rfl rfl rfl trivial ?_
   refine oAlloc tt rfl rfl rfl rfl rfl rfl rfl rfl rfl ?_
   refine oStore tt rfl rfl rfl rfl rfl rfl rfl rfl rfl rfl rfl ⟨trivial, trivial, trivial⟩ ?_
   refine oVal tt rfl rfl rfl rfl rfl trivial ?_
   refine vNil ?_
   change VC _ _ _ _
   refine vSeq ?_
   refine vRegion ?_
   refine oVal tt rfl rfl rfl rfl rfl trivial ?_
   obtain ⟨v5, hc7, h⟩ := bind_inv h
   refine oCall (L_toGraph_w N aG_0 v5 hc7) rfl rfl rfl rfl rfl rfl rfl rfl ⟨⟨rfl, rfl, trivial⟩, trivial⟩ ?_
   refine oAlloc tt rfl rfl rfl rfl rfl rfl rfl rfl rfl ?_
   refine oStore tt rfl rfl rfl rfl rfl rfl rfl rfl rfl rfl rfl ⟨trivial, trivial, trivial⟩ ?_
   refine vNil ?_
   change VC _ _ _ _
   refine vSeq ?_
   refine vRegion ?_
   refine oVal tt rfl rfl rfl rfl rfl trivial ?_
   obtain ⟨v6, hc8, h⟩ := bind_inv h
   refine oCall (L_toIntS_w N aAnchors_1 v6 hc8) rfl rfl rfl rfl rfl rfl rfl rfl ⟨rfl, trivial⟩ ?_
   refine oVal tt rfl rfl rfl rfl rfl trivial ?_
   refine vNil ?_
   change VC _ _ _ _
   refine vSeq ?_
   refine vRegion ?_
   iterate 2 refine oVal tt rfl rfl rfl rfl rfl trivial ?_
   obtain ⟨v7, hc9, h⟩ := bind_inv h
   refine oCall (I_NextMeasure_w N v5 v6 v7 hc9) rfl rfl rfl rfl rfl rfl rfl rfl ⟨⟨rfl, (.inl ⟨rfl, rfl⟩), trivial⟩, (.inl ⟨rfl, rfl⟩), trivial⟩ ?_
   iterate 3 refine oVal tt rfl rfl rfl rfl rfl trivial ?_
   refine oAlloc tt rfl rfl rfl rfl rfl rfl rfl rfl rfl ?_
   refine oStore tt rfl rfl rfl rfl rfl rfl rfl rfl rfl rfl rfl ⟨trivial, trivial, trivial⟩ ?_
   refine oVal tt rfl rfl rfl rfl rfl trivial ?_
   refine vNil ?_
   change VC _ _ _ _
   iterate 2 refine vSeq ?_
   refine vRegion ?_
   iterate 2 refine oVal tt rfl rfl rfl rfl rfl trivial ?_
   obtain ⟨v8, hc10, h⟩ := bind_inv h
   refine oCall (L_eqBar_w N v7.1 v4.1 v8 hc10) rfl rfl rfl rfl rfl rfl rfl rfl ⟨⟨rfl, rfl, trivial⟩, ⟨rfl, rfl, trivial⟩, trivial⟩ ?_
   iterate 2 refine oVal tt rfl rfl rfl rfl rfl trivial ?_
   refine oSplit rfl rfl rfl (fun hb11 => ?_) (fun hb11 => ?_)
   ·replace h := cnd_t hb11 h
    iterate 3 refine oNoF rfl rfl rfl rfl hb11 rfl rfl ?_
    refine oPick rfl rfl rfl rfl rfl hb11 rfl ?_
    refine vNil ?_
    change VC _ _ _ _
    refine vCondT rfl rfl ?_
    refine vSeq ?_
    refine vRegion ?_
    refine oVal tt rfl rfl rfl rfl rfl trivial ?_
    refine vNil ?_
    change VC _ _ _ _
    refine vRet ?_
    change ∃ _, _
    cases h
    exact ⟨[], _, rfl, trivial, rfl, (.eq rfl), rfl⟩
   ·replace h := cnd_f hb11 h
    iterate 2 refine oValG tt rfl rfl rfl rfl rfl hb11 rfl rfl rfl trivial ?_
    refine oPure (wSome rfl rfl rfl rfl hb11) (pNeB Tryz.underlying4 rfl rfl rfl) rfl rfl ?_
    refine oPickF rfl rfl rfl rfl rfl hb11 rfl ?_
    refine vNil ?_
    change VC _ _ _ _
    refine vCond rfl (fun hb12 => ?_) (fun hb12 => ?_)
    ·replace h := cnd_t hb12 h
     refine vSeq ?_
     refine vRegion ?_
     refine oVal tt rfl rfl rfl rfl rfl trivial ?_
     refine vNil ?_
     change VC _ _ _ _
     refine vRet ?_
     change ∃ _, _
     cases h
     exact ⟨[], _, rfl, trivial, rfl, (.eq rfl), rfl⟩
    ·replace h := cnd_f hb12 h
     refine vSkip ?_
     change VC _ _ _ _
     iterate 2 refine vSeq ?_
     refine vRegionN 3 [2] [0, 0, 2, 7, 15] (by kernel_rfl) (by kernel_rfl) (by kernel_rfl) (by kernel_rfl) (by kernel_rfl) rfl (by rfl) ?_
     iterate 2 refine nVal tt rfl (wNone rfl) rfl rfl rfl rfl rfl trivial ?_
     obtain ⟨v9, hc13, h⟩ := bind_inv h
     refine nCallR (L_toGraph_w N aG_0 v9 hc13) rfl (wNone rfl) rfl rfl rfl rfl rfl rfl (by first | rfl | kernel_rfl | (simp [nrL, nm, gdst, nmT, rowB]; done)) rfl (by first | rfl | kernel_rfl | (simp [chkE, nrL, nm, gdst, nmT, rowB, hid, ment, mentA, mentS]; done) | (simp [chkE, nrL, nm, gdst, nmT, rowB, hid, ment, mentA, mentS]; decide)) ⟨⟨rfl, rfl, trivial⟩, trivial⟩ ?_
     refine nNil ?_
     change VO _ _ _ _ _
     obtain ⟨v10, hc14, h⟩ := bind_inv h
     refine oCall (L_eqGraph_w N v5 v9 v10 hc14) rfl rfl rfl rfl rfl rfl rfl rfl ⟨⟨rfl, (.inl ⟨rfl, rfl⟩), trivial⟩, ⟨rfl, (.inl ⟨rfl, rfl⟩), trivial⟩, trivial⟩ ?_
     refine oVal tt rfl rfl rfl rfl rfl trivial ?_
     refine vNil ?_
     change VC _ _ _ _
     refine vCond rfl (fun hb15 => ?_) (fun hb15 => ?_)
     ·replace h := cnd_t hb15 h
      refine vSeq ?_
      refine vRegion ?_
      refine oVal tt rfl rfl rfl rfl rfl trivial ?_
      refine vNil ?_
      change VC _ _ _ _
      refine vRet ?_
      change ∃ _, _
      cases h
      exact ⟨[], _, rfl, trivial, rfl, (.eq rfl), rfl⟩
     ·replace h := cnd_f hb15 h
      refine vSkip ?_
      change VC _ _ _ _
      iterate 2 refine vSeq ?_
      refine vRegion ?_
      iterate 2 refine oVal tt rfl rfl rfl rfl rfl trivial ?_
      obtain ⟨v11, hc16, h⟩ := bind_inv h
      refine oCall (L_toIntS_w N aAnchors_1 v11 hc16) rfl rfl rfl rfl rfl rfl rfl rfl ⟨rfl, trivial⟩ ?_
      obtain ⟨v12, hc17, h⟩ := bind_inv h
      refine oCall (L_eqIntS_w N v6 v11 v12 hc17) rfl rfl rfl rfl rfl rfl rfl rfl ⟨(.inl ⟨rfl, rfl⟩), (.inl ⟨rfl, rfl⟩), trivial⟩ ?_
      refine oVal tt rfl rfl rfl rfl rfl trivial ?_
      refine vNil ?_
      change VC _ _ _ _
      refine vCond rfl (fun hb18 => ?_) (fun hb18 => ?_)
      ·replace h := cnd_t hb18 h
       refine vSeq ?_
       refine vRegion ?_
       refine oVal tt rfl rfl rfl rfl rfl trivial ?_
       refine vNil ?_
       change VC _ _ _ _
       refine vRet ?_
       change ∃ _, _
       cases h
       exact ⟨[], _, rfl, trivial, rfl, (.eq rfl), rfl⟩
      ·replace h := cnd_f hb18 h
       refine vSkip ?_
       change VC _ _ _ _
       refine vSeq ?_
       refine vRegion ?_
       refine oVal tt rfl rfl rfl rfl rfl trivial ?_
       refine vNil ?_
       change VC _ _ _ _
       refine vRet ?_
       change ∃ _, _
       cases h
       exact ⟨[], _, rfl, trivial, rfl, (.eq rfl), rfl⟩
end Go.Proofs.YtmoamglpocjhgaaGreat
