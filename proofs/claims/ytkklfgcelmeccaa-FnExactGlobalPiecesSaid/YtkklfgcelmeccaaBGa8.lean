/- Texts that the proof needs, put together: Rb G69 Pbr G68 G80 Pmd Pme G111. -/
import Derived.Test.YtkklfgcelmeccaaBGa3
import Derived.Test.YtkklfgcelmeccaaBGa4
import Derived.Test.YtkklfgcelmeccaaBGa5
import Derived.Test.YtkklfgcelmeccaaBGa7
set_option linter.unusedVariables false
set_option linter.unusedSimpArgs false
namespace Go.Proofs.Ytkklfgcelmeccaa
variable {N : Nat}
theorem drop_getD {α : Type} {l : List α} {i : Nat} (d : α) (hi : i < l.length) : l.drop i = l.getD i d :: l.drop (i + 1) := by
 rw [List.drop_eq_getElem_cons hi, List.getD_eq_getElem?_getD, List.getElem?_eq_getElem hi]; rfl
theorem idxF_l (hN : 4000000 ≤ N) {l : List Int} (hl : l.length ≤ 3000000) (m : Int) : ∀ (fuel i : Nat), i ≤ l.length → l.length < fuel + i → ∃ v : Int, G_IndexFunc_int_l1 N m l (fun (_ : Unit) => some ((-1 : Int), l)) fuel (i : Int) = some (v, l) ∧ (decide (v ≥ (0 : Int))) = (l.drop i).any fun o => andI m o == m := by
 intro fuel
 induction fuel with
 | zero => intro i h1 h2; omega
 | succ fuel ih =>
  intro i h1 h2
  rw [G_IndexFunc_int_l1]
  by_cases hi : i < l.length
  ·rw [cnd_dt (by omega), grd_pos (by omega), show ((i : Int)).toNat = i from by omega, drop_getD 0 hi, List.any_cons]
   unfold I_GlobalPieces_1
   rw [Option.bind_some]
   cases andI m (l.getD i 0) == m with
   | true => rw [cnd_true]; exact ⟨(i : Int), rfl, by rw [Bool.true_or]; exact decide_eq_true (by omega)⟩
   | false => rw [cnd_false, grd_R (by omega) (by omega), succ_cast, Bool.false_or]; exact ih (i + 1) (by omega) (by omega)
  ·rw [cnd_df (by omega), show i = l.length from by omega, List.drop_length]
   exact ⟨-1, rfl, rfl⟩
theorem conF_s (hN : 4000000 ≤ N) {l : List Int} (hl : l.length ≤ 3000000) (m : Int) : G_ContainsFunc_int N l m = some (l.any (fun o => andI m o == m), l) := by
 obtain ⟨v, h1, h2⟩ := idxF_l hN hl m N 0 (by omega) (by omega)
 rw [List.drop_zero] at h2
 unfold G_ContainsFunc_int G_IndexFunc_int
 rw [show G_IndexFunc_int_l1 N m l (fun (_ : Unit) => some ((-1 : Int), l)) N (0 : Int) = some (v, l) from h1, Option.bind_some]
 show some (decide (v ≥ (0 : Int)), l) = _
 rw [h2]
theorem gp_l4 (hN : 4000000 ≤ N) {L : List (List Int)} {U : List Int} {i : Nat} (hi : i < L.length) (hL : L.length ≤ 3000000) (hb : (L.getD i []).length ≤ 1000) (hU : U.length ≤ 1000) (kk : Bool → Option (List (List Int))) : ∀ (fuel j : Nat) (f : Bool), j ≤ U.length → U.length < fuel + j → S_GlobalPieces_l4 N L U (i : Int) kk fuel (f, (j : Int)) = kk (f && (U.drop j).all fun x => (L.getD i []).contains x) := by
 intro fuel
 induction fuel with
 | zero => intro j f h1 h2; omega
 | succ fuel ih =>
  intro j f h1 h2
  rw [S_GlobalPieces_l4]
  by_cases hj : j < U.length
  ·rw [cnd_dt (by omega), drop_getD 0 hj, List.all_cons]
   cases f with
   | true =>
    rw [cnd_true, grd_pos (by omega), grd_pos (by omega), show ((j : Int)).toNat = j from by omega, show ((i : Int)).toNat = i from by omega, l2Has_s N hN (by omega), Option.bind_some, grd_R (by omega) (by omega), succ_cast]
    refine (ih (j + 1) _ (by omega) (by omega)).trans ?_
    rw [Bool.true_and]
   | false =>
    rw [cnd_false, grd_R (by omega) (by omega), succ_cast]
    refine (ih (j + 1) _ (by omega) (by omega)).trans ?_
    simp
  ·rw [cnd_df (by omega), show j = U.length from by omega, List.drop_length]; simp
theorem gp_l3 (hN : 4000000 ≤ N) {L : List (List Int)} {U : List Int} (hL : L.length ≤ 3000000) (hb : ∀ i, i < L.length → (L.getD i []).length ≤ 1000) (hU : U.length ≤ 1000) (kk : Bool → Option (List (List Int))) : ∀ (fuel i : Nat) (f : Bool), i ≤ L.length → L.length < fuel + i → S_GlobalPieces_l3 N L U kk fuel (f, (i : Int)) = kk (f || (L.drop i).any fun A => U.all fun x => A.contains x) := by
 intro fuel
 induction fuel with
 | zero => intro i f h1 h2; omega
 | succ fuel ih =>
  intro i f h1 h2
  rw [S_GlobalPieces_l3]
  by_cases hi : i < L.length
  ·have hz := fun kk => gp_l4 hN hi hL (hb i hi) hU kk N 0 true (by omega) (by omega)
   simp only [List.drop_zero, Bool.true_and] at hz
   rw [cnd_dt (by omega), drop_getD [] hi, List.any_cons]
   refine (hz _).trans ?_
   cases f with
   | true =>
    rw [cnd_true, grd_R (by omega) (by omega), succ_cast]
    refine (ih (i + 1) _ (by omega) (by omega)).trans ?_
    simp
   | false =>
    rw [cnd_false, grd_R (by omega) (by omega), succ_cast]
    refine (ih (i + 1) _ (by omega) (by omega)).trans ?_
    rw [Bool.false_or]
  ·rw [cnd_df (by omega), show i = L.length from by omega, List.drop_length]; simp
theorem sub_mask {n m o : Nat} (hn8 : n ≤ 8) (hm : m < 2 ^ n) (ho : o < 2 ^ n) : ((setU (m : Int) n).all fun x => (setU (o : Int) n).contains x) = (andI (m : Int) (o : Int) == (m : Int)) := by
 have h8 : 2 ^ n ≤ 2 ^ 8 := Nat.pow_le_pow_right (by omega) hn8
 have h88 : (2 : Nat) ^ 8 = 256 := by decide
 rw [← base_all hn8 ho hm (A := setU (m : Int) n) (fun x hx => setU_rg hx) (fun j hj => by rw [setU_mem hj, bitB_nat (by omega) (by omega)])]
 rw [andI_nat (by omega) (by omega), andI_nat (by omega) (by omega), Nat.and_comm]
theorem gp_l2 (hN : 4000000 ≤ N) {g : Grf} (hb : g.bars.length ≤ 1000) {n : Nat} (hgn : g.n = (n : Int)) (hn8 : n ≤ 8) {size : Int} {kS : List (List Int) → Option (List (List Int))} {kI : List (List Int) × List Int × Nat → Option (List (List Int))} :
  ∀ (k i : Nat) (M : List Nat) (fS fI : Nat), i + k = 2 ^ n → k < fS → k < fI → (∀ o ∈ M, o < 2 ^ n) → M.length ≤ 1000000 - k →
  ∃ M' : List Nat, (∀ o ∈ M', o < 2 ^ n) ∧ M'.length ≤ M.length + k ∧
   S_GlobalPieces_l2 N g size kS fS (M.map (fun m : Nat => setU (m : Int) n), (i : Int)) = kS (M'.map fun m : Nat => setU (m : Int) n) ∧
   I_GlobalPieces_l2 N g size kI fI (M.map (fun m : Nat => setU (m : Int) n), M.map (fun m : Nat => (m : Int)), M.length, (i : Int)) = kI (M'.map (fun m : Nat => setU (m : Int) n), M'.map (fun m : Nat => (m : Int)), M'.length) := by
 have h8 : 2 ^ n ≤ 2 ^ 8 := Nat.pow_le_pow_right (by omega) hn8
 have h88 : (2 : Nat) ^ 8 = 256 := by decide
 have hpw : (1 : Int) * 2 ^ n = ((2 ^ n : Nat) : Int) := by rw [Int.one_mul]; simp
 have e0 : g.n.toNat = n := by omega
 have hpos : (0 : Int) ≤ ((2 ^ n : Nat) : Int) := Int.natCast_nonneg _
 have hR : Rg64 ((2 ^ n : Nat) : Int) := ⟨by omega, by omega⟩
 intro k
 induction k with
 | zero =>
  intro i M fS fI h1 h2 h3 h4 h5
  obtain ⟨fS, rfl⟩ : ∃ f, fS = f + 1 := ⟨fS - 1, by omega⟩
  obtain ⟨fI, rfl⟩ : ∃ f, fI = f + 1 := ⟨fI - 1, by omega⟩
  rw [S_GlobalPieces_l2, I_GlobalPieces_l2, e0, hpw, grd_pos ⟨by omega, by omega, hR⟩, cnd_df (by omega), cnd_df (by omega)]
  exact ⟨M, h4, by omega, rfl, rfl⟩
 | succ k ih =>
  intro i M fS fI h1 h2 h3 h4 h5
  obtain ⟨fS, rfl⟩ : ∃ f, fS = f + 1 := ⟨fS - 1, by omega⟩
  obtain ⟨fI, rfl⟩ : ∃ f, fI = f + 1 := ⟨fI - 1, by omega⟩
  have hi : i < 2 ^ n := by omega
  have hsl := setU_len (i : Int) n
  obtain ⟨v, bb, w1, w2, w3⟩ := glob_x hN hb hgn hn8 hi
  have hl3 : ∀ kk, S_GlobalPieces_l3 N (M.map fun m : Nat => setU (m : Int) n) (setU (i : Int) n) kk N (false, (0 : Int)) = kk ((M.map fun m : Nat => (m : Int)).any fun o => andI (i : Int) o == (i : Int)) := fun kk => by
   have := gp_l3 hN (L := M.map fun m : Nat => setU (m : Int) n) (U := setU (i : Int) n) (by rw [List.length_map]; omega) (fun j hj => by
    rw [List.length_map] at hj
    rw [List.getD_eq_getElem?_getD, List.getElem?_map, List.getElem?_eq_getElem hj]
    have := setU_len (M[j] : Int) n
    simp only [Option.map_some, Option.getD_some]; omega) (by omega) kk N 0 false (by rw [List.length_map]; omega) (by rw [List.length_map]; omega)
   rw [List.drop_zero, Bool.false_or, List.any_map] at this
   refine this.trans (congrArg kk ?_)
   rw [List.any_map, Bool.eq_iff_iff, List.any_eq_true, List.any_eq_true]
   constructor
   ·rintro ⟨o, ho, e⟩; exact ⟨o, ho, by rw [← e]; exact (sub_mask hn8 hi (h4 o ho)).symm⟩
   ·rintro ⟨o, ho, e⟩; exact ⟨o, ho, by rw [← e]; exact sub_mask hn8 hi (h4 o ho)⟩
  have hcf := conF_s hN (l := M.map fun m : Nat => (m : Int)) (by rw [List.length_map]; omega) (i : Int)
  rw [S_GlobalPieces_l2, I_GlobalPieces_l2, e0, hpw, grd_pos ⟨by omega, by omega, hR⟩, cnd_dt (show (i : Int) < ((2 ^ n : Nat) : Int) by omega), cnd_dt (show (i : Int) < ((2 ^ n : Nat) : Int) by omega), setS_s hN (by omega), setI_s hN (by omega), e0, Option.bind_some, Option.bind_some, hl3]
  have no : ∃ M' : List Nat, (∀ o ∈ M', o < 2 ^ n) ∧ M'.length ≤ M.length + (k + 1) ∧
    S_GlobalPieces_l2 N g size kS fS (M.map (fun m : Nat => setU (m : Int) n), ((i + 1 : Nat) : Int)) = kS (M'.map fun m : Nat => setU (m : Int) n) ∧
    I_GlobalPieces_l2 N g size kI fI (M.map (fun m : Nat => setU (m : Int) n), M.map (fun m : Nat => (m : Int)), M.length, ((i + 1 : Nat) : Int)) = kI (M'.map (fun m : Nat => setU (m : Int) n), M'.map (fun m : Nat => (m : Int)), M'.length) := by
   obtain ⟨M', k1, k2, k3, k4⟩ := ih (i + 1) M fS fI (by omega) (by omega) (by omega) h4 (by omega)
   exact ⟨M', k1, by omega, k3, k4⟩
  cases hsz : ((setU (i : Int) n).length : Int) == size with
  | false =>
   obtain ⟨M', k1, k2, k3, k4⟩ := no
   refine ⟨M', k1, k2, ?_, ?_⟩
   ·rw [cnd_false, grd_R (by omega) (by omega), succ_cast]; exact k3
   ·rw [cnd_false, grd_R (by omega) (by omega), succ_cast]; exact k4
  | true =>
   rw [cnd_true, cnd_true, grd_pos (p := M.length = (M.map fun m : Nat => (m : Int)).length) (by rw [List.length_map]), hcf, Option.bind_some]
   show ∃ M' : List Nat, _ ∧ _ ∧ _ ∧ cnd (!((M.map fun m : Nat => (m : Int)).any fun o => andI (i : Int) o == (i : Int))) _ _ = _
   cases ((M.map fun m : Nat => (m : Int)).any fun o => andI (i : Int) o == (i : Int)) with
   | true =>
    obtain ⟨M', k1, k2, k3, k4⟩ := no
    refine ⟨M', k1, k2, ?_, ?_⟩
    ·rw [Bool.not_true, cnd_false, grd_R (by omega) (by omega), succ_cast]; exact k3
    ·rw [Bool.not_true, cnd_false, grd_R (by omega) (by omega), succ_cast]; exact k4
   | false =>
    rw [Bool.not_false, cnd_true, cnd_true, w1, Option.bind_some, w2, Option.bind_some, w3, Option.bind_some]
    cases bb with
    | false =>
     obtain ⟨M', k1, k2, k3, k4⟩ := no
     refine ⟨M', k1, k2, ?_, ?_⟩
     ·rw [cnd_false, grd_R (by omega) (by omega), succ_cast]; exact k3
     ·rw [cnd_false, grd_R (by omega) (by omega), succ_cast]; exact k4
    | true =>
     obtain ⟨M', k1, k2, k3, k4⟩ := ih (i + 1) (M ++ [i]) fS fI (by omega) (by omega) (by omega) (fun o ho => by
      rw [List.mem_append, List.mem_singleton] at ho
      rcases ho with ho | rfl
      ·exact h4 o ho
      ·exact hi) (by rw [List.length_append, List.length_singleton]; omega)
     rw [List.length_append, List.length_singleton] at k2
     have hml : (M.map fun m : Nat => setU (m : Int) n).length = M.length := List.length_map ..
     have hml2 : (M.map fun m : Nat => (m : Int)).length = M.length := List.length_map ..
     refine ⟨M', k1, by omega, ?_, ?_⟩
     ·rw [cnd_true, grd_pos (by omega), grd_R (by omega) (by omega), succ_cast]
      rw [List.map_append] at k3; exact k3
     ·rw [cnd_true, grd_pos (p := M.length ≤ (M.map fun m : Nat => (m : Int)).length) (by omega), grd_pos (by omega), grd_pos (by omega), grd_R (by omega) (by omega), succ_cast]
      rw [List.map_append, List.map_append, List.length_append] at k4
      rw [show (M.map fun m : Nat => (m : Int)).take M.length = M.map fun m : Nat => (m : Int) from by rw [← hml2, List.take_length], List.length_append, hml2]
      exact k4
theorem gp_l1 (hN : 4000000 ≤ N) {g : Grf} (hb : g.bars.length ≤ 1000) {n : Nat} (hgn : g.n = (n : Int)) (hn8 : n ≤ 8) :
  ∀ (s : Nat) (M : List Nat) (fS fI : Nat), s ≤ 8 → s + 2 < fS → s + 2 < fI → (∀ o ∈ M, o < 2 ^ n) → M.length + s * 256 ≤ 3000 →
  ∃ M' : List Nat, (∀ o ∈ M', o < 2 ^ n) ∧ M'.length ≤ 3000 ∧
   S_GlobalPieces_l1 N g (fun (l2002 : List (List Int)) => some l2002) fS (M.map (fun m : Nat => setU (m : Int) n), (s : Int)) = some (M'.map fun m : Nat => setU (m : Int) n) ∧
   I_GlobalPieces_l1 N g (fun (l179 : List (List Int)) => some l179) fI (M.map (fun m : Nat => setU (m : Int) n), M.map (fun m : Nat => (m : Int)), M.length, (s : Int)) = some (M'.map fun m : Nat => setU (m : Int) n) := by
 have h8 : 2 ^ n ≤ 2 ^ 8 := Nat.pow_le_pow_right (by omega) hn8
 have h88 : (2 : Nat) ^ 8 = 256 := by decide
 have hone : 0 < 2 ^ n := Nat.pow_pos (by omega)
 have hpw : (1 : Int) * 2 ^ n = ((2 ^ n : Nat) : Int) := by rw [Int.one_mul]; simp
 have e0 : g.n.toNat = n := by omega
 have hpos : (0 : Int) ≤ ((2 ^ n : Nat) : Int) := Int.natCast_nonneg _
 have hR : Rg64 ((2 ^ n : Nat) : Int) := ⟨by omega, by omega⟩
 intro s
 induction s with
 | zero =>
  intro M fS fI h1 h2 h3 h4 h5
  obtain ⟨fS, rfl⟩ : ∃ f, fS = f + 1 := ⟨fS - 1, by omega⟩
  obtain ⟨fI, rfl⟩ : ∃ f, fI = f + 1 := ⟨fI - 1, by omega⟩
  rw [S_GlobalPieces_l1, I_GlobalPieces_l1, cnd_df (by omega), cnd_df (by omega)]
  exact ⟨M, h4, by omega, rfl, rfl⟩
 | succ s ih =>
  intro M fS fI h1 h2 h3 h4 h5
  obtain ⟨fS, rfl⟩ : ∃ f, fS = f + 1 := ⟨fS - 1, by omega⟩
  obtain ⟨fI, rfl⟩ : ∃ f, fI = f + 1 := ⟨fI - 1, by omega⟩
  rw [S_GlobalPieces_l1, I_GlobalPieces_l1]
  by_cases hs : 2 ≤ s + 1
  ·rw [cnd_dt (by omega), cnd_dt (by omega), e0, hpw, grd_pos ⟨by omega, by omega, hR⟩]
   obtain ⟨M1, a1, a2, a3, a4⟩ := gp_l2 hN hb hgn hn8 (size := ((s + 1 : Nat) : Int)) (kS := fun (l3757 : List (List Int)) => grd (Rg64 (((s + 1 : Nat) : Int) - (1 : Int))) <| S_GlobalPieces_l1 N g (fun (l2002 : List (List Int)) => some l2002) fS (l3757, (((s + 1 : Nat) : Int) - (1 : Int))))
    (kI := fun (x : (List (List Int)) × (List Int) × Nat) => match x with | (l341, l342, n343) => grd (Rg64 (((s + 1 : Nat) : Int) - (1 : Int))) <| I_GlobalPieces_l1 N g (fun (l179 : List (List Int)) => some l179) fI (l341, l342, n343, (((s + 1 : Nat) : Int) - (1 : Int)))) (2 ^ n - 1) 1 M N (N - 1) (by omega) (by omega) (by omega) h4 (by omega)
   have e1 : ((s + 1 : Nat) : Int) - 1 = (s : Int) := by omega
   obtain ⟨M2, b1, b2, b3, b4⟩ := ih M1 fS fI (by omega) (by omega) (by omega) a1 (by omega)
   refine ⟨M2, b1, b2, ?_, ?_⟩
   ·refine Eq.trans a3 ?_
    show grd (Rg64 (((s + 1 : Nat) : Int) - (1 : Int))) _ = _
    rw [grd_R (by omega) (by omega), e1]; exact b3
   ·obtain ⟨P, rfl⟩ : ∃ P, N = P + 1 := ⟨N - 1, by omega⟩
    have hz : setU ((0 : Nat) : Int) n = [] := by
     unfold setU
     have : (List.range n).filter (bitB ((0 : Nat) : Int)) = [] := List.filter_eq_nil_iff.2 fun j hj => by
      have := List.mem_range.1 hj
      rw [bitB_nat (by omega) (by omega)]; simp
     rw [this]; rfl
    have hz' : setU (0 : Int) n = [] := hz
    rw [I_GlobalPieces_l2, e0, hpw, cnd_dt (show (0 : Int) < ((2 ^ n : Nat) : Int) by omega), setI_s hN (by omega), e0, Option.bind_some, hz']
    have hne : ((([] : List Int).length : Int) == ((s + 1 : Nat) : Int)) = false := by
     rw [beq_eq_false_iff_ne]; simp; omega
    rw [hne, cnd_false, grd_R (by omega) (by omega)]
    refine Eq.trans a4 ?_
    show grd (Rg64 (((s + 1 : Nat) : Int) - (1 : Int))) _ = _
    rw [grd_R (by omega) (by omega), e1]; exact b4
  ·rw [cnd_df (by omega), cnd_df (by omega)]
   exact ⟨M, h4, by omega, rfl, rfl⟩
theorem pieces_x (hN : 4000000 ≤ N) {g : Grf} (hb : g.bars.length ≤ 3000000) : ∃ r : List (List Int), r.length ≤ 3000 ∧ (∀ x ∈ r, x.length ≤ 8) ∧ S_GlobalPieces N g = some r ∧ I_GlobalPieces N g = some r := by
 unfold S_GlobalPieces I_GlobalPieces
 rw [l17Simple_s N hN hb, anchI_s N hN hb (by simp), Option.bind_some, Option.bind_some]
 have ea : anchOk g [] = isSimple g := by simp [anchOk, asc]
 rw [ea]
 cases hs : isSimple g with
 | false => exact ⟨[], by simp, by simp, rfl, rfl⟩
 | true =>
  rw [Bool.not_true, cnd_false, cnd_false]
  simp only [isSimple, Bool.and_eq_true] at hs
  have hp := isGraph_parts hs.1
  obtain ⟨n, hgn⟩ : ∃ n : Nat, g.n = (n : Int) := ⟨g.n.toNat, by omega⟩
  have hn8 : n ≤ 8 := by omega
  obtain ⟨M', a1, a2, a3, a4⟩ := gp_l1 hN (g := g) (by omega) hgn hn8 n [] N N hn8 (by omega) (by omega) (by simp) (by simp; omega)
  rw [hgn]
  refine ⟨M'.map fun m : Nat => setU (m : Int) n, by rw [List.length_map]; exact a2, fun x hx => ?_, a3, a4⟩
  obtain ⟨m, _, rfl⟩ := List.mem_map.1 hx
  have := setU_len (m : Int) n; omega
end Go.Proofs.Ytkklfgcelmeccaa
namespace Go.Proofs.Ytkklfgcelmeccaa
open Go.RowKit Go.Deep
end Go.Proofs.Ytkklfgcelmeccaa
namespace Go.Proofs.Ytkklfgcelmeccaa
open Go.ChangeShapes Go.WideShapes Go.ChangeAt Go.RowKit Go.Deep
section
variable {H : Type} {enc : TypeId × Value → H} {P : Program} {w : World} {spare : Nat → Bool} {held : Bool} {fuel : Nat} {cs : List Value} {x : DataW H × List MemPlace}
end
variable (N : Nat)
end Go.Proofs.Ytkklfgcelmeccaa
namespace Go.Proofs.Ytkklfgcelmeccaa
open Go.RowKit
def L_heldIntSS_l1 (N : Nat) (a_0 : List (List Int)) (k : Int → Option (Int)) : Nat → (Int × Int) → Option (Int)
 | 0, _ => none
 | n + 1, (k9, i10) =>
  cnd (decide (i10 < (a_0.length : Int))) (
   grd (0 ≤ i10 ∧ i10 < (a_0.length : Int)) <|
   (L_heldIntS N (a_0.getD ((i10).toNat) []) k9).bind fun v12 =>
   cnd (decide (v12 < (0 : Int))) (
    some (-1 : Int)) (
    grd (Rg64 (i10 + (1 : Int))) <|
    L_heldIntSS_l1 N a_0 k n (v12, (i10 + (1 : Int))))) (
   k k9)
def L_heldIntSS (N : Nat) (a_0 : List (List Int)) (k_1 : Int) : Option (Int) :=
 L_heldIntSS_l1 N a_0 (fun (k6 : Int) =>
    some k6) N (k_1, (0 : Int))
set_option maxRecDepth 20000 in
set_option maxHeartbeats 1600000 in
theorem L_heldIntSS_w (N : Nat) (a_0 : List (List Int)) (k_1 : Int) (r : Int) (h : L_heldIntSS N a_0 k_1 = some r) : PCall Try.prog 25 [.ro false (.intss a_0), .int k_1] [] (.int r) := by
 unfold L_heldIntSS at h
 refine pcall_intro (TT := TT) tt Try.func25 rfl rfl Try.ntmps25 (congrArg Array.toList Try.results25) rfl rfl fun w0 => ?_
 refine vSeq ?_
 refine vRegion ?_
 refine oVal tt rfl rfl rfl rfl rfl trivial ?_
 refine vNil ?_
 change VC _ _ _ _
 iterate 2 refine vSeq ?_
 refine vRegion ?_
 refine oVal tt rfl rfl rfl rfl rfl trivial ?_
 refine vNil ?_
 change VC _ _ _ _
 refine vJoin (F := fun k => L_heldIntSS_l1 N a_0 k) h (α := Int) (J := fun (k6 : Int) => (⟨[(1, .int k6)], [], []⟩ : PS)) ?_ ?_
 ·rintro k6 h
  show VC _ _ _ (⟨[(1, .int k6)], [], []⟩ : PS)
  refine vSeq ?_
  refine vRegion ?_
  iterate 2 refine oVal tt rfl rfl rfl rfl rfl trivial ?_
  refine vNil ?_
  change VC _ _ _ _
  refine vRet ?_
  change ∃ _, _
  cases h
  exact ⟨[], _, rfl, trivial, rfl, (.eq rfl), rfl⟩
 ·intro k h
  refine vBlock ?_
  refine vLoopS (α := Int × Int) (fun | (k9, i10) => (⟨[(0, .ro false (.intss a_0)), (1, .int k9), (5, .int i10)], [], []⟩ : PS)) (L_heldIntSS_l1 N a_0 k) h (En.of ⟨rfl, rfl, rfl, trivial⟩ trivial trivial) (fun _ => rfl) ?_
  rintro n ⟨k9, i10⟩ h
  rw [L_heldIntSS_l1] at h
  show VC _ _ _ (⟨[(0, .ro false (.intss a_0)), (1, .int k9), (5, .int i10)], [], []⟩ : PS)
  iterate 2 refine vSeq ?_
  refine vRegion ?_
  iterate 4 refine oVal tt rfl rfl rfl rfl rfl trivial ?_
  refine vNil ?_
  change VC _ _ _ _
  refine vCond rfl (fun hb1 => ?_) (fun hb1 => ?_)
  ·replace h := cnd_t hb1 h
   refine vSkip ?_
   change VC _ _ _ _
   refine vSeq ?_
   refine vBlock ?_
   refine vSeq ?_
   refine vRegion ?_
   iterate 2 refine oVal tt rfl rfl rfl rfl rfl trivial ?_
   obtain ⟨hg2, h⟩ := grd_inv h
   refine oVal tt rfl rfl rfl rfl rfl hg2 ?_
   iterate 2 refine oVal tt rfl rfl rfl rfl rfl trivial ?_
   obtain ⟨v12, hc3, h⟩ := bind_inv h
   refine oCall (L_heldIntS_w N (a_0.getD ((i10).toNat) []) k9 v12 hc3) rfl rfl rfl rfl rfl rfl rfl rfl ⟨rfl, rfl, trivial⟩ ?_
   refine oVal tt rfl rfl rfl rfl rfl trivial ?_
   refine vNil ?_
   change VC _ _ _ _
   refine vSeq ?_
   refine vRegion ?_
   iterate 2 refine oVal tt rfl rfl rfl rfl rfl trivial ?_
   refine vNil ?_
   change VC _ _ _ _
   refine vCond rfl (fun hb4 => ?_) (fun hb4 => ?_)
   ·replace h := cnd_t hb4 h
    refine vSeq ?_
    refine vRegion ?_
    refine oVal tt rfl rfl rfl rfl rfl trivial ?_
    refine vNil ?_
    change VC _ _ _ _
    refine vRet ?_
    change ∃ _, _
    cases h
    exact ⟨[], _, rfl, trivial, rfl, (.eq rfl), rfl⟩
   ·replace h := cnd_f hb4 h
    refine vSkip ?_
    change VC _ _ _ _
    refine vRegion ?_
    refine oVal tt rfl rfl rfl rfl rfl trivial ?_
    obtain ⟨hg5, h⟩ := grd_inv h
    refine oVal tt rfl rfl rfl rfl rfl hg5 ?_
    refine oVal tt rfl rfl rfl rfl rfl trivial ?_
    refine vNil ?_
    change ∃ _, _
    exact ⟨(v12, (i10 + (1 : Int))), (En.of ⟨rfl, rfl, rfl, trivial⟩ trivial trivial), h⟩
  ·replace h := cnd_f hb1 h
   refine vExit ?_
   change ∃ _, _
   exact ⟨k9, (En.of ⟨rfl, trivial⟩ trivial trivial), h⟩
end Go.Proofs.Ytkklfgcelmeccaa
namespace Go.Proofs.Ytkklfgcelmeccaa
open Go.RowKit Go.Deep
def L_markIntSS_l1 (N : Nat) (a_0 : List (List Int)) (k : ((List (List Int)) × Int) → Option (Int × (List (List Int)))) : Nat → ((List (List Int)) × Int × Int) → Option (Int × (List (List Int)))
 | 0, _ => none
 | n + 1, (l11, k12, i13) =>
  cnd (decide (i13 < (a_0.length : Int))) (
   grd (0 ≤ i13 ∧ i13 < (a_0.length : Int)) <|
   grd (0 ≤ i13 ∧ i13 < (l11.length : Int)) <|
   (L_markIntS N (l11.getD ((i13).toNat) []) k12).bind fun v15 =>
   grd (v15.2.length = (l11.getD ((i13).toNat) []).length) <|
   grd (Rg64 (i13 + (1 : Int))) <|
   L_markIntSS_l1 N a_0 k n ((l11.set ((i13).toNat) v15.2), v15.1, (i13 + (1 : Int)))) (
   k (l11, k12))
def L_markIntSS (N : Nat) (a_0 : List (List Int)) (k_1 : Int) : Option (Int × (List (List Int))) :=
 L_markIntSS_l1 N a_0 (fun (x : (List (List Int)) × Int) =>
   match x with
   | (l7, k8) =>
    some (k8, l7)) N (a_0, k_1, (0 : Int))
set_option maxRecDepth 20000 in
set_option maxHeartbeats 1600000 in
theorem L_markIntSS_w (N : Nat) (a_0 : List (List Int)) (k_1 : Int) (r : Int × (List (List Int))) (h : L_markIntSS N a_0 k_1 = some r) : MCall Try.prog 24 [.row 1000000 0 a_0.length, .int k_1] [1000000, 8589934602] [] [(35, dR 10 (.intss a_0)), (3, dF (.intss a_0))] [(35, dR 10 (.intss r.2)), (3, dF (.intss r.2))] [] [] (.int r.1) := by
 unfold L_markIntSS at h
 refine mcall_intro (TT := TT) tt Try.func24 rfl rfl Try.ntmps24 (congrArg Array.toList Try.results24) rfl rfl rfl rfl rfl fun w0 O0 => ?_
 refine vSeq ?_
 refine vRegion ?_
 refine oVal tt rfl rfl rfl rfl rfl trivial ?_
 refine vNil ?_
 change VC _ _ _ _
 iterate 2 refine vSeq ?_
 refine vRegion ?_
 refine oVal tt rfl rfl rfl rfl rfl trivial ?_
 refine vNil ?_
 change VC _ _ _ _
 refine vJoin (F := fun k => L_markIntSS_l1 N a_0 k) h (α := (List (List Int)) × Int) (J := fun | (l7, k8) => (⟨[(1, .int k8)], [(1000000, some (35, dR 10 (.intss l7))), (8589934602, some (3, dF (.intss l7)))], []⟩ : PS)) ?_ ?_
 ·rintro ⟨l7, k8⟩ h
  show VC _ _ _ (⟨[(1, .int k8)], [(1000000, some (35, dR 10 (.intss l7))), (8589934602, some (3, dF (.intss l7)))], []⟩ : PS)
  refine vSeq ?_
  refine vRegion ?_
  iterate 2 refine oVal tt rfl rfl rfl rfl rfl trivial ?_
  refine vNil ?_
  change VC _ _ _ _
  refine vRet ?_
  change ∃ _, _
  cases h
  exact ⟨[1000000, 8589934602], rfl, ⟨rfl, rfl, trivial⟩, trivial, rfl⟩
 ·intro k h
  refine vBlock ?_
  refine vLoopS (α := (List (List Int)) × Int × Int) (fun | (l11, k12, i13) => (⟨[(0, .row 1000000 0 a_0.length), (1, .int k12), (5, .int i13)], [(1000000, some (35, dR 10 (.intss l11))), (8589934602, some (3, dF (.intss l11)))], []⟩ : PS)) (L_markIntSS_l1 N a_0 k) h (En.of ⟨rfl, rfl, rfl, trivial⟩ ⟨rfl, rfl, trivial⟩ trivial) (fun _ => rfl) ?_
  rintro n ⟨l11, k12, i13⟩ h
  rw [L_markIntSS_l1] at h
  show VC _ _ _ (⟨[(0, .row 1000000 0 a_0.length), (1, .int k12), (5, .int i13)], [(1000000, some (35, dR 10 (.intss l11))), (8589934602, some (3, dF (.intss l11)))], []⟩ : PS)
  iterate 2 refine vSeq ?_
  refine vRegion ?_
  iterate 4 refine oVal tt rfl rfl rfl rfl rfl trivial ?_
  refine vNil ?_
  change VC _ _ _ _
  refine vCond rfl (fun hb1 => ?_) (fun hb1 => ?_)
  ·replace h := cnd_t hb1 h
   refine vSkip ?_
   change VC _ _ _ _
   refine vSeq ?_
   refine vBlock ?_
   refine vRegion ?_
   iterate 2 refine oVal tt rfl rfl rfl rfl rfl trivial ?_
   obtain ⟨hg2, h⟩ := grd_inv h
   refine oVal tt rfl rfl rfl rfl rfl hg2 ?_
   obtain ⟨hg3, h⟩ := grd_inv h
   refine oLoadD tt (wNone rfl) (.intss l11) rfl rfl rfl rfl rfl rfl rfl rfl rfl hg3 ?_
   refine oVal tt rfl rfl rfl rfl rfl trivial ?_
   obtain ⟨v15, hc4, h⟩ := bind_inv h
   obtain ⟨hg5, h⟩ := grd_inv h
   refine oMCallI 1000000 (.intss (l11.set ((i13).toNat) v15.2)) (L_markIntS_w N (l11.getD ((i13).toNat) []) k12 v15 hc4) rfl rfl rfl rfl rfl rfl rfl rfl rfl (by simp only [Sq.len, List.length_set, List.length_append, List.length_replicate] at *; omega) (inI _ _ _ _ (by first | omega | (simp only [List.length_set, List.length_append, List.length_replicate] at *; omega)) hg5) hg5 rfl rfl ?_
   refine oVal tt rfl rfl rfl rfl rfl trivial ?_
   refine vNil ?_
   change VC _ _ _ _
   refine vRegion ?_
   refine oVal tt rfl rfl rfl rfl rfl trivial ?_
   obtain ⟨hg6, h⟩ := grd_inv h
   refine oVal tt rfl rfl rfl rfl rfl hg6 ?_
   refine oVal tt rfl rfl rfl rfl rfl trivial ?_
   refine vNil ?_
   change ∃ _, _
   exact ⟨((l11.set ((i13).toNat) v15.2), v15.1, (i13 + (1 : Int))), (En.of ⟨rfl, rfl, rfl, trivial⟩ ⟨rfl, rfl, trivial⟩ trivial), h⟩
  ·replace h := cnd_f hb1 h
   refine vExit ?_
   change ∃ _, _
   exact ⟨(l11, k12), (En.of ⟨rfl, trivial⟩ ⟨rfl, rfl, trivial⟩ trivial), h⟩
end Go.Proofs.Ytkklfgcelmeccaa
namespace Go.Proofs.Ytkklfgcelmeccaa
variable {N : Nat}
def mkR (k : Int) : List Nat → List (Int × List Int)
 | [] => []
 | m :: l => (k, mkI (k + 1) m) :: mkR (k + 1 + (m : Int)) l
def mkII (k : Int) : List Nat → List (List Int)
 | [] => []
 | m :: l => mkI k m :: mkII (k + (m : Int)) l
theorem mkII_len (k : Int) (l : List Nat) : (mkII k l).length = l.length := by
 induction l generalizing k with
 | nil => rfl
 | cons m l ih => simp [mkII, ih]
theorem getD_at {α : Type} {a : List α} {x d : α} {b : List α} {i : Nat} (h : a.length = i) : (a ++ x :: b).getD i d = x := by subst h; simp
theorem set_at {α : Type} {a : List α} {x y : α} {b : List α} {i : Nat} (h : a.length = i) : (a ++ x :: b).set i y = a ++ y :: b := by subst h; simp
theorem app_shift {α : Type} (a b : List α) (x : α) : a ++ x :: b = (a ++ [x]) ++ b := by simp
end Go.Proofs.Ytkklfgcelmeccaa
namespace Go.Proofs.Ytkklfgcelmeccaa
variable {N : Nat}
def lnSS {α : Type} (a : List (List α)) : Nat := (a.map List.length).sum
theorem lnSS_bd {α : Type} {m : Nat} : ∀ {a : List (List α)}, (∀ x ∈ a, x.length ≤ m) → lnSS a ≤ a.length * m
 | [], _ => by simp [lnSS]
 | x :: a, h => by
  have h1 := h x (by simp)
  have h2 := lnSS_bd (a := a) fun y hy => h y (by simp [hy])
  have e : lnSS (x :: a) = x.length + lnSS a := by simp [lnSS]
  rw [e, List.length_cons, Nat.succ_mul]; omega
theorem markIntSS_l (hN : 4000000 ≤ N) {a : List (List Int)} (ha : a.length ≤ 1048576) (kk : List (List Int) × Int → Option (Int × List (List Int))) : ∀ (rest : List (List Int)) (pre : List (List Int)) (k : Int) (n : Nat), pre.length + rest.length = a.length → rest.length < n → 0 ≤ k → k + (lnSS rest : Int) ≤ 100000000 → lnSS rest ≤ 1048576 →
  L_markIntSS_l1 N a kk n (pre ++ rest, k, (pre.length : Int)) = kk (pre ++ mkII k (rest.map List.length), k + (lnSS rest : Int)) := by
 intro rest
 induction rest with
 | nil =>
  intro pre k n h1 h2 h3 h4 h5
  cases n with
  | zero => simp at h2
  | succ n =>
   simp at h1
   rw [L_markIntSS_l1, cnd_df (by omega)]
   simp [lnSS, mkII]
 | cons r rest ih =>
  intro pre k n h1 h2 h3 h4 h5
  cases n with
  | zero => simp at h2
  | succ n =>
   simp at h1 h2
   have e0 : lnSS (r :: rest) = r.length + lnSS rest := by simp [lnSS]
   have e : ((pre.length : Int)).toNat = pre.length := by omega
   have g1 : 0 ≤ (pre.length : Int) ∧ (pre.length : Int) < (a.length : Int) := by omega
   have g2 : 0 ≤ (pre.length : Int) ∧ (pre.length : Int) < ((pre ++ r :: rest).length : Int) := by simp; omega
   have hr : r.length ≤ 1048576 := by omega
   rw [L_markIntSS_l1, cnd_dt (by omega), grd_pos g1, grd_pos g2, e, getD_at rfl, markIntS_s hN (by omega) hr, Option.bind_some]
   simp only
   rw [grd_pos (mkI_len _ _), grd_R (by omega) (by omega), set_at rfl, succ_cast, app_shift]
   have h6 : ((pre.length + 1 : Nat) : Int) = ((pre ++ [mkI k r.length]).length : Int) := by simp
   rw [h6, ih _ _ _ (by simp; omega) (by omega) (by omega) (by omega) (by omega)]
   rw [List.map_cons, mkII, e0, ← app_shift]
   congr 2
   omega
theorem markIntSS_s (hN : 4000000 ≤ N) {a : List (List Int)} {k0 : Int} (hk : 0 ≤ k0 ∧ k0 ≤ 50000000) (hl : a.length ≤ 1048576) (ha : lnSS a ≤ 1048576) : L_markIntSS N a k0 = some (k0 + (lnSS a : Int), mkII k0 (a.map List.length)) := by
 unfold L_markIntSS
 exact markIntSS_l hN hl _ a [] k0 N (by simp) (by omega) (by omega) (by omega) ha
theorem heldIntSS_l (hN : 4000000 ≤ N) (kk : Int → Option Int) (a : List (List Int)) : ∀ (ls : List Nat) (pre : List (List Int)) (k : Int) (n : Nat), a = pre ++ mkII k ls → a.length ≤ 1048576 → ls.length < n → 0 ≤ k → k + ((ls.sum : Nat) : Int) ≤ 100000000 → ls.sum ≤ 1048576 →
  L_heldIntSS_l1 N a kk n (k, (pre.length : Int)) = kk (k + ((ls.sum : Nat) : Int)) := by
 intro ls
 induction ls with
 | nil =>
  intro pre k n h1 h2 h3 h4 h5 h6
  cases n with
  | zero => simp at h3
  | succ n =>
   have : a.length = pre.length := by rw [h1]; simp [mkII]
   rw [L_heldIntSS_l1, cnd_df (by omega)]
   simp
 | cons m ls ih =>
  intro pre k n h1 h2 h3 h4 h5 h6
  cases n with
  | zero => simp at h3
  | succ n =>
   simp at h3 h5 h6
   have hl : a.length = pre.length + (1 + ls.length) := by rw [h1]; simp [mkII, mkII_len]; omega
   have e : ((pre.length : Int)).toNat = pre.length := by omega
   have g1 : 0 ≤ (pre.length : Int) ∧ (pre.length : Int) < (a.length : Int) := by omega
   have hg : a.getD pre.length [] = mkI k m := by rw [h1, mkII, getD_at rfl]
   rw [L_heldIntSS_l1, cnd_dt (by omega), grd_pos g1, e, hg, heldIntS_s hN (by omega) (by omega), Option.bind_some, cnd_df (by omega), grd_R (by omega) (by omega), succ_cast]
   have h7 : ((pre.length + 1 : Nat) : Int) = ((pre ++ [mkI k m]).length : Int) := by simp
   rw [h7, ih _ _ n (by rw [h1, mkII, app_shift]) h2 (by omega) (by omega) (by omega) (by omega)]
   congr 1
   simp
   omega
theorem heldIntSS_s (hN : 4000000 ≤ N) {ls : List Nat} {k0 : Int} (hk : 0 ≤ k0 ∧ k0 ≤ 50000000) (h1 : ls.length ≤ 1048576) (h2 : ls.sum ≤ 1048576) : L_heldIntSS N (mkII k0 ls) k0 = some (k0 + ((ls.sum : Nat) : Int)) := by
 unfold L_heldIntSS
 exact heldIntSS_l hN _ (mkII k0 ls) ls [] k0 N rfl (by rw [mkII_len]; exact h1) (by omega) (by omega) (by omega) h2
theorem eqIntSS_l (hN : 4000000 ≤ N) {a : List (List Int)} (ha : a.length ≤ 1048576) (hi : ∀ x ∈ a, x.length ≤ 1048576) (k : Unit → Option Bool) : ∀ n i : Nat, i ≤ a.length → a.length < n + i → L_eqIntSS_l1 N a a k n (i : Int) = k () := by
 intro n
 induction n with
 | zero => intro i h1 h2; omega
 | succ n ih =>
  intro i h1 h2
  rw [L_eqIntSS_l1]
  by_cases hl : i < a.length
  ·have hg : a.getD i [] = a[i] := by simp [hl]
   have e : ((i : Int)).toNat = i := by omega
   rw [cnd_dt (by omega), grd_pos (by omega), grd_pos (by omega), e, hg, eqIntS_s N hN (hi _ (List.getElem_mem hl)), Option.bind_some, Bool.not_true, cnd_false, grd_R (by omega) (by omega), succ_cast]
   exact ih (i + 1) (by omega) (by omega)
  ·rw [cnd_df (by omega)]
theorem eqIntSS_s (hN : 4000000 ≤ N) {a : List (List Int)} (ha : a.length ≤ 1048576) (hi : ∀ x ∈ a, x.length ≤ 1048576) : L_eqIntSS N a a = some true := by
 unfold L_eqIntSS
 rw [bne_self_eq_false, cnd_false]
 exact eqIntSS_l hN ha hi _ N 0 (by omega) (by omega)
end Go.Proofs.Ytkklfgcelmeccaa
namespace Go.Proofs.Ytkklfgcelmeccaa
open Go.RowKit
def L_FnExactGlobalPieces (N : Nat) (aG_0 : Grf) : Option (Bool) :=
 (L_szGraph N aG_0 (1048576 : Int)).bind fun v1 =>
 cnd (decide (v1 < (0 : Int))) (
  some true) (
  (L_toGraph N aG_0).bind fun v2 =>
  (S_GlobalPieces N v2).bind fun v3 =>
  (L_toGraph N aG_0).bind fun v4 =>
  (I_GlobalPieces N v4).bind fun v5 =>
  (L_eqIntSS N v5 v3).bind fun v6 =>
  cnd (!v6) (
   some false) (
   (L_toGraph N aG_0).bind fun v7 =>
   (L_eqGraph N v4 v7).bind fun v8 =>
   cnd (!v8) (
    some false) (
    (L_markGraph N (⟨v4.n, v4.bars⟩ : Grf) (1 : Int)).bind fun v9 =>
    cnd (decide (v9.1 < (0 : Int))) (
     some false) (
     (L_eqIntSS N v5 v3).bind fun v10 =>
     cnd (!v10) (
      some false) (
      (L_markIntSS N v5 (1 : Int)).bind fun v11 =>
      grd (v5.length = v11.2.length) <|
      (L_heldIntSS N v11.2 (1 : Int)).bind fun v12 =>
      cnd (decide (v12 < (0 : Int))) (
       some false) (
       cnd (v12 != v11.1) (
        some false) (
        (L_toGraph N aG_0).bind fun v13 =>
        (I_GlobalPieces N v13).bind fun v14 =>
        (L_eqIntSS N v14 v3).bind fun v15 =>
        cnd (!v15) (
         some false) (
         (L_heldIntSS N v11.2 (1 : Int)).bind fun v16 =>
         cnd (decide (v16 < (0 : Int))) (
          some false) (
          cnd (v16 != v11.1) (
           some false) (
           some true))))))))))
set_option maxRecDepth 20000 in
set_option maxHeartbeats 1600000 in
theorem L_FnExactGlobalPieces_w (N : Nat) (aG_0 : Grf) (r : Bool) (h : L_FnExactGlobalPieces N aG_0 = some r) : PCall Try.prog 6 [gD aG_0] [] (.bool r) := by
 unfold L_FnExactGlobalPieces at h
 refine pcall_intro (TT := TT) tt Try.func6 rfl rfl Try.ntmps6 (congrArg Array.toList Try.results6) rfl rfl fun w0 => ?_
 refine vSeq ?_
 refine vRegion ?_
 refine oBox rfl rfl rfl rfl rfl rfl rfl rfl rfl ?_
 refine oVal tt rfl rfl rfl rfl rfl trivial ?_
 refine vNil ?_
 change VC _ _ _ _
 refine vSeq ?_
 refine vRegion ?_
 refine oVal tt rfl rfl rfl rfl rfl trivial ?_
 refine vNil ?_
 change VC _ _ _ _
 refine vSeq ?_
 refine vRegion ?_
 iterate 2 refine oVal tt rfl rfl rfl rfl rfl trivial ?_
 obtain ⟨v1, hc1, h⟩ := bind_inv h
 refine oCall (L_szGraph_w N aG_0 (1048576 : Int) v1 hc1) rfl rfl rfl rfl rfl rfl rfl rfl ⟨⟨rfl, rfl, trivial⟩, rfl, trivial⟩ ?_
 refine oVal tt rfl rfl rfl rfl rfl trivial ?_
 refine vNil ?_
 change VC _ _ _ _
 iterate 2 refine vSeq ?_
 refine vRegion ?_
 iterate 2 refine oVal tt rfl rfl rfl rfl rfl trivial ?_
 refine vNil ?_
 change VC _ _ _ _
 refine vCond rfl (fun hb2 => ?_) (fun hb2 => ?_)
 ·replace h := cnd_t hb2 h
  refine vSeq ?_
  refine vRegion ?_
  refine oVal tt rfl rfl rfl rfl rfl trivial ?_
  refine vNil ?_
  change VC _ _ _ _
  refine vRet ?_
  change ∃ _, _
  cases h
  exact ⟨[], _, rfl, trivial, rfl, (.eq rfl), rfl⟩
 ·replace h := cnd_f hb2 h
  refine vSkip ?_
  change VC _ _ _ _
  refine vSeq ?_
  refine vRegion ?_
  refine oVal tt rfl rfl rfl rfl rfl trivial ?_
  obtain ⟨v2, hc3, h⟩ := bind_inv h
  refine oCall (L_toGraph_w N aG_0 v2 hc3) rfl rfl rfl rfl rfl rfl rfl rfl ⟨⟨rfl, rfl, trivial⟩, trivial⟩ ?_
  obtain ⟨v3, hc4, h⟩ := bind_inv h
  refine oCall (S_GlobalPieces_w N v2 v3 hc4) rfl rfl rfl rfl rfl rfl rfl rfl ⟨⟨rfl, (.inl ⟨rfl, rfl⟩), trivial⟩, trivial⟩ ?_
  refine oVal tt rfl rfl rfl rfl rfl trivial ?_
  refine vNil ?_
  change VC _ _ _ _
  refine vSeq ?_
  refine vRegion ?_
  refine oVal tt rfl rfl rfl rfl rfl trivial ?_
  obtain ⟨v4, hc5, h⟩ := bind_inv h
  refine oCall (L_toGraph_w N aG_0 v4 hc5) rfl rfl rfl rfl rfl rfl rfl rfl ⟨⟨rfl, rfl, trivial⟩, trivial⟩ ?_
  refine oAlloc tt rfl rfl rfl rfl rfl rfl rfl rfl rfl ?_
  refine oStore tt rfl rfl rfl rfl rfl rfl rfl rfl rfl rfl rfl ⟨trivial, trivial, trivial⟩ ?_
  refine vNil ?_
  change VC _ _ _ _
  refine vSeq ?_
  refine vRegion ?_
  refine oVal tt rfl rfl rfl rfl rfl trivial ?_
  obtain ⟨v5, hc6, h⟩ := bind_inv h
  refine oCallD 10 (I_GlobalPieces_w N v4 v5 hc6) rfl rfl rfl rfl rfl rfl rfl rfl rfl rfl rfl (fun _ h => by cases h) ⟨⟨rfl, (.inl ⟨rfl, rfl⟩), trivial⟩, trivial⟩ ?_
  refine oVal tt rfl rfl rfl rfl rfl trivial ?_
  refine vNil ?_
  change VC _ _ _ _
  iterate 2 refine vSeq ?_
  refine vRegion ?_
  iterate 2 refine oVal tt rfl rfl rfl rfl rfl trivial ?_
  obtain ⟨v6, hc7, h⟩ := bind_inv h
  refine oCall (L_eqIntSS_w N v5 v3 v6 hc7) rfl rfl rfl rfl rfl rfl rfl rfl ⟨(.inr (.inr ⟨10, _, by decide, rfl, rfl, rfl, rfl⟩)), (.inl ⟨rfl, rfl⟩), trivial⟩ ?_
  refine oVal tt rfl rfl rfl rfl rfl trivial ?_
  refine vNil ?_
  change VC _ _ _ _
  refine vCond rfl (fun hb8 => ?_) (fun hb8 => ?_)
  ·replace h := cnd_t hb8 h
   refine vSeq ?_
   refine vRegion ?_
   refine oVal tt rfl rfl rfl rfl rfl trivial ?_
   refine vNil ?_
   change VC _ _ _ _
   refine vRet ?_
   change ∃ _, _
   cases h
   exact ⟨[], _, rfl, trivial, rfl, (.eq rfl), rfl⟩
  ·replace h := cnd_f hb8 h
   refine vSkip ?_
   change VC _ _ _ _
   iterate 2 refine vSeq ?_
   refine vRegionN 3 [2] [0, 0, 2, 7, 15] (by kernel_rfl) (by kernel_rfl) (by kernel_rfl) (by kernel_rfl) (by kernel_rfl) rfl (by rfl) ?_
   iterate 2 refine nVal tt rfl (wNone rfl) rfl rfl rfl rfl rfl trivial ?_
   obtain ⟨v7, hc9, h⟩ := bind_inv h
   refine nCallR (L_toGraph_w N aG_0 v7 hc9) rfl (wNone rfl) rfl rfl rfl rfl rfl rfl (by first | rfl | kernel_rfl | (simp [nrL, nm, gdst, nmT, rowB]; done)) rfl (by first | rfl | kernel_rfl | (simp [chkE, nrL, nm, gdst, nmT, rowB, hid, ment, mentA, mentS]; done) | (simp [chkE, nrL, nm, gdst, nmT, rowB, hid, ment, mentA, mentS]; decide)) ⟨⟨rfl, rfl, trivial⟩, trivial⟩ ?_
   refine nNil ?_
   change VO _ _ _ _ _
   obtain ⟨v8, hc10, h⟩ := bind_inv h
   refine oCall (L_eqGraph_w N v4 v7 v8 hc10) rfl rfl rfl rfl rfl rfl rfl rfl ⟨⟨rfl, (.inl ⟨rfl, rfl⟩), trivial⟩, ⟨rfl, (.inl ⟨rfl, rfl⟩), trivial⟩, trivial⟩ ?_
   refine oVal tt rfl rfl rfl rfl rfl trivial ?_
   refine vNil ?_
   change VC _ _ _ _
   refine vCond rfl (fun hb11 => ?_) (fun hb11 => ?_)
   ·replace h := cnd_t hb11 h
    refine vSeq ?_
    refine vRegion ?_
    refine oVal tt rfl rfl rfl rfl rfl trivial ?_
    refine vNil ?_
    change VC _ _ _ _
    refine vRet ?_
    change ∃ _, _
    cases h
    exact ⟨[], _, rfl, trivial, rfl, (.eq rfl), rfl⟩
   ·replace h := cnd_f hb11 h
    refine vSkip ?_
    change VC _ _ _ _
    refine vSeq ?_
    refine vRegion ?_
    refine oVal tt rfl rfl rfl rfl rfl trivial ?_
    refine vNil ?_
    change VC _ _ _ _
    refine vSeq ?_
    refine vRegion ?_
    iterate 2 refine oVal tt rfl rfl rfl rfl rfl trivial ?_
    obtain ⟨v9, hc12, h⟩ := bind_inv h
    refine oMCall (L_markGraph_w N (⟨v4.n, v4.bars⟩ : Grf) (1 : Int) v9 hc12) [1200] [] [1200] rfl rfl rfl rfl rfl rfl ⟨rfl, trivial⟩ trivial ⟨⟨⟨rfl, rfl⟩, ⟨rfl, rfl⟩, trivial⟩, ⟨rfl, rfl⟩, trivial⟩ ?_
    refine oVal tt rfl rfl rfl rfl rfl trivial ?_
    refine vNil ?_
    change VC _ _ _ _
    iterate 2 refine vSeq ?_
    refine vRegion ?_
    iterate 3 refine oVal tt rfl rfl rfl rfl rfl trivial ?_
    refine oSplit rfl rfl rfl (fun hb13 => ?_) (fun hb13 => ?_)
    ·replace h := cnd_t hb13 h
     iterate 4 refine oNoF rfl rfl rfl rfl hb13 rfl rfl ?_
     refine oPick rfl rfl rfl rfl rfl hb13 rfl ?_
     refine vNil ?_
     change VC _ _ _ _
     refine vCondT rfl rfl ?_
     refine vSeq ?_
     refine vRegion ?_
     refine oVal tt rfl rfl rfl rfl rfl trivial ?_
     refine vNil ?_
     change VC _ _ _ _
     refine vRet ?_
     change ∃ _, _
     cases h
     exact ⟨[], _, rfl, trivial, rfl, (.eq rfl), rfl⟩
    ·replace h := cnd_f hb13 h
     iterate 2 refine oValG tt rfl rfl rfl rfl rfl hb13 rfl rfl rfl trivial ?_
     obtain ⟨v10, hc14, h⟩ := bind_inv h
     refine oCallG (L_eqIntSS_w N v5 v3 v10 hc14) rfl rfl rfl rfl hb13 rfl rfl rfl rfl rfl rfl rfl ⟨(.inr (.inr ⟨10, _, by decide, rfl, rfl, rfl, rfl⟩)), (.inl ⟨rfl, rfl⟩), trivial⟩ ?_
     refine oValG tt rfl rfl rfl rfl rfl hb13 rfl rfl rfl trivial ?_
     refine oPickF rfl rfl rfl rfl rfl hb13 rfl ?_
     refine vNil ?_
     change VC _ _ _ _
     refine vCond rfl (fun hb15 => ?_) (fun hb15 => ?_)
     ·replace h := cnd_t hb15 h
      refine vSeq ?_
      refine vRegion ?_
      refine oVal tt rfl rfl rfl rfl rfl trivial ?_
      refine vNil ?_
      change VC _ _ _ _
      refine vRet ?_
      change ∃ _, _
      cases h
      exact ⟨[], _, rfl, trivial, rfl, (.eq rfl), rfl⟩
     ·replace h := cnd_f hb15 h
      refine vSkip ?_
      change VC _ _ _ _
      refine vSeq ?_
      refine vRegion ?_
      refine oVal tt rfl rfl rfl rfl rfl trivial ?_
      refine vNil ?_
      change VC _ _ _ _
      refine vSeq ?_
      refine vRegion ?_
      iterate 2 refine oVal tt rfl rfl rfl rfl rfl trivial ?_
      obtain ⟨v11, hc16, h⟩ := bind_inv h
      refine oMCall (L_markIntSS_w N v5 (1 : Int) v11 hc16) [1220, 8589934602] [] [1220, 8589934602] rfl rfl rfl rfl rfl rfl ⟨rfl, rfl, trivial⟩ trivial ⟨⟨rfl, rfl⟩, ⟨rfl, rfl⟩, trivial⟩ ?_
      refine oVal tt rfl rfl rfl rfl rfl trivial ?_
      refine vNil ?_
      change VC _ _ _ _
      refine vSeq ?_
      refine vRegion ?_
      refine oVal tt rfl rfl rfl rfl rfl trivial ?_
      refine vNil ?_
      change VC _ _ _ _
      refine vSeq ?_
      refine vRegion ?_
      iterate 2 refine oVal tt rfl rfl rfl rfl rfl trivial ?_
      obtain ⟨hg17, h⟩ := grd_inv h
      obtain ⟨v12, hc18, h⟩ := bind_inv h
      refine oCall (L_heldIntSS_w N v11.2 (1 : Int) v12 hc18) rfl rfl rfl rfl rfl rfl rfl rfl ⟨(.inr (.inr ⟨10, _, by decide, rfl, rfl, rfl, hg17⟩)), rfl, trivial⟩ ?_
      refine oVal tt rfl rfl rfl rfl rfl trivial ?_
      refine vNil ?_
      change VC _ _ _ _
      iterate 2 refine vSeq ?_
      refine vRegion ?_
      iterate 2 refine oVal tt rfl rfl rfl rfl rfl trivial ?_
      refine vNil ?_
      change VC _ _ _ _
      refine vCond rfl (fun hb19 => ?_) (fun hb19 => ?_)
      ·replace h := cnd_t hb19 h
       refine vSeq ?_
       refine vRegion ?_
       refine oVal tt rfl rfl rfl rfl rfl trivial ?_
       refine vNil ?_
       change VC _ _ _ _
       refine vRet ?_
       change ∃ _, _
       cases h
       exact ⟨[], _, rfl, trivial, rfl, (.eq rfl), rfl⟩
      ·replace h := cnd_f hb19 h
       refine vSkip ?_
       change VC _ _ _ _
       iterate 2 refine vSeq ?_
       refine vRegion ?_
       iterate 3 refine oVal tt rfl rfl rfl rfl rfl trivial ?_
       refine vNil ?_
       change VC _ _ _ _
       refine vCond rfl (fun hb20 => ?_) (fun hb20 => ?_)
       ·replace h := cnd_t hb20 h
        refine vSeq ?_
        refine vRegion ?_
        refine oVal tt rfl rfl rfl rfl rfl trivial ?_
        refine vNil ?_
        change VC _ _ _ _
        refine vRet ?_
        change ∃ _, _
        cases h
        exact ⟨[], _, rfl, trivial, rfl, (.eq rfl), rfl⟩
       ·replace h := cnd_f hb20 h
        refine vSkip ?_
        change VC _ _ _ _
        refine vSeq ?_
        refine vRegion ?_
        refine oVal tt rfl rfl rfl rfl rfl trivial ?_
        obtain ⟨v13, hc21, h⟩ := bind_inv h
        refine oCall (L_toGraph_w N aG_0 v13 hc21) rfl rfl rfl rfl rfl rfl rfl rfl ⟨⟨rfl, rfl, trivial⟩, trivial⟩ ?_
        obtain ⟨v14, hc22, h⟩ := bind_inv h
        refine oCallD 11 (I_GlobalPieces_w N v13 v14 hc22) rfl rfl rfl rfl rfl rfl rfl rfl rfl rfl rfl (fun _ h => by cases h) ⟨⟨rfl, (.inl ⟨rfl, rfl⟩), trivial⟩, trivial⟩ ?_
        refine oVal tt rfl rfl rfl rfl rfl trivial ?_
        refine vNil ?_
        change VC _ _ _ _
        iterate 2 refine vSeq ?_
        refine vRegion ?_
        iterate 2 refine oVal tt rfl rfl rfl rfl rfl trivial ?_
        obtain ⟨v15, hc23, h⟩ := bind_inv h
        refine oCall (L_eqIntSS_w N v14 v3 v15 hc23) rfl rfl rfl rfl rfl rfl rfl rfl ⟨(.inr (.inr ⟨11, _, by decide, rfl, rfl, rfl, rfl⟩)), (.inl ⟨rfl, rfl⟩), trivial⟩ ?_
        refine oVal tt rfl rfl rfl rfl rfl trivial ?_
        refine vNil ?_
        change VC _ _ _ _
        refine vCond rfl (fun hb24 => ?_) (fun hb24 => ?_)
        ·replace h := cnd_t hb24 h
         refine vSeq ?_
         refine vRegion ?_
         refine oVal tt rfl rfl rfl rfl rfl trivial ?_
         refine vNil ?_
         change VC _ _ _ _
         refine vRet ?_
         change ∃ _, _
         cases h
         exact ⟨[], _, rfl, trivial, rfl, (.eq rfl), rfl⟩
        ·replace h := cnd_f hb24 h
         refine vSkip ?_
         change VC _ _ _ _
         refine vSeq ?_
         refine vRegion ?_
         refine oVal tt rfl rfl rfl rfl rfl trivial ?_
         refine vNil ?_
         change VC _ _ _ _
         refine vSeq ?_
         refine vRegion ?_
         iterate 2 refine oVal tt rfl rfl rfl rfl rfl trivial ?_
         obtain ⟨v16, hc25, h⟩ := bind_inv h
         refine oCall (L_heldIntSS_w N v11.2 (1 : Int) v16 hc25) rfl rfl rfl rfl rfl rfl rfl rfl ⟨(.inr (.inr ⟨10, _, by decide, rfl, rfl, rfl, hg17⟩)), rfl, trivial⟩ ?_
         refine oVal tt rfl rfl rfl rfl rfl trivial ?_
         refine vNil ?_
         change VC _ _ _ _
         iterate 2 refine vSeq ?_
         refine vRegion ?_
         iterate 2 refine oVal tt rfl rfl rfl rfl rfl trivial ?_
         refine vNil ?_
         change VC _ _ _ _
         refine vCond rfl (fun hb26 => ?_) (fun hb26 => ?_)
         ·replace h := cnd_t hb26 h
          refine vSeq ?_
          refine vRegion ?_
          refine oVal tt rfl rfl rfl rfl rfl trivial ?_
          refine vNil ?_
          change VC _ _ _ _
          refine vRet ?_
          change ∃ _, _
          cases h
          exact ⟨[], _, rfl, trivial, rfl, (.eq rfl), rfl⟩
         ·replace h := cnd_f hb26 h
          refine vSkip ?_
          change VC _ _ _ _
          iterate 2 refine vSeq ?_
          refine vRegion ?_
          iterate 3 refine oVal tt rfl rfl rfl rfl rfl trivial ?_
          refine vNil ?_
          change VC _ _ _ _
          refine vCond rfl (fun hb27 => ?_) (fun hb27 => ?_)
          ·replace h := cnd_t hb27 h
           refine vSeq ?_
           refine vRegion ?_
           refine oVal tt rfl rfl rfl rfl rfl trivial ?_
           refine vNil ?_
           change VC _ _ _ _
           refine vRet ?_
           change ∃ _, _
           cases h
           exact ⟨[], _, rfl, trivial, rfl, (.eq rfl), rfl⟩
          ·replace h := cnd_f hb27 h
           refine vSkip ?_
           change VC _ _ _ _
           refine vSeq ?_
           refine vRegion ?_
           refine oVal tt rfl rfl rfl rfl rfl trivial ?_
           refine vNil ?_
           change VC _ _ _ _
           refine vRet ?_
           change ∃ _, _
           cases h
           exact ⟨[], _, rfl, trivial, rfl, (.eq rfl), rfl⟩
end Go.Proofs.Ytkklfgcelmeccaa
