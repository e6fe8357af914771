/- Texts that the proof needs, put together: Qs G40 G74 G77 Qt G78 Qv Pw Ph Qo M17 G19 G20 G17 G22 G64 G65 G66 G67 G101 G105 Qx Qy Pj Pk Qj Ql Qz G110. -/
import Derived.Laws.Strings
import Derived.Test.YtkklfgcelmeccaaBGa3
import Derived.Test.YtkklfgcelmeccaaBGa4
import Derived.Test.YtkklfgcelmeccaaBGa5
import Derived.Test.YtkklfgcelmeccaaBGa6
set_option linter.unusedVariables false
set_option linter.unusedSimpArgs false
namespace Go.Proofs.Ytkklfgcelmeccaa
variable {N : Nat}
def bitB (m : Int) (j : Nat) : Bool := andI (shrI m (j : Int)) (1 : Int) == (1 : Int)
def setU (m : Int) (k : Nat) : List Int := ((List.range k).filter (bitB m)).map fun (j : Nat) => (j : Int)
theorem setU_succ (m : Int) (k : Nat) : setU m (k + 1) = cnd (bitB m k) (setU m k ++ [(k : Int)]) (setU m k) := by
 unfold setU
 rw [List.range_succ, List.filter_append, List.map_append]
 cases h : bitB m k <;> simp [h, cnd]
theorem setU_len (m : Int) (k : Nat) : (setU m k).length ≤ k := by
 unfold setU
 rw [List.length_map]
 exact Nat.le_trans (List.length_filter_le _ _) (by simp)
theorem setU_rg {m : Int} {k : Nat} {x : Int} (h : x ∈ setU m k) : 0 ≤ x ∧ x < (k : Int) := by
 unfold setU at h
 obtain ⟨j, h1, rfl⟩ := List.mem_map.1 h
 have := (List.mem_filter.1 h1).1
 have := List.mem_range.1 this
 omega
theorem setS_s (hN : 4000000 ≤ N) {n m : Int} (hn : n ≤ 1000) : S_l3Set N n m = some (setU m n.toNat) := by
 unfold S_l3Set
 refine Eq.trans ?_ (fold (N := N) (len := n.toNat) (σ := List Int) (st := fun i => setU m i) (F := fun f s => S_l3Set_l1 N n m (fun l3 => some l3) f (s.1, s.2)) (fin := some (setU m n.toNat)) (by omega) (fun f i hi => ?_) fun f => ?_)
 ·simp [setU]
 ·show S_l3Set_l1 N n m _ (f + 1) (setU m i, (i : Int)) = S_l3Set_l1 N n m _ f (setU m (i + 1), ((i + 1 : Nat) : Int))
  have hl := setU_len m i
  rw [S_l3Set_l1, cnd_dt (by omega), grd_pos (by omega), setU_succ]
  show cnd (bitB m i) _ _ = _
  cases bitB m i with
  | true => rw [cnd_true, cnd_true, grd_pos (by omega), grd_R (by omega) (by omega), succ_cast]
  | false => rw [cnd_false, cnd_false, grd_R (by omega) (by omega), succ_cast]
 ·show S_l3Set_l1 N n m _ (f + 1) (setU m n.toNat, ((n.toNat : Nat) : Int)) = _
  rw [S_l3Set_l1, cnd_df (by omega)]
theorem setI_s (hN : 4000000 ≤ N) {n m : Int} (hn : n ≤ 1000) : I_setOf N m n = some (setU m n.toNat) := by
 unfold I_setOf
 refine Eq.trans ?_ (fold (N := N) (len := n.toNat) (σ := List Int) (st := fun i => setU m i) (F := fun f s => I_setOf_l1 N m n (fun l3 => some l3) f (s.1, s.2)) (fin := some (setU m n.toNat)) (by omega) (fun f i hi => ?_) fun f => ?_)
 ·simp [setU]
 ·show I_setOf_l1 N m n _ (f + 1) (setU m i, (i : Int)) = I_setOf_l1 N m n _ f (setU m (i + 1), ((i + 1 : Nat) : Int))
  have hl := setU_len m i
  rw [I_setOf_l1, cnd_dt (by omega), grd_pos (by omega), setU_succ]
  show cnd (bitB m i) _ _ = _
  cases bitB m i with
  | true => rw [cnd_true, cnd_true, grd_pos (by omega), grd_R (by omega) (by omega), succ_cast]
  | false => rw [cnd_false, cnd_false, grd_R (by omega) (by omega), succ_cast]
 ·show I_setOf_l1 N m n _ (f + 1) (setU m n.toNat, ((n.toNat : Nat) : Int)) = _
  rw [I_setOf_l1, cnd_df (by omega)]
def outN (set : List Int) (i : Nat) : Nat := (List.range i).countP fun (j : Nat) => !set.contains (j : Int)
theorem outN_succ (set : List Int) (i : Nat) : outN set (i + 1) = outN set i + (if set.contains (i : Int) then 0 else 1) := by
 unfold outN
 rw [List.range_succ, List.countP_append, List.countP_singleton]
 cases set.contains (i : Int) <;> rfl
theorem outN_set (m : Int) (k : Nat) : outN (setU m k) k + (setU m k).length = k := by
 have h1 : (setU m k).length = (List.range k).countP (bitB m) := by unfold setU; rw [List.length_map, List.countP_eq_length_filter]
 have h2 : outN (setU m k) k = (List.range k).countP fun j => !bitB m j := by
  unfold outN
  apply List.countP_congr
  intro j hj
  have hj := List.mem_range.1 hj
  have : (setU m k).contains (j : Int) = bitB m j := by
   rw [Bool.eq_iff_iff, List.contains_iff_mem]
   unfold setU
   constructor
   ·intro h
    obtain ⟨i, h1, h2⟩ := List.mem_map.1 h
    have : i = j := by omega
    subst this
    exact (List.mem_filter.1 h1).2
   ·intro h
    exact List.mem_map.2 ⟨j, List.mem_filter.2 ⟨List.mem_range.2 hj, h⟩, rfl⟩
  rw [this]
 rw [h1, h2]
 have := List.length_eq_countP_add_countP (bitB m) (l := List.range k)
 rw [List.length_range] at this
 have h3 : (List.range k).countP (fun j => !bitB m j) = (List.range k).countP (fun a => decide ¬bitB m a = true) := by
  apply List.countP_congr
  intro j _
  simp
 rw [h3]; omega
theorem wo_l2 (hN : 4000000 ≤ N) {g : Grf} {set : List Int} (hs : set.length ≤ 3000000) {m : Nat} (hm : (max (0 : Int) (min (8 : Int) g.n)).toNat = m) (hm8 : m ≤ 8) {kS : List Int × Int → Option Grf} {kI : List Int × Int → Option Grf} :
  ∀ (fuel i : Nat) (l : List Int) (c : Int), i ≤ m → m < fuel + i → l.length = m → 0 ≤ c ∧ c ≤ (i : Int) → c = (outN set i : Int) →
  ∃ (l' : List Int) (c' : Int), l'.length = m ∧ (0 ≤ c' ∧ c' = (outN set m : Int)) ∧ c' ≤ (m : Int) ∧ S_WithoutPoints_l2 N g set kS fuel (l, c, (i : Int)) = kS (l', c') ∧ I_WithoutPoints_l2 N g set kI fuel (l, (i : Int), c) = kI (l', c') := by
 have hm2 : (max (0 : Int) (min g.n (8 : Int))).toNat = m := by omega
 intro fuel
 induction fuel with
 | zero => intro i l c h1 h2; omega
 | succ fuel ih =>
  intro i l c h1 h2 h3 h4 h5
  have ho := outN_succ set i
  rw [S_WithoutPoints_l2, I_WithoutPoints_l2, hm, hm2]
  by_cases hi : i < m
  ·have er : (List.replicate m (0 : Int)).length = m := List.length_replicate
   rw [cnd_dt (by rw [er]; omega), cnd_dt (by rw [er]; omega), grd_pos (p := 0 ≤ (i : Int) ∧ (i : Int) < ((List.replicate m (0 : Int)).length : Int)) (by rw [er]; omega), grd_pos (p := 0 ≤ (i : Int) ∧ (i : Int) < (l.length : Int)) (by omega), grd_pos (p := 0 ≤ (i : Int) ∧ (i : Int) < ((List.replicate m (0 : Int)).length : Int)) (by rw [er]; omega), grd_pos (p := 0 ≤ (i : Int) ∧ (i : Int) < (l.length : Int)) (by omega), l2Has_s N hN hs, contains_s N hN hs, Option.bind_some, Option.bind_some, show ((i : Int)).toNat = i from by omega]
   have el : (l.set i (-1 : Int)).length = m := by rw [List.length_set]; exact h3
   cases hc : set.contains (i : Int) with
   | true =>
    rw [hc] at ho
    obtain ⟨l', c', g1, g2, g3, g4, g5⟩ := ih (i + 1) (l.set i (-1 : Int)) c (by omega) (by omega) el (by omega) (by simp at ho; omega)
    refine ⟨l', c', g1, g2, g3, ?_, ?_⟩
    ·rw [Bool.not_true, cnd_false, grd_R (by omega) (by omega), succ_cast]; exact g4
    ·rw [Bool.not_true, cnd_false, grd_R (by omega) (by omega), succ_cast]; exact g5
   | false =>
    rw [hc] at ho
    obtain ⟨l', c', g1, g2, g3, g4, g5⟩ := ih (i + 1) ((l.set i (-1 : Int)).set i c) (c + 1) (by omega) (by omega) (by rw [List.length_set]; exact el) (by omega) (by simp at ho; omega)
    refine ⟨l', c', g1, g2, g3, ?_, ?_⟩
    ·rw [Bool.not_false, cnd_true, grd_pos (by omega), grd_R (by omega) (by omega), grd_R (by omega) (by omega), succ_cast]; exact g4
    ·rw [Bool.not_false, cnd_true, grd_pos (by omega), grd_R (by omega) (by omega), grd_R (by omega) (by omega), succ_cast]; exact g5
  ·have er : (List.replicate m (0 : Int)).length = m := List.length_replicate
   rw [cnd_df (by rw [er]; omega), cnd_df (by rw [er]; omega)]
   have e : i = m := by omega
   exact ⟨l, c, h3, ⟨h4.1, by rw [h5, e]⟩, by omega, rfl, rfl⟩
theorem wo_l1 (hN : 4000000 ≤ N) {g : Grf} (hg : isGraph g = true) {l : List Int} (hl : (l.length : Int) = g.n) {kS kI : List (Int × Int) → Option Grf} :
  ∀ (fuel i : Nat) (L : List (Int × Int)), i ≤ g.bars.length → g.bars.length < fuel + i → L.length ≤ i →
  ∃ L', L'.length ≤ g.bars.length ∧ S_WithoutPoints_l1 N g l kS fuel (L, (i : Int)) = kS L' ∧ I_WithoutPoints_l1 N g l kI fuel (L, (i : Int)) = kI L' := by
 have hp := isGraph_parts hg
 have hmS : (((max (0 : Int) (min (8 : Int) g.n))).toNat : Int) = g.n := by omega
 have hmI : (((max (0 : Int) (min g.n (8 : Int)))).toNat : Int) = g.n := by omega
 intro fuel
 induction fuel with
 | zero => intro i L h1 h2; omega
 | succ fuel ih =>
  intro i L h1 h2 h3
  by_cases hi : i < g.bars.length
  ·have hb := isGraph_bar hg (p := g.bars.getD i (0, 0)) (by rw [List.getD_eq_getElem?_getD, List.getElem?_eq_getElem hi]; exact List.getElem_mem hi)
   obtain ⟨e, he⟩ : ∃ e, e = g.bars.getD i (0, 0) := ⟨_, rfl⟩
   rw [← he] at hb
   have hS : S_WithoutPoints_l1 N g l kS (fuel + 1) (L, (i : Int)) = cnd (decide (l.getD e.1.toNat 0 ≥ 0)) (cnd (decide (l.getD e.2.toNat 0 ≥ 0)) (S_WithoutPoints_l1 N g l kS fuel (L ++ [(l.getD e.1.toNat 0, l.getD e.2.toNat 0)], ((i + 1 : Nat) : Int))) (S_WithoutPoints_l1 N g l kS fuel (L, ((i + 1 : Nat) : Int)))) (S_WithoutPoints_l1 N g l kS fuel (L, ((i + 1 : Nat) : Int))) := by
    rw [S_WithoutPoints_l1, cnd_dt (by omega), isGraphS_s N hN, Option.bind_some, hg, cnd_true, List.length_replicate, show ((i : Int)).toNat = i from by omega, ← he]
    rw [grd_pos (p := 0 ≤ (i : Int) ∧ (i : Int) < (g.bars.length : Int)) (by omega)]
    rw [grd_pos (p := 0 ≤ e.1 ∧ e.1 < ((((max (0 : Int) (min (8 : Int) g.n))).toNat : Nat) : Int)) (by omega), grd_pos (p := 0 ≤ e.1 ∧ e.1 < (l.length : Int)) (by omega), grd_pos (p := 0 ≤ e.2 ∧ e.2 < ((((max (0 : Int) (min (8 : Int) g.n))).toNat : Nat) : Int)) (by omega), grd_pos (p := 0 ≤ e.2 ∧ e.2 < (l.length : Int)) (by omega)]
    rw [grd_pos (p := L.length + 1 ≤ 4294967296) (by omega), grd_R (by omega) (by omega), grd_R (by omega) (by omega), succ_cast]
   have hI : I_WithoutPoints_l1 N g l kI (fuel + 1) (L, (i : Int)) = cnd (decide (l.getD e.1.toNat 0 ≥ 0)) (cnd (decide (l.getD e.2.toNat 0 ≥ 0)) (I_WithoutPoints_l1 N g l kI fuel (L ++ [(l.getD e.1.toNat 0, l.getD e.2.toNat 0)], ((i + 1 : Nat) : Int))) (I_WithoutPoints_l1 N g l kI fuel (L, ((i + 1 : Nat) : Int)))) (I_WithoutPoints_l1 N g l kI fuel (L, ((i + 1 : Nat) : Int))) := by
    rw [I_WithoutPoints_l1, cnd_dt (by omega), List.length_replicate, show ((i : Int)).toNat = i from by omega, ← he]
    rw [grd_pos (p := 0 ≤ (i : Int) ∧ (i : Int) < (g.bars.length : Int)) (by omega)]
    rw [grd_pos (p := 0 ≤ e.1 ∧ e.1 < ((((max (0 : Int) (min g.n (8 : Int)))).toNat : Nat) : Int)) (by omega), grd_pos (p := 0 ≤ e.1 ∧ e.1 < (l.length : Int)) (by omega), grd_pos (p := 0 ≤ e.2 ∧ e.2 < ((((max (0 : Int) (min g.n (8 : Int)))).toNat : Nat) : Int)) (by omega), grd_pos (p := 0 ≤ e.2 ∧ e.2 < (l.length : Int)) (by omega)]
    rw [grd_pos (p := L.length + 1 ≤ 4294967296) (by omega), grd_R (by omega) (by omega), grd_R (by omega) (by omega), succ_cast]
   rw [hS, hI]
   obtain ⟨L1, a1, a2, a3⟩ := ih (i + 1) L (by omega) (by omega) (by omega)
   obtain ⟨L2, b1, b2, b3⟩ := ih (i + 1) (L ++ [(l.getD e.1.toNat 0, l.getD e.2.toNat 0)]) (by omega) (by omega) (by simp; omega)
   cases decide (l.getD e.1.toNat 0 ≥ 0) <;> cases decide (l.getD e.2.toNat 0 ≥ 0) <;> simp only [cnd_true, cnd_false]
   ·exact ⟨L1, a1, a2, a3⟩
   ·exact ⟨L1, a1, a2, a3⟩
   ·exact ⟨L1, a1, a2, a3⟩
   ·exact ⟨L2, b1, b2, b3⟩
  ·rw [S_WithoutPoints_l1, I_WithoutPoints_l1, cnd_df (by omega), cnd_df (by omega)]
   exact ⟨L, by omega, rfl, rfl⟩
theorem without_x (hN : 4000000 ≤ N) {g : Grf} (hgb : g.bars.length ≤ 3000000) {set : List Int} (hs : set.length ≤ 3000000) : ∃ h : Grf, h.bars.length ≤ 24 ∧ (0 ≤ h.n ∧ h.n = (outN set (max (0 : Int) (min (8 : Int) g.n)).toNat : Int)) ∧ h.n ≤ 8 ∧ S_WithoutPoints N g set = some h ∧ I_WithoutPoints N g set = some h := by
 unfold S_WithoutPoints I_WithoutPoints
 rw [grd_pos (by omega), grd_pos (by omega)]
 obtain ⟨m, hm⟩ : ∃ m, (max (0 : Int) (min (8 : Int) g.n)).toNat = m := ⟨_, rfl⟩
 have hm2 : (max (0 : Int) (min g.n (8 : Int))).toNat = m := by omega
 obtain ⟨l', c', h1, h2, h3, h4, h5⟩ := wo_l2 hN (g := g) hs hm (by omega)
  (kS := fun x => match x with | (l7, n8) => S_WithoutPoints_l1 N g l7 (fun (l16 : List (Int × Int)) => some (⟨n8, l16⟩ : Grf)) N (([] : List (Int × Int)), (0 : Int)))
  (kI := fun x => match x with | (l7, c8) => (I_IsGraph N g).bind fun v9 => cnd (!v9) (some (⟨c8, ([] : List (Int × Int))⟩ : Grf)) (I_WithoutPoints_l1 N g l7 (fun (l13 : List (Int × Int)) => some (⟨c8, l13⟩ : Grf)) N (([] : List (Int × Int)), (0 : Int))))
  N 0 (List.replicate m (0 : Int)) 0 (by omega) (by omega) List.length_replicate (by omega) (by simp [outN])
 rw [hm, hm2]
 cases hg : isGraph g with
 | false =>
  refine ⟨⟨c', []⟩, by simp, h2, by show c' ≤ 8; omega, h4.trans ?_, h5.trans ?_⟩
  ·obtain ⟨M, rfl⟩ : ∃ M, N = M + 1 := ⟨N - 1, by omega⟩
   show S_WithoutPoints_l1 (M + 1) g l' _ (M + 1) ([], 0) = _
   rw [S_WithoutPoints_l1, isGraphS_s _ hN, Option.bind_some, hg, cnd_false]
   cases decide ((0 : Int) < (g.bars.length : Int)) <;> rfl
  ·show (I_IsGraph N g).bind _ = _
   rw [isGraphI_s N hN, hg]; rfl
 | true =>
  have hp := isGraph_parts hg
  obtain ⟨L', k1, k2, k3⟩ := wo_l1 hN hg (l := l') (by omega) (kS := fun l16 => some (⟨c', l16⟩ : Grf)) (kI := fun l13 => some (⟨c', l13⟩ : Grf)) N 0 [] (by omega) (by omega) (by simp)
  refine ⟨⟨c', L'⟩, by show L'.length ≤ 24; omega, h2, by show c' ≤ 8; omega, h4.trans k2, h5.trans ?_⟩
  show (I_IsGraph N g).bind _ = _
  rw [isGraphI_s N hN, hg, Option.bind_some, Bool.not_true, cnd_false]
  exact k3
end Go.Proofs.Ytkklfgcelmeccaa
namespace Go.Proofs.Ytkklfgcelmeccaa
open Go.RowKit
def S_RemoveBar (N : Nat) (g_0 : Grf) (k_1 : Int) : Option (Grf × Bool) :=
 (S_IsGraph N g_0).bind fun v1 =>
 cnd (!v1) (
  (S_l2Copy N g_0).bind fun v2 =>
  some ((⟨v2.n, v2.bars⟩ : Grf), false)) (
  cnd (decide (k_1 < (0 : Int))) (
   (S_l2Copy N g_0).bind fun v3 =>
   some ((⟨v3.n, v3.bars⟩ : Grf), false)) (
   cnd (decide (k_1 ≥ (g_0.bars.length : Int))) (
    (S_l2Copy N g_0).bind fun v4 =>
    some ((⟨v4.n, v4.bars⟩ : Grf), false)) (
    grd (0 ≤ k_1 ∧ k_1 ≤ (g_0.bars.length : Int)) <|
    grd (((g_0.bars.take ((k_1).toNat)).drop 0).length ≤ 4294967296) <|
    grd (Rg64 (k_1 + (1 : Int))) <|
    grd (0 ≤ (k_1 + (1 : Int)) ∧ (k_1 + (1 : Int)) ≤ (g_0.bars.length : Int)) <|
    grd ((([] : List (Int × Int)) ++ ((g_0.bars.take ((k_1).toNat)).drop 0)).length + ((g_0.bars.take g_0.bars.length).drop (((k_1 + (1 : Int))).toNat)).length ≤ 4294967296) <|
    some ((⟨g_0.n, ((([] : List (Int × Int)) ++ ((g_0.bars.take ((k_1).toNat)).drop 0)) ++ ((g_0.bars.take g_0.bars.length).drop (((k_1 + (1 : Int))).toNat)))⟩ : Grf), true))))
set_option maxRecDepth 20000 in
set_option maxHeartbeats 1600000 in
theorem S_RemoveBar_w (N : Nat) (g_0 : Grf) (k_1 : Int) (r : Grf × Bool) (h : S_RemoveBar N g_0 k_1 = some r) : PCall Try.prog 156 [gD g_0, .int k_1] [(113, .pairs r.1.bars)] (.tup [.agg [.int r.1.n, .row 0 0 r.1.bars.length], .bool r.2]) := by
 unfold S_RemoveBar at h
 refine pcall_intro (TT := TT) tt Try.func156 rfl rfl Try.ntmps156 (congrArg Array.toList Try.results156) rfl rfl fun w0 => ?_
 refine vSeq ?_
 refine vRegion ?_
 refine oBox rfl rfl rfl rfl rfl rfl rfl rfl rfl ?_
 refine oAlloc tt rfl rfl rfl rfl rfl rfl rfl rfl rfl ?_
 refine oVal tt rfl rfl rfl rfl rfl trivial ?_
 refine vNil ?_
 change VC _ _ _ _
 iterate 2 refine vSeq ?_
 refine vRegion ?_
 refine oVal tt rfl rfl rfl rfl rfl trivial ?_
 obtain ⟨v1, hc1, h⟩ := bind_inv h
 refine oCall (S_IsGraph_w N g_0 v1 hc1) rfl rfl rfl rfl rfl rfl rfl rfl ⟨⟨rfl, rfl, trivial⟩, trivial⟩ ?_
 iterate 2 refine oVal tt rfl rfl rfl rfl rfl trivial ?_
 refine oSplit rfl rfl rfl (fun hb2 => ?_) (fun hb2 => ?_)
 ·replace h := cnd_t hb2 h
  iterate 2 refine oNoF rfl rfl rfl rfl hb2 rfl rfl ?_
  refine oPick rfl rfl rfl rfl rfl hb2 rfl ?_
  refine oVal tt rfl rfl rfl rfl rfl trivial ?_
  iterate 5 refine oNoF rfl rfl rfl rfl rfl rfl rfl ?_
  refine oPick rfl rfl rfl rfl rfl rfl rfl ?_
  refine vNil ?_
  change VC _ _ _ _
  refine vCondT rfl rfl ?_
  refine vSeq ?_
  refine vRegion ?_
  refine oVal tt rfl rfl rfl rfl rfl trivial ?_
  obtain ⟨v2, hc3, h⟩ := bind_inv h
  refine oCall (S_l2Copy_w N g_0 v2 hc3) rfl rfl rfl rfl rfl rfl rfl rfl ⟨⟨rfl, rfl, trivial⟩, trivial⟩ ?_
  refine oStore tt rfl rfl rfl rfl rfl rfl rfl rfl rfl rfl rfl ⟨trivial, trivial, trivial⟩ ?_
  refine oVal tt rfl rfl rfl rfl rfl trivial ?_
  refine vNil ?_
  change VC _ _ _ _
  refine vRet ?_
  change ∃ _, _
  cases h
  exact ⟨[1210], _, rfl, ⟨rfl, trivial⟩, rfl, (.eq rfl), rfl⟩
 ·replace h := cnd_f hb2 h
  iterate 2 refine oValG tt rfl rfl rfl rfl rfl hb2 rfl rfl rfl trivial ?_
  refine oPickF rfl rfl rfl rfl rfl hb2 rfl ?_
  refine oVal tt rfl rfl rfl rfl rfl trivial ?_
  refine oSplit rfl rfl rfl (fun hb4 => ?_) (fun hb4 => ?_)
  ·replace h := cnd_t hb4 h
   iterate 5 refine oNoF rfl rfl rfl rfl hb4 rfl rfl ?_
   refine oPick rfl rfl rfl rfl rfl hb4 rfl ?_
   refine vNil ?_
   change VC _ _ _ _
   refine vCondT rfl rfl ?_
   refine vSeq ?_
   refine vRegion ?_
   refine oVal tt rfl rfl rfl rfl rfl trivial ?_
   obtain ⟨v3, hc5, h⟩ := bind_inv h
   refine oCall (S_l2Copy_w N g_0 v3 hc5) rfl rfl rfl rfl rfl rfl rfl rfl ⟨⟨rfl, rfl, trivial⟩, trivial⟩ ?_
   refine oStore tt rfl rfl rfl rfl rfl rfl rfl rfl rfl rfl rfl ⟨trivial, trivial, trivial⟩ ?_
   refine oVal tt rfl rfl rfl rfl rfl trivial ?_
   refine vNil ?_
   change VC _ _ _ _
   refine vRet ?_
   change ∃ _, _
   cases h
   exact ⟨[1210], _, rfl, ⟨rfl, trivial⟩, rfl, (.eq rfl), rfl⟩
  ·replace h := cnd_f hb4 h
   iterate 5 refine oValG tt rfl rfl rfl rfl rfl hb4 rfl rfl rfl trivial ?_
   refine oPickF rfl rfl rfl rfl rfl hb4 rfl ?_
   refine vNil ?_
   change VC _ _ _ _
   refine vCond rfl (fun hb6 => ?_) (fun hb6 => ?_)
   ·replace h := cnd_t hb6 h
    refine vSeq ?_
    refine vRegion ?_
    refine oVal tt rfl rfl rfl rfl rfl trivial ?_
    obtain ⟨v4, hc7, h⟩ := bind_inv h
    refine oCall (S_l2Copy_w N g_0 v4 hc7) rfl rfl rfl rfl rfl rfl rfl rfl ⟨⟨rfl, rfl, trivial⟩, trivial⟩ ?_
    refine oStore tt rfl rfl rfl rfl rfl rfl rfl rfl rfl rfl rfl ⟨trivial, trivial, trivial⟩ ?_
    refine oVal tt rfl rfl rfl rfl rfl trivial ?_
    refine vNil ?_
    change VC _ _ _ _
    refine vRet ?_
    change ∃ _, _
    cases h
    exact ⟨[1210], _, rfl, ⟨rfl, trivial⟩, rfl, (.eq rfl), rfl⟩
   ·replace h := cnd_f hb6 h
    refine vSkip ?_
    change VC _ _ _ _
    refine vSeq ?_
    refine vRegionN 14 [7, 13, 1130000029] [0, 1, 0, 0, 8, 0, 56, 124, 0, 256, 0, 1024, 3840, 8188, 16383, 32767, 65535] (by kernel_rfl) (by kernel_rfl) (by kernel_rfl) (by kernel_rfl) (by kernel_rfl) rfl (by rfl) ?_
    iterate 2 refine nVal tt rfl (wNone rfl) rfl rfl rfl rfl rfl trivial ?_
    refine nEmpty tt (wNone rfl) rfl rfl rfl rfl rfl ?_
    iterate 3 refine nVal tt rfl (wNone rfl) rfl rfl rfl rfl rfl trivial ?_
    obtain ⟨hg8, h⟩ := grd_inv h
    refine nVal tt rfl (wNone rfl) rfl rfl rfl rfl rfl hg8 ?_
    obtain ⟨hg9, h⟩ := grd_inv h
    refine nAppNil tt (wNone rfl) rfl rfl rfl rfl rfl rfl rfl rfl (fun _ => rfl) rfl rfl rfl rfl rfl rfl hg9 ?_
    iterate 3 refine nVal tt rfl (wNone rfl) rfl rfl rfl rfl rfl trivial ?_
    obtain ⟨hg10, h⟩ := grd_inv h
    refine nVal tt rfl (wNone rfl) rfl rfl rfl rfl rfl hg10 ?_
    obtain ⟨hg11, h⟩ := grd_inv h
    refine nVal tt rfl (wNone rfl) rfl rfl rfl rfl rfl hg11 ?_
    obtain ⟨hg12, h⟩ := grd_inv h
    refine nAppMove tt (wNone rfl) rfl rfl rfl rfl rfl rfl rfl rfl rfl rfl rfl rfl rfl rfl rfl rfl rfl rfl rfl rfl trivial hg12 ?_
    refine nNil ?_
    change VO _ _ _ _ _
    refine oPure (wNone rfl) (pBuild bld_impl_Graph rfl rfl) rfl rfl ?_
    refine oStore tt rfl rfl rfl rfl rfl rfl rfl rfl rfl rfl rfl ⟨trivial, trivial, trivial⟩ ?_
    refine oVal tt rfl rfl rfl rfl rfl trivial ?_
    refine vNil ?_
    change VC _ _ _ _
    refine vRet ?_
    change ∃ _, _
    cases h
    exact ⟨[35], _, rfl, ⟨rfl, trivial⟩, rfl, (.eq rfl), rfl⟩
end Go.Proofs.Ytkklfgcelmeccaa
namespace Go.Proofs.Ytkklfgcelmeccaa
open Go.RowKit
def S_IsConnected (N : Nat) (g_0 : Grf) : Option (Bool) :=
 (S_IsGraph N g_0).bind fun v1 =>
 cnd v1 (
  (S_ReachOf N g_0 (0 : Int)).bind fun v2 =>
  some ((v2.length : Int) == g_0.n)) (
  some false)
set_option maxRecDepth 20000 in
set_option maxHeartbeats 1600000 in
theorem S_IsConnected_w (N : Nat) (g_0 : Grf) (r : Bool) (h : S_IsConnected N g_0 = some r) : PCall Try.prog 143 [gD g_0] [] (.bool r) := by
 unfold S_IsConnected at h
 refine pcall_intro (TT := TT) tt Try.func143 rfl rfl Try.ntmps143 (congrArg Array.toList Try.results143) rfl rfl fun w0 => ?_
 refine vSeq ?_
 refine vRegion ?_
 refine oBox rfl rfl rfl rfl rfl rfl rfl rfl rfl ?_
 refine oVal tt rfl rfl rfl rfl rfl trivial ?_
 refine vNil ?_
 change VC _ _ _ _
 refine vSeq ?_
 refine vRegionN 8 [4] [0, 1, 3, 7, 15, 31, 7, 71, 255, 511, 1023] (by kernel_rfl) (by kernel_rfl) (by kernel_rfl) (by kernel_rfl) (by kernel_rfl) rfl (by rfl) ?_
 refine nVal tt rfl (wNone rfl) rfl rfl rfl rfl rfl trivial ?_
 obtain ⟨v1, hc1, h⟩ := bind_inv h
 refine nCall (S_IsGraph_w N g_0 v1 hc1) rfl (wNone rfl) rfl rfl rfl rfl rfl rfl rfl rfl ⟨⟨rfl, rfl, trivial⟩, trivial⟩ ?_
 refine nVal tt rfl (wNone rfl) rfl rfl rfl rfl rfl trivial ?_
 refine nSplit rfl rfl rfl (fun hb2 => ?_) (fun hb2 => ?_)
 ·replace h := cnd_t hb2 h
  refine nVal tt rfl (wSome rfl rfl rfl rfl hb2) rfl rfl rfl rfl rfl trivial ?_
  obtain ⟨v2, hc3, h⟩ := bind_inv h
  refine nCallR (S_ReachOf_w N g_0 (0 : Int) v2 hc3) rfl (wSome rfl rfl rfl rfl hb2) rfl rfl rfl rfl rfl rfl (by first | rfl | kernel_rfl | (simp [nrL, nm, gdst, nmT, rowB]; done)) rfl (by first | rfl | kernel_rfl | (simp [chkE, nrL, nm, gdst, nmT, rowB, hid, ment, mentA, mentS]; done) | (simp [chkE, nrL, nm, gdst, nmT, rowB, hid, ment, mentA, mentS]; decide)) ⟨⟨rfl, rfl, trivial⟩, rfl, trivial⟩ ?_
  iterate 3 refine nVal tt rfl (wSome rfl rfl rfl rfl hb2) rfl rfl rfl rfl rfl trivial ?_
  refine nNil ?_
  change VO _ _ _ _ _
  refine oValG tt rfl rfl rfl rfl rfl hb2 rfl rfl rfl trivial ?_
  refine oPick rfl rfl rfl rfl rfl hb2 rfl ?_
  refine oVal tt rfl rfl rfl rfl rfl trivial ?_
  refine vNil ?_
  change VC _ _ _ _
  refine vRet ?_
  change ∃ _, _
  cases h
  exact ⟨[], _, rfl, trivial, rfl, (.eq rfl), rfl⟩
 ·replace h := cnd_f hb2 h
  iterate 5 refine nNoT rfl rfl rfl rfl hb2 rfl rfl ?_
  refine nNil ?_
  change VO _ _ _ _ _
  refine oNoT rfl rfl rfl rfl hb2 rfl rfl ?_
  refine oPickF rfl rfl rfl rfl rfl hb2 rfl ?_
  refine oVal tt rfl rfl rfl rfl rfl trivial ?_
  refine vNil ?_
  change VC _ _ _ _
  refine vRet ?_
  change ∃ _, _
  cases h
  exact ⟨[], _, rfl, trivial, rfl, (.eq rfl), rfl⟩
def S_CutSets_l1 (N : Nat) (g_0 : Grf) (k_1 : Int) (k : (List (List Int)) → Option (List (List Int))) : Nat → ((List (List Int)) × Int) → Option (List (List Int))
 | 0, _ => none
 | n + 1, (l25, mask26) =>
  grd (0 ≤ g_0.n ∧ g_0.n < 64 ∧ Rg64 ((1 : Int) * 2 ^ ((g_0.n).toNat))) <|
  cnd (decide (mask26 < ((1 : Int) * 2 ^ ((g_0.n).toNat)))) (
   (S_l3Set N g_0.n mask26).bind fun v30 =>
   cnd ((v30.length : Int) == k_1) (
    grd (Rg64 (g_0.n - k_1)) <|
    cnd (decide ((g_0.n - k_1) ≥ (2 : Int))) (
     (S_WithoutPoints N g_0 v30).bind fun v31 =>
     (S_IsConnected N v31).bind fun v32 =>
     cnd (!v32) (
      grd (l25.length + 1 ≤ 4294967296) <|
      grd (Rg64 (mask26 + (1 : Int))) <|
      S_CutSets_l1 N g_0 k_1 k n ((l25 ++ ([v30] : List (List Int))), (mask26 + (1 : Int)))) (
      grd (Rg64 (mask26 + (1 : Int))) <|
      S_CutSets_l1 N g_0 k_1 k n (l25, (mask26 + (1 : Int))))) (
     grd (Rg64 (mask26 + (1 : Int))) <|
     S_CutSets_l1 N g_0 k_1 k n (l25, (mask26 + (1 : Int))))) (
    grd (Rg64 (mask26 + (1 : Int))) <|
    S_CutSets_l1 N g_0 k_1 k n (l25, (mask26 + (1 : Int))))) (
   k l25)
def S_CutSets (N : Nat) (g_0 : Grf) (k_1 : Int) : Option (List (List Int)) :=
 (S_IsGraph N g_0).bind fun v1 =>
 cnd (!v1) (
  some ([] : List (List Int))) (
  (S_l1In N k_1 (0 : Int) (3 : Int)).bind fun v2 =>
  cnd (!v2) (
   some ([] : List (List Int))) (
   S_CutSets_l1 N g_0 k_1 (fun (l17 : List (List Int)) =>
      some l17) N (([] : List (List Int)), (0 : Int))))
set_option maxRecDepth 20000 in
set_option maxHeartbeats 1600000 in
theorem S_CutSets_w (N : Nat) (g_0 : Grf) (k_1 : Int) (r : List (List Int)) (h : S_CutSets N g_0 k_1 = some r) : PCall Try.prog 130 [gD g_0, .int k_1] [(35, .intss r)] (.row 0 0 r.length) := by
 unfold S_CutSets at h
 refine pcall_intro (TT := TT) tt Try.func130 rfl rfl Try.ntmps130 (congrArg Array.toList Try.results130) rfl rfl fun w0 => ?_
 refine vSeq ?_
 refine vRegion ?_
 refine oBox rfl rfl rfl rfl rfl rfl rfl rfl rfl ?_
 refine oVal tt rfl rfl rfl rfl rfl trivial ?_
 refine vNil ?_
 change VC _ _ _ _
 refine vSeq ?_
 refine vRegion ?_
 refine oEmpty tt (wNone rfl) rfl rfl rfl rfl ?_
 refine oVal tt rfl rfl rfl rfl rfl trivial ?_
 refine vNil ?_
 change VC _ _ _ _
 iterate 2 refine vSeq ?_
 refine vRegion ?_
 refine oVal tt rfl rfl rfl rfl rfl trivial ?_
 obtain ⟨v1, hc1, h⟩ := bind_inv h
 refine oCall (S_IsGraph_w N g_0 v1 hc1) rfl rfl rfl rfl rfl rfl rfl rfl ⟨⟨rfl, rfl, trivial⟩, trivial⟩ ?_
 iterate 2 refine oVal tt rfl rfl rfl rfl rfl trivial ?_
 refine oSplit rfl rfl rfl (fun hb2 => ?_) (fun hb2 => ?_)
 ·replace h := cnd_t hb2 h
  iterate 3 refine oNoF rfl rfl rfl rfl hb2 rfl rfl ?_
  refine oPick rfl rfl rfl rfl rfl hb2 rfl ?_
  refine vNil ?_
  change VC _ _ _ _
  refine vCondT rfl rfl ?_
  refine vSeq ?_
  refine vRegion ?_
  iterate 2 refine oVal tt rfl rfl rfl rfl rfl trivial ?_
  refine vNil ?_
  change VC _ _ _ _
  refine vNilT 4 9001 35 (.intss []) rfl rfl rfl rfl ?_
  refine vRet ?_
  change ∃ _, _
  cases h
  exact ⟨[9001], _, rfl, ⟨rfl, trivial⟩, rfl, (.eq rfl), rfl⟩
 ·replace h := cnd_f hb2 h
  refine oValG tt rfl rfl rfl rfl rfl hb2 rfl rfl rfl trivial ?_
  obtain ⟨v2, hc3, h⟩ := bind_inv h
  refine oCallG (S_l1In_w N k_1 (0 : Int) (3 : Int) v2 hc3) rfl rfl rfl rfl hb2 rfl rfl rfl rfl rfl rfl rfl ⟨rfl, rfl, rfl, trivial⟩ ?_
  refine oValG tt rfl rfl rfl rfl rfl hb2 rfl rfl rfl trivial ?_
  refine oPickF rfl rfl rfl rfl rfl hb2 rfl ?_
  refine vNil ?_
  change VC _ _ _ _
  refine vCond rfl (fun hb4 => ?_) (fun hb4 => ?_)
  ·replace h := cnd_t hb4 h
   refine vSeq ?_
   refine vRegion ?_
   iterate 2 refine oVal tt rfl rfl rfl rfl rfl trivial ?_
   refine vNil ?_
   change VC _ _ _ _
   refine vNilT 4 9001 35 (.intss []) rfl rfl rfl rfl ?_
   refine vRet ?_
   change ∃ _, _
   cases h
   exact ⟨[9001], _, rfl, ⟨rfl, trivial⟩, rfl, (.eq rfl), rfl⟩
  ·replace h := cnd_f hb4 h
   refine vSkip ?_
   change VC _ _ _ _
   iterate 2 refine vSeq ?_
   refine vRegion ?_
   refine oVal tt rfl rfl rfl rfl rfl trivial ?_
   refine vNil ?_
   change VC _ _ _ _
   refine vJoin (F := fun k => S_CutSets_l1 N g_0 k_1 k) h (α := List (List Int)) (J := fun (l17 : List (List Int)) => (⟨[(5, .row 50 0 l17.length)], [(50, some (35, .intss l17))], []⟩ : PS)) ?_ ?_
   ·rintro l17 h
    show VC _ _ _ (⟨[(5, .row 50 0 l17.length)], [(50, some (35, .intss l17))], []⟩ : PS)
    refine vSeq ?_
    refine vRegion ?_
    iterate 2 refine oVal tt rfl rfl rfl rfl rfl trivial ?_
    refine vNil ?_
    change VC _ _ _ _
    refine vRet ?_
    change ∃ _, _
    cases h
    exact ⟨[50], _, rfl, ⟨rfl, trivial⟩, rfl, (.eq rfl), rfl⟩
   ·intro k h
    refine vBlock ?_
    refine vNilT 5 50 35 (.intss []) rfl rfl rfl rfl ?_
    refine vLoopS (α := (List (List Int)) × Int) (fun | (l25, mask26) => (⟨[(1, .int k_1), (2, .ptr 2 0), (5, .row 50 0 l25.length), (6, .int mask26)], [(50, some (35, .intss l25))], [(2, some [.int g_0.n, .ro false (.pairs g_0.bars)])]⟩ : PS)) (S_CutSets_l1 N g_0 k_1 k) h (En.of ⟨rfl, rfl, rfl, rfl, trivial⟩ ⟨rfl, trivial⟩ ⟨rfl, trivial⟩) (fun _ => rfl) ?_
    rintro n ⟨l25, mask26⟩ h
    rw [S_CutSets_l1] at h
    show VC _ _ _ (⟨[(1, .int k_1), (2, .ptr 2 0), (5, .row 50 0 l25.length), (6, .int mask26)], [(50, some (35, .intss l25))], [(2, some [.int g_0.n, .ro false (.pairs g_0.bars)])]⟩ : PS)
    iterate 2 refine vSeq ?_
    refine vRegion ?_
    iterate 3 refine oVal tt rfl rfl rfl rfl rfl trivial ?_
    obtain ⟨hg5, h⟩ := grd_inv h
    refine oVal tt rfl rfl rfl rfl rfl hg5 ?_
    refine oVal tt rfl rfl rfl rfl rfl trivial ?_
    refine vNil ?_
    change VC _ _ _ _
    refine vCond rfl (fun hb6 => ?_) (fun hb6 => ?_)
    ·replace h := cnd_t hb6 h
     refine vSkip ?_
     change VC _ _ _ _
     refine vSeq ?_
     refine vBlock ?_
     refine vSeq ?_
     refine vRegion ?_
     iterate 3 refine oVal tt rfl rfl rfl rfl rfl trivial ?_
     obtain ⟨v30, hc7, h⟩ := bind_inv h
     refine oCall (S_l3Set_w N g_0.n mask26 v30 hc7) rfl rfl rfl rfl rfl rfl rfl rfl ⟨rfl, rfl, trivial⟩ ?_
     refine oVal tt rfl rfl rfl rfl rfl trivial ?_
     refine vNil ?_
     change VC _ _ _ _
     refine vSeq ?_
     refine vRegion ?_
     iterate 5 refine oVal tt rfl rfl rfl rfl rfl trivial ?_
     refine oSplit rfl rfl rfl (fun hb8 => ?_) (fun hb8 => ?_)
     ·replace h := cnd_t hb8 h
      iterate 3 refine oValG tt rfl rfl rfl rfl rfl hb8 rfl rfl rfl trivial ?_
      obtain ⟨hg9, h⟩ := grd_inv h
      refine oValG tt rfl rfl rfl rfl rfl hb8 rfl rfl rfl hg9 ?_
      refine oValG tt rfl rfl rfl rfl rfl hb8 rfl rfl rfl trivial ?_
      refine oPick rfl rfl rfl rfl rfl hb8 rfl ?_
      refine oVal tt rfl rfl rfl rfl rfl trivial ?_
      refine oSplit rfl rfl rfl (fun hb10 => ?_) (fun hb10 => ?_)
      ·replace h := cnd_t hb10 h
       iterate 2 refine oValG tt rfl rfl rfl rfl rfl hb10 rfl rfl rfl trivial ?_
       obtain ⟨v31, hc11, h⟩ := bind_inv h
       refine oCallG (S_WithoutPoints_w N g_0 v30 v31 hc11) rfl rfl rfl rfl hb10 rfl rfl rfl rfl rfl rfl rfl ⟨⟨rfl, rfl, trivial⟩, (.inl ⟨rfl, rfl⟩), trivial⟩ ?_
       obtain ⟨v32, hc12, h⟩ := bind_inv h
       refine oCallG (S_IsConnected_w N v31 v32 hc12) rfl rfl rfl rfl hb10 rfl rfl rfl rfl rfl rfl rfl ⟨⟨rfl, (.inl ⟨rfl, rfl⟩), trivial⟩, trivial⟩ ?_
       refine oValG tt rfl rfl rfl rfl rfl hb10 rfl rfl rfl trivial ?_
       refine oPick rfl rfl rfl rfl rfl hb10 rfl ?_
       refine vNil ?_
       change VC _ _ _ _
       refine vCond rfl (fun hb13 => ?_) (fun hb13 => ?_)
       ·replace h := cnd_t hb13 h
        refine vRegion ?_
        iterate 2 refine oVal tt rfl rfl rfl rfl rfl trivial ?_
        refine oFreeze (t := 48) rfl rfl rfl rfl ?_
        refine oBuild tt rfl rfl rfl rfl rfl rfl rfl rfl rfl rfl rfl ?_
        obtain ⟨hg14, h⟩ := grd_inv h
        refine oAppend tt rfl rfl rfl rfl rfl rfl rfl rfl rfl rfl rfl rfl rfl rfl rfl rfl (Nat.le_of_eq (Nat.zero_add _)) hg14 ?_
        refine oVal tt rfl rfl rfl rfl rfl trivial ?_
        refine vNil ?_
        change VC _ _ _ _
        refine vRegion ?_
        refine oVal tt rfl rfl rfl rfl rfl trivial ?_
        obtain ⟨hg15, h⟩ := grd_inv h
        refine oVal tt rfl rfl rfl rfl rfl hg15 ?_
        refine oVal tt rfl rfl rfl rfl rfl trivial ?_
        refine vNil ?_
        change ∃ _, _
        exact ⟨((l25 ++ ([v30] : List (List Int))), (mask26 + (1 : Int))), (En.of ⟨rfl, rfl, rfl, rfl, trivial⟩ ⟨rfl, trivial⟩ ⟨rfl, trivial⟩), h⟩
       ·replace h := cnd_f hb13 h
        refine vSkip ?_
        change VC _ _ _ _
        refine vRegion ?_
        refine oVal tt rfl rfl rfl rfl rfl trivial ?_
        obtain ⟨hg16, h⟩ := grd_inv h
        refine oVal tt rfl rfl rfl rfl rfl hg16 ?_
        refine oVal tt rfl rfl rfl rfl rfl trivial ?_
        refine vNil ?_
        change ∃ _, _
        exact ⟨(l25, (mask26 + (1 : Int))), (En.of ⟨rfl, rfl, rfl, rfl, trivial⟩ ⟨rfl, trivial⟩ ⟨rfl, trivial⟩), h⟩
      ·replace h := cnd_f hb10 h
       iterate 5 refine oNoT rfl rfl rfl rfl hb10 rfl rfl ?_
       refine oPickF rfl rfl rfl rfl rfl hb10 rfl ?_
       refine vNil ?_
       change VC _ _ _ _
       refine vCondF rfl rfl ?_
       refine vSkip ?_
       change VC _ _ _ _
       refine vRegion ?_
       refine oVal tt rfl rfl rfl rfl rfl trivial ?_
       obtain ⟨hg17, h⟩ := grd_inv h
       refine oVal tt rfl rfl rfl rfl rfl hg17 ?_
       refine oVal tt rfl rfl rfl rfl rfl trivial ?_
       refine vNil ?_
       change ∃ _, _
       exact ⟨(l25, (mask26 + (1 : Int))), (En.of ⟨rfl, rfl, rfl, rfl, trivial⟩ ⟨rfl, trivial⟩ ⟨rfl, trivial⟩), h⟩
     ·replace h := cnd_f hb8 h
      iterate 5 refine oNoT rfl rfl rfl rfl hb8 rfl rfl ?_
      refine oPickF rfl rfl rfl rfl rfl hb8 rfl ?_
      refine oVal tt rfl rfl rfl rfl rfl trivial ?_
      iterate 5 refine oNoT rfl rfl rfl rfl rfl rfl rfl ?_
      refine oPickF rfl rfl rfl rfl rfl rfl rfl ?_
      refine vNil ?_
      change VC _ _ _ _
      refine vCondF rfl rfl ?_
      refine vSkip ?_
      change VC _ _ _ _
      refine vRegion ?_
      refine oVal tt rfl rfl rfl rfl rfl trivial ?_
      obtain ⟨hg18, h⟩ := grd_inv h
      refine oVal tt rfl rfl rfl rfl rfl hg18 ?_
      refine oVal tt rfl rfl rfl rfl rfl trivial ?_
      refine vNil ?_
      change ∃ _, _
      exact ⟨(l25, (mask26 + (1 : Int))), (En.of ⟨rfl, rfl, rfl, rfl, trivial⟩ ⟨rfl, trivial⟩ ⟨rfl, trivial⟩), h⟩
    ·replace h := cnd_f hb6 h
     refine vExit ?_
     change ∃ _, _
     exact ⟨l25, (En.of ⟨rfl, trivial⟩ ⟨rfl, trivial⟩ trivial), h⟩
def S_IsKConnected_l1 (N : Nat) (g_0 : Grf) (k_1 : Int) (k : Unit → Option (Bool)) : Nat → Int → Option (Bool)
 | 0, _ => none
 | n + 1, i9 =>
  cnd (decide (i9 < k_1)) (
   (S_CutSets N g_0 i9).bind fun v11 =>
   cnd (decide ((v11.length : Int) > (0 : Int))) (
    some false) (
    grd (Rg64 (i9 + (1 : Int))) <|
    S_IsKConnected_l1 N g_0 k_1 k n (i9 + (1 : Int)))) (
   k ())
def S_IsKConnected (N : Nat) (g_0 : Grf) (k_1 : Int) : Option (Bool) :=
 (S_IsGraph N g_0).bind fun v1 =>
 cnd (!v1) (
  some false) (
  (S_l1In N k_1 (1 : Int) (3 : Int)).bind fun v2 =>
  cnd (!v2) (
   some false) (
   cnd (decide (g_0.n ≤ k_1)) (
    some false) (
    S_IsKConnected_l1 N g_0 k_1 (fun (_ : Unit) =>
       some true) N (0 : Int))))
set_option maxRecDepth 20000 in
set_option maxHeartbeats 1600000 in
theorem S_IsKConnected_w (N : Nat) (g_0 : Grf) (k_1 : Int) (r : Bool) (h : S_IsKConnected N g_0 k_1 = some r) : PCall Try.prog 118 [gD g_0, .int k_1] [] (.bool r) := by
 unfold S_IsKConnected at h
 refine pcall_intro (TT := TT) tt Try.func118 rfl rfl Try.ntmps118 (congrArg Array.toList Try.results118) rfl rfl fun w0 => ?_
 refine vSeq ?_
 refine vRegion ?_
 refine oBox rfl rfl rfl rfl rfl rfl rfl rfl rfl ?_
 refine oVal tt rfl rfl rfl rfl rfl trivial ?_
 refine vNil ?_
 change VC _ _ _ _
 iterate 2 refine vSeq ?_
 refine vRegion ?_
 refine oVal tt rfl rfl rfl rfl rfl trivial ?_
 obtain ⟨v1, hc1, h⟩ := bind_inv h
 refine oCall (S_IsGraph_w N g_0 v1 hc1) rfl rfl rfl rfl rfl rfl rfl rfl ⟨⟨rfl, rfl, trivial⟩, trivial⟩ ?_
 iterate 2 refine oVal tt rfl rfl rfl rfl rfl trivial ?_
 refine oSplit rfl rfl rfl (fun hb2 => ?_) (fun hb2 => ?_)
 ·replace h := cnd_t hb2 h
  iterate 3 refine oNoF rfl rfl rfl rfl hb2 rfl rfl ?_
  refine oPick rfl rfl rfl rfl rfl hb2 rfl ?_
  refine oVal tt rfl rfl rfl rfl rfl trivial ?_
  iterate 4 refine oNoF rfl rfl rfl rfl rfl rfl rfl ?_
  refine oPick rfl rfl rfl rfl rfl rfl rfl ?_
  refine vNil ?_
  change VC _ _ _ _
  refine vCondT rfl rfl ?_
  refine vSeq ?_
  refine vRegion ?_
  refine oVal tt rfl rfl rfl rfl rfl trivial ?_
  refine vNil ?_
  change VC _ _ _ _
  refine vRet ?_
  change ∃ _, _
  cases h
  exact ⟨[], _, rfl, trivial, rfl, (.eq rfl), rfl⟩
 ·replace h := cnd_f hb2 h
  refine oValG tt rfl rfl rfl rfl rfl hb2 rfl rfl rfl trivial ?_
  obtain ⟨v2, hc3, h⟩ := bind_inv h
  refine oCallG (S_l1In_w N k_1 (1 : Int) (3 : Int) v2 hc3) rfl rfl rfl rfl hb2 rfl rfl rfl rfl rfl rfl rfl ⟨rfl, rfl, rfl, trivial⟩ ?_
  refine oValG tt rfl rfl rfl rfl rfl hb2 rfl rfl rfl trivial ?_
  refine oPickF rfl rfl rfl rfl rfl hb2 rfl ?_
  refine oVal tt rfl rfl rfl rfl rfl trivial ?_
  refine oSplit rfl rfl rfl (fun hb4 => ?_) (fun hb4 => ?_)
  ·replace h := cnd_t hb4 h
   iterate 4 refine oNoF rfl rfl rfl rfl hb4 rfl rfl ?_
   refine oPick rfl rfl rfl rfl rfl hb4 rfl ?_
   refine vNil ?_
   change VC _ _ _ _
   refine vCondT rfl rfl ?_
   refine vSeq ?_
   refine vRegion ?_
   refine oVal tt rfl rfl rfl rfl rfl trivial ?_
   refine vNil ?_
   change VC _ _ _ _
   refine vRet ?_
   change ∃ _, _
   cases h
   exact ⟨[], _, rfl, trivial, rfl, (.eq rfl), rfl⟩
  ·replace h := cnd_f hb4 h
   iterate 4 refine oValG tt rfl rfl rfl rfl rfl hb4 rfl rfl rfl trivial ?_
   refine oPickF rfl rfl rfl rfl rfl hb4 rfl ?_
   refine vNil ?_
   change VC _ _ _ _
   refine vCond rfl (fun hb5 => ?_) (fun hb5 => ?_)
   ·replace h := cnd_t hb5 h
    refine vSeq ?_
    refine vRegion ?_
    refine oVal tt rfl rfl rfl rfl rfl trivial ?_
    refine vNil ?_
    change VC _ _ _ _
    refine vRet ?_
    change ∃ _, _
    cases h
    exact ⟨[], _, rfl, trivial, rfl, (.eq rfl), rfl⟩
   ·replace h := cnd_f hb5 h
    refine vSkip ?_
    change VC _ _ _ _
    iterate 2 refine vSeq ?_
    refine vRegion ?_
    refine oVal tt rfl rfl rfl rfl rfl trivial ?_
    refine vNil ?_
    change VC _ _ _ _
    refine vJoin (F := fun k => S_IsKConnected_l1 N g_0 k_1 k) h (α := Unit) (J := fun (_ : Unit) => (⟨[], [], []⟩ : PS)) ?_ ?_
    ·rintro ⟨⟩ h
     show VC _ _ _ (⟨[], [], []⟩ : PS)
     refine vSeq ?_
     refine vRegion ?_
     refine oVal tt rfl rfl rfl rfl rfl trivial ?_
     refine vNil ?_
     change VC _ _ _ _
     refine vRet ?_
     change ∃ _, _
     cases h
     exact ⟨[], _, rfl, trivial, rfl, (.eq rfl), rfl⟩
    ·intro k h
     refine vBlock ?_
     refine vLoopS (α := Int) (fun (i9 : Int) => (⟨[(1, .int k_1), (2, .ptr 2 0), (5, .int i9)], [], [(2, some [.int g_0.n, .ro false (.pairs g_0.bars)])]⟩ : PS)) (S_IsKConnected_l1 N g_0 k_1 k) h (En.of ⟨rfl, rfl, rfl, trivial⟩ trivial ⟨rfl, trivial⟩) (fun _ => rfl) ?_
     rintro n i9 h
     rw [S_IsKConnected_l1] at h
     show VC _ _ _ (⟨[(1, .int k_1), (2, .ptr 2 0), (5, .int i9)], [], [(2, some [.int g_0.n, .ro false (.pairs g_0.bars)])]⟩ : PS)
     iterate 2 refine vSeq ?_
     refine vRegion ?_
     iterate 3 refine oVal tt rfl rfl rfl rfl rfl trivial ?_
     refine vNil ?_
     change VC _ _ _ _
     refine vCond rfl (fun hb6 => ?_) (fun hb6 => ?_)
     ·replace h := cnd_t hb6 h
      refine vSkip ?_
      change VC _ _ _ _
      refine vSeq ?_
      refine vBlock ?_
      refine vSeq ?_
      refine vRegion ?_
      iterate 2 refine oVal tt rfl rfl rfl rfl rfl trivial ?_
      obtain ⟨v11, hc7, h⟩ := bind_inv h
      refine oCall (S_CutSets_w N g_0 i9 v11 hc7) rfl rfl rfl rfl rfl rfl rfl rfl ⟨⟨rfl, rfl, trivial⟩, rfl, trivial⟩ ?_
      iterate 2 refine oVal tt rfl rfl rfl rfl rfl trivial ?_
      refine vNil ?_
      change VC _ _ _ _
      refine vCond rfl (fun hb8 => ?_) (fun hb8 => ?_)
      ·replace h := cnd_t hb8 h
       refine vSeq ?_
       refine vRegion ?_
       refine oVal tt rfl rfl rfl rfl rfl trivial ?_
       refine vNil ?_
       change VC _ _ _ _
       refine vRet ?_
       change ∃ _, _
       cases h
       exact ⟨[], _, rfl, trivial, rfl, (.eq rfl), rfl⟩
      ·replace h := cnd_f hb8 h
       refine vSkip ?_
       change VC _ _ _ _
       refine vRegion ?_
       refine oVal tt rfl rfl rfl rfl rfl trivial ?_
       obtain ⟨hg9, h⟩ := grd_inv h
       refine oVal tt rfl rfl rfl rfl rfl hg9 ?_
       refine oVal tt rfl rfl rfl rfl rfl trivial ?_
       refine vNil ?_
       change ∃ _, _
       exact ⟨(i9 + (1 : Int)), (En.of ⟨rfl, rfl, rfl, trivial⟩ trivial ⟨rfl, trivial⟩), h⟩
     ·replace h := cnd_f hb6 h
      refine vExit ?_
      change ∃ _, _
      exact ⟨(), (En.of trivial trivial trivial), h⟩
def S_BridgesOf_l1 (N : Nat) (g_0 : Grf) (k_1 : Int) (l_2 : Int) (v1 : Int) (k : (List Int) → Option (List Int)) : Nat → ((List Int) × Int) → Option (List Int)
 | 0, _ => none
 | n + 1, (l18, i19) =>
  cnd (decide (i19 < (g_0.bars.length : Int))) (
   cnd (decide (v1 ≥ (0 : Int))) (
    (S_RemoveBar N g_0 i19).bind fun v22 =>
    (S_RankOf N v22.1 k_1 l_2).bind fun v23 =>
    cnd (decide (v23 < v1)) (
     grd (l18.length + 1 ≤ 4294967296) <|
     grd (Rg64 (i19 + (1 : Int))) <|
     S_BridgesOf_l1 N g_0 k_1 l_2 v1 k n ((l18 ++ ([i19] : List Int)), (i19 + (1 : Int)))) (
     grd (Rg64 (i19 + (1 : Int))) <|
     S_BridgesOf_l1 N g_0 k_1 l_2 v1 k n (l18, (i19 + (1 : Int))))) (
    k l18)) (
   k l18)
def S_BridgesOf (N : Nat) (g_0 : Grf) (k_1 : Int) (l_2 : Int) : Option (List Int) :=
 (S_RankOf N g_0 k_1 l_2).bind fun v1 =>
 S_BridgesOf_l1 N g_0 k_1 l_2 v1 (fun (l12 : List Int) =>
    some l12) N (([] : List Int), (0 : Int))
set_option maxRecDepth 20000 in
set_option maxHeartbeats 1600000 in
theorem S_BridgesOf_w (N : Nat) (g_0 : Grf) (k_1 : Int) (l_2 : Int) (r : List Int) (h : S_BridgesOf N g_0 k_1 l_2 = some r) : PCall Try.prog 144 [gD g_0, .int k_1, .int l_2] [(3, .ints r)] (.row 0 0 r.length) := by
 unfold S_BridgesOf at h
 refine pcall_intro (TT := TT) tt Try.func144 rfl rfl Try.ntmps144 (congrArg Array.toList Try.results144) rfl rfl fun w0 => ?_
 refine vSeq ?_
 refine vRegion ?_
 refine oBox rfl rfl rfl rfl rfl rfl rfl rfl rfl ?_
 refine oVal tt rfl rfl rfl rfl rfl trivial ?_
 refine vNil ?_
 change VC _ _ _ _
 refine vSeq ?_
 refine vRegion ?_
 refine oEmpty tt (wNone rfl) rfl rfl rfl rfl ?_
 refine oVal tt rfl rfl rfl rfl rfl trivial ?_
 refine vNil ?_
 change VC _ _ _ _
 refine vSeq ?_
 refine vRegion ?_
 iterate 3 refine oVal tt rfl rfl rfl rfl rfl trivial ?_
 obtain ⟨v1, hc1, h⟩ := bind_inv h
 refine oCall (S_RankOf_w N g_0 k_1 l_2 v1 hc1) rfl rfl rfl rfl rfl rfl rfl rfl ⟨⟨rfl, rfl, trivial⟩, rfl, rfl, trivial⟩ ?_
 refine oVal tt rfl rfl rfl rfl rfl trivial ?_
 refine vNil ?_
 change VC _ _ _ _
 iterate 2 refine vSeq ?_
 refine vRegion ?_
 refine oVal tt rfl rfl rfl rfl rfl trivial ?_
 refine vNil ?_
 change VC _ _ _ _
 refine vJoin (F := fun k => S_BridgesOf_l1 N g_0 k_1 l_2 v1 k) h (α := List Int) (J := fun (l12 : List Int) => (⟨[(7, .row 43 0 l12.length)], [(43, some (3, .ints l12))], []⟩ : PS)) ?_ ?_
 ·rintro l12 h
  show VC _ _ _ (⟨[(7, .row 43 0 l12.length)], [(43, some (3, .ints l12))], []⟩ : PS)
  refine vSeq ?_
  refine vRegion ?_
  iterate 2 refine oVal tt rfl rfl rfl rfl rfl trivial ?_
  refine vNil ?_
  change VC _ _ _ _
  refine vRet ?_
  change ∃ _, _
  cases h
  exact ⟨[43], _, rfl, ⟨rfl, trivial⟩, rfl, (.eq rfl), rfl⟩
 ·intro k h
  refine vBlock ?_
  refine vNilT 7 43 3 (.ints []) rfl rfl rfl rfl ?_
  refine vLoopS (α := (List Int) × Int) (fun | (l18, i19) => (⟨[(1, .int k_1), (2, .int l_2), (3, .ptr 3 0), (7, .row 43 0 l18.length), (8, .int v1), (9, .int i19)], [(43, some (3, .ints l18))], [(3, some [.int g_0.n, .ro false (.pairs g_0.bars)])]⟩ : PS)) (S_BridgesOf_l1 N g_0 k_1 l_2 v1 k) h (En.of ⟨rfl, rfl, rfl, rfl, rfl, rfl, trivial⟩ ⟨rfl, trivial⟩ ⟨rfl, trivial⟩) (fun _ => rfl) ?_
  rintro n ⟨l18, i19⟩ h
  rw [S_BridgesOf_l1] at h
  show VC _ _ _ (⟨[(1, .int k_1), (2, .int l_2), (3, .ptr 3 0), (7, .row 43 0 l18.length), (8, .int v1), (9, .int i19)], [(43, some (3, .ints l18))], [(3, some [.int g_0.n, .ro false (.pairs g_0.bars)])]⟩ : PS)
  iterate 2 refine vSeq ?_
  refine vRegion ?_
  iterate 6 refine oVal tt rfl rfl rfl rfl rfl trivial ?_
  refine oSplit rfl rfl rfl (fun hb2 => ?_) (fun hb2 => ?_)
  ·replace h := cnd_t hb2 h
   iterate 2 refine oValG tt rfl rfl rfl rfl rfl hb2 rfl rfl rfl trivial ?_
   refine oPick rfl rfl rfl rfl rfl hb2 rfl ?_
   refine vNil ?_
   change VC _ _ _ _
   refine vCond rfl (fun hb3 => ?_) (fun hb3 => ?_)
   ·replace h := cnd_t hb3 h
    refine vSkip ?_
    change VC _ _ _ _
    refine vSeq ?_
    refine vBlock ?_
    refine vSeq ?_
    refine vRegion ?_
    iterate 2 refine oVal tt rfl rfl rfl rfl rfl trivial ?_
    obtain ⟨v22, hc4, h⟩ := bind_inv h
    refine oCall (S_RemoveBar_w N g_0 i19 v22 hc4) rfl rfl rfl rfl rfl rfl rfl rfl ⟨⟨rfl, rfl, trivial⟩, rfl, trivial⟩ ?_
    iterate 3 refine oVal tt rfl rfl rfl rfl rfl trivial ?_
    refine oAlloc tt rfl rfl rfl rfl rfl rfl rfl rfl rfl ?_
    refine oStore tt rfl rfl rfl rfl rfl rfl rfl rfl rfl rfl rfl ⟨trivial, trivial, trivial⟩ ?_
    refine oVal tt rfl rfl rfl rfl rfl trivial ?_
    refine vNil ?_
    change VC _ _ _ _
    refine vSeq ?_
    refine vRegion ?_
    iterate 3 refine oVal tt rfl rfl rfl rfl rfl trivial ?_
    obtain ⟨v23, hc5, h⟩ := bind_inv h
    refine oCall (S_RankOf_w N v22.1 k_1 l_2 v23 hc5) rfl rfl rfl rfl rfl rfl rfl rfl ⟨⟨rfl, (.inl ⟨rfl, rfl⟩), trivial⟩, rfl, rfl, trivial⟩ ?_
    iterate 2 refine oVal tt rfl rfl rfl rfl rfl trivial ?_
    refine vNil ?_
    change VC _ _ _ _
    refine vCond rfl (fun hb6 => ?_) (fun hb6 => ?_)
    ·replace h := cnd_t hb6 h
     refine vRegion ?_
     iterate 2 refine oVal tt rfl rfl rfl rfl rfl trivial ?_
     refine oBuild tt rfl rfl rfl rfl rfl rfl rfl rfl rfl rfl rfl ?_
     obtain ⟨hg7, h⟩ := grd_inv h
     refine oAppend tt rfl rfl rfl rfl rfl rfl rfl rfl rfl rfl rfl rfl rfl rfl rfl rfl (Nat.le_of_eq (Nat.zero_add _)) hg7 ?_
     refine oVal tt rfl rfl rfl rfl rfl trivial ?_
     refine vNil ?_
     change VC _ _ _ _
     refine vRegion ?_
     refine oVal tt rfl rfl rfl rfl rfl trivial ?_
     obtain ⟨hg8, h⟩ := grd_inv h
     refine oVal tt rfl rfl rfl rfl rfl hg8 ?_
     refine oVal tt rfl rfl rfl rfl rfl trivial ?_
     refine vNil ?_
     change ∃ _, _
     exact ⟨((l18 ++ ([i19] : List Int)), (i19 + (1 : Int))), (En.of ⟨rfl, rfl, rfl, rfl, rfl, rfl, trivial⟩ ⟨rfl, trivial⟩ ⟨rfl, trivial⟩), h⟩
    ·replace h := cnd_f hb6 h
     refine vSkip ?_
     change VC _ _ _ _
     refine vRegion ?_
     refine oVal tt rfl rfl rfl rfl rfl trivial ?_
     obtain ⟨hg9, h⟩ := grd_inv h
     refine oVal tt rfl rfl rfl rfl rfl hg9 ?_
     refine oVal tt rfl rfl rfl rfl rfl trivial ?_
     refine vNil ?_
     change ∃ _, _
     exact ⟨(l18, (i19 + (1 : Int))), (En.of ⟨rfl, rfl, rfl, rfl, rfl, rfl, trivial⟩ ⟨rfl, trivial⟩ ⟨rfl, trivial⟩), h⟩
   ·replace h := cnd_f hb3 h
    refine vExit ?_
    change ∃ _, _
    exact ⟨l18, (En.of ⟨rfl, trivial⟩ ⟨rfl, trivial⟩ trivial), h⟩
  ·replace h := cnd_f hb2 h
   iterate 2 refine oNoT rfl rfl rfl rfl hb2 rfl rfl ?_
   refine oPickF rfl rfl rfl rfl rfl hb2 rfl ?_
   refine vNil ?_
   change VC _ _ _ _
   refine vCondF rfl rfl ?_
   refine vExit ?_
   change ∃ _, _
   exact ⟨l18, (En.of ⟨rfl, trivial⟩ ⟨rfl, trivial⟩ trivial), h⟩
def S_FragileBars (N : Nat) (g_0 : Grf) : Option (List Int) :=
 (S_BridgesOf N g_0 (2 : Int) (3 : Int)).bind fun v1 =>
 some v1
set_option maxRecDepth 20000 in
set_option maxHeartbeats 1600000 in
theorem S_FragileBars_w (N : Nat) (g_0 : Grf) (r : List Int) (h : S_FragileBars N g_0 = some r) : PCall Try.prog 131 [gD g_0] [(3, .ints r)] (.row 0 0 r.length) := by
 unfold S_FragileBars at h
 refine pcall_intro (TT := TT) tt Try.func131 rfl rfl Try.ntmps131 (congrArg Array.toList Try.results131) rfl rfl fun w0 => ?_
 refine vSeq ?_
 refine vRegion ?_
 refine oBox rfl rfl rfl rfl rfl rfl rfl rfl rfl ?_
 refine oVal tt rfl rfl rfl rfl rfl trivial ?_
 refine vNil ?_
 change VC _ _ _ _
 refine vSeq ?_
 refine vRegion ?_
 refine oVal tt rfl rfl rfl rfl rfl trivial ?_
 obtain ⟨v1, hc1, h⟩ := bind_inv h
 refine oCall (S_BridgesOf_w N g_0 (2 : Int) (3 : Int) v1 hc1) rfl rfl rfl rfl rfl rfl rfl rfl ⟨⟨rfl, rfl, trivial⟩, rfl, rfl, trivial⟩ ?_
 refine oVal tt rfl rfl rfl rfl rfl trivial ?_
 refine vNil ?_
 change VC _ _ _ _
 refine vRet ?_
 change ∃ _, _
 cases h
 exact ⟨[1040], _, rfl, ⟨rfl, trivial⟩, rfl, (.eq rfl), rfl⟩
def S_IsRedundantlyRigid (N : Nat) (g_0 : Grf) : Option (Bool) :=
 (S_IsRigid N g_0).bind fun v1 =>
 cnd v1 (
  (S_FragileBars N g_0).bind fun v2 =>
  some ((v2.length : Int) == (0 : Int))) (
  some false)
set_option maxRecDepth 20000 in
set_option maxHeartbeats 1600000 in
theorem S_IsRedundantlyRigid_w (N : Nat) (g_0 : Grf) (r : Bool) (h : S_IsRedundantlyRigid N g_0 = some r) : PCall Try.prog 119 [gD g_0] [] (.bool r) := by
 unfold S_IsRedundantlyRigid at h
 refine pcall_intro (TT := TT) tt Try.func119 rfl rfl Try.ntmps119 (congrArg Array.toList Try.results119) rfl rfl fun w0 => ?_
 refine vSeq ?_
 refine vRegion ?_
 refine oBox rfl rfl rfl rfl rfl rfl rfl rfl rfl ?_
 refine oVal tt rfl rfl rfl rfl rfl trivial ?_
 refine vNil ?_
 change VC _ _ _ _
 refine vSeq ?_
 refine vRegion ?_
 refine oVal tt rfl rfl rfl rfl rfl trivial ?_
 obtain ⟨v1, hc1, h⟩ := bind_inv h
 refine oCall (S_IsRigid_w N g_0 v1 hc1) rfl rfl rfl rfl rfl rfl rfl rfl ⟨⟨rfl, rfl, trivial⟩, trivial⟩ ?_
 refine oVal tt rfl rfl rfl rfl rfl trivial ?_
 refine oSplit rfl rfl rfl (fun hb2 => ?_) (fun hb2 => ?_)
 ·replace h := cnd_t hb2 h
  refine oValG tt rfl rfl rfl rfl rfl hb2 rfl rfl rfl trivial ?_
  obtain ⟨v2, hc3, h⟩ := bind_inv h
  refine oCallG (S_FragileBars_w N g_0 v2 hc3) rfl rfl rfl rfl hb2 rfl rfl rfl rfl rfl rfl rfl ⟨⟨rfl, rfl, trivial⟩, trivial⟩ ?_
  iterate 2 refine oValG tt rfl rfl rfl rfl rfl hb2 rfl rfl rfl trivial ?_
  refine oPick rfl rfl rfl rfl rfl hb2 rfl ?_
  refine oVal tt rfl rfl rfl rfl rfl trivial ?_
  refine vNil ?_
  change VC _ _ _ _
  refine vRet ?_
  change ∃ _, _
  cases h
  exact ⟨[], _, rfl, trivial, rfl, (.eq rfl), rfl⟩
 ·replace h := cnd_f hb2 h
  iterate 4 refine oNoT rfl rfl rfl rfl hb2 rfl rfl ?_
  refine oPickF rfl rfl rfl rfl rfl hb2 rfl ?_
  refine oVal tt rfl rfl rfl rfl rfl trivial ?_
  refine vNil ?_
  change VC _ _ _ _
  refine vRet ?_
  change ∃ _, _
  cases h
  exact ⟨[], _, rfl, trivial, rfl, (.eq rfl), rfl⟩
end Go.Proofs.Ytkklfgcelmeccaa
namespace Go.Proofs.Ytkklfgcelmeccaa
open Go.RowKit
def I_IsConnected (N : Nat) (g_0 : Grf) : Option (Bool) :=
 (I_IsGraph N g_0).bind fun v1 =>
 cnd v1 (
  (I_ReachOf N g_0 (0 : Int)).bind fun v2 =>
  some ((v2.length : Int) == g_0.n)) (
  some false)
set_option maxRecDepth 20000 in
set_option maxHeartbeats 1600000 in
theorem I_IsConnected_w (N : Nat) (g_0 : Grf) (r : Bool) (h : I_IsConnected N g_0 = some r) : PCall Try.prog 158 [gD g_0] [] (.bool r) := by
 unfold I_IsConnected at h
 refine pcall_intro (TT := TT) tt Try.func158 rfl rfl Try.ntmps158 (congrArg Array.toList Try.results158) rfl rfl fun w0 => ?_
 refine vSeq ?_
 refine vRegion ?_
 refine oBox rfl rfl rfl rfl rfl rfl rfl rfl rfl ?_
 refine oVal tt rfl rfl rfl rfl rfl trivial ?_
 refine vNil ?_
 change VC _ _ _ _
 refine vSeq ?_
 refine vRegionN 8 [4] [0, 1, 3, 7, 15, 31, 7, 71, 255, 511, 1023] (by kernel_rfl) (by kernel_rfl) (by kernel_rfl) (by kernel_rfl) (by kernel_rfl) rfl (by rfl) ?_
 refine nVal tt rfl (wNone rfl) rfl rfl rfl rfl rfl trivial ?_
 obtain ⟨v1, hc1, h⟩ := bind_inv h
 refine nCall (I_IsGraph_w N g_0 v1 hc1) rfl (wNone rfl) rfl rfl rfl rfl rfl rfl rfl rfl ⟨⟨rfl, rfl, trivial⟩, trivial⟩ ?_
 refine nVal tt rfl (wNone rfl) rfl rfl rfl rfl rfl trivial ?_
 refine nSplit rfl rfl rfl (fun hb2 => ?_) (fun hb2 => ?_)
 ·replace h := cnd_t hb2 h
  refine nVal tt rfl (wSome rfl rfl rfl rfl hb2) rfl rfl rfl rfl rfl trivial ?_
  obtain ⟨v2, hc3, h⟩ := bind_inv h
  refine nCallR (I_ReachOf_w N g_0 (0 : Int) v2 hc3) rfl (wSome rfl rfl rfl rfl hb2) rfl rfl rfl rfl rfl rfl (by first | rfl | kernel_rfl | (simp [nrL, nm, gdst, nmT, rowB]; done)) rfl (by first | rfl | kernel_rfl | (simp [chkE, nrL, nm, gdst, nmT, rowB, hid, ment, mentA, mentS]; done) | (simp [chkE, nrL, nm, gdst, nmT, rowB, hid, ment, mentA, mentS]; decide)) ⟨⟨rfl, rfl, trivial⟩, rfl, trivial⟩ ?_
  iterate 3 refine nVal tt rfl (wSome rfl rfl rfl rfl hb2) rfl rfl rfl rfl rfl trivial ?_
  refine nNil ?_
  change VO _ _ _ _ _
  refine oValG tt rfl rfl rfl rfl rfl hb2 rfl rfl rfl trivial ?_
  refine oPick rfl rfl rfl rfl rfl hb2 rfl ?_
  refine oVal tt rfl rfl rfl rfl rfl trivial ?_
  refine vNil ?_
  change VC _ _ _ _
  refine vRet ?_
  change ∃ _, _
  cases h
  exact ⟨[], _, rfl, trivial, rfl, (.eq rfl), rfl⟩
 ·replace h := cnd_f hb2 h
  iterate 5 refine nNoT rfl rfl rfl rfl hb2 rfl rfl ?_
  refine nNil ?_
  change VO _ _ _ _ _
  refine oNoT rfl rfl rfl rfl hb2 rfl rfl ?_
  refine oPickF rfl rfl rfl rfl rfl hb2 rfl ?_
  refine oVal tt rfl rfl rfl rfl rfl trivial ?_
  refine vNil ?_
  change VC _ _ _ _
  refine vRet ?_
  change ∃ _, _
  cases h
  exact ⟨[], _, rfl, trivial, rfl, (.eq rfl), rfl⟩
def I_CutSets_l1 (N : Nat) (g_0 : Grf) (k_1 : Int) (k : (List (List Int)) → Option (List (List Int))) : Nat → ((List (List Int)) × Int) → Option (List (List Int))
 | 0, _ => none
 | n + 1, (l25, x26) =>
  cnd (decide (x26 < ((1 : Int) * 2 ^ ((g_0.n).toNat)))) (
   (I_setOf N x26 g_0.n).bind fun v30 =>
   cnd ((v30.length : Int) != k_1) (
    grd (Rg64 (x26 + (1 : Int))) <|
    I_CutSets_l1 N g_0 k_1 k n (l25, (x26 + (1 : Int)))) (
    (I_WithoutPoints N g_0 v30).bind fun v31 =>
    cnd (decide (v31.n ≥ (2 : Int))) (
     (I_IsConnected N v31).bind fun v32 =>
     cnd (!v32) (
      grd (l25.length + 1 ≤ 4294967296) <|
      grd (Rg64 (x26 + (1 : Int))) <|
      I_CutSets_l1 N g_0 k_1 k n ((l25 ++ ([v30] : List (List Int))), (x26 + (1 : Int)))) (
      grd (Rg64 (x26 + (1 : Int))) <|
      I_CutSets_l1 N g_0 k_1 k n (l25, (x26 + (1 : Int))))) (
     grd (Rg64 (x26 + (1 : Int))) <|
     I_CutSets_l1 N g_0 k_1 k n (l25, (x26 + (1 : Int)))))) (
   k l25)
def I_CutSets (N : Nat) (g_0 : Grf) (k_1 : Int) : Option (List (List Int)) :=
 (I_IsGraph N g_0).bind fun v1 =>
 cnd (!v1) (
  some ([] : List (List Int))) (
  (I_within N k_1 (0 : Int) (3 : Int)).bind fun v2 =>
  cnd (!v2) (
   some ([] : List (List Int))) (
   grd (0 ≤ g_0.n ∧ g_0.n < 64 ∧ Rg64 ((1 : Int) * 2 ^ ((g_0.n).toNat))) <|
   I_CutSets_l1 N g_0 k_1 (fun (l17 : List (List Int)) =>
      some l17) N (([] : List (List Int)), (0 : Int))))
set_option maxRecDepth 20000 in
set_option maxHeartbeats 1600000 in
theorem I_CutSets_w (N : Nat) (g_0 : Grf) (k_1 : Int) (r : List (List Int)) (h : I_CutSets N g_0 k_1 = some r) : PCall Try.prog 147 [gD g_0, .int k_1] [(35, .intss r)] (.row 0 0 r.length) := by
 unfold I_CutSets at h
 refine pcall_intro (TT := TT) tt Try.func147 rfl rfl Try.ntmps147 (congrArg Array.toList Try.results147) rfl rfl fun w0 => ?_
 refine vSeq ?_
 refine vRegion ?_
 refine oBox rfl rfl rfl rfl rfl rfl rfl rfl rfl ?_
 refine oVal tt rfl rfl rfl rfl rfl trivial ?_
 refine vNil ?_
 change VC _ _ _ _
 refine vSeq ?_
 refine vRegion ?_
 refine oEmpty tt (wNone rfl) rfl rfl rfl rfl ?_
 refine oVal tt rfl rfl rfl rfl rfl trivial ?_
 refine vNil ?_
 change VC _ _ _ _
 iterate 2 refine vSeq ?_
 refine vRegion ?_
 refine oVal tt rfl rfl rfl rfl rfl trivial ?_
 obtain ⟨v1, hc1, h⟩ := bind_inv h
 refine oCall (I_IsGraph_w N g_0 v1 hc1) rfl rfl rfl rfl rfl rfl rfl rfl ⟨⟨rfl, rfl, trivial⟩, trivial⟩ ?_
 iterate 2 refine oVal tt rfl rfl rfl rfl rfl trivial ?_
 refine oSplit rfl rfl rfl (fun hb2 => ?_) (fun hb2 => ?_)
 ·replace h := cnd_t hb2 h
  iterate 3 refine oNoF rfl rfl rfl rfl hb2 rfl rfl ?_
  refine oPick rfl rfl rfl rfl rfl hb2 rfl ?_
  refine vNil ?_
  change VC _ _ _ _
  refine vCondT rfl rfl ?_
  refine vSeq ?_
  refine vRegion ?_
  iterate 2 refine oVal tt rfl rfl rfl rfl rfl trivial ?_
  refine vNil ?_
  change VC _ _ _ _
  refine vNilT 4 9001 35 (.intss []) rfl rfl rfl rfl ?_
  refine vRet ?_
  change ∃ _, _
  cases h
  exact ⟨[9001], _, rfl, ⟨rfl, trivial⟩, rfl, (.eq rfl), rfl⟩
 ·replace h := cnd_f hb2 h
  refine oValG tt rfl rfl rfl rfl rfl hb2 rfl rfl rfl trivial ?_
  obtain ⟨v2, hc3, h⟩ := bind_inv h
  refine oCallG (I_within_w N k_1 (0 : Int) (3 : Int) v2 hc3) rfl rfl rfl rfl hb2 rfl rfl rfl rfl rfl rfl rfl ⟨rfl, rfl, rfl, trivial⟩ ?_
  refine oValG tt rfl rfl rfl rfl rfl hb2 rfl rfl rfl trivial ?_
  refine oPickF rfl rfl rfl rfl rfl hb2 rfl ?_
  refine vNil ?_
  change VC _ _ _ _
  refine vCond rfl (fun hb4 => ?_) (fun hb4 => ?_)
  ·replace h := cnd_t hb4 h
   refine vSeq ?_
   refine vRegion ?_
   iterate 2 refine oVal tt rfl rfl rfl rfl rfl trivial ?_
   refine vNil ?_
   change VC _ _ _ _
   refine vNilT 4 9001 35 (.intss []) rfl rfl rfl rfl ?_
   refine vRet ?_
   change ∃ _, _
   cases h
   exact ⟨[9001], _, rfl, ⟨rfl, trivial⟩, rfl, (.eq rfl), rfl⟩
  ·replace h := cnd_f hb4 h
   refine vSkip ?_
   change VC _ _ _ _
   iterate 2 refine vSeq ?_
   refine vRegion ?_
   iterate 2 refine oVal tt rfl rfl rfl rfl rfl trivial ?_
   obtain ⟨hg5, h⟩ := grd_inv h
   refine oVal tt rfl rfl rfl rfl rfl hg5 ?_
   refine oVal tt rfl rfl rfl rfl rfl trivial ?_
   refine vNil ?_
   change VC _ _ _ _
   refine vJoin (F := fun k => I_CutSets_l1 N g_0 k_1 k) h (α := List (List Int)) (J := fun (l17 : List (List Int)) => (⟨[(5, .row 47 0 l17.length)], [(47, some (35, .intss l17))], []⟩ : PS)) ?_ ?_
   ·rintro l17 h
    show VC _ _ _ (⟨[(5, .row 47 0 l17.length)], [(47, some (35, .intss l17))], []⟩ : PS)
    refine vSeq ?_
    refine vRegion ?_
    iterate 2 refine oVal tt rfl rfl rfl rfl rfl trivial ?_
    refine vNil ?_
    change VC _ _ _ _
    refine vRet ?_
    change ∃ _, _
    cases h
    exact ⟨[47], _, rfl, ⟨rfl, trivial⟩, rfl, (.eq rfl), rfl⟩
   ·intro k h
    refine vBlock ?_
    refine vNilT 5 47 35 (.intss []) rfl rfl rfl rfl ?_
    refine vLoopS (α := (List (List Int)) × Int) (fun | (l25, x26) => (⟨[(1, .int k_1), (2, .ptr 2 0), (5, .row 47 0 l25.length), (21, .int ((1 : Int) * 2 ^ ((g_0.n).toNat))), (22, .int x26)], [(47, some (35, .intss l25))], [(2, some [.int g_0.n, .ro false (.pairs g_0.bars)])]⟩ : PS)) (I_CutSets_l1 N g_0 k_1 k) h (En.of ⟨rfl, rfl, rfl, rfl, rfl, trivial⟩ ⟨rfl, trivial⟩ ⟨rfl, trivial⟩) (fun _ => rfl) ?_
    rintro n ⟨l25, x26⟩ h
    rw [I_CutSets_l1] at h
    show VC _ _ _ (⟨[(1, .int k_1), (2, .ptr 2 0), (5, .row 47 0 l25.length), (21, .int ((1 : Int) * 2 ^ ((g_0.n).toNat))), (22, .int x26)], [(47, some (35, .intss l25))], [(2, some [.int g_0.n, .ro false (.pairs g_0.bars)])]⟩ : PS)
    refine vSeq ?_
    refine vRegion ?_
    refine oVal tt rfl rfl rfl rfl rfl trivial ?_
    refine vNil ?_
    change VC _ _ _ _
    refine vSeq ?_
    refine vCond rfl (fun hb6 => ?_) (fun hb6 => ?_)
    ·replace h := cnd_t hb6 h
     refine vSkip ?_
     change VC _ _ _ _
     refine vSeq ?_
     refine vBlock ?_
     refine vSeq ?_
     refine vRegion ?_
     iterate 2 refine oVal tt rfl rfl rfl rfl rfl trivial ?_
     refine vNil ?_
     change VC _ _ _ _
     refine vSeq ?_
     refine vRegion ?_
     iterate 3 refine oVal tt rfl rfl rfl rfl rfl trivial ?_
     obtain ⟨v30, hc7, h⟩ := bind_inv h
     refine oCall (I_setOf_w N x26 g_0.n v30 hc7) rfl rfl rfl rfl rfl rfl rfl rfl ⟨rfl, rfl, trivial⟩ ?_
     refine oVal tt rfl rfl rfl rfl rfl trivial ?_
     refine vNil ?_
     change VC _ _ _ _
     iterate 2 refine vSeq ?_
     refine vRegion ?_
     iterate 4 refine oVal tt rfl rfl rfl rfl rfl trivial ?_
     refine vNil ?_
     change VC _ _ _ _
     refine vCond rfl (fun hb8 => ?_) (fun hb8 => ?_)
     ·replace h := cnd_t hb8 h
      refine vExit ?_
      change VC _ _ _ _
      refine vRegion ?_
      obtain ⟨hg9, h⟩ := grd_inv h
      refine oVal tt rfl rfl rfl rfl rfl hg9 ?_
      refine oVal tt rfl rfl rfl rfl rfl trivial ?_
      refine vNil ?_
      change ∃ _, _
      exact ⟨(l25, (x26 + (1 : Int))), (En.of ⟨rfl, rfl, rfl, rfl, rfl, trivial⟩ ⟨rfl, trivial⟩ ⟨rfl, trivial⟩), h⟩
     ·replace h := cnd_f hb8 h
      refine vSkip ?_
      change VC _ _ _ _
      refine vSeq ?_
      refine vRegion ?_
      iterate 2 refine oVal tt rfl rfl rfl rfl rfl trivial ?_
      obtain ⟨v31, hc10, h⟩ := bind_inv h
      refine oCall (I_WithoutPoints_w N g_0 v30 v31 hc10) rfl rfl rfl rfl rfl rfl rfl rfl ⟨⟨rfl, rfl, trivial⟩, (.inl ⟨rfl, rfl⟩), trivial⟩ ?_
      refine oAlloc tt rfl rfl rfl rfl rfl rfl rfl rfl rfl ?_
      refine oStore tt rfl rfl rfl rfl rfl rfl rfl rfl rfl rfl rfl ⟨trivial, trivial, trivial⟩ ?_
      refine vNil ?_
      change VC _ _ _ _
      refine vSeq ?_
      refine vRegion ?_
      iterate 4 refine oVal tt rfl rfl rfl rfl rfl trivial ?_
      refine oSplit rfl rfl rfl (fun hb11 => ?_) (fun hb11 => ?_)
      ·replace h := cnd_t hb11 h
       refine oValG tt rfl rfl rfl rfl rfl hb11 rfl rfl rfl trivial ?_
       obtain ⟨v32, hc12, h⟩ := bind_inv h
       refine oCallG (I_IsConnected_w N v31 v32 hc12) rfl rfl rfl rfl hb11 rfl rfl rfl rfl rfl rfl rfl ⟨⟨rfl, (.inl ⟨rfl, rfl⟩), trivial⟩, trivial⟩ ?_
       refine oValG tt rfl rfl rfl rfl rfl hb11 rfl rfl rfl trivial ?_
       refine oPick rfl rfl rfl rfl rfl hb11 rfl ?_
       refine vNil ?_
       change VC _ _ _ _
       refine vCond rfl (fun hb13 => ?_) (fun hb13 => ?_)
       ·replace h := cnd_t hb13 h
        refine vRegion ?_
        iterate 2 refine oVal tt rfl rfl rfl rfl rfl trivial ?_
        refine oFreeze (t := 45) rfl rfl rfl rfl ?_
        refine oBuild tt rfl rfl rfl rfl rfl rfl rfl rfl rfl rfl rfl ?_
        obtain ⟨hg14, h⟩ := grd_inv h
        refine oAppend tt rfl rfl rfl rfl rfl rfl rfl rfl rfl rfl rfl rfl rfl rfl rfl rfl (Nat.le_of_eq (Nat.zero_add _)) hg14 ?_
        refine oVal tt rfl rfl rfl rfl rfl trivial ?_
        refine vNil ?_
        change VC _ _ _ _
        refine vRegion ?_
        obtain ⟨hg15, h⟩ := grd_inv h
        refine oVal tt rfl rfl rfl rfl rfl hg15 ?_
        refine oVal tt rfl rfl rfl rfl rfl trivial ?_
        refine vNil ?_
        change ∃ _, _
        exact ⟨((l25 ++ ([v30] : List (List Int))), (x26 + (1 : Int))), (En.of ⟨rfl, rfl, rfl, rfl, rfl, trivial⟩ ⟨rfl, trivial⟩ ⟨rfl, trivial⟩), h⟩
       ·replace h := cnd_f hb13 h
        refine vSkip ?_
        change VC _ _ _ _
        refine vRegion ?_
        obtain ⟨hg16, h⟩ := grd_inv h
        refine oVal tt rfl rfl rfl rfl rfl hg16 ?_
        refine oVal tt rfl rfl rfl rfl rfl trivial ?_
        refine vNil ?_
        change ∃ _, _
        exact ⟨(l25, (x26 + (1 : Int))), (En.of ⟨rfl, rfl, rfl, rfl, rfl, trivial⟩ ⟨rfl, trivial⟩ ⟨rfl, trivial⟩), h⟩
      ·replace h := cnd_f hb11 h
       iterate 3 refine oNoT rfl rfl rfl rfl hb11 rfl rfl ?_
       refine oPickF rfl rfl rfl rfl rfl hb11 rfl ?_
       refine vNil ?_
       change VC _ _ _ _
       refine vCondF rfl rfl ?_
       refine vSkip ?_
       change VC _ _ _ _
       refine vRegion ?_
       obtain ⟨hg17, h⟩ := grd_inv h
       refine oVal tt rfl rfl rfl rfl rfl hg17 ?_
       refine oVal tt rfl rfl rfl rfl rfl trivial ?_
       refine vNil ?_
       change ∃ _, _
       exact ⟨(l25, (x26 + (1 : Int))), (En.of ⟨rfl, rfl, rfl, rfl, rfl, trivial⟩ ⟨rfl, trivial⟩ ⟨rfl, trivial⟩), h⟩
    ·replace h := cnd_f hb6 h
     refine vExit ?_
     change ∃ _, _
     exact ⟨l25, (En.of ⟨rfl, trivial⟩ ⟨rfl, trivial⟩ trivial), h⟩
def I_IsKConnected_l1 (N : Nat) (g_0 : Grf) (k_1 : Int) (k : Unit → Option (Bool)) : Nat → Int → Option (Bool)
 | 0, _ => none
 | n + 1, x9 =>
  cnd (decide (x9 < k_1)) (
   (I_CutSets N g_0 x9).bind fun v11 =>
   cnd (decide ((v11.length : Int) > (0 : Int))) (
    some false) (
    grd (Rg64 (x9 + (1 : Int))) <|
    I_IsKConnected_l1 N g_0 k_1 k n (x9 + (1 : Int)))) (
   k ())
def I_IsKConnected (N : Nat) (g_0 : Grf) (k_1 : Int) : Option (Bool) :=
 (I_IsGraph N g_0).bind fun v1 =>
 cnd (!v1) (
  some false) (
  (I_within N k_1 (1 : Int) (3 : Int)).bind fun v2 =>
  cnd (!v2) (
   some false) (
   cnd (decide (g_0.n ≤ k_1)) (
    some false) (
    I_IsKConnected_l1 N g_0 k_1 (fun (_ : Unit) =>
       some true) N (0 : Int))))
set_option maxRecDepth 20000 in
set_option maxHeartbeats 1600000 in
theorem I_IsKConnected_w (N : Nat) (g_0 : Grf) (k_1 : Int) (r : Bool) (h : I_IsKConnected N g_0 k_1 = some r) : PCall Try.prog 135 [gD g_0, .int k_1] [] (.bool r) := by
 unfold I_IsKConnected at h
 refine pcall_intro (TT := TT) tt Try.func135 rfl rfl Try.ntmps135 (congrArg Array.toList Try.results135) rfl rfl fun w0 => ?_
 refine vSeq ?_
 refine vRegion ?_
 refine oBox rfl rfl rfl rfl rfl rfl rfl rfl rfl ?_
 refine oVal tt rfl rfl rfl rfl rfl trivial ?_
 refine vNil ?_
 change VC _ _ _ _
 iterate 2 refine vSeq ?_
 refine vRegion ?_
 refine oVal tt rfl rfl rfl rfl rfl trivial ?_
 obtain ⟨v1, hc1, h⟩ := bind_inv h
 refine oCall (I_IsGraph_w N g_0 v1 hc1) rfl rfl rfl rfl rfl rfl rfl rfl ⟨⟨rfl, rfl, trivial⟩, trivial⟩ ?_
 iterate 2 refine oVal tt rfl rfl rfl rfl rfl trivial ?_
 refine oSplit rfl rfl rfl (fun hb2 => ?_) (fun hb2 => ?_)
 ·replace h := cnd_t hb2 h
  iterate 3 refine oNoF rfl rfl rfl rfl hb2 rfl rfl ?_
  refine oPick rfl rfl rfl rfl rfl hb2 rfl ?_
  refine oVal tt rfl rfl rfl rfl rfl trivial ?_
  iterate 4 refine oNoF rfl rfl rfl rfl rfl rfl rfl ?_
  refine oPick rfl rfl rfl rfl rfl rfl rfl ?_
  refine vNil ?_
  change VC _ _ _ _
  refine vCondT rfl rfl ?_
  refine vSeq ?_
  refine vRegion ?_
  refine oVal tt rfl rfl rfl rfl rfl trivial ?_
  refine vNil ?_
  change VC _ _ _ _
  refine vRet ?_
  change ∃ _, _
  cases h
  exact ⟨[], _, rfl, trivial, rfl, (.eq rfl), rfl⟩
 ·replace h := cnd_f hb2 h
  refine oValG tt rfl rfl rfl rfl rfl hb2 rfl rfl rfl trivial ?_
  obtain ⟨v2, hc3, h⟩ := bind_inv h
  refine oCallG (I_within_w N k_1 (1 : Int) (3 : Int) v2 hc3) rfl rfl rfl rfl hb2 rfl rfl rfl rfl rfl rfl rfl ⟨rfl, rfl, rfl, trivial⟩ ?_
  refine oValG tt rfl rfl rfl rfl rfl hb2 rfl rfl rfl trivial ?_
  refine oPickF rfl rfl rfl rfl rfl hb2 rfl ?_
  refine oVal tt rfl rfl rfl rfl rfl trivial ?_
  refine oSplit rfl rfl rfl (fun hb4 => ?_) (fun hb4 => ?_)
  ·replace h := cnd_t hb4 h
   iterate 4 refine oNoF rfl rfl rfl rfl hb4 rfl rfl ?_
   refine oPick rfl rfl rfl rfl rfl hb4 rfl ?_
   refine vNil ?_
   change VC _ _ _ _
   refine vCondT rfl rfl ?_
   refine vSeq ?_
   refine vRegion ?_
   refine oVal tt rfl rfl rfl rfl rfl trivial ?_
   refine vNil ?_
   change VC _ _ _ _
   refine vRet ?_
   change ∃ _, _
   cases h
   exact ⟨[], _, rfl, trivial, rfl, (.eq rfl), rfl⟩
  ·replace h := cnd_f hb4 h
   iterate 4 refine oValG tt rfl rfl rfl rfl rfl hb4 rfl rfl rfl trivial ?_
   refine oPickF rfl rfl rfl rfl rfl hb4 rfl ?_
   refine vNil ?_
   change VC _ _ _ _
   refine vCond rfl (fun hb5 => ?_) (fun hb5 => ?_)
   ·replace h := cnd_t hb5 h
    refine vSeq ?_
    refine vRegion ?_
    refine oVal tt rfl rfl rfl rfl rfl trivial ?_
    refine vNil ?_
    change VC _ _ _ _
    refine vRet ?_
    change ∃ _, _
    cases h
    exact ⟨[], _, rfl, trivial, rfl, (.eq rfl), rfl⟩
   ·replace h := cnd_f hb5 h
    refine vSkip ?_
    change VC _ _ _ _
    iterate 2 refine vSeq ?_
    refine vRegion ?_
    iterate 2 refine oVal tt rfl rfl rfl rfl rfl trivial ?_
    refine vNil ?_
    change VC _ _ _ _
    refine vJoin (F := fun k => I_IsKConnected_l1 N g_0 k_1 k) h (α := Unit) (J := fun (_ : Unit) => (⟨[], [], []⟩ : PS)) ?_ ?_
    ·rintro ⟨⟩ h
     show VC _ _ _ (⟨[], [], []⟩ : PS)
     refine vSeq ?_
     refine vRegion ?_
     refine oVal tt rfl rfl rfl rfl rfl trivial ?_
     refine vNil ?_
     change VC _ _ _ _
     refine vRet ?_
     change ∃ _, _
     cases h
     exact ⟨[], _, rfl, trivial, rfl, (.eq rfl), rfl⟩
    ·intro k h
     refine vBlock ?_
     refine vLoopS (α := Int) (fun (x9 : Int) => (⟨[(2, .ptr 2 0), (20, .int k_1), (21, .int x9)], [], [(2, some [.int g_0.n, .ro false (.pairs g_0.bars)])]⟩ : PS)) (I_IsKConnected_l1 N g_0 k_1 k) h (En.of ⟨rfl, rfl, rfl, trivial⟩ trivial ⟨rfl, trivial⟩) (fun _ => rfl) ?_
     rintro n x9 h
     rw [I_IsKConnected_l1] at h
     show VC _ _ _ (⟨[(2, .ptr 2 0), (20, .int k_1), (21, .int x9)], [], [(2, some [.int g_0.n, .ro false (.pairs g_0.bars)])]⟩ : PS)
     refine vSeq ?_
     refine vRegion ?_
     refine oVal tt rfl rfl rfl rfl rfl trivial ?_
     refine vNil ?_
     change VC _ _ _ _
     refine vSeq ?_
     refine vCond rfl (fun hb6 => ?_) (fun hb6 => ?_)
     ·replace h := cnd_t hb6 h
      refine vSkip ?_
      change VC _ _ _ _
      refine vSeq ?_
      refine vBlock ?_
      refine vSeq ?_
      refine vRegion ?_
      iterate 2 refine oVal tt rfl rfl rfl rfl rfl trivial ?_
      refine vNil ?_
      change VC _ _ _ _
      refine vSeq ?_
      refine vRegion ?_
      iterate 2 refine oVal tt rfl rfl rfl rfl rfl trivial ?_
      obtain ⟨v11, hc7, h⟩ := bind_inv h
      refine oCall (I_CutSets_w N g_0 x9 v11 hc7) rfl rfl rfl rfl rfl rfl rfl rfl ⟨⟨rfl, rfl, trivial⟩, rfl, trivial⟩ ?_
      iterate 2 refine oVal tt rfl rfl rfl rfl rfl trivial ?_
      refine vNil ?_
      change VC _ _ _ _
      refine vCond rfl (fun hb8 => ?_) (fun hb8 => ?_)
      ·replace h := cnd_t hb8 h
       refine vSeq ?_
       refine vRegion ?_
       refine oVal tt rfl rfl rfl rfl rfl trivial ?_
       refine vNil ?_
       change VC _ _ _ _
       refine vRet ?_
       change ∃ _, _
       cases h
       exact ⟨[], _, rfl, trivial, rfl, (.eq rfl), rfl⟩
      ·replace h := cnd_f hb8 h
       refine vSkip ?_
       change VC _ _ _ _
       refine vRegion ?_
       obtain ⟨hg9, h⟩ := grd_inv h
       refine oVal tt rfl rfl rfl rfl rfl hg9 ?_
       refine oVal tt rfl rfl rfl rfl rfl trivial ?_
       refine vNil ?_
       change ∃ _, _
       exact ⟨(x9 + (1 : Int)), (En.of ⟨rfl, rfl, rfl, trivial⟩ trivial ⟨rfl, trivial⟩), h⟩
     ·replace h := cnd_f hb6 h
      refine vExit ?_
      change ∃ _, _
      exact ⟨(), (En.of trivial trivial trivial), h⟩
def I_RemoveBar (N : Nat) (g_0 : Grf) (k_1 : Int) : Option (Grf × Bool) :=
 (I_copyGraph N g_0).bind fun v1 =>
 (I_IsGraph N g_0).bind fun v2 =>
 cnd (!v2) (
  some ((⟨v1.n, v1.bars⟩ : Grf), false)) (
  grd (Rg64 ((g_0.bars.length : Int) - (1 : Int))) <|
  (I_within N k_1 (0 : Int) ((g_0.bars.length : Int) - (1 : Int))).bind fun v3 =>
  cnd (!v3) (
   some ((⟨v1.n, v1.bars⟩ : Grf), false)) (
   grd (0 ≤ k_1 ∧ k_1 ≤ (v1.bars.length : Int)) <|
   grd (Rg64 (k_1 + (1 : Int))) <|
   grd (0 ≤ (k_1 + (1 : Int)) ∧ (k_1 + (1 : Int)) ≤ (v1.bars.length : Int)) <|
   grd ((0 + (((k_1 + (1 : Int))).toNat)) + (v1.bars.length - (((k_1 + (1 : Int))).toNat)) ≤ v1.bars.length) <|
   grd (((k_1).toNat) ≤ v1.bars.length) <|
   grd (((k_1).toNat) + ((v1.bars.take ((0 + (((k_1 + (1 : Int))).toNat)) + (v1.bars.length - (((k_1 + (1 : Int))).toNat)))).drop (0 + (((k_1 + (1 : Int))).toNat))).length ≤ 4294967296) <|
   some ((⟨v1.n, ((v1.bars.take ((k_1).toNat)) ++ ((v1.bars.take ((0 + (((k_1 + (1 : Int))).toNat)) + (v1.bars.length - (((k_1 + (1 : Int))).toNat)))).drop (0 + (((k_1 + (1 : Int))).toNat))))⟩ : Grf), true)))
set_option maxRecDepth 20000 in
set_option maxHeartbeats 1600000 in
theorem I_RemoveBar_w (N : Nat) (g_0 : Grf) (k_1 : Int) (r : Grf × Bool) (h : I_RemoveBar N g_0 k_1 = some r) : PCall Try.prog 168 [gD g_0, .int k_1] [(113, .pairs r.1.bars)] (.tup [.agg [.int r.1.n, .row 0 0 r.1.bars.length], .bool r.2]) := by
 unfold I_RemoveBar at h
 refine pcall_intro (TT := TT) tt Try.func168 rfl rfl Try.ntmps168 (congrArg Array.toList Try.results168) rfl rfl fun w0 => ?_
 refine vSeq ?_
 refine vRegion ?_
 refine oBox rfl rfl rfl rfl rfl rfl rfl rfl rfl ?_
 refine oAlloc tt rfl rfl rfl rfl rfl rfl rfl rfl rfl ?_
 refine oVal tt rfl rfl rfl rfl rfl trivial ?_
 refine vNil ?_
 change VC _ _ _ _
 refine vSeq ?_
 refine vRegion ?_
 refine oVal tt rfl rfl rfl rfl rfl trivial ?_
 obtain ⟨v1, hc1, h⟩ := bind_inv h
 refine oCall (I_copyGraph_w N g_0 v1 hc1) rfl rfl rfl rfl rfl rfl rfl rfl ⟨⟨rfl, rfl, trivial⟩, trivial⟩ ?_
 refine oAlloc tt rfl rfl rfl rfl rfl rfl rfl rfl rfl ?_
 refine oStore tt rfl rfl rfl rfl rfl rfl rfl rfl rfl rfl rfl ⟨trivial, trivial, trivial⟩ ?_
 refine vNil ?_
 change VC _ _ _ _
 iterate 2 refine vSeq ?_
 refine vRegion ?_
 refine oVal tt rfl rfl rfl rfl rfl trivial ?_
 obtain ⟨v2, hc2, h⟩ := bind_inv h
 refine oCall (I_IsGraph_w N g_0 v2 hc2) rfl rfl rfl rfl rfl rfl rfl rfl ⟨⟨rfl, rfl, trivial⟩, trivial⟩ ?_
 iterate 2 refine oVal tt rfl rfl rfl rfl rfl trivial ?_
 refine oSplit rfl rfl rfl (fun hb3 => ?_) (fun hb3 => ?_)
 ·replace h := cnd_t hb3 h
  iterate 7 refine oNoF rfl rfl rfl rfl hb3 rfl rfl ?_
  refine oPick rfl rfl rfl rfl rfl hb3 rfl ?_
  refine vNil ?_
  change VC _ _ _ _
  refine vCondT rfl rfl ?_
  refine vSeq ?_
  refine vRegion ?_
  refine oVal tt rfl rfl rfl rfl rfl trivial ?_
  refine oStore tt rfl rfl rfl rfl rfl rfl rfl rfl rfl rfl rfl ⟨trivial, trivial, trivial⟩ ?_
  refine oVal tt rfl rfl rfl rfl rfl trivial ?_
  refine vNil ?_
  change VC _ _ _ _
  refine vRet ?_
  change ∃ _, _
  cases h
  exact ⟨[1080], _, rfl, ⟨rfl, trivial⟩, rfl, (.eq rfl), rfl⟩
 ·replace h := cnd_f hb3 h
  iterate 4 refine oValG tt rfl rfl rfl rfl rfl hb3 rfl rfl rfl trivial ?_
  obtain ⟨hg4, h⟩ := grd_inv h
  refine oValG tt rfl rfl rfl rfl rfl hb3 rfl rfl rfl hg4 ?_
  obtain ⟨v3, hc5, h⟩ := bind_inv h
  refine oCallG (I_within_w N k_1 (0 : Int) ((g_0.bars.length : Int) - (1 : Int)) v3 hc5) rfl rfl rfl rfl hb3 rfl rfl rfl rfl rfl rfl rfl ⟨rfl, rfl, rfl, trivial⟩ ?_
  refine oValG tt rfl rfl rfl rfl rfl hb3 rfl rfl rfl trivial ?_
  refine oPickF rfl rfl rfl rfl rfl hb3 rfl ?_
  refine vNil ?_
  change VC _ _ _ _
  refine vCond rfl (fun hb6 => ?_) (fun hb6 => ?_)
  ·replace h := cnd_t hb6 h
   refine vSeq ?_
   refine vRegion ?_
   refine oVal tt rfl rfl rfl rfl rfl trivial ?_
   refine oStore tt rfl rfl rfl rfl rfl rfl rfl rfl rfl rfl rfl ⟨trivial, trivial, trivial⟩ ?_
   refine oVal tt rfl rfl rfl rfl rfl trivial ?_
   refine vNil ?_
   change VC _ _ _ _
   refine vRet ?_
   change ∃ _, _
   cases h
   exact ⟨[1080], _, rfl, ⟨rfl, trivial⟩, rfl, (.eq rfl), rfl⟩
  ·replace h := cnd_f hb6 h
   refine vSkip ?_
   change VC _ _ _ _
   refine vSeq ?_
   refine vRegionN 9 [] [0, 1, 0, 7, 0, 16, 0, 64, 240, 511, 1023, 2047] (by kernel_rfl) (by kernel_rfl) (by kernel_rfl) (by kernel_rfl) (by kernel_rfl) rfl (by rfl) ?_
   iterate 3 refine nVal tt rfl (wNone rfl) rfl rfl rfl rfl rfl trivial ?_
   obtain ⟨hg7, h⟩ := grd_inv h
   refine nVal tt rfl (wNone rfl) rfl rfl rfl rfl rfl hg7 ?_
   iterate 3 refine nVal tt rfl (wNone rfl) rfl rfl rfl rfl rfl trivial ?_
   obtain ⟨hg8, h⟩ := grd_inv h
   refine nVal tt rfl (wNone rfl) rfl rfl rfl rfl rfl hg8 ?_
   obtain ⟨hg9, h⟩ := grd_inv h
   refine nVal tt rfl (wNone rfl) rfl rfl rfl rfl rfl hg9 ?_
   refine nNil ?_
   change VO _ _ _ _ _
   obtain ⟨hg10, h⟩ := grd_inv h
   obtain ⟨hg11, h⟩ := grd_inv h
   obtain ⟨hg12, h⟩ := grd_inv h
   refine oAppendP tt rfl rfl rfl rfl rfl rfl rfl rfl rfl rfl rfl rfl rfl rfl rfl hg11 hg10 hg12 ?_
   refine oVal tt rfl rfl rfl rfl rfl trivial ?_
   refine oStore tt rfl rfl rfl rfl rfl rfl rfl rfl rfl rfl rfl ⟨trivial, trivial⟩ ?_
   refine vNil ?_
   change VC _ _ _ _
   refine vSeq ?_
   refine vRegion ?_
   refine oVal tt rfl rfl rfl rfl rfl trivial ?_
   refine oStore tt rfl rfl rfl rfl rfl rfl rfl rfl rfl rfl rfl ⟨trivial, trivial, trivial⟩ ?_
   refine oVal tt rfl rfl rfl rfl rfl trivial ?_
   refine vNil ?_
   change VC _ _ _ _
   refine vRet ?_
   change ∃ _, _
   cases h
   exact ⟨[1080], _, rfl, ⟨rfl, trivial⟩, rfl, (.eq rfl), rfl⟩
def I_BridgesOf_l1 (N : Nat) (g_0 : Grf) (k_1 : Int) (l_2 : Int) (v1 : Int) (k : (List Int) → Option (List Int)) : Nat → ((List Int) × Int) → Option (List Int)
 | 0, _ => none
 | n + 1, (l18, x19) =>
  cnd (decide (x19 < (g_0.bars.length : Int))) (
   (I_RemoveBar N g_0 x19).bind fun v22 =>
   (I_RankOf N v22.1 k_1 l_2).bind fun v23 =>
   cnd (decide (v23 < v1)) (
    grd (l18.length + 1 ≤ 4294967296) <|
    grd (Rg64 (x19 + (1 : Int))) <|
    I_BridgesOf_l1 N g_0 k_1 l_2 v1 k n ((l18 ++ ([x19] : List Int)), (x19 + (1 : Int)))) (
    grd (Rg64 (x19 + (1 : Int))) <|
    I_BridgesOf_l1 N g_0 k_1 l_2 v1 k n (l18, (x19 + (1 : Int))))) (
   k l18)
def I_BridgesOf (N : Nat) (g_0 : Grf) (k_1 : Int) (l_2 : Int) : Option (List Int) :=
 (I_RankOf N g_0 k_1 l_2).bind fun v1 =>
 cnd (decide (v1 < (0 : Int))) (
  some ([] : List Int)) (
  I_BridgesOf_l1 N g_0 k_1 l_2 v1 (fun (l12 : List Int) =>
     some l12) N (([] : List Int), (0 : Int)))
set_option maxRecDepth 20000 in
set_option maxHeartbeats 1600000 in
theorem I_BridgesOf_w (N : Nat) (g_0 : Grf) (k_1 : Int) (l_2 : Int) (r : List Int) (h : I_BridgesOf N g_0 k_1 l_2 = some r) : PCall Try.prog 159 [gD g_0, .int k_1, .int l_2] [(3, .ints r)] (.row 0 0 r.length) := by
 unfold I_BridgesOf at h
 refine pcall_intro (TT := TT) tt Try.func159 rfl rfl Try.ntmps159 (congrArg Array.toList Try.results159) rfl rfl fun w0 => ?_
 refine vSeq ?_
 refine vRegion ?_
 refine oBox rfl rfl rfl rfl rfl rfl rfl rfl rfl ?_
 refine oVal tt rfl rfl rfl rfl rfl trivial ?_
 refine vNil ?_
 change VC _ _ _ _
 refine vSeq ?_
 refine vRegion ?_
 refine oEmpty tt (wNone rfl) rfl rfl rfl rfl ?_
 refine oVal tt rfl rfl rfl rfl rfl trivial ?_
 refine vNil ?_
 change VC _ _ _ _
 refine vSeq ?_
 refine vRegion ?_
 iterate 3 refine oVal tt rfl rfl rfl rfl rfl trivial ?_
 obtain ⟨v1, hc1, h⟩ := bind_inv h
 refine oCall (I_RankOf_w N g_0 k_1 l_2 v1 hc1) rfl rfl rfl rfl rfl rfl rfl rfl ⟨⟨rfl, rfl, trivial⟩, rfl, rfl, trivial⟩ ?_
 refine oVal tt rfl rfl rfl rfl rfl trivial ?_
 refine vNil ?_
 change VC _ _ _ _
 iterate 2 refine vSeq ?_
 refine vRegion ?_
 iterate 2 refine oVal tt rfl rfl rfl rfl rfl trivial ?_
 refine vNil ?_
 change VC _ _ _ _
 refine vCond rfl (fun hb2 => ?_) (fun hb2 => ?_)
 ·replace h := cnd_t hb2 h
  refine vSeq ?_
  refine vRegion ?_
  iterate 2 refine oVal tt rfl rfl rfl rfl rfl trivial ?_
  refine vNil ?_
  change VC _ _ _ _
  refine vNilT 6 9001 3 (.ints []) rfl rfl rfl rfl ?_
  refine vRet ?_
  change ∃ _, _
  cases h
  exact ⟨[9001], _, rfl, ⟨rfl, trivial⟩, rfl, (.eq rfl), rfl⟩
 ·replace h := cnd_f hb2 h
  refine vSkip ?_
  change VC _ _ _ _
  iterate 2 refine vSeq ?_
  refine vRegion ?_
  iterate 4 refine oVal tt rfl rfl rfl rfl rfl trivial ?_
  refine vNil ?_
  change VC _ _ _ _
  refine vJoin (F := fun k => I_BridgesOf_l1 N g_0 k_1 l_2 v1 k) h (α := List Int) (J := fun (l12 : List Int) => (⟨[(7, .row 41 0 l12.length)], [(41, some (3, .ints l12))], []⟩ : PS)) ?_ ?_
  ·rintro l12 h
   show VC _ _ _ (⟨[(7, .row 41 0 l12.length)], [(41, some (3, .ints l12))], []⟩ : PS)
   refine vSeq ?_
   refine vRegion ?_
   iterate 2 refine oVal tt rfl rfl rfl rfl rfl trivial ?_
   refine vNil ?_
   change VC _ _ _ _
   refine vRet ?_
   change ∃ _, _
   cases h
   exact ⟨[41], _, rfl, ⟨rfl, trivial⟩, rfl, (.eq rfl), rfl⟩
  ·intro k h
   refine vBlock ?_
   refine vNilT 7 41 3 (.ints []) rfl rfl rfl rfl ?_
   refine vLoopS (α := (List Int) × Int) (fun | (l18, x19) => (⟨[(1, .int k_1), (2, .int l_2), (3, .ptr 3 0), (7, .row 41 0 l18.length), (8, .int v1), (22, .int (g_0.bars.length : Int)), (23, .int x19)], [(41, some (3, .ints l18))], [(3, some [.int g_0.n, .ro false (.pairs g_0.bars)])]⟩ : PS)) (I_BridgesOf_l1 N g_0 k_1 l_2 v1 k) h (En.of ⟨rfl, rfl, rfl, rfl, rfl, rfl, rfl, trivial⟩ ⟨rfl, trivial⟩ ⟨rfl, trivial⟩) (fun _ => rfl) ?_
   rintro n ⟨l18, x19⟩ h
   rw [I_BridgesOf_l1] at h
   show VC _ _ _ (⟨[(1, .int k_1), (2, .int l_2), (3, .ptr 3 0), (7, .row 41 0 l18.length), (8, .int v1), (22, .int (g_0.bars.length : Int)), (23, .int x19)], [(41, some (3, .ints l18))], [(3, some [.int g_0.n, .ro false (.pairs g_0.bars)])]⟩ : PS)
   refine vSeq ?_
   refine vRegion ?_
   refine oVal tt rfl rfl rfl rfl rfl trivial ?_
   refine vNil ?_
   change VC _ _ _ _
   refine vSeq ?_
   refine vCond rfl (fun hb3 => ?_) (fun hb3 => ?_)
   ·replace h := cnd_t hb3 h
    refine vSkip ?_
    change VC _ _ _ _
    refine vSeq ?_
    refine vBlock ?_
    refine vSeq ?_
    refine vRegion ?_
    iterate 2 refine oVal tt rfl rfl rfl rfl rfl trivial ?_
    refine vNil ?_
    change VC _ _ _ _
    refine vSeq ?_
    refine vRegion ?_
    iterate 2 refine oVal tt rfl rfl rfl rfl rfl trivial ?_
    obtain ⟨v22, hc4, h⟩ := bind_inv h
    refine oCall (I_RemoveBar_w N g_0 x19 v22 hc4) rfl rfl rfl rfl rfl rfl rfl rfl ⟨⟨rfl, rfl, trivial⟩, rfl, trivial⟩ ?_
    iterate 3 refine oVal tt rfl rfl rfl rfl rfl trivial ?_
    refine oAlloc tt rfl rfl rfl rfl rfl rfl rfl rfl rfl ?_
    refine oStore tt rfl rfl rfl rfl rfl rfl rfl rfl rfl rfl rfl ⟨trivial, trivial, trivial⟩ ?_
    refine oVal tt rfl rfl rfl rfl rfl trivial ?_
    refine vNil ?_
    change VC _ _ _ _
    refine vSeq ?_
    refine vRegion ?_
    iterate 3 refine oVal tt rfl rfl rfl rfl rfl trivial ?_
    obtain ⟨v23, hc5, h⟩ := bind_inv h
    refine oCall (I_RankOf_w N v22.1 k_1 l_2 v23 hc5) rfl rfl rfl rfl rfl rfl rfl rfl ⟨⟨rfl, (.inl ⟨rfl, rfl⟩), trivial⟩, rfl, rfl, trivial⟩ ?_
    iterate 2 refine oVal tt rfl rfl rfl rfl rfl trivial ?_
    refine vNil ?_
    change VC _ _ _ _
    refine vCond rfl (fun hb6 => ?_) (fun hb6 => ?_)
    ·replace h := cnd_t hb6 h
     refine vRegion ?_
     iterate 2 refine oVal tt rfl rfl rfl rfl rfl trivial ?_
     refine oBuild tt rfl rfl rfl rfl rfl rfl rfl rfl rfl rfl rfl ?_
     obtain ⟨hg7, h⟩ := grd_inv h
     refine oAppend tt rfl rfl rfl rfl rfl rfl rfl rfl rfl rfl rfl rfl rfl rfl rfl rfl (Nat.le_of_eq (Nat.zero_add _)) hg7 ?_
     refine oVal tt rfl rfl rfl rfl rfl trivial ?_
     refine vNil ?_
     change VC _ _ _ _
     refine vRegion ?_
     obtain ⟨hg8, h⟩ := grd_inv h
     refine oVal tt rfl rfl rfl rfl rfl hg8 ?_
     refine oVal tt rfl rfl rfl rfl rfl trivial ?_
     refine vNil ?_
     change ∃ _, _
     exact ⟨((l18 ++ ([x19] : List Int)), (x19 + (1 : Int))), (En.of ⟨rfl, rfl, rfl, rfl, rfl, rfl, rfl, trivial⟩ ⟨rfl, trivial⟩ ⟨rfl, trivial⟩), h⟩
    ·replace h := cnd_f hb6 h
     refine vSkip ?_
     change VC _ _ _ _
     refine vRegion ?_
     obtain ⟨hg9, h⟩ := grd_inv h
     refine oVal tt rfl rfl rfl rfl rfl hg9 ?_
     refine oVal tt rfl rfl rfl rfl rfl trivial ?_
     refine vNil ?_
     change ∃ _, _
     exact ⟨(l18, (x19 + (1 : Int))), (En.of ⟨rfl, rfl, rfl, rfl, rfl, rfl, rfl, trivial⟩ ⟨rfl, trivial⟩ ⟨rfl, trivial⟩), h⟩
   ·replace h := cnd_f hb3 h
    refine vExit ?_
    change ∃ _, _
    exact ⟨l18, (En.of ⟨rfl, trivial⟩ ⟨rfl, trivial⟩ trivial), h⟩
def I_FragileBars (N : Nat) (g_0 : Grf) : Option (List Int) :=
 (I_BridgesOf N g_0 (2 : Int) (3 : Int)).bind fun v1 =>
 some v1
set_option maxRecDepth 20000 in
set_option maxHeartbeats 1600000 in
theorem I_FragileBars_w (N : Nat) (g_0 : Grf) (r : List Int) (h : I_FragileBars N g_0 = some r) : PCall Try.prog 148 [gD g_0] [(3, .ints r)] (.row 0 0 r.length) := by
 unfold I_FragileBars at h
 refine pcall_intro (TT := TT) tt Try.func148 rfl rfl Try.ntmps148 (congrArg Array.toList Try.results148) rfl rfl fun w0 => ?_
 refine vSeq ?_
 refine vRegion ?_
 refine oBox rfl rfl rfl rfl rfl rfl rfl rfl rfl ?_
 refine oVal tt rfl rfl rfl rfl rfl trivial ?_
 refine vNil ?_
 change VC _ _ _ _
 refine vSeq ?_
 refine vRegion ?_
 refine oVal tt rfl rfl rfl rfl rfl trivial ?_
 obtain ⟨v1, hc1, h⟩ := bind_inv h
 refine oCall (I_BridgesOf_w N g_0 (2 : Int) (3 : Int) v1 hc1) rfl rfl rfl rfl rfl rfl rfl rfl ⟨⟨rfl, rfl, trivial⟩, rfl, rfl, trivial⟩ ?_
 refine oVal tt rfl rfl rfl rfl rfl trivial ?_
 refine vNil ?_
 change VC _ _ _ _
 refine vRet ?_
 change ∃ _, _
 cases h
 exact ⟨[1040], _, rfl, ⟨rfl, trivial⟩, rfl, (.eq rfl), rfl⟩
end Go.Proofs.Ytkklfgcelmeccaa
namespace Go.Proofs.Ytkklfgcelmeccaa
variable {N : Nat}
def relB (l : List Bool) (e : Int × Int) : List Bool := cnd (l.getD e.1.toNat false || l.getD e.2.toNat false) ((l.set e.1.toNat true).set e.2.toNat true) l
theorem relB_len (l : List Bool) (e : Int × Int) : (relB l e).length = l.length := by
 unfold relB
 cases (l.getD e.1.toNat false || l.getD e.2.toNat false) <;> simp [cnd]
def passB (bars : List (Int × Int)) (l : List Bool) : List Bool := bars.foldl relB l
theorem passB_len (bars : List (Int × Int)) : ∀ l, (passB bars l).length = l.length := by
 induction bars with
 | nil => intro l; rfl
 | cons e bars ih => intro l; show (passB bars (relB l e)).length = _; rw [ih, relB_len]
def itB (bars : List (Int × Int)) : Nat → List Bool → List Bool
 | 0, l => l
 | k + 1, l => itB bars k (passB bars l)
theorem itB_succ (bars : List (Int × Int)) : ∀ k l, itB bars (k + 1) l = passB bars (itB bars k l)
 | 0, l => rfl
 | k + 1, l => by
  show itB bars (k + 1) (passB bars l) = _
  rw [itB_succ bars k (passB bars l)]; rfl
theorem itB_len (bars : List (Int × Int)) : ∀ k l, (itB bars k l).length = l.length
 | 0, l => rfl
 | k + 1, l => by rw [itB, itB_len bars k, passB_len]
theorem itB_same {bars : List (Int × Int)} {l : List Bool} (h : passB bars l = l) : ∀ k, itB bars k l = l
 | 0 => rfl
 | k + 1 => by rw [itB, h, itB_same h k]
def fcB (l : List Bool) : Nat := l.countP fun b => !b
theorem fcB_set (l : List Bool) (i : Nat) : fcB (l.set i true) ≤ fcB l := by
 unfold fcB
 by_cases hi : i < l.length
 ·rw [List.countP_set hi]; simp
 ·rw [List.set_eq_of_length_le (by omega)]; exact Nat.le_refl _
theorem fcB_lt {l : List Bool} {i : Nat} (hi : i < l.length) (h : l.getD i false = false) : fcB (l.set i true) < fcB l := by
 have hg : l[i] = false := by rw [List.getD_eq_getElem?_getD, List.getElem?_eq_getElem hi] at h; exact h
 unfold fcB
 rw [List.countP_set hi, hg]
 have : 0 < l.countP fun b => !b := List.countP_pos_iff.2 ⟨l[i], List.getElem_mem hi, by rw [hg]; rfl⟩
 simp; omega
theorem set_self {l : List Bool} {i : Nat} (h : l.getD i false = true) : l.set i true = l := by
 by_cases hi : i < l.length
 ·have hg : l[i] = true := by rw [List.getD_eq_getElem?_getD, List.getElem?_eq_getElem hi] at h; exact h
  rw [← hg, List.set_getElem_self]
 ·rw [List.set_eq_of_length_le (by omega)]
theorem relB_eq {l : List Bool} {e : Int × Int} (h : l.getD e.1.toNat false = l.getD e.2.toNat false) : relB l e = l := by
 unfold relB
 cases h2 : l.getD e.2.toNat false with
 | true =>
  rw [h2] at h
  rw [h, Bool.true_or, cnd_true, set_self h, set_self h2]
 | false => rw [h, h2]; rfl
theorem relB_ne {l : List Bool} {e : Int × Int} (h1 : e.1.toNat < l.length) (h2 : e.2.toNat < l.length) (h : ¬ l.getD e.1.toNat false = l.getD e.2.toNat false) : relB l e = (l.set e.1.toNat true).set e.2.toNat true ∧ fcB (relB l e) < fcB l := by
 unfold relB
 cases a : l.getD e.1.toNat false with
 | true =>
  cases b : l.getD e.2.toNat false with
  | true => exact absurd (by rw [a, b]) h
  | false =>
   refine ⟨rfl, ?_⟩
   show fcB ((l.set e.1.toNat true).set e.2.toNat true) < _
   rw [set_self a]
   exact fcB_lt h2 b
 | false =>
  cases b : l.getD e.2.toNat false with
  | true =>
   refine ⟨rfl, ?_⟩
   show fcB ((l.set e.1.toNat true).set e.2.toNat true) < _
   exact Nat.lt_of_le_of_lt (fcB_set _ _) (fcB_lt h1 a)
  | false => exact absurd (by rw [a, b]) h
theorem drop_cons2 {l : List (Int × Int)} {i : Nat} (hi : i < l.length) : l.drop i = l.getD i (0, 0) :: l.drop (i + 1) := by
 rw [List.drop_eq_getElem_cons hi, List.getD_eq_getElem?_getD, List.getElem?_eq_getElem hi]; rfl
theorem bar_in {g : Grf} (hg : isGraph g = true) {i : Nat} (hi : i < g.bars.length) : 0 ≤ (g.bars.getD i (0, 0)).1 ∧ (g.bars.getD i (0, 0)).1 < (g.bars.getD i (0, 0)).2 ∧ (g.bars.getD i (0, 0)).2 < g.n :=
 isGraph_bar hg (p := g.bars.getD i (0, 0)) (by rw [List.getD_eq_getElem?_getD, List.getElem?_eq_getElem hi]; exact List.getElem_mem hi)
theorem reachS3_s (hN : 4000000 ≤ N) {g : Grf} (hg : isGraph g = true) (kk : List Bool → Option (List Int)) : ∀ (fuel i : Nat) (l : List Bool), i ≤ g.bars.length → g.bars.length < fuel + i → (l.length : Int) = g.n →
  S_ReachOf_l3 N g kk fuel (l, (i : Int)) = kk ((g.bars.drop i).foldl relB l) := by
 have hp := isGraph_parts hg
 intro fuel
 induction fuel with
 | zero => intro i l h1 h2; omega
 | succ fuel ih =>
  intro i l h1 h2 h3
  rw [S_ReachOf_l3]
  by_cases hi : i < g.bars.length
  ·have hb := bar_in hg hi
   rw [cnd_dt (by omega), grd_pos (by omega), show ((i : Int)).toNat = i from by omega, drop_cons2 hi, List.foldl_cons, List.length_replicate]
   have hrl := relB_len l (g.bars.getD i (0, 0))
   have hih := ih (i + 1) (relB l (g.bars.getD i (0, 0))) (by omega) (by omega) (by omega)
   rw [← hih]
   unfold relB
   generalize g.bars.getD i (0, 0) = e at hb
   have hn : ((g.n.toNat : Nat) : Int) = g.n := by omega
   rw [grd_pos (p := 0 ≤ e.1 ∧ e.1 < ((g.n.toNat : Nat) : Int)) (by omega), grd_pos (p := 0 ≤ e.1 ∧ e.1 < (l.length : Int)) (by omega)]
   cases a : l.getD e.1.toNat false with
   | true =>
    rw [cnd_true, Bool.true_or, cnd_true, grd_pos (p := 0 ≤ e.2 ∧ e.2 < ((g.n.toNat : Nat) : Int)) (by omega), grd_pos (by rw [List.length_set]; omega), grd_R (by omega) (by omega), succ_cast]
   | false =>
    rw [cnd_false, Bool.false_or, grd_pos (p := 0 ≤ e.2 ∧ e.2 < ((g.n.toNat : Nat) : Int)) (by omega), grd_pos (p := 0 ≤ e.2 ∧ e.2 < (l.length : Int)) (by omega)]
    cases b : l.getD e.2.toNat false with
    | true => rw [cnd_true, cnd_true, grd_pos (by rw [List.length_set]; omega), grd_R (by omega) (by omega), succ_cast]
    | false => rw [cnd_false, cnd_false, grd_R (by omega) (by omega), succ_cast]
  ·have e : i = g.bars.length := by omega
   rw [cnd_df (by omega), e, List.drop_length]; rfl
theorem reachS2_s (hN : 4000000 ≤ N) {g : Grf} (hg : isGraph g = true) (kk : List Bool → Option (List Int)) {l : List Bool} (hl : (l.length : Int) = g.n) : S_ReachOf_l2 N g kk N (l, (0 : Int)) = kk (itB g.bars g.n.toNat l) := by
 have hp := isGraph_parts hg
 refine fold (N := N) (len := g.n.toNat) (σ := List Bool) (st := fun i => itB g.bars i l) (F := fun m s => S_ReachOf_l2 N g kk m (s.1, s.2)) (fin := kk (itB g.bars g.n.toNat l)) (by omega) (fun m i hi => ?_) fun m => ?_
 ·show S_ReachOf_l2 N g kk (m + 1) (itB g.bars i l, (i : Int)) = S_ReachOf_l2 N g kk m (itB g.bars (i + 1) l, ((i + 1 : Nat) : Int))
  rw [S_ReachOf_l2, cnd_dt (by omega)]
  have h := reachS3_s hN hg (fun (l46 : List Bool) => grd (Rg64 ((i : Int) + (1 : Int))) <| S_ReachOf_l2 N g kk m (l46, ((i : Int) + (1 : Int)))) N 0 (itB g.bars i l) (by omega) (by omega) (by rw [itB_len]; exact hl)
  refine h.trans ?_
  rw [List.drop_zero, itB_succ]
  show grd (Rg64 ((i : Int) + 1)) _ = _
  rw [grd_R (by omega) (by omega), succ_cast]; rfl
 ·show S_ReachOf_l2 N g kk (m + 1) (itB g.bars g.n.toNat l, ((g.n.toNat : Nat) : Int)) = _
  rw [S_ReachOf_l2, cnd_df (by omega)]
theorem reachI2_s (hN : 4000000 ≤ N) {g : Grf} (hg : isGraph g = true) (kk : List Bool × Bool → Option (List Bool)) : ∀ (fuel i : Nat) (l : List Bool) (ag : Bool), i ≤ g.bars.length → g.bars.length < fuel + i → (l.length : Int) = g.n →
  ∃ ag' : Bool, M_Graph_reach_l2 N g kk fuel (l, ag, (i : Int)) = kk ((g.bars.drop i).foldl relB l, ag') ∧ ((ag' = ag ∧ (g.bars.drop i).foldl relB l = l) ∨ (ag' = true ∧ fcB ((g.bars.drop i).foldl relB l) < fcB l)) := by
 have hp := isGraph_parts hg
 intro fuel
 induction fuel with
 | zero => intro i l ag h1 h2; omega
 | succ fuel ih =>
  intro i l ag h1 h2 h3
  rw [M_Graph_reach_l2]
  by_cases hi : i < g.bars.length
  ·have hb := bar_in hg hi
   rw [cnd_dt (by omega), grd_pos (by omega), show ((i : Int)).toNat = i from by omega, drop_cons2 hi, List.foldl_cons, List.length_replicate]
   have hrl := relB_len l (g.bars.getD i (0, 0))
   generalize g.bars.getD i (0, 0) = e at hb hrl
   have hn : ((g.n.toNat : Nat) : Int) = g.n := by omega
   rw [grd_pos (p := 0 ≤ e.1 ∧ e.1 < ((g.n.toNat : Nat) : Int)) (by omega), grd_pos (p := 0 ≤ e.1 ∧ e.1 < (l.length : Int)) (by omega), grd_pos (p := 0 ≤ e.2 ∧ e.2 < ((g.n.toNat : Nat) : Int)) (by omega), grd_pos (p := 0 ≤ e.2 ∧ e.2 < (l.length : Int)) (by omega)]
   by_cases hq : l.getD e.1.toNat false = l.getD e.2.toNat false
   ·have hb2 : (l.getD e.1.toNat false != l.getD e.2.toNat false) = false := by rw [hq]; simp
    rw [hb2, cnd_false, grd_R (by omega) (by omega), succ_cast, relB_eq hq]
    exact ih (i + 1) l ag (by omega) (by omega) h3
   ·have hb2 : (l.getD e.1.toNat false != l.getD e.2.toNat false) = true := by simpa using hq
    obtain ⟨r1, r2⟩ := relB_ne (l := l) (e := e) (by omega) (by omega) hq
    rw [hb2, cnd_true, grd_pos (by rw [List.length_set]; omega), grd_R (by omega) (by omega), succ_cast, ← r1]
    obtain ⟨ag', k1, k2⟩ := ih (i + 1) (relB l e) true (by omega) (by omega) (by omega)
    refine ⟨ag', k1, .inr ?_⟩
    rcases k2 with ⟨k2, k3⟩ | ⟨k2, k3⟩
    ·exact ⟨k2, by rw [k3]; exact r2⟩
    ·exact ⟨k2, by omega⟩
  ·have e : i = g.bars.length := by omega
   rw [cnd_df (by omega), e, List.drop_length]
   exact ⟨ag, rfl, .inl ⟨rfl, rfl⟩⟩
theorem reachI1_s (hN : 4000000 ≤ N) {g : Grf} (hg : isGraph g = true) (kk : List Bool → Option (List Bool)) : ∀ (k fuel : Nat) (l : List Bool), fcB l ≤ k → k + 2 ≤ fuel → (l.length : Int) = g.n →
  M_Graph_reach_l1 N g kk fuel (l, true) = kk (itB g.bars k l) := by
 have hp := isGraph_parts hg
 intro k
 induction k with
 | zero =>
  intro fuel l h1 h2 h3
  obtain ⟨f, rfl⟩ : ∃ f, fuel = f + 2 := ⟨fuel - 2, by omega⟩
  rw [M_Graph_reach_l1, cnd_true]
  obtain ⟨ag', k1, k2⟩ := reachI2_s hN hg (fun x => match x with | (l55, again56) => M_Graph_reach_l1 N g kk (f + 1) (l55, again56)) N 0 l false (by omega) (by omega) h3
  refine k1.trans ?_
  rw [List.drop_zero] at k2 ⊢
  rcases k2 with ⟨k2, k3⟩ | ⟨k2, k3⟩
  ·show M_Graph_reach_l1 N g kk (f + 1) (_, ag') = _
   rw [k2, k3, M_Graph_reach_l1, cnd_false]; rfl
  ·omega
 | succ k ih =>
  intro fuel l h1 h2 h3
  obtain ⟨f, rfl⟩ : ∃ f, fuel = f + 2 := ⟨fuel - 2, by omega⟩
  rw [M_Graph_reach_l1, cnd_true]
  obtain ⟨ag', k1, k2⟩ := reachI2_s hN hg (fun x => match x with | (l55, again56) => M_Graph_reach_l1 N g kk (f + 1) (l55, again56)) N 0 l false (by omega) (by omega) h3
  refine k1.trans ?_
  rw [List.drop_zero] at k2 ⊢
  show M_Graph_reach_l1 N g kk (f + 1) (passB g.bars l, ag') = kk (itB g.bars k (passB g.bars l))
  rcases k2 with ⟨k2, k3⟩ | ⟨k2, k3⟩
  ·have k3 : passB g.bars l = l := k3
   rw [k2, k3, M_Graph_reach_l1, cnd_false, itB_same k3]
  ·have k3 : fcB (passB g.bars l) < fcB l := k3
   rw [k2]
   exact ih (f + 1) (passB g.bars l) (by omega) (by omega) (by rw [passB_len]; exact h3)
theorem coll_x (hN : 4000000 ≤ N) {g : Grf} {l : List Bool} (hl : (l.length : Int) = g.n) (h8 : l.length ≤ 8) : ∃ L : List Int, L.length ≤ 8 ∧ S_ReachOf_l1 N g l (fun (l25 : List Int) => some l25) N (([] : List Int), (0 : Int)) = some L ∧ I_ReachOf_l1 N l (fun (l6 : List Int) => some l6) N (([] : List Int), (0 : Int)) = some L := by
 have key : ∀ (fuel i : Nat) (L : List Int), i ≤ l.length → l.length < fuel + i → L.length ≤ i → ∃ L' : List Int, L'.length ≤ 8 ∧ S_ReachOf_l1 N g l (fun (l25 : List Int) => some l25) fuel (L, (i : Int)) = some L' ∧ I_ReachOf_l1 N l (fun (l6 : List Int) => some l6) fuel (L, (i : Int)) = some L' := by
  intro fuel
  induction fuel with
  | zero => intro i L h1 h2; omega
  | succ fuel ih =>
   intro i L h1 h2 h3
   rw [S_ReachOf_l1, I_ReachOf_l1]
   by_cases hi : i < l.length
   ·rw [cnd_dt (by omega), cnd_dt (by omega), List.length_replicate, show ((i : Int)).toNat = i from by omega, grd_pos (p := 0 ≤ (i : Int) ∧ (i : Int) < ((g.n.toNat : Nat) : Int)) (by omega), grd_pos (p := 0 ≤ (i : Int) ∧ (i : Int) < (l.length : Int)) (by omega), grd_pos (p := 0 ≤ (i : Int) ∧ (i : Int) < (l.length : Int)) (by omega)]
    cases l.getD i false with
    | true =>
     obtain ⟨L', a1, a2, a3⟩ := ih (i + 1) (L ++ [(i : Int)]) (by omega) (by omega) (by simp; omega)
     refine ⟨L', a1, ?_, ?_⟩
     ·rw [cnd_true, grd_pos (by omega), grd_R (by omega) (by omega), succ_cast]; exact a2
     ·rw [cnd_true, grd_pos (by omega), grd_R (by omega) (by omega), succ_cast]; exact a3
    | false =>
     obtain ⟨L', a1, a2, a3⟩ := ih (i + 1) L (by omega) (by omega) (by omega)
     refine ⟨L', a1, ?_, ?_⟩
     ·rw [cnd_false, grd_R (by omega) (by omega), succ_cast]; exact a2
     ·rw [cnd_false, grd_R (by omega) (by omega), succ_cast]; exact a3
   ·rw [cnd_df (by omega), cnd_df (by omega)]
    exact ⟨L, by omega, rfl, rfl⟩
 exact key N 0 [] (by omega) (by omega) (by simp)
theorem reach_x (hN : 4000000 ≤ N) {g : Grf} {v : Int} : ∃ L : List Int, L.length ≤ 8 ∧ S_ReachOf N g v = some L ∧ I_ReachOf N g v = some L := by
 unfold S_ReachOf I_ReachOf
 rw [isGraphS_s N hN, isGraphI_s N hN, Option.bind_some, Option.bind_some]
 cases hg : isGraph g with
 | false => exact ⟨[], by simp, rfl, rfl⟩
 | true =>
  have hp := isGraph_parts hg
  rw [Bool.not_true, cnd_false, cnd_false, ghas_s N (g := g) (by omega) (by omega) v, Option.bind_some]
  by_cases hv : 0 ≤ v ∧ v < g.n
  ·rw [cnd_df (by omega), cnd_df (by omega), inB_true.2 (show 0 ≤ v ∧ v ≤ g.n - 1 by omega), Bool.not_true, cnd_false, grd_pos (by omega), grd_pos (by rw [List.length_replicate]; omega)]
   have hl : ((((List.replicate g.n.toNat false).set v.toNat true).length : Nat) : Int) = g.n := by rw [List.length_set, List.length_replicate]; omega
   have hf : fcB ((List.replicate g.n.toNat false).set v.toNat true) ≤ g.n.toNat := by
    unfold fcB
    refine Nat.le_trans List.countP_le_length ?_
    rw [List.length_set, List.length_replicate]; exact Nat.le_refl _
   have hl2 : (((itB g.bars g.n.toNat ((List.replicate g.n.toNat false).set v.toNat true)).length : Nat) : Int) = g.n := by rw [itB_len]; exact hl
   obtain ⟨L, a1, a2, a3⟩ := coll_x hN (g := g) hl2 (by omega)
   refine ⟨L, a1, (reachS2_s hN hg _ hl).trans a2, ?_⟩
   unfold M_Graph_reach
   rw [grd_pos (by omega), grd_pos (by rw [List.length_replicate]; omega), reachI1_s hN hg _ g.n.toNat N _ hf (by omega) hl]
   rw [grd_pos (by rw [List.length_replicate]; omega), Option.bind_some]
   exact a3
  ·refine ⟨[], by simp, ?_, ?_⟩
   ·by_cases h0 : v < 0
    ·rw [cnd_dt h0]
    ·rw [cnd_df h0, cnd_dt (by omega)]
   ·have : inB v 0 (g.n - 1) = false := by rw [Bool.eq_false_iff]; intro h; have := inB_true.1 h; omega
    rw [this]; rfl
theorem conn_x (hN : 4000000 ≤ N) {g : Grf} : ∃ b : Bool, S_IsConnected N g = some b ∧ I_IsConnected N g = some b := by
 unfold S_IsConnected I_IsConnected
 rw [isGraphS_s N hN, isGraphI_s N hN, Option.bind_some, Option.bind_some]
 cases isGraph g with
 | false => exact ⟨false, rfl, rfl⟩
 | true =>
  obtain ⟨L, a1, a2, a3⟩ := reach_x hN (g := g) (v := 0)
  rw [cnd_true, cnd_true, a2, a3, Option.bind_some]
  exact ⟨_, rfl, rfl⟩
theorem cut_x (hN : 4000000 ≤ N) {g : Grf} (hgb : g.bars.length ≤ 3000000) (hg : isGraph g = true) {k : Int} (hk : 0 ≤ k ∧ k ≤ 8) {kS kI : List (List Int) → Option (List (List Int))} :
  ∀ (fuel i : Nat) (L : List (List Int)), i ≤ 2 ^ g.n.toNat → 2 ^ g.n.toNat < fuel + i → L.length ≤ i →
  ∃ L', L'.length ≤ 256 ∧ S_CutSets_l1 N g k kS fuel (L, (i : Int)) = kS L' ∧ I_CutSets_l1 N g k kI fuel (L, (i : Int)) = kI L' := by
 have hp := isGraph_parts hg
 have h8 : 2 ^ g.n.toNat ≤ 2 ^ 8 := Nat.pow_le_pow_right (by omega) (by omega)
 have h88 : (2 : Nat) ^ 8 = 256 := by decide
 have hpw : (1 : Int) * 2 ^ g.n.toNat = ((2 ^ g.n.toNat : Nat) : Int) := by rw [Int.one_mul]; simp
 intro fuel
 induction fuel with
 | zero => intro i L h1 h2; omega
 | succ fuel ih =>
  intro i L h1 h2 h3
  have hR : Rg64 ((1 : Int) * 2 ^ g.n.toNat) := by rw [hpw]; exact ⟨by omega, by omega⟩
  rw [S_CutSets_l1, I_CutSets_l1, grd_pos (p := 0 ≤ g.n ∧ g.n < 64 ∧ Rg64 ((1 : Int) * 2 ^ g.n.toNat)) ⟨by omega, by omega, hR⟩, hpw]
  by_cases hi : i < 2 ^ g.n.toNat
  ·rw [cnd_dt (by omega), cnd_dt (by omega), setS_s hN (by omega), setI_s hN (by omega), Option.bind_some, Option.bind_some]
   have hsl := setU_len (i : Int) g.n.toNat
   have hso := outN_set (i : Int) g.n.toNat
   generalize setU (i : Int) g.n.toNat = U at hsl hso
   obtain ⟨L1, a1, a2, a3⟩ := ih (i + 1) L (by omega) (by omega) (by omega)
   obtain ⟨L2, b1, b2, b3⟩ := ih (i + 1) (L ++ [U]) (by omega) (by omega) (by simp; omega)
   by_cases hkk : (U.length : Int) = k
   ·have e1 : ((U.length : Int) == k) = true := by rw [beq_iff_eq]; exact hkk
    have e2 : ((U.length : Int) != k) = false := by simp [hkk]
    obtain ⟨h, w1, w2, w3, w4, w5⟩ := without_x hN hgb (set := U) (by omega)
    have hmn : (max (0 : Int) (min (8 : Int) g.n)).toNat = g.n.toNat := by omega
    rw [hmn] at w2
    rw [e1, e2, cnd_true, cnd_false, w5, Option.bind_some]
    obtain ⟨b, c1, c2⟩ := conn_x hN (g := h)
    by_cases h2k : g.n - k ≥ 2
    ·have hS : S_CutSets_l1 N g k kS (fuel + 1) (L, (i : Int)) = S_CutSets_l1 N g k kS (fuel + 1) (L, (i : Int)) := rfl
     rw [cnd_dt h2k, cnd_dt (show h.n ≥ 2 by omega), w4, Option.bind_some, c1, c2, Option.bind_some, Option.bind_some, grd_R (by omega) (by omega)]
     cases b with
     | true =>
      refine ⟨L1, a1, ?_, ?_⟩
      ·rw [Bool.not_true, cnd_false, grd_R (by omega) (by omega), succ_cast]; exact a2
      ·rw [Bool.not_true, cnd_false, grd_R (by omega) (by omega), succ_cast]; exact a3
     | false =>
      refine ⟨L2, b1, ?_, ?_⟩
      ·rw [Bool.not_false, cnd_true, grd_pos (by omega), grd_R (by omega) (by omega), succ_cast]; exact b2
      ·rw [Bool.not_false, cnd_true, grd_pos (by omega), grd_R (by omega) (by omega), succ_cast]; exact b3
    ·refine ⟨L1, a1, ?_, ?_⟩
     ·rw [grd_R (by omega) (by omega), cnd_df h2k, grd_R (by omega) (by omega), succ_cast]; exact a2
     ·rw [cnd_df (show ¬ h.n ≥ 2 by omega), grd_R (by omega) (by omega), succ_cast]; exact a3
   ·have e1 : ((U.length : Int) == k) = false := by rw [beq_eq_false_iff_ne]; exact hkk
    have e2 : ((U.length : Int) != k) = true := by simp [hkk]
    refine ⟨L1, a1, ?_, ?_⟩
    ·rw [e1, cnd_false, grd_R (by omega) (by omega), succ_cast]; exact a2
    ·rw [e2, cnd_true, grd_R (by omega) (by omega), succ_cast]; exact a3
  ·rw [cnd_df (by omega), cnd_df (by omega)]
   exact ⟨L, by omega, rfl, rfl⟩
theorem cutSets_x (hN : 4000000 ≤ N) {g : Grf} (hgb : g.bars.length ≤ 3000000) {k : Int} : ∃ L : List (List Int), L.length ≤ 256 ∧ S_CutSets N g k = some L ∧ I_CutSets N g k = some L := by
 unfold S_CutSets I_CutSets
 rw [isGraphS_s N hN, isGraphI_s N hN, Option.bind_some, Option.bind_some]
 cases hg : isGraph g with
 | false => exact ⟨[], by simp, rfl, rfl⟩
 | true =>
  have hp := isGraph_parts hg
  rw [Bool.not_true, cnd_false, cnd_false, l1In_s N, within_s N, Option.bind_some, Option.bind_some]
  cases hk : inB k 0 3 with
  | false => exact ⟨[], by simp, rfl, rfl⟩
  | true =>
   have hk2 := inB_true.1 hk
   have h8 : 2 ^ g.n.toNat ≤ 2 ^ 8 := Nat.pow_le_pow_right (by omega) (by omega)
   have h88 : (2 : Nat) ^ 8 = 256 := by decide
   have hpw : (1 : Int) * 2 ^ g.n.toNat = ((2 ^ g.n.toNat : Nat) : Int) := by rw [Int.one_mul]; simp
   have hpos : (0 : Int) ≤ ((2 ^ g.n.toNat : Nat) : Int) := Int.natCast_nonneg _
   have hR : Rg64 ((1 : Int) * 2 ^ g.n.toNat) := by rw [hpw]; exact ⟨by omega, by omega⟩
   obtain ⟨L, a1, a2, a3⟩ := cut_x hN hgb hg (k := k) (by omega) (kS := fun l17 => some l17) (kI := fun l17 => some l17) N 0 [] (Nat.zero_le _) (by omega) (by simp)
   refine ⟨L, a1, ?_, ?_⟩
   ·rw [Bool.not_true, cnd_false]; exact a2
   ·rw [Bool.not_true, cnd_false, grd_pos (p := 0 ≤ g.n ∧ g.n < 64 ∧ Rg64 ((1 : Int) * 2 ^ g.n.toNat)) ⟨by omega, by omega, hR⟩]; exact a3
theorem kconn_x (hN : 4000000 ≤ N) {g : Grf} (hgb : g.bars.length ≤ 3000000) {k : Int} : ∃ b : Bool, S_IsKConnected N g k = some b ∧ I_IsKConnected N g k = some b := by
 unfold S_IsKConnected I_IsKConnected
 rw [isGraphS_s N hN, isGraphI_s N hN, Option.bind_some, Option.bind_some]
 cases hg : isGraph g with
 | false => exact ⟨false, rfl, rfl⟩
 | true =>
  have hp := isGraph_parts hg
  rw [Bool.not_true, cnd_false, cnd_false, l1In_s N, within_s N, Option.bind_some, Option.bind_some]
  cases hk : inB k 1 3 with
  | false => exact ⟨false, rfl, rfl⟩
  | true =>
   have hk2 := inB_true.1 hk
   rw [Bool.not_true, cnd_false, cnd_false]
   by_cases hnk : g.n ≤ k
   ·rw [cnd_dt hnk, cnd_dt hnk]; exact ⟨false, rfl, rfl⟩
   ·rw [cnd_df hnk, cnd_df hnk]
    have key : ∀ (fuel i : Nat), (i : Int) ≤ k → k < (fuel : Int) + (i : Int) → ∃ b : Bool, S_IsKConnected_l1 N g k (fun (_ : Unit) => some true) fuel (i : Int) = some b ∧ I_IsKConnected_l1 N g k (fun (_ : Unit) => some true) fuel (i : Int) = some b := by
     intro fuel
     induction fuel with
     | zero => intro i h1 h2; omega
     | succ fuel ih =>
      intro i h1 h2
      rw [S_IsKConnected_l1, I_IsKConnected_l1]
      by_cases hi : (i : Int) < k
      ·obtain ⟨L, a1, a2, a3⟩ := cutSets_x hN hgb (g := g) (k := (i : Int))
       rw [cnd_dt hi, cnd_dt hi, a2, a3, Option.bind_some, Option.bind_some]
       by_cases hL : (L.length : Int) > 0
       ·exact ⟨false, by rw [cnd_dt hL], by rw [cnd_dt hL]⟩
       ·obtain ⟨b, b1, b2⟩ := ih (i + 1) (by omega) (by omega)
        refine ⟨b, ?_, ?_⟩
        ·rw [cnd_df hL, grd_R (by omega) (by omega), succ_cast]; exact b1
        ·rw [cnd_df hL, grd_R (by omega) (by omega), succ_cast]; exact b2
      ·rw [cnd_df hi, cnd_df hi]; exact ⟨true, rfl, rfl⟩
    exact key N 0 (by omega) (by omega)
end Go.Proofs.Ytkklfgcelmeccaa
namespace Go.Proofs.Ytkklfgcelmeccaa
open Go.RowKit
def I_IsRedundantlyRigid (N : Nat) (g_0 : Grf) : Option (Bool) :=
 (I_IsRigid N g_0).bind fun v1 =>
 cnd v1 (
  (I_FragileBars N g_0).bind fun v2 =>
  some ((v2.length : Int) == (0 : Int))) (
  some false)
set_option maxRecDepth 20000 in
set_option maxHeartbeats 1600000 in
theorem I_IsRedundantlyRigid_w (N : Nat) (g_0 : Grf) (r : Bool) (h : I_IsRedundantlyRigid N g_0 = some r) : PCall Try.prog 136 [gD g_0] [] (.bool r) := by
 unfold I_IsRedundantlyRigid at h
 refine pcall_intro (TT := TT) tt Try.func136 rfl rfl Try.ntmps136 (congrArg Array.toList Try.results136) rfl rfl fun w0 => ?_
 refine vSeq ?_
 refine vRegion ?_
 refine oBox rfl rfl rfl rfl rfl rfl rfl rfl rfl ?_
 refine oVal tt rfl rfl rfl rfl rfl trivial ?_
 refine vNil ?_
 change VC _ _ _ _
 refine vSeq ?_
 refine vRegion ?_
 refine oVal tt rfl rfl rfl rfl rfl trivial ?_
 obtain ⟨v1, hc1, h⟩ := bind_inv h
 refine oCall (I_IsRigid_w N g_0 v1 hc1) rfl rfl rfl rfl rfl rfl rfl rfl ⟨⟨rfl, rfl, trivial⟩, trivial⟩ ?_
 refine oVal tt rfl rfl rfl rfl rfl trivial ?_
 refine oSplit rfl rfl rfl (fun hb2 => ?_) (fun hb2 => ?_)
 ·replace h := cnd_t hb2 h
  refine oValG tt rfl rfl rfl rfl rfl hb2 rfl rfl rfl trivial ?_
  obtain ⟨v2, hc3, h⟩ := bind_inv h
  refine oCallG (I_FragileBars_w N g_0 v2 hc3) rfl rfl rfl rfl hb2 rfl rfl rfl rfl rfl rfl rfl ⟨⟨rfl, rfl, trivial⟩, trivial⟩ ?_
  iterate 2 refine oValG tt rfl rfl rfl rfl rfl hb2 rfl rfl rfl trivial ?_
  refine oPick rfl rfl rfl rfl rfl hb2 rfl ?_
  refine oVal tt rfl rfl rfl rfl rfl trivial ?_
  refine vNil ?_
  change VC _ _ _ _
  refine vRet ?_
  change ∃ _, _
  cases h
  exact ⟨[], _, rfl, trivial, rfl, (.eq rfl), rfl⟩
 ·replace h := cnd_f hb2 h
  iterate 4 refine oNoT rfl rfl rfl rfl hb2 rfl rfl ?_
  refine oPickF rfl rfl rfl rfl rfl hb2 rfl ?_
  refine oVal tt rfl rfl rfl rfl rfl trivial ?_
  refine vNil ?_
  change VC _ _ _ _
  refine vRet ?_
  change ∃ _, _
  cases h
  exact ⟨[], _, rfl, trivial, rfl, (.eq rfl), rfl⟩
end Go.Proofs.Ytkklfgcelmeccaa
namespace Go.Proofs.Ytkklfgcelmeccaa
variable {N : Nat}
theorem rigid_x (hN : 4000000 ≤ N) {g : Grf} : ∃ b : Bool, S_IsRigid N g = some b ∧ I_IsRigid N g = some b := by
 unfold S_IsRigid I_IsRigid S_FreedomOf I_FreedomOf
 rw [isGraphS_s N hN, isGraphI_s N hN, Option.bind_some, Option.bind_some]
 cases hg : isGraph g with
 | false => exact ⟨_, rfl, rfl⟩
 | true =>
  have hp := isGraph_parts hg
  obtain ⟨r, r1, r2, r3, r4⟩ := rank_x hN (g := g)
  have hx : (max (0 : Int) (((2 : Int) * g.n) - (3 : Int))) ≤ 20 ∧ 0 ≤ (max (0 : Int) (((2 : Int) * g.n) - (3 : Int))) := by omega
  generalize hm : (max (0 : Int) (((2 : Int) * g.n) - (3 : Int))) = m at hx
  refine ⟨(m - r) == 0, ?_, ?_⟩
  ·rw [Bool.not_true, cnd_false, grd_R (by omega) (by omega), grd_R (by omega) (by omega), r3, Option.bind_some, grd_R (by omega) (by omega)]; rfl
  ·rw [Bool.not_true, cnd_false, grd_R (by omega) (by omega), grd_R (by omega) (by omega), r4, Option.bind_some, grd_R (by omega) (by omega)]; rfl
theorem remove_x (hN : 4000000 ≤ N) {g : Grf} (hb : g.bars.length ≤ 3000000) {i : Nat} (hi : i < g.bars.length) : ∃ (h : Grf) (b : Bool), S_RemoveBar N g (i : Int) = some (h, b) ∧ I_RemoveBar N g (i : Int) = some (h, b) := by
 unfold S_RemoveBar I_RemoveBar S_l2Copy I_copyGraph
 rw [isGraphS_s N hN, isGraphI_s N hN, grd_pos (by omega), grd_pos (by omega), Option.bind_some, Option.bind_some, Option.bind_some, Option.bind_some]
 cases hg : isGraph g with
 | false => exact ⟨⟨g.n, [] ++ g.bars⟩, false, rfl, rfl⟩
 | true =>
  have hp := isGraph_parts hg
  have e1 : ((i : Int) + 1).toNat = i + 1 := by omega
  have e2 : ((i : Int)).toNat = i := by omega
  have el : (([] : List (Int × Int)) ++ g.bars).length = g.bars.length := by simp
  have hT : (g.bars.take i).length = i := by rw [List.length_take]; omega
  have hD : (g.bars.drop (i + 1)).length = g.bars.length - (i + 1) := List.length_drop
  have e3 : 0 + (i + 1) + (g.bars.length - (i + 1)) = g.bars.length := by omega
  refine ⟨⟨g.n, g.bars.take i ++ g.bars.drop (i + 1)⟩, true, ?_, ?_⟩
  ·rw [Bool.not_true, cnd_false, cnd_df (by omega), cnd_df (by omega), e1, e2, List.drop_zero, List.take_length, List.nil_append, grd_pos (by omega), grd_R (by omega) (by omega), grd_pos (by omega), grd_pos (by omega)]
  ·rw [Bool.not_true, cnd_false, grd_R (by omega) (by omega), within_s N, Option.bind_some, inB_true.2 (show (0 : Int) ≤ (i : Int) ∧ (i : Int) ≤ (g.bars.length : Int) - 1 by omega), Bool.not_true, cnd_false]
   dsimp only
   rw [List.nil_append, e1, e2, e3, List.take_length, Nat.zero_add, grd_pos (by omega), grd_R (by omega) (by omega), grd_pos (by omega), grd_pos (by omega), grd_pos (by omega), grd_pos (by omega)]
theorem bridges_x (hN : 4000000 ≤ N) {g : Grf} (hb : g.bars.length ≤ 3000000) : ∃ L : List Int, S_BridgesOf N g 2 3 = some L ∧ I_BridgesOf N g 2 3 = some L := by
 unfold S_BridgesOf I_BridgesOf
 obtain ⟨r, r1, r2, r3, r4⟩ := rank_x hN (g := g)
 rw [r3, r4, Option.bind_some, Option.bind_some]
 by_cases h0 : r < 0
 ·refine ⟨[], ?_, by rw [cnd_dt h0]⟩
  obtain ⟨M, rfl⟩ : ∃ M, N = M + 1 := ⟨N - 1, by omega⟩
  rw [S_BridgesOf_l1, cnd_df (show ¬ r ≥ 0 by omega)]
  cases decide ((0 : Int) < (g.bars.length : Int)) <;> rfl
 ·rw [cnd_df h0]
  have key : ∀ (fuel i : Nat) (L : List Int), i ≤ g.bars.length → g.bars.length < fuel + i → L.length ≤ i → ∃ L' : List Int, S_BridgesOf_l1 N g 2 3 r (fun (l12 : List Int) => some l12) fuel (L, (i : Int)) = some L' ∧ I_BridgesOf_l1 N g 2 3 r (fun (l12 : List Int) => some l12) fuel (L, (i : Int)) = some L' := by
   intro fuel
   induction fuel with
   | zero => intro i L h1 h2; omega
   | succ fuel ih =>
    intro i L h1 h2 h3
    rw [S_BridgesOf_l1, I_BridgesOf_l1]
    by_cases hi : i < g.bars.length
    ·obtain ⟨h, b, w1, w2⟩ := remove_x hN hb hi
     obtain ⟨s, s1, s2, s3, s4⟩ := rank_x hN (g := h)
     rw [cnd_dt (show (i : Int) < (g.bars.length : Int) by omega), cnd_dt (show r ≥ 0 by omega), cnd_dt (show (i : Int) < (g.bars.length : Int) by omega), w1, w2, Option.bind_some, Option.bind_some]
     dsimp only
     rw [s3, s4, Option.bind_some, Option.bind_some]
     by_cases hs : s < r
     ·obtain ⟨L', k1, k2⟩ := ih (i + 1) (L ++ [(i : Int)]) (by omega) (by omega) (by simp; omega)
      refine ⟨L', ?_, ?_⟩
      ·rw [cnd_dt hs, grd_pos (by omega), grd_R (by omega) (by omega), succ_cast]; exact k1
      ·rw [cnd_dt hs, grd_pos (by omega), grd_R (by omega) (by omega), succ_cast]; exact k2
     ·obtain ⟨L', k1, k2⟩ := ih (i + 1) L (by omega) (by omega) (by omega)
      refine ⟨L', ?_, ?_⟩
      ·rw [cnd_df hs, grd_R (by omega) (by omega), succ_cast]; exact k1
      ·rw [cnd_df hs, grd_R (by omega) (by omega), succ_cast]; exact k2
    ·rw [cnd_df (by omega), cnd_df (by omega)]
     exact ⟨L, rfl, rfl⟩
  exact key N 0 [] (by omega) (by omega) (by simp)
theorem redundant_x (hN : 4000000 ≤ N) {g : Grf} (hb : g.bars.length ≤ 3000000) : ∃ b : Bool, S_IsRedundantlyRigid N g = some b ∧ I_IsRedundantlyRigid N g = some b := by
 unfold S_IsRedundantlyRigid I_IsRedundantlyRigid S_FragileBars I_FragileBars
 obtain ⟨b, h1, h2⟩ := rigid_x hN (g := g)
 rw [h1, h2, Option.bind_some, Option.bind_some]
 cases b with
 | false => exact ⟨false, rfl, rfl⟩
 | true =>
  obtain ⟨L, k1, k2⟩ := bridges_x hN hb
  rw [cnd_true, cnd_true, k1, k2]
  exact ⟨_, rfl, rfl⟩
end Go.Proofs.Ytkklfgcelmeccaa
namespace Go.Proofs.Ytkklfgcelmeccaa
variable {n : Nat} {N : Nat}
end Go.Proofs.Ytkklfgcelmeccaa
namespace Go.Proofs.Ytkklfgcelmeccaa
variable (N : Nat)
theorem isGraph_n {g : Grf} (h : isGraph g = true) : 1 ≤ g.n ∧ g.n ≤ 8 ∧ g.bars.length ≤ 24 := by
 have := isGraph_parts h; omega
def anchOk (g : Grf) (l : List Int) : Bool := isSimple g && asc g.n l
theorem anchI_s (hN : 4000000 ≤ N) {g : Grf} (hb : g.bars.length ≤ 3000000) {l : List Int} (hl : l.length ≤ 3000000) : I_areAnchors N g l = some (anchOk g l) := by
 unfold I_areAnchors anchOk
 refine (srch (len := l.length) (ok := fun i => inB (l.getD i 0) 0 (w64 (g.n - 1)) && (decide (i = 0) || decide (l.getD (i - 1) 0 < l.getD i 0))) (bad := some false) (fin := some (isSimple g)) (by omega) ?_ ?_).trans ?_
 ·intro n i hi _
  rw [I_areAnchors_l1]
  by_cases h0 : i = 0
  ·subst h0
   simp (disch := omega) only [Int.toNat_natCast, tk0, List.length_cons, List.length_nil, grd_pos, grd_T, grd_R, cnd_dt, cnd_df, cnd_true, cnd_false, Option.bind_some, ghasW_s, cnd_not, succ_cast]
   refine cnd_congr ?_ _ _
   simp
  ·simp (disch := omega) only [Int.toNat_natCast, tk0, List.length_cons, List.length_nil, grd_pos, grd_T, grd_R, cnd_dt, cnd_df, cnd_true, cnd_false, Option.bind_some, ghasW_s, succ_cast, cnd_or, show ((i : Int) - 1).toNat = i - 1 from by omega]
   refine cnd_congr' ?_ _ _
   simp only [decide_eq_false h0, Bool.false_or]
   cases inB (l.getD i 0) 0 (w64 (g.n - 1)) <;> (rw [Bool.eq_iff_iff]; simp)
 ·intro n _
  rw [I_areAnchors_l1]
  simp (disch := omega) only [Int.toNat_natCast, tk0, List.length_cons, List.length_nil, grd_pos, grd_T, grd_R, cnd_dt, cnd_df, cnd_true, cnd_false, Option.bind_some, isGraphI_s N hN, hasDoubles_s N hN hb]
  unfold isSimple
  cases isGraph g <;> rfl
 ·rw [cnd_some]
  cases hg : isGraph g with
  | false =>
   have : isSimple g = false := by unfold isSimple; rw [hg]; rfl
   rw [this, cnd_same]; rfl
  | true =>
   have hn := isGraph_n hg
   rw [w64_id (by omega) (by omega)]
   rw [show ((List.range l.length).all fun i => inB (l.getD i 0) 0 (g.n - 1) && (decide (i = 0) || decide (l.getD (i - 1) 0 < l.getD i 0))) = asc g.n l from rfl]
   cases asc g.n l <;> cases isSimple g <;> rfl
end Go.Proofs.Ytkklfgcelmeccaa
namespace Go.Proofs.Ytkklfgcelmeccaa
variable {n : Nat} {N : Nat}
def sameB (a b : Int) (e : Int × Int) : Bool := (e.1 == a && e.2 == b) || (e.1 == b && e.2 == a)
def cntB (l : List (Int × Int)) (a b : Int) : Int := (l.countP (sameB a b) : Int)
theorem cntB_take {l : List (Int × Int)} {a b : Int} {i : Nat} (hi : i < l.length) : cntB (l.take (i + 1)) a b = cntB (l.take i) a b + (if sameB a b (l.getD i (0, 0)) then 1 else 0) := by
 have e : l.take (i + 1) = l.take i ++ [l.getD i (0, 0)] := by
  rw [List.take_add_one, List.getElem?_eq_getElem hi, List.getD_eq_getElem?_getD, List.getElem?_eq_getElem hi]; rfl
 rw [e]; unfold cntB
 rw [List.countP_append, List.countP_singleton]
 split <;> simp
theorem countI_s (hN : 4000000 ≤ N) {g : Grf} (hb : g.bars.length ≤ 3000000) (a b : Int) : I_CountBar N g a b = some (cntB g.bars a b) := by
 unfold I_CountBar
 refine Eq.trans ?_ ((fold (N := N) (len := g.bars.length) (σ := Int) (st := fun i => cntB (g.bars.take i) a b) (F := fun m s => I_CountBar_l1 N g a b (fun n3 => some n3) m (s.1, s.2)) (fin := some (cntB g.bars a b)) (by omega) (fun m i hi => ?_) fun m => ?_))
 ·simp [cntB]
 ·show I_CountBar_l1 N g a b _ (m + 1) (cntB (g.bars.take i) a b, (i : Int)) = I_CountBar_l1 N g a b _ m (cntB (g.bars.take (i + 1)) a b, ((i + 1 : Nat) : Int))
  have hc := cntB_take (a := a) (b := b) hi
  have hn : 0 ≤ cntB (g.bars.take i) a b ∧ cntB (g.bars.take i) a b ≤ 3000000 := by
   unfold cntB
   have h1 := List.countP_le_length (p := sameB a b) (l := g.bars.take i)
   have h2 : (g.bars.take i).length ≤ g.bars.length := by rw [List.length_take]; omega
   omega
  rw [I_CountBar_l1, cnd_dt (by omega), grd_pos (by omega), show ((i : Int)).toNat = i from by omega, hc]
  generalize g.bars.getD i (0, 0) = e
  generalize cntB (g.bars.take i) a b = c at hn
  have g1 : ∀ x : Option Int, grd (Rg64 (c + 1)) x = x := fun x => grd_R (by omega) (by omega) x
  have g2 : ∀ x : Option Int, grd (Rg64 ((i : Int) + 1)) x = x := fun x => grd_R (by omega) (by omega) x
  have e9 : (((i + 1 : Nat)) : Int) = (i : Int) + 1 := by omega
  simp only [g1, g2, sameB, e9]
  rcases Bool.eq_false_or_eq_true (e.1 == a) with h1 | h1 <;> rcases Bool.eq_false_or_eq_true (e.2 == b) with h2 | h2 <;> rcases Bool.eq_false_or_eq_true (e.1 == b) with h3 | h3 <;> rcases Bool.eq_false_or_eq_true (e.2 == a) with h4 | h4 <;>
   simp only [h1, h2, h3, h4, cnd_true, cnd_false, Bool.and_true, Bool.and_false, Bool.true_and, Bool.false_and, Bool.or_true, Bool.or_false, Bool.true_or, Bool.false_or, Bool.and_self, Bool.or_self, if_true, Bool.false_eq_true, if_false, Int.add_zero]
 ·show I_CountBar_l1 N g a b _ (m + 1) (cntB (g.bars.take g.bars.length) a b, (g.bars.length : Int)) = _
  rw [I_CountBar_l1, cnd_df (by omega), List.take_length]
end Go.Proofs.Ytkklfgcelmeccaa
namespace Go.Proofs.Ytkklfgcelmeccaa
open Go.RowKit Go.Deep
theorem VR.str_inv {M : Mp} {A : Bool → Nat → Prop} {w : World} {b : ByteArray} {v : Value} (h : VR M A w (.val (.string b)) v) : v = .string b := by cases h; rfl
section
variable {C : Cx} {o : Oper} {s : PS}
theorem pStrEq {t u : TypeId} {x y : Operand} {a b : ByteArray} (hop : o.op = .binOp .eql t x y u) (hx : s.ev x = .val (.string a)) (hy : s.ev y = .val (.string b)) : Pur C o s (.bool (a.toList == b.toList)) :=
 ⟨fun s1 hs M ac w hr' => by
  have h1 := hr'.ev x
  have h2 := hr'.ev y
  rw [hs x (by rw [hop]; simp [Op.operands]), hx] at h1
  rw [hs y (by rw [hop]; simp [Op.operands]), hy] at h2
  have e1 := h1.str_inv
  have e2 := h2.str_inv
  refine ⟨.bool (a.toList == b.toList), ?_, .bool _⟩
  simp only [execOp, hop, e1, e2]
  simp [eqGuard, go_sem]⟩
end
end Go.Proofs.Ytkklfgcelmeccaa
namespace Go.Proofs.Ytkklfgcelmeccaa
open Go.RowKit
end Go.Proofs.Ytkklfgcelmeccaa
namespace Go.Proofs.Ytkklfgcelmeccaa
open Go.RowKit
end Go.Proofs.Ytkklfgcelmeccaa
namespace Go.Proofs.Ytkklfgcelmeccaa
open Go.RowKit
end Go.Proofs.Ytkklfgcelmeccaa
namespace Go.Proofs.Ytkklfgcelmeccaa
open Go.RowKit
end Go.Proofs.Ytkklfgcelmeccaa
namespace Go.Proofs.Ytkklfgcelmeccaa
open Go.RowKit
end Go.Proofs.Ytkklfgcelmeccaa
namespace Go.Proofs.Ytkklfgcelmeccaa
open Go.RowKit Go.Deep
end Go.Proofs.Ytkklfgcelmeccaa
namespace Go.Proofs.Ytkklfgcelmeccaa
open Go.RowKit
end Go.Proofs.Ytkklfgcelmeccaa
namespace Go.Proofs.Ytkklfgcelmeccaa
open Go.RowKit
def L_eqIntSS_l1 (N : Nat) (a_0 : List (List Int)) (b_1 : List (List Int)) (k : Unit → Option (Bool)) : Nat → Int → Option (Bool)
 | 0, _ => none
 | n + 1, i7 =>
  cnd (decide (i7 < (a_0.length : Int))) (
   grd (0 ≤ i7 ∧ i7 < (a_0.length : Int)) <|
   grd (0 ≤ i7 ∧ i7 < (b_1.length : Int)) <|
   (L_eqIntS N (a_0.getD ((i7).toNat) []) (b_1.getD ((i7).toNat) [])).bind fun v9 =>
   cnd (!v9) (
    some false) (
    grd (Rg64 (i7 + (1 : Int))) <|
    L_eqIntSS_l1 N a_0 b_1 k n (i7 + (1 : Int)))) (
   k ())
def L_eqIntSS (N : Nat) (a_0 : List (List Int)) (b_1 : List (List Int)) : Option (Bool) :=
 cnd ((a_0.length : Int) != (b_1.length : Int)) (
  some false) (
  L_eqIntSS_l1 N a_0 b_1 (fun (_ : Unit) =>
     some true) N (0 : Int))
set_option maxRecDepth 20000 in
set_option maxHeartbeats 1600000 in
theorem L_eqIntSS_w (N : Nat) (a_0 : List (List Int)) (b_1 : List (List Int)) (r : Bool) (h : L_eqIntSS N a_0 b_1 = some r) : PCall Try.prog 21 [.ro false (.intss a_0), .ro false (.intss b_1)] [] (.bool r) := by
 unfold L_eqIntSS at h
 refine pcall_intro (TT := TT) tt Try.func21 rfl rfl Try.ntmps21 (congrArg Array.toList Try.results21) rfl rfl fun w0 => ?_
 refine vSeq ?_
 refine vRegion ?_
 refine oVal tt rfl rfl rfl rfl rfl trivial ?_
 refine vNil ?_
 change VC _ _ _ _
 iterate 2 refine vSeq ?_
 refine vRegion ?_
 iterate 5 refine oVal tt rfl rfl rfl rfl rfl trivial ?_
 refine vNil ?_
 change VC _ _ _ _
 refine vCond rfl (fun hb1 => ?_) (fun hb1 => ?_)
 ·replace h := cnd_t hb1 h
  refine vSeq ?_
  refine vRegion ?_
  refine oVal tt rfl rfl rfl rfl rfl trivial ?_
  refine vNil ?_
  change VC _ _ _ _
  refine vRet ?_
  change ∃ _, _
  cases h
  exact ⟨[], _, rfl, trivial, rfl, (.eq rfl), rfl⟩
 ·replace h := cnd_f hb1 h
  refine vSkip ?_
  change VC _ _ _ _
  iterate 2 refine vSeq ?_
  refine vRegion ?_
  refine oVal tt rfl rfl rfl rfl rfl trivial ?_
  refine vNil ?_
  change VC _ _ _ _
  refine vJoin (F := fun k => L_eqIntSS_l1 N a_0 b_1 k) h (α := Unit) (J := fun (_ : Unit) => (⟨[], [], []⟩ : PS)) ?_ ?_
  ·rintro ⟨⟩ h
   show VC _ _ _ (⟨[], [], []⟩ : PS)
   refine vSeq ?_
   refine vRegion ?_
   refine oVal tt rfl rfl rfl rfl rfl trivial ?_
   refine vNil ?_
   change VC _ _ _ _
   refine vRet ?_
   change ∃ _, _
   cases h
   exact ⟨[], _, rfl, trivial, rfl, (.eq rfl), rfl⟩
  ·intro k h
   refine vBlock ?_
   refine vLoopS (α := Int) (fun (i7 : Int) => (⟨[(0, .ro false (.intss a_0)), (1, .ro false (.intss b_1)), (5, .int i7)], [], []⟩ : PS)) (L_eqIntSS_l1 N a_0 b_1 k) h (En.of ⟨rfl, rfl, rfl, trivial⟩ trivial trivial) (fun _ => rfl) ?_
   rintro n i7 h
   rw [L_eqIntSS_l1] at h
   show VC _ _ _ (⟨[(0, .ro false (.intss a_0)), (1, .ro false (.intss b_1)), (5, .int i7)], [], []⟩ : PS)
   iterate 2 refine vSeq ?_
   refine vRegion ?_
   iterate 4 refine oVal tt rfl rfl rfl rfl rfl trivial ?_
   refine vNil ?_
   change VC _ _ _ _
   refine vCond rfl (fun hb2 => ?_) (fun hb2 => ?_)
   ·replace h := cnd_t hb2 h
    refine vSkip ?_
    change VC _ _ _ _
    refine vSeq ?_
    refine vBlock ?_
    refine vSeq ?_
    refine vRegionD (by kernel_rfl) (by kernel_rfl) ?_
    iterate 2 refine cVal tt rfl (wNone rfl) rfl rfl rfl trivial ?_
    obtain ⟨hg3, h⟩ := grd_inv h
    refine cVal tt rfl (wNone rfl) rfl rfl rfl hg3 ?_
    iterate 3 refine cVal tt rfl (wNone rfl) rfl rfl rfl trivial ?_
    obtain ⟨hg4, h⟩ := grd_inv h
    refine cVal tt rfl (wNone rfl) rfl rfl rfl hg4 ?_
    refine cVal tt rfl (wNone rfl) rfl rfl rfl trivial ?_
    obtain ⟨v9, hc5, h⟩ := bind_inv h
    refine cCall (L_eqIntS_w N (a_0.getD ((i7).toNat) []) (b_1.getD ((i7).toNat) []) v9 hc5) rfl (wNone rfl) rfl rfl rfl rfl rfl rfl ⟨rfl, rfl, trivial⟩ ?_
    refine cVal tt rfl (wNone rfl) rfl rfl rfl trivial ?_
    refine cNil ?_
    change VC _ _ _ _
    refine vCond rfl (fun hb6 => ?_) (fun hb6 => ?_)
    ·replace h := cnd_t hb6 h
     refine vSeq ?_
     refine vRegion ?_
     refine oVal tt rfl rfl rfl rfl rfl trivial ?_
     refine vNil ?_
     change VC _ _ _ _
     refine vRet ?_
     change ∃ _, _
     cases h
     exact ⟨[], _, rfl, trivial, rfl, (.eq rfl), rfl⟩
    ·replace h := cnd_f hb6 h
     refine vSkip ?_
     change VC _ _ _ _
     refine vRegion ?_
     refine oVal tt rfl rfl rfl rfl rfl trivial ?_
     obtain ⟨hg7, h⟩ := grd_inv h
     refine oVal tt rfl rfl rfl rfl rfl hg7 ?_
     refine oVal tt rfl rfl rfl rfl rfl trivial ?_
     refine vNil ?_
     change ∃ _, _
     exact ⟨(i7 + (1 : Int)), (En.of ⟨rfl, rfl, rfl, trivial⟩ trivial trivial), h⟩
   ·replace h := cnd_f hb2 h
    refine vExit ?_
    change ∃ _, _
    exact ⟨(), (En.of trivial trivial trivial), h⟩
end Go.Proofs.Ytkklfgcelmeccaa
namespace Go.Proofs.Ytkklfgcelmeccaa
open Go.RowKit
end Go.Proofs.Ytkklfgcelmeccaa
namespace Go.Proofs.Ytkklfgcelmeccaa
open Go.RowKit
def S_WhyNotGlobal (N : Nat) (g_0 : Grf) : Option (ByteArray) :=
 (S_l17Simple N g_0).bind fun v1 =>
 cnd (!v1) (
  some (ByteArray.mk #[103, 114, 97, 112, 104])) (
  cnd (decide (g_0.n ≤ (3 : Int))) (
   grd (Rg64 (g_0.n - (1 : Int))) <|
   grd (Rg64 (g_0.n * (g_0.n - (1 : Int)))) <|
   grd ((2 : Int) ≠ 0 ∧ Rg64 (Int.tdiv (g_0.n * (g_0.n - (1 : Int))) (2 : Int))) <|
   cnd (decide ((g_0.bars.length : Int) < (Int.tdiv (g_0.n * (g_0.n - (1 : Int))) (2 : Int)))) (
    some (ByteArray.mk #[114, 105, 103, 105, 100])) (
    some (ByteArray.mk #[]))) (
   (S_IsRigid N g_0).bind fun v2 =>
   cnd (!v2) (
    some (ByteArray.mk #[114, 105, 103, 105, 100])) (
    (S_IsKConnected N g_0 (3 : Int)).bind fun v3 =>
    cnd (!v3) (
     some (ByteArray.mk #[99, 111, 110, 110, 101, 99, 116, 101, 100])) (
     (S_IsRedundantlyRigid N g_0).bind fun v4 =>
     cnd (!v4) (
      some (ByteArray.mk #[114, 101, 100, 117, 110, 100, 97, 110, 116])) (
      some (ByteArray.mk #[]))))))
set_option maxRecDepth 20000 in
set_option maxHeartbeats 1600000 in
theorem S_WhyNotGlobal_w (N : Nat) (g_0 : Grf) (r : ByteArray) (h : S_WhyNotGlobal N g_0 = some r) : PCall Try.prog 94 [gD g_0] [] (.val (.string r)) := by
 unfold S_WhyNotGlobal at h
 refine pcall_intro (TT := TT) tt Try.func94 rfl rfl Try.ntmps94 (congrArg Array.toList Try.results94) rfl rfl fun w0 => ?_
 refine vSeq ?_
 refine vRegion ?_
 refine oBox rfl rfl rfl rfl rfl rfl rfl rfl rfl ?_
 refine oVal tt rfl rfl rfl rfl rfl trivial ?_
 refine vNil ?_
 change VC _ _ _ _
 refine vSeq ?_
 refine vBlock ?_
 refine vSeq ?_
 refine vRegion ?_
 refine oVal tt rfl rfl rfl rfl rfl trivial ?_
 obtain ⟨v1, hc1, h⟩ := bind_inv h
 refine oCall (S_l17Simple_w N g_0 v1 hc1) rfl rfl rfl rfl rfl rfl rfl rfl ⟨⟨rfl, rfl, trivial⟩, trivial⟩ ?_
 iterate 2 refine oVal tt rfl rfl rfl rfl rfl trivial ?_
 refine vNil ?_
 change VC _ _ _ _
 refine vCond rfl (fun hb2 => ?_) (fun hb2 => ?_)
 ·replace h := cnd_t hb2 h
  refine vSeq ?_
  refine vRegion ?_
  refine oVal tt rfl rfl rfl rfl rfl trivial ?_
  refine vNil ?_
  change VC _ _ _ _
  refine vRet ?_
  change ∃ _, _
  cases h
  exact ⟨[], _, rfl, trivial, rfl, (.eq rfl), rfl⟩
 ·replace h := cnd_f hb2 h
  refine vSeq ?_
  refine vRegion ?_
  iterate 4 refine oVal tt rfl rfl rfl rfl rfl trivial ?_
  refine vNil ?_
  change VC _ _ _ _
  refine vCond rfl (fun hb3 => ?_) (fun hb3 => ?_)
  ·replace h := cnd_t hb3 h
   iterate 2 refine vSeq ?_
   refine vRegion ?_
   iterate 7 refine oVal tt rfl rfl rfl rfl rfl trivial ?_
   obtain ⟨hg4, h⟩ := grd_inv h
   refine oVal tt rfl rfl rfl rfl rfl hg4 ?_
   obtain ⟨hg5, h⟩ := grd_inv h
   refine oVal tt rfl rfl rfl rfl rfl hg5 ?_
   obtain ⟨hg6, h⟩ := grd_inv h
   refine oVal tt rfl rfl rfl rfl rfl hg6 ?_
   refine oVal tt rfl rfl rfl rfl rfl trivial ?_
   refine vNil ?_
   change VC _ _ _ _
   refine vCond rfl (fun hb7 => ?_) (fun hb7 => ?_)
   ·replace h := cnd_t hb7 h
    refine vSeq ?_
    refine vRegion ?_
    refine oVal tt rfl rfl rfl rfl rfl trivial ?_
    refine vNil ?_
    change VC _ _ _ _
    refine vRet ?_
    change ∃ _, _
    cases h
    exact ⟨[], _, rfl, trivial, rfl, (.eq rfl), rfl⟩
   ·replace h := cnd_f hb7 h
    refine vSkip ?_
    change VC _ _ _ _
    refine vSeq ?_
    refine vRegion ?_
    refine oVal tt rfl rfl rfl rfl rfl trivial ?_
    refine vNil ?_
    change VC _ _ _ _
    refine vRet ?_
    change ∃ _, _
    cases h
    exact ⟨[], _, rfl, trivial, rfl, (.eq rfl), rfl⟩
  ·replace h := cnd_f hb3 h
   refine vSeq ?_
   refine vRegion ?_
   refine oVal tt rfl rfl rfl rfl rfl trivial ?_
   obtain ⟨v2, hc8, h⟩ := bind_inv h
   refine oCall (S_IsRigid_w N g_0 v2 hc8) rfl rfl rfl rfl rfl rfl rfl rfl ⟨⟨rfl, rfl, trivial⟩, trivial⟩ ?_
   iterate 2 refine oVal tt rfl rfl rfl rfl rfl trivial ?_
   refine vNil ?_
   change VC _ _ _ _
   refine vCond rfl (fun hb9 => ?_) (fun hb9 => ?_)
   ·replace h := cnd_t hb9 h
    refine vSeq ?_
    refine vRegion ?_
    refine oVal tt rfl rfl rfl rfl rfl trivial ?_
    refine vNil ?_
    change VC _ _ _ _
    refine vRet ?_
    change ∃ _, _
    cases h
    exact ⟨[], _, rfl, trivial, rfl, (.eq rfl), rfl⟩
   ·replace h := cnd_f hb9 h
    refine vSeq ?_
    refine vRegion ?_
    refine oVal tt rfl rfl rfl rfl rfl trivial ?_
    obtain ⟨v3, hc10, h⟩ := bind_inv h
    refine oCall (S_IsKConnected_w N g_0 (3 : Int) v3 hc10) rfl rfl rfl rfl rfl rfl rfl rfl ⟨⟨rfl, rfl, trivial⟩, rfl, trivial⟩ ?_
    iterate 2 refine oVal tt rfl rfl rfl rfl rfl trivial ?_
    refine vNil ?_
    change VC _ _ _ _
    refine vCond rfl (fun hb11 => ?_) (fun hb11 => ?_)
    ·replace h := cnd_t hb11 h
     refine vSeq ?_
     refine vRegion ?_
     refine oVal tt rfl rfl rfl rfl rfl trivial ?_
     refine vNil ?_
     change VC _ _ _ _
     refine vRet ?_
     change ∃ _, _
     cases h
     exact ⟨[], _, rfl, trivial, rfl, (.eq rfl), rfl⟩
    ·replace h := cnd_f hb11 h
     refine vSeq ?_
     refine vRegion ?_
     refine oVal tt rfl rfl rfl rfl rfl trivial ?_
     obtain ⟨v4, hc12, h⟩ := bind_inv h
     refine oCall (S_IsRedundantlyRigid_w N g_0 v4 hc12) rfl rfl rfl rfl rfl rfl rfl rfl ⟨⟨rfl, rfl, trivial⟩, trivial⟩ ?_
     iterate 2 refine oVal tt rfl rfl rfl rfl rfl trivial ?_
     refine vNil ?_
     change VC _ _ _ _
     refine vCond rfl (fun hb13 => ?_) (fun hb13 => ?_)
     ·replace h := cnd_t hb13 h
      refine vSeq ?_
      refine vRegion ?_
      refine oVal tt rfl rfl rfl rfl rfl trivial ?_
      refine vNil ?_
      change VC _ _ _ _
      refine vRet ?_
      change ∃ _, _
      cases h
      exact ⟨[], _, rfl, trivial, rfl, (.eq rfl), rfl⟩
     ·replace h := cnd_f hb13 h
      refine vSkip ?_
      change VC _ _ _ _
      refine vSeq ?_
      refine vRegion ?_
      refine oVal tt rfl rfl rfl rfl rfl trivial ?_
      refine vNil ?_
      change VC _ _ _ _
      refine vRet ?_
      change ∃ _, _
      cases h
      exact ⟨[], _, rfl, trivial, rfl, (.eq rfl), rfl⟩
def S_IsGloballyRigid (N : Nat) (g_0 : Grf) : Option (Bool) :=
 (S_WhyNotGlobal N g_0).bind fun v1 =>
 some (v1.toList == (ByteArray.mk #[]).toList)
set_option maxRecDepth 20000 in
set_option maxHeartbeats 1600000 in
theorem S_IsGloballyRigid_w (N : Nat) (g_0 : Grf) (r : Bool) (h : S_IsGloballyRigid N g_0 = some r) : PCall Try.prog 65 [gD g_0] [] (.bool r) := by
 unfold S_IsGloballyRigid at h
 refine pcall_intro (TT := TT) tt Try.func65 rfl rfl Try.ntmps65 (congrArg Array.toList Try.results65) rfl rfl fun w0 => ?_
 refine vSeq ?_
 refine vRegion ?_
 refine oBox rfl rfl rfl rfl rfl rfl rfl rfl rfl ?_
 refine oVal tt rfl rfl rfl rfl rfl trivial ?_
 refine vNil ?_
 change VC _ _ _ _
 refine vSeq ?_
 refine vRegion ?_
 refine oVal tt rfl rfl rfl rfl rfl trivial ?_
 obtain ⟨v1, hc1, h⟩ := bind_inv h
 refine oCall (S_WhyNotGlobal_w N g_0 v1 hc1) rfl rfl rfl rfl rfl rfl rfl rfl ⟨⟨rfl, rfl, trivial⟩, trivial⟩ ?_
 refine oPure (wNone rfl) (pStrEq rfl rfl rfl) rfl rfl ?_
 refine oVal tt rfl rfl rfl rfl rfl trivial ?_
 refine vNil ?_
 change VC _ _ _ _
 refine vRet ?_
 change ∃ _, _
 cases h
 exact ⟨[], _, rfl, trivial, rfl, (.eq rfl), rfl⟩
def I_WhyNotGlobal (N : Nat) (g_0 : Grf) : Option (ByteArray) :=
 (I_IsGraph N g_0).bind fun v1 =>
 cnd (!v1) (
  some (ByteArray.mk #[103, 114, 97, 112, 104])) (
  (I_hasDoubles N g_0).bind fun v2 =>
  cnd v2 (
   some (ByteArray.mk #[103, 114, 97, 112, 104])) (
   cnd (decide (g_0.n ≤ (3 : Int))) (
    (I_MissingBars N g_0).bind fun v3 =>
    cnd (decide ((v3.length : Int) > (0 : Int))) (
     some (ByteArray.mk #[114, 105, 103, 105, 100])) (
     cnd (decide (g_0.n > (3 : Int))) (
      (I_IsRigid N g_0).bind fun v4 =>
      cnd (!v4) (
       some (ByteArray.mk #[114, 105, 103, 105, 100])) (
       (I_IsKConnected N g_0 (3 : Int)).bind fun v5 =>
       cnd (!v5) (
        some (ByteArray.mk #[99, 111, 110, 110, 101, 99, 116, 101, 100])) (
        (I_IsRedundantlyRigid N g_0).bind fun v6 =>
        cnd (!v6) (
         some (ByteArray.mk #[114, 101, 100, 117, 110, 100, 97, 110, 116])) (
         some (ByteArray.mk #[]))))) (
      some (ByteArray.mk #[])))) (
    cnd (decide (g_0.n > (3 : Int))) (
     (I_IsRigid N g_0).bind fun v7 =>
     cnd (!v7) (
      some (ByteArray.mk #[114, 105, 103, 105, 100])) (
      (I_IsKConnected N g_0 (3 : Int)).bind fun v8 =>
      cnd (!v8) (
       some (ByteArray.mk #[99, 111, 110, 110, 101, 99, 116, 101, 100])) (
       (I_IsRedundantlyRigid N g_0).bind fun v9 =>
       cnd (!v9) (
        some (ByteArray.mk #[114, 101, 100, 117, 110, 100, 97, 110, 116])) (
        some (ByteArray.mk #[]))))) (
     some (ByteArray.mk #[])))))
set_option maxRecDepth 20000 in
set_option maxHeartbeats 1600000 in
theorem I_WhyNotGlobal_w (N : Nat) (g_0 : Grf) (r : ByteArray) (h : I_WhyNotGlobal N g_0 = some r) : PCall Try.prog 121 [gD g_0] [] (.val (.string r)) := by
 unfold I_WhyNotGlobal at h
 refine pcall_intro (TT := TT) tt Try.func121 rfl rfl Try.ntmps121 (congrArg Array.toList Try.results121) rfl rfl fun w0 => ?_
 refine vSeq ?_
 refine vRegion ?_
 refine oBox rfl rfl rfl rfl rfl rfl rfl rfl rfl ?_
 refine oVal tt rfl rfl rfl rfl rfl trivial ?_
 refine vNil ?_
 change VC _ _ _ _
 refine vSeq ?_
 refine vBlock ?_
 refine vSeq ?_
 refine vRegion ?_
 refine oVal tt rfl rfl rfl rfl rfl trivial ?_
 obtain ⟨v1, hc1, h⟩ := bind_inv h
 refine oCall (I_IsGraph_w N g_0 v1 hc1) rfl rfl rfl rfl rfl rfl rfl rfl ⟨⟨rfl, rfl, trivial⟩, trivial⟩ ?_
 iterate 2 refine oVal tt rfl rfl rfl rfl rfl trivial ?_
 refine oSplit rfl rfl rfl (fun hb2 => ?_) (fun hb2 => ?_)
 ·replace h := cnd_t hb2 h
  iterate 2 refine oNoF rfl rfl rfl rfl hb2 rfl rfl ?_
  refine oPick rfl rfl rfl rfl rfl hb2 rfl ?_
  refine oVal tt rfl rfl rfl rfl rfl trivial ?_
  refine vNil ?_
  change VC _ _ _ _
  refine vCondT rfl rfl ?_
  refine vSeq ?_
  refine vRegion ?_
  refine oVal tt rfl rfl rfl rfl rfl trivial ?_
  refine vNil ?_
  change VC _ _ _ _
  refine vRet ?_
  change ∃ _, _
  cases h
  exact ⟨[], _, rfl, trivial, rfl, (.eq rfl), rfl⟩
 ·replace h := cnd_f hb2 h
  refine oValG tt rfl rfl rfl rfl rfl hb2 rfl rfl rfl trivial ?_
  obtain ⟨v2, hc3, h⟩ := bind_inv h
  refine oCallG (I_hasDoubles_w N g_0 v2 hc3) rfl rfl rfl rfl hb2 rfl rfl rfl rfl rfl rfl rfl ⟨⟨rfl, rfl, trivial⟩, trivial⟩ ?_
  refine oPickF rfl rfl rfl rfl rfl hb2 rfl ?_
  refine oVal tt rfl rfl rfl rfl rfl trivial ?_
  refine vNil ?_
  change VC _ _ _ _
  refine vCond rfl (fun hb4 => ?_) (fun hb4 => ?_)
  ·replace h := cnd_t hb4 h
   refine vSeq ?_
   refine vRegion ?_
   refine oVal tt rfl rfl rfl rfl rfl trivial ?_
   refine vNil ?_
   change VC _ _ _ _
   refine vRet ?_
   change ∃ _, _
   cases h
   exact ⟨[], _, rfl, trivial, rfl, (.eq rfl), rfl⟩
  ·replace h := cnd_f hb4 h
   refine vSeq ?_
   refine vRegion ?_
   iterate 4 refine oVal tt rfl rfl rfl rfl rfl trivial ?_
   refine oSplit rfl rfl rfl (fun hb5 => ?_) (fun hb5 => ?_)
   ·replace h := cnd_t hb5 h
    refine oValG tt rfl rfl rfl rfl rfl hb5 rfl rfl rfl trivial ?_
    obtain ⟨v3, hc6, h⟩ := bind_inv h
    refine oCallG (I_MissingBars_w N g_0 v3 hc6) rfl rfl rfl rfl hb5 rfl rfl rfl rfl rfl rfl rfl ⟨⟨rfl, rfl, trivial⟩, trivial⟩ ?_
    iterate 2 refine oValG tt rfl rfl rfl rfl rfl hb5 rfl rfl rfl trivial ?_
    refine oPick rfl rfl rfl rfl rfl hb5 rfl ?_
    refine oVal tt rfl rfl rfl rfl rfl trivial ?_
    refine oSplit rfl rfl rfl (fun hb7 => ?_) (fun hb7 => ?_)
    ·replace h := cnd_t hb7 h
     iterate 4 refine oNoF rfl rfl rfl rfl hb7 rfl rfl ?_
     iterate 3 refine oNoU rfl rfl rfl rfl rfl ?_
     refine oNoF rfl rfl rfl rfl hb7 rfl rfl ?_
     refine oPick rfl rfl rfl rfl rfl hb7 rfl ?_
     refine oVal tt rfl rfl rfl rfl rfl trivial ?_
     refine vNil ?_
     change VC _ _ _ _
     refine vCondT rfl rfl ?_
     refine vSeq ?_
     refine vRegion ?_
     refine oVal tt rfl rfl rfl rfl rfl trivial ?_
     refine vNil ?_
     change VC _ _ _ _
     refine vRet ?_
     change ∃ _, _
     cases h
     exact ⟨[], _, rfl, trivial, rfl, (.eq rfl), rfl⟩
    ·replace h := cnd_f hb7 h
     iterate 4 refine oValG tt rfl rfl rfl rfl rfl hb7 rfl rfl rfl trivial ?_
     refine oSplit rfl rfl rfl (fun hb8 => ?_) (fun hb8 => ?_)
     ·replace h := cnd_t hb8 h
      refine oValG tt rfl rfl rfl rfl rfl hb8 rfl rfl rfl trivial ?_
      obtain ⟨v4, hc9, h⟩ := bind_inv h
      refine oCallG (I_IsRigid_w N g_0 v4 hc9) rfl rfl rfl rfl hb8 rfl rfl rfl rfl rfl rfl rfl ⟨⟨rfl, rfl, trivial⟩, trivial⟩ ?_
      refine oValG tt rfl rfl rfl rfl rfl hb8 rfl rfl rfl trivial ?_
      refine oPickGT rfl rfl rfl rfl hb7 rfl rfl rfl rfl hb8 rfl ?_
      refine oPickF rfl rfl rfl rfl rfl hb7 rfl ?_
      refine oVal tt rfl rfl rfl rfl rfl trivial ?_
      refine vNil ?_
      change VC _ _ _ _
      refine vCond rfl (fun hb10 => ?_) (fun hb10 => ?_)
      ·replace h := cnd_t hb10 h
       refine vSeq ?_
       refine vRegion ?_
       refine oVal tt rfl rfl rfl rfl rfl trivial ?_
       refine vNil ?_
       change VC _ _ _ _
       refine vRet ?_
       change ∃ _, _
       cases h
       exact ⟨[], _, rfl, trivial, rfl, (.eq rfl), rfl⟩
      ·replace h := cnd_f hb10 h
       refine vSeq ?_
       refine vRegion ?_
       iterate 4 refine oVal tt rfl rfl rfl rfl rfl trivial ?_
       refine oValG tt rfl rfl rfl rfl rfl hb8 rfl rfl rfl trivial ?_
       obtain ⟨v5, hc11, h⟩ := bind_inv h
       refine oCallG (I_IsKConnected_w N g_0 (3 : Int) v5 hc11) rfl rfl rfl rfl hb8 rfl rfl rfl rfl rfl rfl rfl ⟨⟨rfl, rfl, trivial⟩, rfl, trivial⟩ ?_
       refine oValG tt rfl rfl rfl rfl rfl hb8 rfl rfl rfl trivial ?_
       refine oPick rfl rfl rfl rfl rfl hb8 rfl ?_
       refine oVal tt rfl rfl rfl rfl rfl trivial ?_
       refine vNil ?_
       change VC _ _ _ _
       refine vCond rfl (fun hb12 => ?_) (fun hb12 => ?_)
       ·replace h := cnd_t hb12 h
        refine vSeq ?_
        refine vRegion ?_
        refine oVal tt rfl rfl rfl rfl rfl trivial ?_
        refine vNil ?_
        change VC _ _ _ _
        refine vRet ?_
        change ∃ _, _
        cases h
        exact ⟨[], _, rfl, trivial, rfl, (.eq rfl), rfl⟩
       ·replace h := cnd_f hb12 h
        refine vSeq ?_
        refine vRegion ?_
        iterate 4 refine oVal tt rfl rfl rfl rfl rfl trivial ?_
        refine oValG tt rfl rfl rfl rfl rfl hb8 rfl rfl rfl trivial ?_
        obtain ⟨v6, hc13, h⟩ := bind_inv h
        refine oCallG (I_IsRedundantlyRigid_w N g_0 v6 hc13) rfl rfl rfl rfl hb8 rfl rfl rfl rfl rfl rfl rfl ⟨⟨rfl, rfl, trivial⟩, trivial⟩ ?_
        refine oValG tt rfl rfl rfl rfl rfl hb8 rfl rfl rfl trivial ?_
        refine oPick rfl rfl rfl rfl rfl hb8 rfl ?_
        refine oVal tt rfl rfl rfl rfl rfl trivial ?_
        refine vNil ?_
        change VC _ _ _ _
        refine vCond rfl (fun hb14 => ?_) (fun hb14 => ?_)
        ·replace h := cnd_t hb14 h
         refine vSeq ?_
         refine vRegion ?_
         refine oVal tt rfl rfl rfl rfl rfl trivial ?_
         refine vNil ?_
         change VC _ _ _ _
         refine vRet ?_
         change ∃ _, _
         cases h
         exact ⟨[], _, rfl, trivial, rfl, (.eq rfl), rfl⟩
        ·replace h := cnd_f hb14 h
         refine vSkip ?_
         change VC _ _ _ _
         refine vSeq ?_
         refine vRegion ?_
         refine oVal tt rfl rfl rfl rfl rfl trivial ?_
         refine vNil ?_
         change VC _ _ _ _
         refine vRet ?_
         change ∃ _, _
         cases h
         exact ⟨[], _, rfl, trivial, rfl, (.eq rfl), rfl⟩
     ·replace h := cnd_f hb8 h
      iterate 3 refine oNoT rfl rfl rfl rfl hb8 rfl rfl ?_
      refine oPickGF rfl rfl rfl rfl hb7 rfl rfl rfl rfl hb8 rfl ?_
      refine oPickF rfl rfl rfl rfl rfl hb7 rfl ?_
      refine oVal tt rfl rfl rfl rfl rfl trivial ?_
      refine vNil ?_
      change VC _ _ _ _
      refine vCondF rfl rfl ?_
      refine vSeq ?_
      refine vRegion ?_
      iterate 4 refine oVal tt rfl rfl rfl rfl rfl trivial ?_
      iterate 3 refine oNoT rfl rfl rfl rfl hb8 rfl rfl ?_
      refine oPickF rfl rfl rfl rfl rfl hb8 rfl ?_
      refine oVal tt rfl rfl rfl rfl rfl trivial ?_
      refine vNil ?_
      change VC _ _ _ _
      refine vCondF rfl rfl ?_
      refine vSeq ?_
      refine vRegion ?_
      iterate 4 refine oVal tt rfl rfl rfl rfl rfl trivial ?_
      iterate 3 refine oNoT rfl rfl rfl rfl hb8 rfl rfl ?_
      refine oPickF rfl rfl rfl rfl rfl hb8 rfl ?_
      refine oVal tt rfl rfl rfl rfl rfl trivial ?_
      refine vNil ?_
      change VC _ _ _ _
      refine vCondF rfl rfl ?_
      refine vSkip ?_
      change VC _ _ _ _
      refine vSeq ?_
      refine vRegion ?_
      refine oVal tt rfl rfl rfl rfl rfl trivial ?_
      refine vNil ?_
      change VC _ _ _ _
      refine vRet ?_
      change ∃ _, _
      cases h
      exact ⟨[], _, rfl, trivial, rfl, (.eq rfl), rfl⟩
   ·replace h := cnd_f hb5 h
    iterate 4 refine oNoT rfl rfl rfl rfl hb5 rfl rfl ?_
    refine oPickF rfl rfl rfl rfl rfl hb5 rfl ?_
    refine oVal tt rfl rfl rfl rfl rfl trivial ?_
    iterate 4 refine oValG tt rfl rfl rfl rfl rfl rfl rfl rfl rfl trivial ?_
    refine oSplit rfl rfl rfl (fun hb15 => ?_) (fun hb15 => ?_)
    ·replace h := cnd_t hb15 h
     refine oValG tt rfl rfl rfl rfl rfl hb15 rfl rfl rfl trivial ?_
     obtain ⟨v7, hc16, h⟩ := bind_inv h
     refine oCallG (I_IsRigid_w N g_0 v7 hc16) rfl rfl rfl rfl hb15 rfl rfl rfl rfl rfl rfl rfl ⟨⟨rfl, rfl, trivial⟩, trivial⟩ ?_
     refine oValG tt rfl rfl rfl rfl rfl hb15 rfl rfl rfl trivial ?_
     refine oPickGT rfl rfl rfl rfl rfl rfl rfl rfl rfl hb15 rfl ?_
     refine oPickF rfl rfl rfl rfl rfl rfl rfl ?_
     refine oVal tt rfl rfl rfl rfl rfl trivial ?_
     refine vNil ?_
     change VC _ _ _ _
     refine vCond rfl (fun hb17 => ?_) (fun hb17 => ?_)
     ·replace h := cnd_t hb17 h
      refine vSeq ?_
      refine vRegion ?_
      refine oVal tt rfl rfl rfl rfl rfl trivial ?_
      refine vNil ?_
      change VC _ _ _ _
      refine vRet ?_
      change ∃ _, _
      cases h
      exact ⟨[], _, rfl, trivial, rfl, (.eq rfl), rfl⟩
     ·replace h := cnd_f hb17 h
      refine vSeq ?_
      refine vRegion ?_
      iterate 4 refine oVal tt rfl rfl rfl rfl rfl trivial ?_
      refine oValG tt rfl rfl rfl rfl rfl hb15 rfl rfl rfl trivial ?_
      obtain ⟨v8, hc18, h⟩ := bind_inv h
      refine oCallG (I_IsKConnected_w N g_0 (3 : Int) v8 hc18) rfl rfl rfl rfl hb15 rfl rfl rfl rfl rfl rfl rfl ⟨⟨rfl, rfl, trivial⟩, rfl, trivial⟩ ?_
      refine oValG tt rfl rfl rfl rfl rfl hb15 rfl rfl rfl trivial ?_
      refine oPick rfl rfl rfl rfl rfl hb15 rfl ?_
      refine oVal tt rfl rfl rfl rfl rfl trivial ?_
      refine vNil ?_
      change VC _ _ _ _
      refine vCond rfl (fun hb19 => ?_) (fun hb19 => ?_)
      ·replace h := cnd_t hb19 h
       refine vSeq ?_
       refine vRegion ?_
       refine oVal tt rfl rfl rfl rfl rfl trivial ?_
       refine vNil ?_
       change VC _ _ _ _
       refine vRet ?_
       change ∃ _, _
       cases h
       exact ⟨[], _, rfl, trivial, rfl, (.eq rfl), rfl⟩
      ·replace h := cnd_f hb19 h
       refine vSeq ?_
       refine vRegion ?_
       iterate 4 refine oVal tt rfl rfl rfl rfl rfl trivial ?_
       refine oValG tt rfl rfl rfl rfl rfl hb15 rfl rfl rfl trivial ?_
       obtain ⟨v9, hc20, h⟩ := bind_inv h
       refine oCallG (I_IsRedundantlyRigid_w N g_0 v9 hc20) rfl rfl rfl rfl hb15 rfl rfl rfl rfl rfl rfl rfl ⟨⟨rfl, rfl, trivial⟩, trivial⟩ ?_
       refine oValG tt rfl rfl rfl rfl rfl hb15 rfl rfl rfl trivial ?_
       refine oPick rfl rfl rfl rfl rfl hb15 rfl ?_
       refine oVal tt rfl rfl rfl rfl rfl trivial ?_
       refine vNil ?_
       change VC _ _ _ _
       refine vCond rfl (fun hb21 => ?_) (fun hb21 => ?_)
       ·replace h := cnd_t hb21 h
        refine vSeq ?_
        refine vRegion ?_
        refine oVal tt rfl rfl rfl rfl rfl trivial ?_
        refine vNil ?_
        change VC _ _ _ _
        refine vRet ?_
        change ∃ _, _
        cases h
        exact ⟨[], _, rfl, trivial, rfl, (.eq rfl), rfl⟩
       ·replace h := cnd_f hb21 h
        refine vSkip ?_
        change VC _ _ _ _
        refine vSeq ?_
        refine vRegion ?_
        refine oVal tt rfl rfl rfl rfl rfl trivial ?_
        refine vNil ?_
        change VC _ _ _ _
        refine vRet ?_
        change ∃ _, _
        cases h
        exact ⟨[], _, rfl, trivial, rfl, (.eq rfl), rfl⟩
    ·replace h := cnd_f hb15 h
     iterate 3 refine oNoT rfl rfl rfl rfl hb15 rfl rfl ?_
     refine oPickGF rfl rfl rfl rfl rfl rfl rfl rfl rfl hb15 rfl ?_
     refine oPickF rfl rfl rfl rfl rfl rfl rfl ?_
     refine oVal tt rfl rfl rfl rfl rfl trivial ?_
     refine vNil ?_
     change VC _ _ _ _
     refine vCondF rfl rfl ?_
     refine vSeq ?_
     refine vRegion ?_
     iterate 4 refine oVal tt rfl rfl rfl rfl rfl trivial ?_
     iterate 3 refine oNoT rfl rfl rfl rfl hb15 rfl rfl ?_
     refine oPickF rfl rfl rfl rfl rfl hb15 rfl ?_
     refine oVal tt rfl rfl rfl rfl rfl trivial ?_
     refine vNil ?_
     change VC _ _ _ _
     refine vCondF rfl rfl ?_
     refine vSeq ?_
     refine vRegion ?_
     iterate 4 refine oVal tt rfl rfl rfl rfl rfl trivial ?_
     iterate 3 refine oNoT rfl rfl rfl rfl hb15 rfl rfl ?_
     refine oPickF rfl rfl rfl rfl rfl hb15 rfl ?_
     refine oVal tt rfl rfl rfl rfl rfl trivial ?_
     refine vNil ?_
     change VC _ _ _ _
     refine vCondF rfl rfl ?_
     refine vSkip ?_
     change VC _ _ _ _
     refine vSeq ?_
     refine vRegion ?_
     refine oVal tt rfl rfl rfl rfl rfl trivial ?_
     refine vNil ?_
     change VC _ _ _ _
     refine vRet ?_
     change ∃ _, _
     cases h
     exact ⟨[], _, rfl, trivial, rfl, (.eq rfl), rfl⟩
def I_IsGloballyRigid (N : Nat) (g_0 : Grf) : Option (Bool) :=
 (I_WhyNotGlobal N g_0).bind fun v1 =>
 some (v1.toList == (ByteArray.mk #[]).toList)
set_option maxRecDepth 20000 in
set_option maxHeartbeats 1600000 in
theorem I_IsGloballyRigid_w (N : Nat) (g_0 : Grf) (r : Bool) (h : I_IsGloballyRigid N g_0 = some r) : PCall Try.prog 100 [gD g_0] [] (.bool r) := by
 unfold I_IsGloballyRigid at h
 refine pcall_intro (TT := TT) tt Try.func100 rfl rfl Try.ntmps100 (congrArg Array.toList Try.results100) rfl rfl fun w0 => ?_
 refine vSeq ?_
 refine vRegion ?_
 refine oBox rfl rfl rfl rfl rfl rfl rfl rfl rfl ?_
 refine oVal tt rfl rfl rfl rfl rfl trivial ?_
 refine vNil ?_
 change VC _ _ _ _
 refine vSeq ?_
 refine vRegion ?_
 refine oVal tt rfl rfl rfl rfl rfl trivial ?_
 obtain ⟨v1, hc1, h⟩ := bind_inv h
 refine oCall (I_WhyNotGlobal_w N g_0 v1 hc1) rfl rfl rfl rfl rfl rfl rfl rfl ⟨⟨rfl, rfl, trivial⟩, trivial⟩ ?_
 refine oPure (wNone rfl) (pStrEq rfl rfl rfl) rfl rfl ?_
 refine oVal tt rfl rfl rfl rfl rfl trivial ?_
 refine vNil ?_
 change VC _ _ _ _
 refine vRet ?_
 change ∃ _, _
 cases h
 exact ⟨[], _, rfl, trivial, rfl, (.eq rfl), rfl⟩
def I_isGlobal (N : Nat) (g_0 : Grf) (mask_1 : Int) : Option (Bool) :=
 grd (0 ≤ g_0.n ∧ g_0.n < 64 ∧ Rg64 ((1 : Int) * 2 ^ ((g_0.n).toNat))) <|
 grd (Rg64 (((1 : Int) * 2 ^ ((g_0.n).toNat)) - (1 : Int))) <|
 grd (Rg64 ((((1 : Int) * 2 ^ ((g_0.n).toNat)) - (1 : Int)) - mask_1)) <|
 (I_setOf N ((((1 : Int) * 2 ^ ((g_0.n).toNat)) - (1 : Int)) - mask_1) g_0.n).bind fun v1 =>
 (I_WithoutPoints N g_0 v1).bind fun v2 =>
 (I_IsGloballyRigid N v2).bind fun v3 =>
 some v3
set_option maxRecDepth 20000 in
set_option maxHeartbeats 1600000 in
theorem I_isGlobal_w (N : Nat) (g_0 : Grf) (mask_1 : Int) (r : Bool) (h : I_isGlobal N g_0 mask_1 = some r) : PCall Try.prog 72 [gD g_0, .int mask_1] [] (.bool r) := by
 unfold I_isGlobal at h
 refine pcall_intro (TT := TT) tt Try.func72 rfl rfl Try.ntmps72 (congrArg Array.toList Try.results72) rfl rfl fun w0 => ?_
 refine vSeq ?_
 refine vRegion ?_
 refine oBox rfl rfl rfl rfl rfl rfl rfl rfl rfl ?_
 refine oVal tt rfl rfl rfl rfl rfl trivial ?_
 refine vNil ?_
 change VC _ _ _ _
 refine vSeq ?_
 refine vRegionN 10 [9] [0, 0, 2, 6, 14, 0, 62, 0, 128, 510, 1023, 2047, 4095] (by kernel_rfl) (by kernel_rfl) (by kernel_rfl) (by kernel_rfl) (by kernel_rfl) rfl (by rfl) ?_
 iterate 3 refine nVal tt rfl (wNone rfl) rfl rfl rfl rfl rfl trivial ?_
 obtain ⟨hg1, h⟩ := grd_inv h
 refine nVal tt rfl (wNone rfl) rfl rfl rfl rfl rfl hg1 ?_
 obtain ⟨hg2, h⟩ := grd_inv h
 refine nVal tt rfl (wNone rfl) rfl rfl rfl rfl rfl hg2 ?_
 refine nVal tt rfl (wNone rfl) rfl rfl rfl rfl rfl trivial ?_
 obtain ⟨hg3, h⟩ := grd_inv h
 refine nVal tt rfl (wNone rfl) rfl rfl rfl rfl rfl hg3 ?_
 iterate 2 refine nVal tt rfl (wNone rfl) rfl rfl rfl rfl rfl trivial ?_
 obtain ⟨v1, hc4, h⟩ := bind_inv h
 refine nCallR (I_setOf_w N ((((1 : Int) * 2 ^ ((g_0.n).toNat)) - (1 : Int)) - mask_1) g_0.n v1 hc4) rfl (wNone rfl) rfl rfl rfl rfl rfl rfl (by first | rfl | kernel_rfl | (simp [nrL, nm, gdst, nmT, rowB]; done)) rfl (by first | rfl | kernel_rfl | (simp [chkE, nrL, nm, gdst, nmT, rowB, hid, ment, mentA, mentS]; done) | (simp [chkE, nrL, nm, gdst, nmT, rowB, hid, ment, mentA, mentS]; decide)) ⟨rfl, rfl, trivial⟩ ?_
 refine nNil ?_
 change VO _ _ _ _ _
 obtain ⟨v2, hc5, h⟩ := bind_inv h
 refine oCall (I_WithoutPoints_w N g_0 v1 v2 hc5) rfl rfl rfl rfl rfl rfl rfl rfl ⟨⟨rfl, rfl, trivial⟩, (.inl ⟨rfl, rfl⟩), trivial⟩ ?_
 obtain ⟨v3, hc6, h⟩ := bind_inv h
 refine oCall (I_IsGloballyRigid_w N v2 v3 hc6) rfl rfl rfl rfl rfl rfl rfl rfl ⟨⟨rfl, (.inl ⟨rfl, rfl⟩), trivial⟩, trivial⟩ ?_
 refine oVal tt rfl rfl rfl rfl rfl trivial ?_
 refine vNil ?_
 change VC _ _ _ _
 refine vRet ?_
 change ∃ _, _
 cases h
 exact ⟨[], _, rfl, trivial, rfl, (.eq rfl), rfl⟩
end Go.Proofs.Ytkklfgcelmeccaa
namespace Go.Proofs.Ytkklfgcelmeccaa
variable {N : Nat}
def rowM (bars : List (Int × Int)) (a : Nat) : Nat → List (Int × Int)
 | 0 => []
 | k + 1 => rowM bars a k ++ cnd (cntB bars (a : Int) ((a + 1 + k : Nat) : Int) == 0) [((a : Int), ((a + 1 + k : Nat) : Int))] []
def missM (bars : List (Int × Int)) (n : Nat) : Nat → List (Int × Int)
 | 0 => []
 | a + 1 => missM bars n a ++ rowM bars a (n - (a + 1))
theorem rowM_len (bars : List (Int × Int)) (a : Nat) : ∀ k, (rowM bars a k).length ≤ k
 | 0 => by simp [rowM]
 | k + 1 => by
  have := rowM_len bars a k
  rw [rowM, List.length_append]
  cases (cntB bars (a : Int) ((a + 1 + k : Nat) : Int) == 0) <;> simp [cnd] <;> omega
theorem missM_len (bars : List (Int × Int)) (n : Nat) : ∀ a, (missM bars n a).length ≤ a * n
 | 0 => by simp [missM]
 | a + 1 => by
  have h1 := missM_len bars n a
  have h2 := rowM_len bars a (n - (a + 1))
  rw [missM, List.length_append, Nat.add_mul, Nat.one_mul]; omega
theorem missI2_s (hN : 4000000 ≤ N) {g : Grf} (hb : g.bars.length ≤ 3000000) {n : Nat} (hn : g.n = (n : Int)) (hn8 : n ≤ 1000) {a : Nat} (kk : List (Int × Int) → Option (List (Int × Int))) {L : List (Int × Int)} (hL : L.length ≤ 1000000) :
  ∀ (fuel k : Nat), k ≤ n - (a + 1) → n - (a + 1) < fuel + k → I_MissingBars_l2 N g (a : Int) kk fuel (L ++ rowM g.bars a k, ((a + 1 + k : Nat) : Int)) = kk (L ++ rowM g.bars a (n - (a + 1))) := by
 intro fuel
 induction fuel with
 | zero => intro k h1 h2; omega
 | succ fuel ih =>
  intro k h1 h2
  rw [I_MissingBars_l2]
  by_cases hk : k < n - (a + 1)
  ·have hl := rowM_len g.bars a k
   have hih := ih (k + 1) (by omega) (by omega)
   rw [cnd_dt (by omega), countI_s hN hb, Option.bind_some, ← hih, rowM]
   cases (cntB g.bars (a : Int) ((a + 1 + k : Nat) : Int) == 0) with
   | true => rw [cnd_true, cnd_true, grd_pos (by rw [List.length_append]; omega), grd_R (by omega) (by omega), List.append_assoc, succ_cast]; rfl
   | false => rw [cnd_false, cnd_false, grd_R (by omega) (by omega), List.append_nil, succ_cast]; rfl
  ·rw [cnd_df (by omega), show k = n - (a + 1) from by omega]
theorem missI_x (hN : 4000000 ≤ N) {g : Grf} (hb : g.bars.length ≤ 3000000) (hg : isGraph g = true) : I_MissingBars N g = some (missM g.bars g.n.toNat g.n.toNat) := by
 have hp := isGraph_parts hg
 obtain ⟨n, hn⟩ : ∃ n : Nat, g.n.toNat = n := ⟨_, rfl⟩
 have hn2 : g.n = (n : Int) := by omega
 have hml : ∀ a, a ≤ n → (missM g.bars n a).length ≤ 100 := fun a ha => Nat.le_trans (missM_len _ _ _) (by have := Nat.mul_le_mul ha (Nat.le_refl n); have h3 := Nat.mul_le_mul (show n ≤ 8 by omega) (show n ≤ 8 by omega); omega)
 rw [hn]
 unfold I_MissingBars
 rw [isGraphI_s N hN, Option.bind_some, hg, Bool.not_true, cnd_false]
 refine Eq.trans ?_ (fold (N := N) (len := n) (σ := List (Int × Int)) (st := fun a => missM g.bars n a) (F := fun m s => I_MissingBars_l1 N g (fun l57 => some l57) m (s.1, s.2)) (fin := some (missM g.bars n n)) (by omega) (fun m a ha => ?_) fun m => ?_)
 ·rfl
 ·show I_MissingBars_l1 N g _ (m + 1) (missM g.bars n a, (a : Int)) = I_MissingBars_l1 N g _ m (missM g.bars n (a + 1), ((a + 1 : Nat) : Int))
  have hl := hml a (by omega)
  have h2 := missI2_s hN hb hn2 (by omega) (a := a) (fun (l108 : List (Int × Int)) => I_MissingBars_l1 N g (fun l57 => some l57) m (l108, ((a : Int) + (1 : Int)))) (L := missM g.bars n a) (by omega) N 0 (by omega) (by omega)
  rw [I_MissingBars_l1, cnd_dt (by omega), grd_R (by omega) (by omega)]
  simp only [rowM, List.append_nil, Nat.add_zero] at h2
  rw [succ_cast]
  rw [succ_cast] at h2
  exact h2
 ·show I_MissingBars_l1 N g _ (m + 1) (missM g.bars n n, (n : Int)) = _
  rw [I_MissingBars_l1, cnd_df (by omega)]
theorem pr3 {x : Int × Int} (h : 0 ≤ x.1 ∧ x.1 < x.2 ∧ x.2 < 3) : x = (0, 1) ∨ x = (0, 2) ∨ x = (1, 2) := by
 rcases x with ⟨a, b⟩
 simp only [Prod.mk.injEq] at *
 omega
def ltE (x y : Int × Int) : Prop := x.1 < y.1 ∨ (x.1 = y.1 ∧ x.2 < y.2)
theorem small_x {n : Nat} (hn : 1 ≤ n ∧ n ≤ 3) {L : List (Int × Int)} (hB : ∀ e ∈ L, 0 ≤ e.1 ∧ e.1 < e.2 ∧ e.2 < (n : Int)) (hS : ∀ i, i + 1 < L.length → ltE (L.getD i (0, 0)) (L.getD (i + 1) (0, 0))) :
  decide (((missM L n n).length : Int) > (0 : Int)) = decide ((L.length : Int) < Int.tdiv ((n : Int) * ((n : Int) - (1 : Int))) (2 : Int)) := by
 have hB3 : ∀ e ∈ L, e = (0, 1) ∨ e = (0, 2) ∨ e = (1, 2) := fun e he => pr3 (by have := hB e he; omega)
 match L, hB, hS, hB3 with
 | [], _, _, _ =>
  obtain rfl | rfl | rfl : n = 1 ∨ n = 2 ∨ n = 3 := by omega
  all_goals decide
 | [x], hB, hS, hB3 =>
  have b1 := hB x (by simp)
  rcases hB3 x (by simp) with rfl | rfl | rfl
  all_goals
   obtain rfl | rfl | rfl : n = 1 ∨ n = 2 ∨ n = 3 := by omega
   all_goals first | decide | (exfalso; simp at b1; done) | (exfalso; simp at b1; omega)
 | [x, y], hB, hS, hB3 =>
  have b1 := hB x (by simp)
  have b2 := hB y (by simp)
  have s1 : ltE x y := hS 0 (by simp)
  unfold ltE at s1
  rcases hB3 x (by simp) with rfl | rfl | rfl
  all_goals
   rcases hB3 y (by simp) with rfl | rfl | rfl
   all_goals
    obtain rfl | rfl | rfl : n = 1 ∨ n = 2 ∨ n = 3 := by omega
    all_goals first | decide | (exfalso; simp at b1 b2 s1; done) | (exfalso; simp at b1 b2 s1; omega)
 | [x, y, z], hB, hS, hB3 =>
  have b1 := hB x (by simp)
  have b2 := hB y (by simp)
  have b3 := hB z (by simp)
  have s1 : ltE x y := hS 0 (by simp)
  have s2 : ltE y z := hS 1 (by simp)
  unfold ltE at s1 s2
  have e1 : x = (0, 1) := by rcases hB3 x (by simp) with h | h | h <;> rcases hB3 y (by simp) with h' | h' | h' <;> rcases hB3 z (by simp) with h'' | h'' | h'' <;> subst h <;> subst h' <;> subst h'' <;> first | rfl | (exfalso; simp at s1 s2)
  have e2 : y = (0, 2) := by subst e1; rcases hB3 y (by simp) with h' | h' | h' <;> rcases hB3 z (by simp) with h'' | h'' | h'' <;> subst h' <;> subst h'' <;> first | rfl | (exfalso; simp at s1 s2)
  have e3 : z = (1, 2) := by subst e1; subst e2; rcases hB3 z (by simp) with h'' | h'' | h'' <;> subst h'' <;> first | rfl | (exfalso; simp at s1 s2)
  subst e1; subst e2; subst e3
  obtain rfl : n = 3 := by simp at b3; omega
  decide
 | x :: y :: z :: w :: rest, hB, hS, hB3 =>
  exfalso
  have b1 := hB x (by simp)
  have b2 := hB y (by simp)
  have b3 := hB z (by simp)
  have b4 := hB w (by simp)
  have s1 : ltE x y := hS 0 (by simp)
  have s2 : ltE y z := hS 1 (by simp)
  have s3 : ltE z w := hS 2 (by simp)
  unfold ltE at s1 s2 s3
  omega
theorem why_x (hN : 4000000 ≤ N) {g : Grf} (hb : g.bars.length ≤ 3000000) : ∃ s : ByteArray, S_WhyNotGlobal N g = some s ∧ I_WhyNotGlobal N g = some s := by
 unfold S_WhyNotGlobal I_WhyNotGlobal
 rw [l17Simple_s N hN hb, isGraphI_s N hN, hasDoubles_s N hN hb, Option.bind_some, Option.bind_some, Option.bind_some]
 unfold isSimple
 cases hg : isGraph g with
 | false => exact ⟨_, rfl, rfl⟩
 | true =>
  have hp := isGraph_parts hg
  rw [Bool.true_and, Bool.not_true, cnd_false]
  cases hd : hasDbl g.bars with
  | true => exact ⟨_, rfl, rfl⟩
  | false =>
   rw [Bool.not_false, Bool.not_true, cnd_false, cnd_false]
   obtain ⟨b1, r1, r2⟩ := rigid_x hN (g := g)
   obtain ⟨b2, k1, k2⟩ := kconn_x hN hb (g := g) (k := 3)
   obtain ⟨b3, q1, q2⟩ := redundant_x hN hb (g := g)
   by_cases h3 : g.n ≤ 3
   ·have m2 := missI_x hN hb hg
    have hsm := small_x (n := g.n.toNat) (by omega) (L := g.bars) (fun e he => by have := isGraph_bar hg he; omega) (fun i hi => by
     have h5 := hp.2.2 (i + 1) hi
     have h6 : doubleAt g.bars (i + 1) = false := by
      cases h : doubleAt g.bars (i + 1) with
      | false => rfl
      | true => rw [hasDbl_true (i + 1) hi h] at hd; cases hd
     simp only [barAt, barLeB, Bool.and_eq_true, Bool.or_eq_true, decide_eq_true_eq, Nat.add_sub_cancel, beq_iff_eq] at h5
     simp only [doubleAt, Nat.add_sub_cancel, Bool.and_eq_false_iff, decide_eq_false_iff_not, beq_eq_false_iff_ne] at h6
     have h7 : g.bars.getD i (0, 0) ≠ g.bars.getD (i + 1) (0, 0) := by
      rcases h6 with h6 | h6
      ·omega
      ·exact h6
     unfold ltE
     rcases h5.2 with h8 | h8 | ⟨h8, h9⟩
     ·omega
     ·exact .inl h8
     ·refine .inr ⟨h8, ?_⟩
      by_cases h10 : (g.bars.getD i (0, 0)).2 = (g.bars.getD (i + 1) (0, 0)).2
      ·exact absurd (Prod.ext h8 h10) h7
      ·omega)
    have hnn : ((g.n.toNat : Nat) : Int) = g.n := by omega
    rw [hnn] at hsm
    rw [cnd_dt h3, cnd_dt h3, m2, Option.bind_some, hsm, cnd_df (show ¬ g.n > 3 by omega)]
    have hr : Rg64 (g.n - 1) ∧ Rg64 (g.n * (g.n - 1)) ∧ ((2 : Int) ≠ 0 ∧ Rg64 (Int.tdiv (g.n * (g.n - 1)) 2)) := by
     obtain h | h | h : g.n = 1 ∨ g.n = 2 ∨ g.n = 3 := by omega
     all_goals rw [h]; decide
    rw [grd_pos hr.1, grd_pos hr.2.1, grd_pos hr.2.2]
    cases decide ((g.bars.length : Int) < Int.tdiv (g.n * (g.n - 1)) 2) <;> exact ⟨_, rfl, rfl⟩
   ·rw [cnd_df h3, cnd_df h3, cnd_dt (show g.n > 3 by omega), r1, r2, k1, k2, q1, q2]
    cases b1 <;> cases b2 <;> cases b3 <;> exact ⟨_, rfl, rfl⟩
theorem global_x (hN : 4000000 ≤ N) {g : Grf} (hb : g.bars.length ≤ 3000000) : ∃ b : Bool, S_IsGloballyRigid N g = some b ∧ I_IsGloballyRigid N g = some b := by
 unfold S_IsGloballyRigid I_IsGloballyRigid
 obtain ⟨s, h1, h2⟩ := why_x hN hb
 rw [h1, h2]
 exact ⟨_, rfl, rfl⟩
end Go.Proofs.Ytkklfgcelmeccaa
namespace Go.Proofs.Ytkklfgcelmeccaa
theorem ofInt_nat {a : Nat} (ha : a < 4611686018427387904) : (BitVec.ofInt 64 (a : Int)).toNat = a := by
 rw [BitVec.toNat_ofInt]
 omega
theorem andI_nat {a b : Nat} (ha : a < 4611686018427387904) (hb : b < 4611686018427387904) : andI (a : Int) (b : Int) = ((a &&& b : Nat) : Int) := by
 unfold andI
 rw [BitVec.toNat_and, ofInt_nat ha, ofInt_nat hb]
 have h : a &&& b ≤ a := Nat.and_le_left
 exact w64_id (by omega) (by omega)
theorem bitB_nat {m j : Nat} (hm : m < 4611686018427387904) (hj : j < 64) : bitB (m : Int) j = m.testBit j := by
 unfold bitB
 have h1 : shrI (m : Int) (j : Int) = ((m / 2 ^ j : Nat) : Int) := by
  unfold shrI
  rw [show min ((j : Int)).toNat 64 = j from by omega]
  rw [Int.fdiv_eq_ediv_of_nonneg _ (by exact Int.le_of_lt (Int.pow_pos (by omega)))]
  rw [Int.natCast_ediv]; simp
 have h2 : m / 2 ^ j ≤ m := Nat.div_le_self _ _
 rw [h1, show (1 : Int) = ((1 : Nat) : Int) from rfl, andI_nat (by omega) (by omega)]
 rw [Nat.testBit, Nat.shiftRight_eq_div_pow, Nat.and_comm]
 generalize m / 2 ^ j = q
 rw [Nat.one_and_eq_mod_two]
 rcases Nat.mod_two_eq_zero_or_one q with h | h <;> rw [h] <;> rfl
theorem setU_comp {n m : Nat} (hn : n ≤ 8) (hm : m < 2 ^ n) {j : Nat} (hj : j < n) : bitB ((2 ^ n - 1 - m : Nat) : Int) j = !bitB (m : Int) j := by
 have h8 : 2 ^ n ≤ 2 ^ 8 := Nat.pow_le_pow_right (by omega) hn
 have h88 : (2 : Nat) ^ 8 = 256 := by decide
 rw [bitB_nat (by omega) (by omega), bitB_nat (by omega) (by omega)]
 rw [show 2 ^ n - 1 - m = 2 ^ n - (m + 1) from by omega, Nat.testBit_two_pow_sub_succ hm]
 simp [hj]
theorem setU_mem {m k j : Nat} (hj : j < k) : (j : Int) ∈ setU (m : Int) k ↔ bitB (m : Int) j = true := by
 unfold setU
 constructor
 ·intro h
  obtain ⟨i, h1, h2⟩ := List.mem_map.1 h
  have : i = j := by omega
  subst this
  exact (List.mem_filter.1 h1).2
 ·intro h
  exact List.mem_map.2 ⟨j, List.mem_filter.2 ⟨List.mem_range.2 hj, h⟩, rfl⟩
theorem base_all {n m b : Nat} (hn : n ≤ 8) (hm : m < 2 ^ n) (hb : b < 2 ^ n) {A : List Int} (hA : ∀ x ∈ A, 0 ≤ x ∧ x < (n : Int)) (hbit : ∀ j, j < n → (b.testBit j = true ↔ (j : Int) ∈ A)) :
  (andI (m : Int) (b : Int) == (b : Int)) = A.all fun x => (setU (m : Int) n).contains x := by
 have h8 : 2 ^ n ≤ 2 ^ 8 := Nat.pow_le_pow_right (by omega) hn
 have h88 : (2 : Nat) ^ 8 = 256 := by decide
 rw [andI_nat (by omega) (by omega), Bool.eq_iff_iff, beq_iff_eq, List.all_eq_true]
 constructor
 ·intro h x hx
  have hx2 := hA x hx
  obtain ⟨j, rfl⟩ : ∃ j : Nat, x = (j : Int) := ⟨x.toNat, by omega⟩
  have hj : j < n := by omega
  rw [List.contains_iff_mem, setU_mem hj, bitB_nat (by omega) (by omega)]
  have h1 : (m &&& b) = b := by omega
  have h2 := (hbit j hj).2 hx
  rw [← h1, Nat.testBit_and, Bool.and_eq_true] at h2
  exact h2.1
 ·intro h
  have h1 : (m &&& b) = b := by
   apply Nat.eq_of_testBit_eq
   intro j
   rw [Nat.testBit_and]
   cases hbj : b.testBit j with
   | false => simp
   | true =>
    by_cases hj : j < n
    ·have h3 := h (j : Int) ((hbit j hj).1 hbj)
     rw [List.contains_iff_mem, setU_mem hj, bitB_nat (by omega) (by omega)] at h3
     rw [h3]; rfl
    ·have : b.testBit j = false := Nat.testBit_lt_two_pow (Nat.lt_of_lt_of_le hb (Nat.pow_le_pow_right (by omega) (by omega)))
     rw [this] at hbj; cases hbj
  rw [h1]
end Go.Proofs.Ytkklfgcelmeccaa
namespace Go.Proofs.Ytkklfgcelmeccaa
variable (N : Nat)
def onGrid (p : Int × Int) : Bool := inB p.1 0 4 && inB p.2 0 4
end Go.Proofs.Ytkklfgcelmeccaa
namespace Go.Proofs.Ytkklfgcelmeccaa
variable (N : Nat)
end Go.Proofs.Ytkklfgcelmeccaa
namespace Go.Proofs.Ytkklfgcelmeccaa
variable {N : Nat}
section
variable {l : Lnk} {F : List Int}
end
end Go.Proofs.Ytkklfgcelmeccaa
namespace Go.Proofs.Ytkklfgcelmeccaa
variable {N : Nat}
def stepB (p q : Int × Int) : Bool := onGrid p && (onGrid q && (inB (p.1 - q.1) (-1) 1 && inB (p.2 - q.2) (-1) 1))
end Go.Proofs.Ytkklfgcelmeccaa
namespace Go.Proofs.Ytkklfgcelmeccaa
variable {N : Nat}
theorem part_s (hN : 4000000 ≤ N) {h : Grf} {n m : Nat} (hn : h.n = (n : Int)) (hn8 : n ≤ 8) (hm : m < 2 ^ n) : S_l23Part N h (setU (m : Int) n) = S_WithoutPoints N h (setU ((2 ^ n - 1 - m : Nat) : Int) n) := by
 unfold S_l23Part
 have hl := setU_len (m : Int) n
 refine Eq.trans ?_ ((fold (N := N) (len := n) (σ := List Int) (st := fun i => setU ((2 ^ n - 1 - m : Nat) : Int) i) (F := fun f s => S_l23Part_l1 N h (setU (m : Int) n) (fun (l7 : List Int) => (S_WithoutPoints N h l7).bind fun v8 => some (⟨v8.n, v8.bars⟩ : Grf)) f (s.1, s.2)) (fin := (S_WithoutPoints N h (setU ((2 ^ n - 1 - m : Nat) : Int) n)).bind fun v8 => some (⟨v8.n, v8.bars⟩ : Grf)) (by omega) (fun f i hi => ?_) fun f => ?_).trans ?_)
 ·simp [setU]
 ·show S_l23Part_l1 N h (setU (m : Int) n) _ (f + 1) (setU ((2 ^ n - 1 - m : Nat) : Int) i, (i : Int)) = S_l23Part_l1 N h (setU (m : Int) n) _ f (setU ((2 ^ n - 1 - m : Nat) : Int) (i + 1), ((i + 1 : Nat) : Int))
  have hl2 := setU_len ((2 ^ n - 1 - m : Nat) : Int) i
  have hc : (setU (m : Int) n).contains (i : Int) = bitB (m : Int) i := by rw [Bool.eq_iff_iff, List.contains_iff_mem, setU_mem hi]
  rw [S_l23Part_l1, cnd_dt (by omega), l2Has_s N hN (by omega), Option.bind_some, hc, setU_succ, setU_comp hn8 hm hi]
  cases bitB (m : Int) i with
  | true => rw [Bool.not_true, cnd_false, cnd_false, grd_R (by omega) (by omega), succ_cast]
  | false => rw [Bool.not_false, cnd_true, cnd_true, grd_pos (by omega), grd_R (by omega) (by omega), succ_cast]
 ·show S_l23Part_l1 N h (setU (m : Int) n) _ (f + 1) (setU ((2 ^ n - 1 - m : Nat) : Int) n, (n : Int)) = _
  rw [S_l23Part_l1, cnd_df (by omega)]
 ·cases S_WithoutPoints N h (setU ((2 ^ n - 1 - m : Nat) : Int) n) <;> rfl
theorem glob_x (hN : 4000000 ≤ N) {h : Grf} (hb : h.bars.length ≤ 1000) {n m : Nat} (hn : h.n = (n : Int)) (hn8 : n ≤ 8) (hm : m < 2 ^ n) : ∃ (v : Grf) (b : Bool), S_l23Part N h (setU (m : Int) n) = some v ∧ S_IsGloballyRigid N v = some b ∧ I_isGlobal N h (m : Int) = some b := by
 have h8 : 2 ^ n ≤ 2 ^ 8 := Nat.pow_le_pow_right (by omega) hn8
 have h88 : (2 : Nat) ^ 8 = 256 := by decide
 have hl := setU_len ((2 ^ n - 1 - m : Nat) : Int) n
 obtain ⟨v, w1, w2, w3, w4, w5⟩ := without_x hN (g := h) (by omega) (set := setU ((2 ^ n - 1 - m : Nat) : Int) n) (by omega)
 obtain ⟨b, g1, g2⟩ := global_x hN (g := v) (by omega)
 refine ⟨v, b, (part_s hN hn hn8 hm).trans w4, g1, ?_⟩
 unfold I_isGlobal
 have e0 : h.n.toNat = n := by omega
 have hpw : (1 : Int) * 2 ^ n = ((2 ^ n : Nat) : Int) := by rw [Int.one_mul]; simp
 have hpos : (0 : Int) ≤ ((2 ^ n : Nat) : Int) := Int.natCast_nonneg _
 rw [e0, hpw]
 have e1 : ((2 ^ n : Nat) : Int) - 1 - (m : Int) = ((2 ^ n - 1 - m : Nat) : Int) := by omega
 rw [grd_pos ⟨by omega, by omega, by omega, by omega⟩, grd_R (by omega) (by omega), grd_R (by omega) (by omega), e1, setI_s hN (by omega), Option.bind_some, e0, w5, Option.bind_some, g2]
 rfl
end Go.Proofs.Ytkklfgcelmeccaa
namespace Go.Proofs.Ytkklfgcelmeccaa
open Go.RowKit Go.Deep
def S_GlobalPieces_l4 (N : Nat) (l3840 : List (List Int)) (v3923 : List Int) (i3979 : Int) (k : Bool → Option (List (List Int))) : Nat → (Bool × Int) → Option (List (List Int))
 | 0, _ => none
 | n + 1, (covered4000, k4001) =>
  cnd (decide (k4001 < (v3923.length : Int))) (
   cnd covered4000 (
    grd (0 ≤ i3979 ∧ i3979 < (l3840.length : Int)) <|
    grd (0 ≤ k4001 ∧ k4001 < (v3923.length : Int)) <|
    (S_l2Has N (l3840.getD ((i3979).toNat) []) (v3923.getD ((k4001).toNat) 0)).bind fun v4003 =>
    grd (Rg64 (k4001 + (1 : Int))) <|
    S_GlobalPieces_l4 N l3840 v3923 i3979 k n (v4003, (k4001 + (1 : Int)))) (
    grd (Rg64 (k4001 + (1 : Int))) <|
    S_GlobalPieces_l4 N l3840 v3923 i3979 k n (false, (k4001 + (1 : Int))))) (
   k covered4000)
def S_GlobalPieces_l3 (N : Nat) (l3840 : List (List Int)) (v3923 : List Int) (k : Bool → Option (List (List Int))) : Nat → (Bool × Int) → Option (List (List Int))
 | 0, _ => none
 | n + 1, (inside3978, i3979) =>
  cnd (decide (i3979 < (l3840.length : Int))) (
   S_GlobalPieces_l4 N l3840 v3923 i3979 (fun (covered3997 : Bool) =>
      cnd inside3978 (
       grd (Rg64 (i3979 + (1 : Int))) <|
       S_GlobalPieces_l3 N l3840 v3923 k n (true, (i3979 + (1 : Int)))) (
       grd (Rg64 (i3979 + (1 : Int))) <|
       S_GlobalPieces_l3 N l3840 v3923 k n (covered3997, (i3979 + (1 : Int))))) N (true, (0 : Int))) (
   k inside3978)
def S_GlobalPieces_l2 (N : Nat) (g_0 : Grf) (size3019 : Int) (k : (List (List Int)) → Option (List (List Int))) : Nat → ((List (List Int)) × Int) → Option (List (List Int))
 | 0, _ => none
 | n + 1, (l3840, mask3841) =>
  grd (0 ≤ g_0.n ∧ g_0.n < 64 ∧ Rg64 ((1 : Int) * 2 ^ ((g_0.n).toNat))) <|
  cnd (decide (mask3841 < ((1 : Int) * 2 ^ ((g_0.n).toNat)))) (
   (S_l3Set N g_0.n mask3841).bind fun v3923 =>
   S_GlobalPieces_l3 N l3840 v3923 (fun (inside3962 : Bool) =>
      cnd ((v3923.length : Int) == size3019) (
       cnd (!inside3962) (
        (S_l23Part N g_0 v3923).bind fun v3963 =>
        (S_IsGloballyRigid N v3963).bind fun v3964 =>
        cnd v3964 (
         grd (l3840.length + 1 ≤ 4294967296) <|
         grd (Rg64 (mask3841 + (1 : Int))) <|
         S_GlobalPieces_l2 N g_0 size3019 k n ((l3840 ++ ([v3923] : List (List Int))), (mask3841 + (1 : Int)))) (
         grd (Rg64 (mask3841 + (1 : Int))) <|
         S_GlobalPieces_l2 N g_0 size3019 k n (l3840, (mask3841 + (1 : Int))))) (
        grd (Rg64 (mask3841 + (1 : Int))) <|
        S_GlobalPieces_l2 N g_0 size3019 k n (l3840, (mask3841 + (1 : Int))))) (
       grd (Rg64 (mask3841 + (1 : Int))) <|
       S_GlobalPieces_l2 N g_0 size3019 k n (l3840, (mask3841 + (1 : Int))))) N (false, (0 : Int))) (
   k l3840)
def S_GlobalPieces_l1 (N : Nat) (g_0 : Grf) (k : (List (List Int)) → Option (List (List Int))) : Nat → ((List (List Int)) × Int) → Option (List (List Int))
 | 0, _ => none
 | n + 1, (l3018, size3019) =>
  cnd (decide (size3019 ≥ (2 : Int))) (
   S_GlobalPieces_l2 N g_0 size3019 (fun (l3757 : List (List Int)) =>
      grd (Rg64 (size3019 - (1 : Int))) <|
      S_GlobalPieces_l1 N g_0 k n (l3757, (size3019 - (1 : Int)))) N (l3018, (1 : Int))) (
   k l3018)
def S_GlobalPieces (N : Nat) (g_0 : Grf) : Option (List (List Int)) :=
 (S_l17Simple N g_0).bind fun v1 =>
 cnd (!v1) (
  some ([] : List (List Int))) (
  S_GlobalPieces_l1 N g_0 (fun (l2002 : List (List Int)) =>
     some l2002) N (([] : List (List Int)), g_0.n))
set_option maxRecDepth 20000 in
set_option maxHeartbeats 1600000 in
theorem S_GlobalPieces_w (N : Nat) (g_0 : Grf) (r : List (List Int)) (h : S_GlobalPieces N g_0 = some r) : PCall Try.prog 27 [gD g_0] [(35, .intss r)] (.row 0 0 r.length) := by
 unfold S_GlobalPieces at h
 refine pcall_intro (TT := TT) tt Try.func27 rfl rfl Try.ntmps27 (congrArg Array.toList Try.results27) rfl rfl fun w0 => ?_
 refine vSeq ?_
 refine vRegion ?_
 refine oBox rfl rfl rfl rfl rfl rfl rfl rfl rfl ?_
 refine oVal tt rfl rfl rfl rfl rfl trivial ?_
 refine vNil ?_
 change VC _ _ _ _
 refine vSeq ?_
 refine vRegion ?_
 refine oEmpty tt (wNone rfl) rfl rfl rfl rfl ?_
 refine oVal tt rfl rfl rfl rfl rfl trivial ?_
 refine vNil ?_
 change VC _ _ _ _
 iterate 2 refine vSeq ?_
 refine vRegion ?_
 refine oVal tt rfl rfl rfl rfl rfl trivial ?_
 obtain ⟨v1, hc1, h⟩ := bind_inv h
 refine oCall (S_l17Simple_w N g_0 v1 hc1) rfl rfl rfl rfl rfl rfl rfl rfl ⟨⟨rfl, rfl, trivial⟩, trivial⟩ ?_
 refine oVal tt rfl rfl rfl rfl rfl trivial ?_
 refine vNil ?_
 change VC _ _ _ _
 refine vCond rfl (fun hb2 => ?_) (fun hb2 => ?_)
 ·replace h := cnd_t hb2 h
  refine vSeq ?_
  refine vRegion ?_
  iterate 2 refine oVal tt rfl rfl rfl rfl rfl trivial ?_
  refine vNil ?_
  change VC _ _ _ _
  refine vNilT 2 9001 35 (.intss []) rfl rfl rfl rfl ?_
  refine vRet ?_
  change ∃ _, _
  cases h
  exact ⟨[9001], _, rfl, ⟨rfl, trivial⟩, rfl, (.eq rfl), rfl⟩
 ·replace h := cnd_f hb2 h
  refine vSkip ?_
  change VC _ _ _ _
  iterate 2 refine vSeq ?_
  refine vRegion ?_
  iterate 3 refine oVal tt rfl rfl rfl rfl rfl trivial ?_
  refine vNil ?_
  change VC _ _ _ _
  refine vJoin (F := fun k => S_GlobalPieces_l1 N g_0 k) h (α := List (List Int)) (J := fun (l2002 : List (List Int)) => (⟨[(3, .row 78 0 l2002.length)], [(78, some (35, .intss l2002))], []⟩ : PS)) ?_ ?_
  ·rintro l2002 h
   show VC _ _ _ (⟨[(3, .row 78 0 l2002.length)], [(78, some (35, .intss l2002))], []⟩ : PS)
   refine vSeq ?_
   refine vRegion ?_
   iterate 2 refine oVal tt rfl rfl rfl rfl rfl trivial ?_
   refine vNil ?_
   change VC _ _ _ _
   refine vRet ?_
   change ∃ _, _
   cases h
   exact ⟨[78], _, rfl, ⟨rfl, trivial⟩, rfl, (.eq rfl), rfl⟩
  ·intro k h
   refine vBlock ?_
   refine vNilT 3 78 35 (.intss []) rfl rfl rfl rfl ?_
   refine vLoopS (α := (List (List Int)) × Int) (fun | (l3018, size3019) => (⟨[(1, .ptr 1 0), (3, .row 78 0 l3018.length), (4, .int size3019)], [(78, some (35, .intss l3018))], [(1, some [.int g_0.n, .ro false (.pairs g_0.bars)])]⟩ : PS)) (S_GlobalPieces_l1 N g_0 k) h (En.of ⟨rfl, rfl, rfl, trivial⟩ ⟨rfl, trivial⟩ ⟨rfl, trivial⟩) (fun _ => rfl) ?_
   rintro n ⟨l3018, size3019⟩ h
   rw [S_GlobalPieces_l1] at h
   show VC _ _ _ (⟨[(1, .ptr 1 0), (3, .row 78 0 l3018.length), (4, .int size3019)], [(78, some (35, .intss l3018))], [(1, some [.int g_0.n, .ro false (.pairs g_0.bars)])]⟩ : PS)
   iterate 2 refine vSeq ?_
   refine vRegion ?_
   iterate 2 refine oVal tt rfl rfl rfl rfl rfl trivial ?_
   refine vNil ?_
   change VC _ _ _ _
   refine vCond rfl (fun hb3 => ?_) (fun hb3 => ?_)
   ·replace h := cnd_t hb3 h
    refine vSkip ?_
    change VC _ _ _ _
    refine vSeq ?_
    refine vBlock ?_
    refine vSeq ?_
    refine vRegion ?_
    refine oVal tt rfl rfl rfl rfl rfl trivial ?_
    refine vNil ?_
    change VC _ _ _ _
    refine vJoin (F := fun k => S_GlobalPieces_l2 N g_0 size3019 k) h (α := List (List Int)) (J := fun (l3757 : List (List Int)) => (⟨[(1, .ptr 1 0), (3, .row 78 0 l3757.length), (4, .int size3019)], [(78, some (35, .intss l3757))], [(1, some [.int g_0.n, .ro false (.pairs g_0.bars)])]⟩ : PS)) ?_ ?_
    ·rintro l3757 h
     show VC _ _ _ (⟨[(1, .ptr 1 0), (3, .row 78 0 l3757.length), (4, .int size3019)], [(78, some (35, .intss l3757))], [(1, some [.int g_0.n, .ro false (.pairs g_0.bars)])]⟩ : PS)
     refine vRegion ?_
     refine oVal tt rfl rfl rfl rfl rfl trivial ?_
     obtain ⟨hg4, h⟩ := grd_inv h
     refine oVal tt rfl rfl rfl rfl rfl hg4 ?_
     refine oVal tt rfl rfl rfl rfl rfl trivial ?_
     refine vNil ?_
     change ∃ _, _
     exact ⟨(l3757, (size3019 - (1 : Int))), (En.of ⟨rfl, rfl, rfl, trivial⟩ ⟨rfl, trivial⟩ ⟨rfl, trivial⟩), h⟩
    ·intro k h
     refine vBlock ?_
     refine vLoopS (α := (List (List Int)) × Int) (fun | (l3840, mask3841) => (⟨[(1, .ptr 1 0), (3, .row 78 0 l3840.length), (4, .int size3019), (5, .int mask3841)], [(78, some (35, .intss l3840))], [(1, some [.int g_0.n, .ro false (.pairs g_0.bars)])]⟩ : PS)) (S_GlobalPieces_l2 N g_0 size3019 k) h (En.of ⟨rfl, rfl, rfl, rfl, trivial⟩ ⟨rfl, trivial⟩ ⟨rfl, trivial⟩) (fun _ => rfl) ?_
     rintro n ⟨l3840, mask3841⟩ h
     rw [S_GlobalPieces_l2] at h
     show VC _ _ _ (⟨[(1, .ptr 1 0), (3, .row 78 0 l3840.length), (4, .int size3019), (5, .int mask3841)], [(78, some (35, .intss l3840))], [(1, some [.int g_0.n, .ro false (.pairs g_0.bars)])]⟩ : PS)
     iterate 2 refine vSeq ?_
     refine vRegion ?_
     iterate 3 refine oVal tt rfl rfl rfl rfl rfl trivial ?_
     obtain ⟨hg5, h⟩ := grd_inv h
     refine oVal tt rfl rfl rfl rfl rfl hg5 ?_
     refine oVal tt rfl rfl rfl rfl rfl trivial ?_
     refine vNil ?_
     change VC _ _ _ _
     refine vCond rfl (fun hb6 => ?_) (fun hb6 => ?_)
     ·replace h := cnd_t hb6 h
      refine vSkip ?_
      change VC _ _ _ _
      refine vSeq ?_
      refine vBlock ?_
      refine vSeq ?_
      refine vRegion ?_
      iterate 3 refine oVal tt rfl rfl rfl rfl rfl trivial ?_
      obtain ⟨v3923, hc7, h⟩ := bind_inv h
      refine oCall (S_l3Set_w N g_0.n mask3841 v3923 hc7) rfl rfl rfl rfl rfl rfl rfl rfl ⟨rfl, rfl, trivial⟩ ?_
      refine oVal tt rfl rfl rfl rfl rfl trivial ?_
      refine vNil ?_
      change VC _ _ _ _
      refine vSeq ?_
      refine vRegion ?_
      refine oVal tt rfl rfl rfl rfl rfl trivial ?_
      refine vNil ?_
      change VC _ _ _ _
      iterate 2 refine vSeq ?_
      refine vRegion ?_
      refine oVal tt rfl rfl rfl rfl rfl trivial ?_
      refine vNil ?_
      change VC _ _ _ _
      refine vJoin (F := fun k => S_GlobalPieces_l3 N l3840 v3923 k) h (α := Bool) (J := fun (inside3962 : Bool) => (⟨[(1, .ptr 1 0), (3, .row 78 0 l3840.length), (4, .int size3019), (5, .int mask3841), (6, .row 1320 0 v3923.length), (7, .bool inside3962)], [(78, some (35, .intss l3840)), (1320, some (3, .ints v3923))], [(1, some [.int g_0.n, .ro false (.pairs g_0.bars)])]⟩ : PS)) ?_ ?_
      ·rintro inside3962 h
       show VC _ _ _ (⟨[(1, .ptr 1 0), (3, .row 78 0 l3840.length), (4, .int size3019), (5, .int mask3841), (6, .row 1320 0 v3923.length), (7, .bool inside3962)], [(78, some (35, .intss l3840)), (1320, some (3, .ints v3923))], [(1, some [.int g_0.n, .ro false (.pairs g_0.bars)])]⟩ : PS)
       refine vSeq ?_
       refine vRegion ?_
       iterate 5 refine oVal tt rfl rfl rfl rfl rfl trivial ?_
       refine oSplit rfl rfl rfl (fun hb8 => ?_) (fun hb8 => ?_)
       ·replace h := cnd_t hb8 h
        iterate 2 refine oValG tt rfl rfl rfl rfl rfl hb8 rfl rfl rfl trivial ?_
        refine oPick rfl rfl rfl rfl rfl hb8 rfl ?_
        refine oVal tt rfl rfl rfl rfl rfl trivial ?_
        refine oSplit rfl rfl rfl (fun hb9 => ?_) (fun hb9 => ?_)
        ·replace h := cnd_t hb9 h
         iterate 2 refine oValG tt rfl rfl rfl rfl rfl hb9 rfl rfl rfl trivial ?_
         obtain ⟨v3963, hc10, h⟩ := bind_inv h
         refine oCallG (S_l23Part_w N g_0 v3923 v3963 hc10) rfl rfl rfl rfl hb9 rfl rfl rfl rfl rfl rfl rfl ⟨⟨rfl, rfl, trivial⟩, (.inl ⟨rfl, rfl⟩), trivial⟩ ?_
         obtain ⟨v3964, hc11, h⟩ := bind_inv h
         refine oCallG (S_IsGloballyRigid_w N v3963 v3964 hc11) rfl rfl rfl rfl hb9 rfl rfl rfl rfl rfl rfl rfl ⟨⟨rfl, (.inl ⟨rfl, rfl⟩), trivial⟩, trivial⟩ ?_
         refine oPick rfl rfl rfl rfl rfl hb9 rfl ?_
         refine vNil ?_
         change VC _ _ _ _
         refine vCond rfl (fun hb12 => ?_) (fun hb12 => ?_)
         ·replace h := cnd_t hb12 h
          refine vRegion ?_
          iterate 2 refine oVal tt rfl rfl rfl rfl rfl trivial ?_
          refine oFreeze (t := 76) rfl rfl rfl rfl ?_
          refine oBuild tt rfl rfl rfl rfl rfl rfl rfl rfl rfl rfl rfl ?_
          obtain ⟨hg13, h⟩ := grd_inv h
          refine oAppend tt rfl rfl rfl rfl rfl rfl rfl rfl rfl rfl rfl rfl rfl rfl rfl rfl (Nat.le_of_eq (Nat.zero_add _)) hg13 ?_
          refine oVal tt rfl rfl rfl rfl rfl trivial ?_
          refine vNil ?_
          change VC _ _ _ _
          refine vRegion ?_
          refine oVal tt rfl rfl rfl rfl rfl trivial ?_
          obtain ⟨hg14, h⟩ := grd_inv h
          refine oVal tt rfl rfl rfl rfl rfl hg14 ?_
          refine oVal tt rfl rfl rfl rfl rfl trivial ?_
          refine vNil ?_
          change ∃ _, _
          exact ⟨((l3840 ++ ([v3923] : List (List Int))), (mask3841 + (1 : Int))), (En.of ⟨rfl, rfl, rfl, rfl, trivial⟩ ⟨rfl, trivial⟩ ⟨rfl, trivial⟩), h⟩
         ·replace h := cnd_f hb12 h
          refine vSkip ?_
          change VC _ _ _ _
          refine vRegion ?_
          refine oVal tt rfl rfl rfl rfl rfl trivial ?_
          obtain ⟨hg15, h⟩ := grd_inv h
          refine oVal tt rfl rfl rfl rfl rfl hg15 ?_
          refine oVal tt rfl rfl rfl rfl rfl trivial ?_
          refine vNil ?_
          change ∃ _, _
          exact ⟨(l3840, (mask3841 + (1 : Int))), (En.of ⟨rfl, rfl, rfl, rfl, trivial⟩ ⟨rfl, trivial⟩ ⟨rfl, trivial⟩), h⟩
        ·replace h := cnd_f hb9 h
         iterate 4 refine oNoT rfl rfl rfl rfl hb9 rfl rfl ?_
         refine oPickF rfl rfl rfl rfl rfl hb9 rfl ?_
         refine vNil ?_
         change VC _ _ _ _
         refine vCondF rfl rfl ?_
         refine vSkip ?_
         change VC _ _ _ _
         refine vRegion ?_
         refine oVal tt rfl rfl rfl rfl rfl trivial ?_
         obtain ⟨hg16, h⟩ := grd_inv h
         refine oVal tt rfl rfl rfl rfl rfl hg16 ?_
         refine oVal tt rfl rfl rfl rfl rfl trivial ?_
         refine vNil ?_
         change ∃ _, _
         exact ⟨(l3840, (mask3841 + (1 : Int))), (En.of ⟨rfl, rfl, rfl, rfl, trivial⟩ ⟨rfl, trivial⟩ ⟨rfl, trivial⟩), h⟩
       ·replace h := cnd_f hb8 h
        iterate 2 refine oNoT rfl rfl rfl rfl hb8 rfl rfl ?_
        refine oPickF rfl rfl rfl rfl rfl hb8 rfl ?_
        refine oVal tt rfl rfl rfl rfl rfl trivial ?_
        iterate 4 refine oNoT rfl rfl rfl rfl rfl rfl rfl ?_
        refine oPickF rfl rfl rfl rfl rfl rfl rfl ?_
        refine vNil ?_
        change VC _ _ _ _
        refine vCondF rfl rfl ?_
        refine vSkip ?_
        change VC _ _ _ _
        refine vRegion ?_
        refine oVal tt rfl rfl rfl rfl rfl trivial ?_
        obtain ⟨hg17, h⟩ := grd_inv h
        refine oVal tt rfl rfl rfl rfl rfl hg17 ?_
        refine oVal tt rfl rfl rfl rfl rfl trivial ?_
        refine vNil ?_
        change ∃ _, _
        exact ⟨(l3840, (mask3841 + (1 : Int))), (En.of ⟨rfl, rfl, rfl, rfl, trivial⟩ ⟨rfl, trivial⟩ ⟨rfl, trivial⟩), h⟩
      ·intro k h
       refine vBlock ?_
       refine vLoopS (α := Bool × Int) (fun | (inside3978, i3979) => (⟨[(1, .ptr 1 0), (3, .row 78 0 l3840.length), (4, .int size3019), (5, .int mask3841), (6, .row 1320 0 v3923.length), (7, .bool inside3978), (8, .int i3979)], [(78, some (35, .intss l3840)), (1320, some (3, .ints v3923))], [(1, some [.int g_0.n, .ro false (.pairs g_0.bars)])]⟩ : PS)) (S_GlobalPieces_l3 N l3840 v3923 k) h (En.of ⟨rfl, rfl, rfl, rfl, rfl, rfl, rfl, trivial⟩ ⟨rfl, rfl, trivial⟩ ⟨rfl, trivial⟩) (fun _ => rfl) ?_
       rintro n ⟨inside3978, i3979⟩ h
       rw [S_GlobalPieces_l3] at h
       show VC _ _ _ (⟨[(1, .ptr 1 0), (3, .row 78 0 l3840.length), (4, .int size3019), (5, .int mask3841), (6, .row 1320 0 v3923.length), (7, .bool inside3978), (8, .int i3979)], [(78, some (35, .intss l3840)), (1320, some (3, .ints v3923))], [(1, some [.int g_0.n, .ro false (.pairs g_0.bars)])]⟩ : PS)
       iterate 2 refine vSeq ?_
       refine vRegion ?_
       iterate 4 refine oVal tt rfl rfl rfl rfl rfl trivial ?_
       refine vNil ?_
       change VC _ _ _ _
       refine vCond rfl (fun hb18 => ?_) (fun hb18 => ?_)
       ·replace h := cnd_t hb18 h
        refine vSkip ?_
        change VC _ _ _ _
        refine vSeq ?_
        refine vBlock ?_
        refine vSeq ?_
        refine vRegion ?_
        refine oVal tt rfl rfl rfl rfl rfl trivial ?_
        refine vNil ?_
        change VC _ _ _ _
        iterate 2 refine vSeq ?_
        refine vRegion ?_
        refine oVal tt rfl rfl rfl rfl rfl trivial ?_
        refine vNil ?_
        change VC _ _ _ _
        refine vJoin (F := fun k => S_GlobalPieces_l4 N l3840 v3923 i3979 k) h (α := Bool) (J := fun (covered3997 : Bool) => (⟨[(1, .ptr 1 0), (3, .row 78 0 l3840.length), (4, .int size3019), (5, .int mask3841), (6, .row 1320 0 v3923.length), (7, .bool inside3978), (8, .int i3979), (9, .bool covered3997)], [(78, some (35, .intss l3840)), (1320, some (3, .ints v3923))], [(1, some [.int g_0.n, .ro false (.pairs g_0.bars)])]⟩ : PS)) ?_ ?_
        ·rintro covered3997 h
         show VC _ _ _ (⟨[(1, .ptr 1 0), (3, .row 78 0 l3840.length), (4, .int size3019), (5, .int mask3841), (6, .row 1320 0 v3923.length), (7, .bool inside3978), (8, .int i3979), (9, .bool covered3997)], [(78, some (35, .intss l3840)), (1320, some (3, .ints v3923))], [(1, some [.int g_0.n, .ro false (.pairs g_0.bars)])]⟩ : PS)
         refine vRegion ?_
         iterate 2 refine oVal tt rfl rfl rfl rfl rfl trivial ?_
         refine oSplit rfl rfl rfl (fun hb19 => ?_) (fun hb19 => ?_)
         ·replace h := cnd_t hb19 h
          refine oNoF rfl rfl rfl rfl hb19 rfl rfl ?_
          refine oPick rfl rfl rfl rfl rfl hb19 rfl ?_
          refine oVal tt rfl rfl rfl rfl rfl trivial ?_
          refine vNil ?_
          change VC _ _ _ _
          refine vRegion ?_
          refine oVal tt rfl rfl rfl rfl rfl trivial ?_
          obtain ⟨hg20, h⟩ := grd_inv h
          refine oVal tt rfl rfl rfl rfl rfl hg20 ?_
          refine oVal tt rfl rfl rfl rfl rfl trivial ?_
          refine vNil ?_
          change ∃ _, _
          exact ⟨(true, (i3979 + (1 : Int))), (En.of ⟨rfl, rfl, rfl, rfl, rfl, rfl, rfl, trivial⟩ ⟨rfl, rfl, trivial⟩ ⟨rfl, trivial⟩), h⟩
         ·replace h := cnd_f hb19 h
          refine oValG tt rfl rfl rfl rfl rfl hb19 rfl rfl rfl trivial ?_
          refine oPickF rfl rfl rfl rfl rfl hb19 rfl ?_
          refine oVal tt rfl rfl rfl rfl rfl trivial ?_
          refine vNil ?_
          change VC _ _ _ _
          refine vRegion ?_
          refine oVal tt rfl rfl rfl rfl rfl trivial ?_
          obtain ⟨hg21, h⟩ := grd_inv h
          refine oVal tt rfl rfl rfl rfl rfl hg21 ?_
          refine oVal tt rfl rfl rfl rfl rfl trivial ?_
          refine vNil ?_
          change ∃ _, _
          exact ⟨(covered3997, (i3979 + (1 : Int))), (En.of ⟨rfl, rfl, rfl, rfl, rfl, rfl, rfl, trivial⟩ ⟨rfl, rfl, trivial⟩ ⟨rfl, trivial⟩), h⟩
        ·intro k h
         refine vBlock ?_
         refine vLoopS (α := Bool × Int) (fun | (covered4000, k4001) => (⟨[(1, .ptr 1 0), (3, .row 78 0 l3840.length), (4, .int size3019), (5, .int mask3841), (6, .row 1320 0 v3923.length), (7, .bool inside3978), (8, .int i3979), (9, .bool covered4000), (10, .int k4001)], [(78, some (35, .intss l3840)), (1320, some (3, .ints v3923))], [(1, some [.int g_0.n, .ro false (.pairs g_0.bars)])]⟩ : PS)) (S_GlobalPieces_l4 N l3840 v3923 i3979 k) h (En.of ⟨rfl, rfl, rfl, rfl, rfl, rfl, rfl, rfl, rfl, trivial⟩ ⟨rfl, rfl, trivial⟩ ⟨rfl, trivial⟩) (fun _ => rfl) ?_
         rintro n ⟨covered4000, k4001⟩ h
         rw [S_GlobalPieces_l4] at h
         show VC _ _ _ (⟨[(1, .ptr 1 0), (3, .row 78 0 l3840.length), (4, .int size3019), (5, .int mask3841), (6, .row 1320 0 v3923.length), (7, .bool inside3978), (8, .int i3979), (9, .bool covered4000), (10, .int k4001)], [(78, some (35, .intss l3840)), (1320, some (3, .ints v3923))], [(1, some [.int g_0.n, .ro false (.pairs g_0.bars)])]⟩ : PS)
         iterate 2 refine vSeq ?_
         refine vRegion ?_
         iterate 4 refine oVal tt rfl rfl rfl rfl rfl trivial ?_
         refine vNil ?_
         change VC _ _ _ _
         refine vCond rfl (fun hb22 => ?_) (fun hb22 => ?_)
         ·replace h := cnd_t hb22 h
          refine vSkip ?_
          change VC _ _ _ _
          refine vSeq ?_
          refine vBlock ?_
          refine vRegionD (by kernel_rfl) (by kernel_rfl) ?_
          iterate 2 refine cVal tt rfl (wNone rfl) rfl rfl rfl trivial ?_
          refine cSplit rfl rfl rfl (fun hb23 => ?_) (fun hb23 => ?_)
          ·replace h := cnd_t hb23 h
           iterate 2 refine cVal tt rfl (wSome rfl rfl rfl rfl hb23) rfl rfl rfl trivial ?_
           obtain ⟨hg24, h⟩ := grd_inv h
           iterate 2 refine cVal tt rfl (wSome rfl rfl rfl rfl hb23) rfl rfl rfl hg24 ?_
           iterate 2 refine cVal tt rfl (wSome rfl rfl rfl rfl hb23) rfl rfl rfl trivial ?_
           obtain ⟨hg25, h⟩ := grd_inv h
           iterate 2 refine cVal tt rfl (wSome rfl rfl rfl rfl hb23) rfl rfl rfl hg25 ?_
           obtain ⟨v4003, hc26, h⟩ := bind_inv h
           refine cCall (S_l2Has_w N (l3840.getD ((i3979).toNat) []) (v3923.getD ((k4001).toNat) 0) v4003 hc26) rfl (wSome rfl rfl rfl rfl hb23) rfl rfl rfl rfl rfl rfl ⟨rfl, rfl, trivial⟩ ?_
           refine cPickT rfl (wNone rfl) rfl rfl rfl hb23 rfl ?_
           refine cVal tt rfl (wNone rfl) rfl rfl rfl trivial ?_
           refine cNil ?_
           change VC _ _ _ _
           refine vRegion ?_
           refine oVal tt rfl rfl rfl rfl rfl trivial ?_
           obtain ⟨hg27, h⟩ := grd_inv h
           refine oVal tt rfl rfl rfl rfl rfl hg27 ?_
           refine oVal tt rfl rfl rfl rfl rfl trivial ?_
           refine vNil ?_
           change ∃ _, _
           exact ⟨(v4003, (k4001 + (1 : Int))), (En.of ⟨rfl, rfl, rfl, rfl, rfl, rfl, rfl, rfl, rfl, trivial⟩ ⟨rfl, rfl, trivial⟩ ⟨rfl, trivial⟩), h⟩
          ·replace h := cnd_f hb23 h
           iterate 9 refine cNoT rfl rfl rfl rfl hb23 rfl rfl ?_
           refine cPickF rfl (wNone rfl) rfl rfl rfl hb23 rfl ?_
           refine cVal tt rfl (wNone rfl) rfl rfl rfl trivial ?_
           refine cNil ?_
           change VC _ _ _ _
           refine vRegion ?_
           refine oVal tt rfl rfl rfl rfl rfl trivial ?_
           obtain ⟨hg28, h⟩ := grd_inv h
           refine oVal tt rfl rfl rfl rfl rfl hg28 ?_
           refine oVal tt rfl rfl rfl rfl rfl trivial ?_
           refine vNil ?_
           change ∃ _, _
           exact ⟨(false, (k4001 + (1 : Int))), (En.of ⟨rfl, rfl, rfl, rfl, rfl, rfl, rfl, rfl, rfl, trivial⟩ ⟨rfl, rfl, trivial⟩ ⟨rfl, trivial⟩), h⟩
         ·replace h := cnd_f hb22 h
          refine vExit ?_
          change ∃ _, _
          exact ⟨covered4000, (En.of ⟨rfl, rfl, rfl, rfl, rfl, rfl, rfl, rfl, trivial⟩ ⟨rfl, rfl, trivial⟩ ⟨rfl, trivial⟩), h⟩
       ·replace h := cnd_f hb18 h
        refine vExit ?_
        change ∃ _, _
        exact ⟨inside3978, (En.of ⟨rfl, rfl, rfl, rfl, rfl, rfl, trivial⟩ ⟨rfl, rfl, trivial⟩ ⟨rfl, trivial⟩), h⟩
     ·replace h := cnd_f hb6 h
      refine vExit ?_
      change ∃ _, _
      exact ⟨l3840, (En.of ⟨rfl, rfl, rfl, trivial⟩ ⟨rfl, trivial⟩ ⟨rfl, trivial⟩), h⟩
   ·replace h := cnd_f hb3 h
    refine vExit ?_
    change ∃ _, _
    exact ⟨l3018, (En.of ⟨rfl, trivial⟩ ⟨rfl, trivial⟩ trivial), h⟩
def I_GlobalPieces_1 (N : Nat) (other_0 : Int) (mask_1 : Int) : Option (Bool) :=
 some ((andI mask_1 other_0) == mask_1)
set_option maxRecDepth 20000 in
set_option maxHeartbeats 1600000 in
theorem I_GlobalPieces_1_w (N : Nat) (other_0 : Int) (mask_1 : Int) (r : Bool) (h : I_GlobalPieces_1 N other_0 mask_1 = some r) : MCall Try.prog 70 [.int other_0, .ptr 1000001 0] [] [1000001] [] [] [[.int mask_1]] [[.int mask_1]] (.bool r) := by
 unfold I_GlobalPieces_1 at h
 refine mcall_intro (TT := TT) tt Try.func70 rfl rfl Try.ntmps70 (congrArg Array.toList Try.results70) rfl rfl rfl rfl rfl fun w0 O0 => ?_
 refine vSeq ?_
 refine vRegion ?_
 refine oVal tt rfl rfl rfl rfl rfl trivial ?_
 refine vNil ?_
 change VC _ _ _ _
 refine vSeq ?_
 refine vRegion ?_
 iterate 6 refine oVal tt rfl rfl rfl rfl rfl trivial ?_
 refine vNil ?_
 change VC _ _ _ _
 refine vRet ?_
 change ∃ _, _
 cases h
 exact ⟨[], rfl, trivial, ⟨rfl, trivial⟩, rfl⟩
def G_IndexFunc_int_l1 (N : Nat) (mask_1_0 : Int) (s_0 : List Int) (k : Unit → Option (Int × (List Int))) : Nat → Int → Option (Int × (List Int))
 | 0, _ => none
 | n + 1, x7 =>
  cnd (decide (x7 < (s_0.length : Int))) (
   grd (0 ≤ x7 ∧ x7 < (s_0.length : Int)) <|
   (I_GlobalPieces_1 N (s_0.getD ((x7).toNat) 0) mask_1_0).bind fun v9 =>
   cnd v9 (
    some (x7, s_0)) (
    grd (Rg64 (x7 + (1 : Int))) <|
    G_IndexFunc_int_l1 N mask_1_0 s_0 k n (x7 + (1 : Int)))) (
   k ())
def G_IndexFunc_int (N : Nat) (s_0 : List Int) (mask_1_0 : Int) : Option (Int × (List Int)) :=
 G_IndexFunc_int_l1 N mask_1_0 s_0 (fun (_ : Unit) =>
    some ((-1 : Int), s_0)) N (0 : Int)
set_option maxRecDepth 20000 in
set_option maxHeartbeats 1600000 in
theorem G_IndexFunc_int_w (N : Nat) (s_0 : List Int) (mask_1_0 : Int) (r : Int × (List Int)) (h : G_IndexFunc_int N s_0 mask_1_0 = some r) : MCall Try.prog 99 [.row 1000000 0 s_0.length, .clo 70 [1000001]] [1000000] [1000001] [(3, .ints s_0)] [(3, .ints r.2)] [[.int mask_1_0]] [[.int mask_1_0]] (.int r.1) := by
 unfold G_IndexFunc_int at h
 refine mcall_intro (TT := TT) tt Try.func99 rfl rfl Try.ntmps99 (congrArg Array.toList Try.results99) rfl rfl rfl rfl rfl fun w0 O0 => ?_
 refine vSeq ?_
 refine vRegion ?_
 refine oVal tt rfl rfl rfl rfl rfl trivial ?_
 refine vNil ?_
 change VC _ _ _ _
 iterate 2 refine vSeq ?_
 refine vRegion ?_
 iterate 3 refine oVal tt rfl rfl rfl rfl rfl trivial ?_
 refine vNil ?_
 change VC _ _ _ _
 refine vJoin (F := fun k => G_IndexFunc_int_l1 N mask_1_0 s_0 k) h (α := Unit) (J := fun (_ : Unit) => (⟨[], [(1000000, some (3, .ints s_0))], [(1000001, some [.int mask_1_0])]⟩ : PS)) ?_ ?_
 ·rintro ⟨⟩ h
  show VC _ _ _ (⟨[], [(1000000, some (3, .ints s_0))], [(1000001, some [.int mask_1_0])]⟩ : PS)
  refine vSeq ?_
  refine vRegion ?_
  refine oVal tt rfl rfl rfl rfl rfl trivial ?_
  refine vNil ?_
  change VC _ _ _ _
  refine vRet ?_
  change ∃ _, _
  cases h
  exact ⟨[1000000], rfl, ⟨rfl, trivial⟩, ⟨rfl, trivial⟩, rfl⟩
 ·intro k h
  refine vBlock ?_
  refine vLoopS (α := Int) (fun (x7 : Int) => (⟨[(0, .row 1000000 0 s_0.length), (1, .clo 70 [1000001]), (7, .int (s_0.length : Int)), (8, .int x7)], [(1000000, some (3, .ints s_0))], [(1000001, some [.int mask_1_0])]⟩ : PS)) (G_IndexFunc_int_l1 N mask_1_0 s_0 k) h (En.of ⟨rfl, rfl, rfl, rfl, trivial⟩ ⟨rfl, trivial⟩ ⟨rfl, trivial⟩) (fun _ => rfl) ?_
  rintro n x7 h
  rw [G_IndexFunc_int_l1] at h
  show VC _ _ _ (⟨[(0, .row 1000000 0 s_0.length), (1, .clo 70 [1000001]), (7, .int (s_0.length : Int)), (8, .int x7)], [(1000000, some (3, .ints s_0))], [(1000001, some [.int mask_1_0])]⟩ : PS)
  refine vSeq ?_
  refine vRegion ?_
  refine oVal tt rfl rfl rfl rfl rfl trivial ?_
  refine vNil ?_
  change VC _ _ _ _
  refine vSeq ?_
  refine vCond rfl (fun hb1 => ?_) (fun hb1 => ?_)
  ·replace h := cnd_t hb1 h
   refine vSkip ?_
   change VC _ _ _ _
   refine vSeq ?_
   refine vBlock ?_
   refine vSeq ?_
   refine vRegion ?_
   iterate 2 refine oVal tt rfl rfl rfl rfl rfl trivial ?_
   refine vNil ?_
   change VC _ _ _ _
   refine vSeq ?_
   refine vRegion ?_
   iterate 3 refine oVal tt rfl rfl rfl rfl rfl trivial ?_
   obtain ⟨hg2, h⟩ := grd_inv h
   iterate 2 refine oVal tt rfl rfl rfl rfl rfl hg2 ?_
   obtain ⟨v9, hc3, h⟩ := bind_inv h
   refine oMCloX [1000001] [.int (s_0.getD ((x7).toNat) 0)] (I_GlobalPieces_1_w N (s_0.getD ((x7).toNat) 0) mask_1_0 v9 hc3) [] [1000001] [] rfl rfl rfl rfl rfl rfl rfl rfl rfl  trivial ⟨rfl, trivial⟩ ⟨⟨rfl, rfl⟩, trivial⟩ ?_
   refine vNil ?_
   change VC _ _ _ _
   refine vCond rfl (fun hb4 => ?_) (fun hb4 => ?_)
   ·replace h := cnd_t hb4 h
    refine vSeq ?_
    refine vRegion ?_
    iterate 2 refine oVal tt rfl rfl rfl rfl rfl trivial ?_
    refine vNil ?_
    change VC _ _ _ _
    refine vRet ?_
    change ∃ _, _
    cases h
    exact ⟨[1000000], rfl, ⟨rfl, trivial⟩, ⟨rfl, trivial⟩, rfl⟩
   ·replace h := cnd_f hb4 h
    refine vSkip ?_
    change VC _ _ _ _
    refine vRegion ?_
    obtain ⟨hg5, h⟩ := grd_inv h
    refine oVal tt rfl rfl rfl rfl rfl hg5 ?_
    refine oVal tt rfl rfl rfl rfl rfl trivial ?_
    refine vNil ?_
    change ∃ _, _
    exact ⟨(x7 + (1 : Int)), (En.of ⟨rfl, rfl, rfl, rfl, trivial⟩ ⟨rfl, trivial⟩ ⟨rfl, trivial⟩), h⟩
  ·replace h := cnd_f hb1 h
   refine vExit ?_
   change ∃ _, _
   exact ⟨(), (En.of trivial ⟨rfl, trivial⟩ ⟨rfl, trivial⟩), h⟩
def G_ContainsFunc_int (N : Nat) (s_0 : List Int) (mask_1_0 : Int) : Option (Bool × (List Int)) :=
 (G_IndexFunc_int N s_0 mask_1_0).bind fun v1 =>
 some ((decide (v1.1 ≥ (0 : Int))), v1.2)
set_option maxRecDepth 20000 in
set_option maxHeartbeats 1600000 in
theorem G_ContainsFunc_int_w (N : Nat) (s_0 : List Int) (mask_1_0 : Int) (r : Bool × (List Int)) (h : G_ContainsFunc_int N s_0 mask_1_0 = some r) : MCall Try.prog 71 [.row 1000000 0 s_0.length, .clo 70 [1000001]] [1000000] [1000001] [(3, .ints s_0)] [(3, .ints r.2)] [[.int mask_1_0]] [[.int mask_1_0]] (.bool r.1) := by
 unfold G_ContainsFunc_int at h
 refine mcall_intro (TT := TT) tt Try.func71 rfl rfl Try.ntmps71 (congrArg Array.toList Try.results71) rfl rfl rfl rfl rfl fun w0 O0 => ?_
 refine vSeq ?_
 refine vRegion ?_
 refine oVal tt rfl rfl rfl rfl rfl trivial ?_
 refine vNil ?_
 change VC _ _ _ _
 refine vSeq ?_
 refine vRegion ?_
 iterate 2 refine oVal tt rfl rfl rfl rfl rfl trivial ?_
 obtain ⟨v1, hc1, h⟩ := bind_inv h
 refine oMCall (G_IndexFunc_int_w N s_0 mask_1_0 v1 hc1) [1000000] [1000001] [1000000] rfl rfl rfl rfl rfl rfl ⟨rfl, trivial⟩ ⟨rfl, trivial⟩ ⟨⟨rfl, rfl⟩, ⟨rfl, rfl⟩, trivial⟩ ?_
 iterate 2 refine oVal tt rfl rfl rfl rfl rfl trivial ?_
 refine vNil ?_
 change VC _ _ _ _
 refine vRet ?_
 change ∃ _, _
 cases h
 exact ⟨[1000000], rfl, ⟨rfl, trivial⟩, ⟨rfl, trivial⟩, rfl⟩
def I_GlobalPieces_l2 (N : Nat) (g_0 : Grf) (size297 : Int) (k : ((List (List Int)) × (List Int) × Nat) → Option (List (List Int))) : Nat → ((List (List Int)) × (List Int) × Nat × Int) → Option (List (List Int))
 | 0, _ => none
 | n + 1, (l348, l349, n350, x351) =>
  cnd (decide (x351 < ((1 : Int) * 2 ^ ((g_0.n).toNat)))) (
   (I_setOf N x351 g_0.n).bind fun v355 =>
   cnd ((v355.length : Int) == size297) (
    grd (n350 = l349.length) <|
    (G_ContainsFunc_int N l349 x351).bind fun v356 =>
    cnd (!v356.1) (
     (I_isGlobal N g_0 x351).bind fun v357 =>
     cnd v357 (
      grd (n350 ≤ v356.2.length) <|
      grd (n350 + 1 ≤ 4294967296) <|
      grd (l348.length + 1 ≤ 4294967296) <|
      grd (Rg64 (x351 + (1 : Int))) <|
      I_GlobalPieces_l2 N g_0 size297 k n ((l348 ++ [v355]), ((v356.2.take n350) ++ ([x351] : List Int)), ((v356.2.take n350) ++ ([x351] : List Int)).length, (x351 + (1 : Int)))) (
      grd (Rg64 (x351 + (1 : Int))) <|
      I_GlobalPieces_l2 N g_0 size297 k n (l348, v356.2, n350, (x351 + (1 : Int))))) (
     grd (Rg64 (x351 + (1 : Int))) <|
     I_GlobalPieces_l2 N g_0 size297 k n (l348, v356.2, n350, (x351 + (1 : Int))))) (
    grd (Rg64 (x351 + (1 : Int))) <|
    I_GlobalPieces_l2 N g_0 size297 k n (l348, l349, n350, (x351 + (1 : Int))))) (
   k (l348, l349, n350))
def I_GlobalPieces_l1 (N : Nat) (g_0 : Grf) (k : (List (List Int)) → Option (List (List Int))) : Nat → ((List (List Int)) × (List Int) × Nat × Int) → Option (List (List Int))
 | 0, _ => none
 | n + 1, (l294, l295, n296, size297) =>
  cnd (decide (size297 ≥ (2 : Int))) (
   grd (0 ≤ g_0.n ∧ g_0.n < 64 ∧ Rg64 ((1 : Int) * 2 ^ ((g_0.n).toNat))) <|
   I_GlobalPieces_l2 N g_0 size297 (fun (x : (List (List Int)) × (List Int) × Nat) =>
     match x with
     | (l341, l342, n343) =>
      grd (Rg64 (size297 - (1 : Int))) <|
      I_GlobalPieces_l1 N g_0 k n (l341, l342, n343, (size297 - (1 : Int)))) N (l294, l295, n296, (0 : Int))) (
   k l294)
def I_GlobalPieces (N : Nat) (g_0 : Grf) : Option (List (List Int)) :=
 (I_areAnchors N g_0 ([] : List Int)).bind fun v1 =>
 cnd (!v1) (
  some ([] : List (List Int))) (
  I_GlobalPieces_l1 N g_0 (fun (l179 : List (List Int)) =>
     some l179) N (([] : List (List Int)), ([] : List Int), ([] : List Int).length, g_0.n))
set_option maxRecDepth 20000 in
set_option maxHeartbeats 1600000 in
theorem I_GlobalPieces_w (N : Nat) (g_0 : Grf) (r : List (List Int)) (h : I_GlobalPieces N g_0 = some r) : PCallD Try.prog 29 [gD g_0] 35 3 (.intss r) (.row 0 0 r.length) := by
 unfold I_GlobalPieces at h
 refine pcallD_intro (TT := TT) tt Try.func29 rfl rfl Try.ntmps29 (congrArg Array.toList Try.results29) rfl rfl rfl fun w0 => ?_
 refine vSeq ?_
 refine vRegion ?_
 refine oBox rfl rfl rfl rfl rfl rfl rfl rfl rfl ?_
 refine oVal tt rfl rfl rfl rfl rfl trivial ?_
 refine vNil ?_
 change VC _ _ _ _
 refine vSeq ?_
 refine vRegion ?_
 refine oEmpty tt (wNone rfl) rfl rfl rfl rfl ?_
 refine oVal tt rfl rfl rfl rfl rfl trivial ?_
 refine vNil ?_
 change VC _ _ _ _
 iterate 2 refine vSeq ?_
 refine vRegion ?_
 refine oVal tt rfl rfl rfl rfl rfl trivial ?_
 obtain ⟨v1, hc1, h⟩ := bind_inv h
 refine oCall (I_areAnchors_w N g_0 ([] : List Int) v1 hc1) rfl rfl rfl rfl rfl rfl rfl rfl ⟨⟨rfl, rfl, trivial⟩, rfl, trivial⟩ ?_
 refine oVal tt rfl rfl rfl rfl rfl trivial ?_
 refine vNil ?_
 change VC _ _ _ _
 refine vCond rfl (fun hb2 => ?_) (fun hb2 => ?_)
 ·replace h := cnd_t hb2 h
  refine vSeq ?_
  refine vRegion ?_
  iterate 2 refine oVal tt rfl rfl rfl rfl rfl trivial ?_
  refine vNil ?_
  change VC _ _ _ _
  refine vNilT 2 9001 35 (.intss []) rfl rfl rfl rfl ?_
  refine vEn (En.newFam 11 3 (.ints []) rfl rfl rfl rfl (fun _ h => by cases h) rfl) ?_
  refine vEn (En.asRefs 9001 11 (q := .intss []) (qR := dR 11 (.intss [])) rfl rfl rfl rfl) ?_
  refine vRet ?_
  change ∃ _, _
  cases h
  exact ⟨9001, 11, _, rfl, rfl, rfl, rfl, rfl, (.eq rfl), rfl⟩
 ·replace h := cnd_f hb2 h
  refine vSkip ?_
  change VC _ _ _ _
  refine vSeq ?_
  refine vRegion ?_
  refine oEmpty tt (wNone rfl) rfl rfl rfl rfl ?_
  refine oVal tt rfl rfl rfl rfl rfl trivial ?_
  refine vNil ?_
  change VC _ _ _ _
  iterate 2 refine vSeq ?_
  refine vRegion ?_
  iterate 3 refine oVal tt rfl rfl rfl rfl rfl trivial ?_
  refine vNil ?_
  change VC _ _ _ _
  refine vJoin (F := fun k => I_GlobalPieces_l1 N g_0 k) h (α := List (List Int)) (J := fun (l179 : List (List Int)) => (⟨[(3, .row 9531 0 l179.length)], [(9531, some (35, dR 10 (.intss l179))), (8589934602, some (3, dF (.intss l179)))], []⟩ : PS)) ?_ ?_
  ·rintro l179 h
   show VC _ _ _ (⟨[(3, .row 9531 0 l179.length)], [(9531, some (35, dR 10 (.intss l179))), (8589934602, some (3, dF (.intss l179)))], []⟩ : PS)
   refine vSeq ?_
   refine vRegion ?_
   iterate 2 refine oVal tt rfl rfl rfl rfl rfl trivial ?_
   refine vNil ?_
   change VC _ _ _ _
   refine vRet ?_
   change ∃ _, _
   cases h
   exact ⟨9531, 10, _, rfl, rfl, rfl, rfl, rfl, (.eq rfl), rfl⟩
  ·intro k h
   refine vBlock ?_
   refine vNilT 3 9542 35 (.intss []) rfl rfl rfl rfl ?_
   refine vEn (En.newFam 10 3 (.ints []) rfl rfl rfl rfl (fun _ h => by cases h) rfl) ?_
   refine vEn (En.asRefs 9542 10 (q := .intss []) (qR := dR 10 (.intss [])) rfl rfl rfl rfl) ?_
   refine vNilT 4 50 3 (.ints []) rfl rfl rfl rfl ?_
   refine vLoopS (α := (List (List Int)) × (List Int) × Nat × Int) (fun | (l294, l295, n296, size297) => (⟨[(1, .ptr 1 0), (3, .row 9542 0 l294.length), (4, .row 50 0 n296), (5, .int size297)], [(9542, some (35, dR 10 (.intss l294))), (8589934602, some (3, dF (.intss l294))), (50, some (3, .ints l295))], [(1, some [.int g_0.n, .ro false (.pairs g_0.bars)])]⟩ : PS)) (I_GlobalPieces_l1 N g_0 k) h (En.of ⟨rfl, rfl, rfl, rfl, trivial⟩ ⟨rfl, rfl, rfl, trivial⟩ ⟨rfl, trivial⟩) (fun _ => rfl) ?_
   rintro n ⟨l294, l295, n296, size297⟩ h
   rw [I_GlobalPieces_l1] at h
   show VC _ _ _ (⟨[(1, .ptr 1 0), (3, .row 9542 0 l294.length), (4, .row 50 0 n296), (5, .int size297)], [(9542, some (35, dR 10 (.intss l294))), (8589934602, some (3, dF (.intss l294))), (50, some (3, .ints l295))], [(1, some [.int g_0.n, .ro false (.pairs g_0.bars)])]⟩ : PS)
   iterate 2 refine vSeq ?_
   refine vRegion ?_
   iterate 2 refine oVal tt rfl rfl rfl rfl rfl trivial ?_
   refine vNil ?_
   change VC _ _ _ _
   refine vCond rfl (fun hb3 => ?_) (fun hb3 => ?_)
   ·replace h := cnd_t hb3 h
    refine vSkip ?_
    change VC _ _ _ _
    refine vSeq ?_
    refine vBlock ?_
    refine vSeq ?_
    refine vRegion ?_
    iterate 2 refine oVal tt rfl rfl rfl rfl rfl trivial ?_
    obtain ⟨hg4, h⟩ := grd_inv h
    refine oVal tt rfl rfl rfl rfl rfl hg4 ?_
    refine oVal tt rfl rfl rfl rfl rfl trivial ?_
    refine vNil ?_
    change VC _ _ _ _
    refine vJoin (F := fun k => I_GlobalPieces_l2 N g_0 size297 k) h (α := (List (List Int)) × (List Int) × Nat) (J := fun | (l341, l342, n343) => (⟨[(1, .ptr 1 0), (3, .row 9542 0 l341.length), (4, .row 50 0 n343), (5, .int size297)], [(9542, some (35, dR 10 (.intss l341))), (8589934602, some (3, dF (.intss l341))), (50, some (3, .ints l342))], [(1, some [.int g_0.n, .ro false (.pairs g_0.bars)])]⟩ : PS)) ?_ ?_
    ·rintro ⟨l341, l342, n343⟩ h
     show VC _ _ _ (⟨[(1, .ptr 1 0), (3, .row 9542 0 l341.length), (4, .row 50 0 n343), (5, .int size297)], [(9542, some (35, dR 10 (.intss l341))), (8589934602, some (3, dF (.intss l341))), (50, some (3, .ints l342))], [(1, some [.int g_0.n, .ro false (.pairs g_0.bars)])]⟩ : PS)
     refine vRegion ?_
     refine oVal tt rfl rfl rfl rfl rfl trivial ?_
     obtain ⟨hg5, h⟩ := grd_inv h
     refine oVal tt rfl rfl rfl rfl rfl hg5 ?_
     refine oVal tt rfl rfl rfl rfl rfl trivial ?_
     refine vNil ?_
     change ∃ _, _
     exact ⟨(l341, l342, n343, (size297 - (1 : Int))), (En.of ⟨rfl, rfl, rfl, rfl, trivial⟩ ⟨rfl, rfl, rfl, trivial⟩ ⟨rfl, trivial⟩), h⟩
    ·intro k h
     refine vBlock ?_
     refine vLoopS (α := (List (List Int)) × (List Int) × Nat × Int) (fun | (l348, l349, n350, x351) => (⟨[(1, .ptr 1 0), (3, .row 9542 0 l348.length), (4, .row 50 0 n350), (5, .int size297), (23, .int ((1 : Int) * 2 ^ ((g_0.n).toNat))), (24, .int x351)], [(9542, some (35, dR 10 (.intss l348))), (8589934602, some (3, dF (.intss l348))), (50, some (3, .ints l349))], [(1, some [.int g_0.n, .ro false (.pairs g_0.bars)])]⟩ : PS)) (I_GlobalPieces_l2 N g_0 size297 k) h (En.of ⟨rfl, rfl, rfl, rfl, rfl, rfl, trivial⟩ ⟨rfl, rfl, rfl, trivial⟩ ⟨rfl, trivial⟩) (fun _ => rfl) ?_
     rintro n ⟨l348, l349, n350, x351⟩ h
     rw [I_GlobalPieces_l2] at h
     show VC _ _ _ (⟨[(1, .ptr 1 0), (3, .row 9542 0 l348.length), (4, .row 50 0 n350), (5, .int size297), (23, .int ((1 : Int) * 2 ^ ((g_0.n).toNat))), (24, .int x351)], [(9542, some (35, dR 10 (.intss l348))), (8589934602, some (3, dF (.intss l348))), (50, some (3, .ints l349))], [(1, some [.int g_0.n, .ro false (.pairs g_0.bars)])]⟩ : PS)
     refine vSeq ?_
     refine vRegion ?_
     refine oVal tt rfl rfl rfl rfl rfl trivial ?_
     refine vNil ?_
     change VC _ _ _ _
     refine vSeq ?_
     refine vCond rfl (fun hb6 => ?_) (fun hb6 => ?_)
     ·replace h := cnd_t hb6 h
      refine vSkip ?_
      change VC _ _ _ _
      refine vSeq ?_
      refine vBlock ?_
      refine vSeq ?_
      refine vRegion ?_
      refine oVal tt rfl rfl rfl rfl rfl trivial ?_
      refine oAlloc tt rfl rfl rfl rfl rfl rfl rfl rfl rfl ?_
      refine oStore tt rfl rfl rfl rfl rfl rfl rfl rfl rfl rfl rfl ⟨trivial, trivial⟩ ?_
      refine vNil ?_
      change VC _ _ _ _
      refine vSeq ?_
      refine vRegion ?_
      iterate 3 refine oVal tt rfl rfl rfl rfl rfl trivial ?_
      obtain ⟨v355, hc7, h⟩ := bind_inv h
      refine oCall (I_setOf_w N x351 g_0.n v355 hc7) rfl rfl rfl rfl rfl rfl rfl rfl ⟨rfl, rfl, trivial⟩ ?_
      refine oVal tt rfl rfl rfl rfl rfl trivial ?_
      refine vNil ?_
      change VC _ _ _ _
      refine vSeq ?_
      refine vRegion ?_
      refine oMakeFunc rfl [6] rfl rfl rfl rfl ?_
      refine oVal tt rfl rfl rfl rfl rfl trivial ?_
      refine vNil ?_
      change VC _ _ _ _
      refine vSeq ?_
      refine vRegion ?_
      iterate 5 refine oVal tt rfl rfl rfl rfl rfl trivial ?_
      refine oSplit rfl rfl rfl (fun hb8 => ?_) (fun hb8 => ?_)
      ·replace h := cnd_t hb8 h
       iterate 2 refine oValG tt rfl rfl rfl rfl rfl hb8 rfl rfl rfl trivial ?_
       obtain ⟨hg9, h⟩ := grd_inv h
       refine oRowT 37 50 hg9 rfl ?_
       obtain ⟨v356, hc10, h⟩ := bind_inv h
       refine oMCallG (G_ContainsFunc_int_w N l349 x351 v356 hc10) [50] [6] [50] rfl rfl rfl rfl hb8 rfl rfl rfl rfl rfl ⟨rfl, trivial⟩ ⟨rfl, trivial⟩ ⟨⟨rfl, rfl⟩, ⟨rfl, rfl⟩, trivial⟩ ?_
       refine oValG tt rfl rfl rfl rfl rfl hb8 rfl rfl rfl trivial ?_
       refine oPick rfl rfl rfl rfl rfl hb8 rfl ?_
       refine oVal tt rfl rfl rfl rfl rfl trivial ?_
       refine oSplit rfl rfl rfl (fun hb11 => ?_) (fun hb11 => ?_)
       ·replace h := cnd_t hb11 h
        iterate 2 refine oValG tt rfl rfl rfl rfl rfl hb11 rfl rfl rfl trivial ?_
        obtain ⟨v357, hc12, h⟩ := bind_inv h
        refine oCallG (I_isGlobal_w N g_0 x351 v357 hc12) rfl rfl rfl rfl hb11 rfl rfl rfl rfl rfl rfl rfl ⟨⟨rfl, rfl, trivial⟩, rfl, trivial⟩ ?_
        refine oPick rfl rfl rfl rfl rfl hb11 rfl ?_
        refine vNil ?_
        change VC _ _ _ _
        refine vCond rfl (fun hb13 => ?_) (fun hb13 => ?_)
        ·replace h := cnd_t hb13 h
         refine vSeq ?_
         refine vRegion ?_
         iterate 2 refine oVal tt rfl rfl rfl rfl rfl trivial ?_
         refine oBuild tt rfl rfl rfl rfl rfl rfl rfl rfl rfl rfl rfl ?_
         obtain ⟨hg14, h⟩ := grd_inv h
         obtain ⟨hg15, h⟩ := grd_inv h
         refine oAppendP tt rfl rfl rfl rfl rfl rfl rfl rfl rfl rfl rfl rfl rfl rfl rfl hg14 (Nat.le_of_eq (Nat.zero_add _)) hg15 ?_
         refine oVal tt rfl rfl rfl rfl rfl trivial ?_
         refine vNil ?_
         change VC _ _ _ _
         refine vRegion ?_
         iterate 2 refine oVal tt rfl rfl rfl rfl rfl trivial ?_
         refine vEnO (En.adopt 52 1300 9542 10 (q := (.intss l348)) rfl rfl rfl rfl rfl rfl (by simp [Sq.len, Fq.len, famOf, Fq.hole]) (pushI _ _) rfl (d' := .irow 10 l348.length v355.length) (by simp [Fq.len]) rfl) ?_
         refine oBuildI tt rfl rfl rfl rfl rfl rfl rfl rfl rfl rfl ?_
         obtain ⟨hg16, h⟩ := grd_inv h
         refine oAppendD (.intss (l348 ++ [v355])) tt (q := (.intss l348)) rfl rfl rfl rfl rfl rfl rfl rfl (Nat.le_of_eq (Nat.zero_add _)) rfl rfl rfl rfl rfl rfl rfl (appI 10 l348 v355) hg16 ?_
         refine oVal tt rfl rfl rfl rfl rfl trivial ?_
         refine vNil ?_
         change VC _ _ _ _
         refine vRegion ?_
         obtain ⟨hg17, h⟩ := grd_inv h
         refine oVal tt rfl rfl rfl rfl rfl hg17 ?_
         refine oVal tt rfl rfl rfl rfl rfl trivial ?_
         refine vNil ?_
         change ∃ _, _
         exact ⟨((l348 ++ [v355]), ((v356.2.take n350) ++ ([x351] : List Int)), ((v356.2.take n350) ++ ([x351] : List Int)).length, (x351 + (1 : Int))), (En.of ⟨rfl, rfl, rfl, rfl, rfl, rfl, trivial⟩ ⟨rfl, rfl, rfl, trivial⟩ ⟨rfl, trivial⟩), h⟩
        ·replace h := cnd_f hb13 h
         refine vSkip ?_
         change VC _ _ _ _
         refine vRegion ?_
         obtain ⟨hg18, h⟩ := grd_inv h
         refine oVal tt rfl rfl rfl rfl rfl hg18 ?_
         refine oVal tt rfl rfl rfl rfl rfl trivial ?_
         refine vNil ?_
         change ∃ _, _
         exact ⟨(l348, v356.2, n350, (x351 + (1 : Int))), (En.of ⟨rfl, rfl, rfl, rfl, rfl, rfl, trivial⟩ ⟨rfl, rfl, rfl, trivial⟩ ⟨rfl, trivial⟩), h⟩
       ·replace h := cnd_f hb11 h
        iterate 3 refine oNoT rfl rfl rfl rfl hb11 rfl rfl ?_
        refine oPickF rfl rfl rfl rfl rfl hb11 rfl ?_
        refine vNil ?_
        change VC _ _ _ _
        refine vCondF rfl rfl ?_
        refine vSkip ?_
        change VC _ _ _ _
        refine vRegion ?_
        obtain ⟨hg19, h⟩ := grd_inv h
        refine oVal tt rfl rfl rfl rfl rfl hg19 ?_
        refine oVal tt rfl rfl rfl rfl rfl trivial ?_
        refine vNil ?_
        change ∃ _, _
        exact ⟨(l348, v356.2, n350, (x351 + (1 : Int))), (En.of ⟨rfl, rfl, rfl, rfl, rfl, rfl, trivial⟩ ⟨rfl, rfl, rfl, trivial⟩ ⟨rfl, trivial⟩), h⟩
      ·replace h := cnd_f hb8 h
       iterate 4 refine oNoT rfl rfl rfl rfl hb8 rfl rfl ?_
       refine oPickF rfl rfl rfl rfl rfl hb8 rfl ?_
       refine oVal tt rfl rfl rfl rfl rfl trivial ?_
       iterate 3 refine oNoT rfl rfl rfl rfl rfl rfl rfl ?_
       refine oPickF rfl rfl rfl rfl rfl rfl rfl ?_
       refine vNil ?_
       change VC _ _ _ _
       refine vCondF rfl rfl ?_
       refine vSkip ?_
       change VC _ _ _ _
       refine vRegion ?_
       obtain ⟨hg20, h⟩ := grd_inv h
       refine oVal tt rfl rfl rfl rfl rfl hg20 ?_
       refine oVal tt rfl rfl rfl rfl rfl trivial ?_
       refine vNil ?_
       change ∃ _, _
       exact ⟨(l348, l349, n350, (x351 + (1 : Int))), (En.of ⟨rfl, rfl, rfl, rfl, rfl, rfl, trivial⟩ ⟨rfl, rfl, rfl, trivial⟩ ⟨rfl, trivial⟩), h⟩
     ·replace h := cnd_f hb6 h
      refine vExit ?_
      change ∃ _, _
      exact ⟨(l348, l349, n350), (En.of ⟨rfl, rfl, rfl, rfl, trivial⟩ ⟨rfl, rfl, rfl, trivial⟩ ⟨rfl, trivial⟩), h⟩
   ·replace h := cnd_f hb3 h
    refine vExit ?_
    change ∃ _, _
    exact ⟨l294, (En.ren [9531] [9542] rfl ⟨.inr rfl, trivial⟩ ⟨.inr rfl, .inr rfl, trivial⟩ trivial), h⟩
end Go.Proofs.Ytkklfgcelmeccaa
