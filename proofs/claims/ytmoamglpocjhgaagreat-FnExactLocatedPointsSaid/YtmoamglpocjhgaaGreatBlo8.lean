/- Texts that the proof needs, put together: G106 G108 Qx Qy Pj Pk M15 G88 Qj G68 Ql Qz G107. -/
import Derived.Test.YtmoamglpocjhgaaGreatBlo3
import Derived.Test.YtmoamglpocjhgaaGreatBlo4
import Derived.Test.YtmoamglpocjhgaaGreatBlo5
import Derived.Test.YtmoamglpocjhgaaGreatBlo6
import Derived.Test.YtmoamglpocjhgaaGreatBlo7
set_option linter.unusedVariables false
set_option linter.unusedSimpArgs false
namespace Go.Proofs.YtmoamglpocjhgaaGreat
open Go.RowKit
def I_LocatedPoints_l1 (N : Nat) (g_0 : Grf) (v1 : Grf × Bool) (base4 : Int) (k : Int → Option (List Int)) : Nat → (Int × Int) → Option (List Int)
 | 0, _ => none
 | n + 1, (all14, x15) =>
  cnd (decide (x15 < ((1 : Int) * 2 ^ ((g_0.n).toNat)))) (
   cnd ((andI x15 base4) == base4) (
    (I_isGlobal N v1.1 x15).bind fun v17 =>
    cnd v17 (
     grd (Rg64 (x15 + (1 : Int))) <|
     I_LocatedPoints_l1 N g_0 v1 base4 k n ((orI all14 x15), (x15 + (1 : Int)))) (
     grd (Rg64 (x15 + (1 : Int))) <|
     I_LocatedPoints_l1 N g_0 v1 base4 k n (all14, (x15 + (1 : Int))))) (
    grd (Rg64 (x15 + (1 : Int))) <|
    I_LocatedPoints_l1 N g_0 v1 base4 k n (all14, (x15 + (1 : Int))))) (
   k all14)
def I_LocatedPoints_l2 (N : Nat) (anchors_1 : List Int) (k : Int → Option (List Int)) : Nat → (Int × Int) → Option (List Int)
 | 0, _ => none
 | n + 1, (base19, x20) =>
  cnd (decide (x20 < (anchors_1.length : Int))) (
   grd (0 ≤ x20 ∧ x20 < (anchors_1.length : Int)) <|
   grd (0 ≤ (anchors_1.getD ((x20).toNat) 0) ∧ (anchors_1.getD ((x20).toNat) 0) < 64 ∧ Rg64 ((1 : Int) * 2 ^ (((anchors_1.getD ((x20).toNat) 0)).toNat))) <|
   grd (Rg64 (x20 + (1 : Int))) <|
   I_LocatedPoints_l2 N anchors_1 k n ((orI base19 ((1 : Int) * 2 ^ (((anchors_1.getD ((x20).toNat) 0)).toNat))), (x20 + (1 : Int)))) (
   k base19)
def I_LocatedPoints (N : Nat) (g_0 : Grf) (anchors_1 : List Int) : Option (List Int) :=
 (I_AnchoredGraph N g_0 anchors_1).bind fun v1 =>
 cnd (!v1.2) (
  some ([] : List Int)) (
  cnd (decide ((anchors_1.length : Int) < (3 : Int))) (
   some ([] : List Int)) (
   I_LocatedPoints_l2 N anchors_1 (fun (base4 : Int) =>
      grd (0 ≤ g_0.n ∧ g_0.n < 64 ∧ Rg64 ((1 : Int) * 2 ^ ((g_0.n).toNat))) <|
      I_LocatedPoints_l1 N g_0 v1 base4 (fun (all10 : Int) =>
         (I_setOf N all10 g_0.n).bind fun v11 =>
         some v11) N ((0 : Int), (0 : Int))) N ((0 : Int), (0 : Int))))
set_option maxRecDepth 20000 in
set_option maxHeartbeats 1600000 in
theorem I_LocatedPoints_w (N : Nat) (g_0 : Grf) (anchors_1 : List Int) (r : List Int) (h : I_LocatedPoints N g_0 anchors_1 = some r) : PCall Tryz.prog 10 [gD g_0, .ro false (.ints anchors_1)] [(3, .ints r)] (.row 0 0 r.length) := by
 unfold I_LocatedPoints at h
 refine pcall_intro (TT := TT) tt Tryz.func10 rfl rfl Tryz.ntmps10 (congrArg Array.toList Tryz.results10) rfl rfl fun w0 => ?_
 refine vSeq ?_
 refine vRegion ?_
 refine oBox rfl rfl rfl rfl rfl rfl rfl rfl rfl ?_
 refine oVal tt rfl rfl rfl rfl rfl trivial ?_
 refine vNil ?_
 change VC _ _ _ _
 refine vSeq ?_
 refine vRegion ?_
 iterate 2 refine oVal tt rfl rfl rfl rfl rfl trivial ?_
 obtain ⟨v1, hc1, h⟩ := bind_inv h
 refine oCall (I_AnchoredGraph_w N g_0 anchors_1 v1 hc1) rfl rfl rfl rfl rfl rfl rfl rfl ⟨⟨rfl, rfl, trivial⟩, rfl, trivial⟩ ?_
 iterate 3 refine oVal tt rfl rfl rfl rfl rfl trivial ?_
 refine oAlloc tt rfl rfl rfl rfl rfl rfl rfl rfl rfl ?_
 refine oStore tt rfl rfl rfl rfl rfl rfl rfl rfl rfl rfl rfl ⟨trivial, trivial, trivial⟩ ?_
 refine oVal tt rfl rfl rfl rfl rfl trivial ?_
 refine vNil ?_
 change VC _ _ _ _
 iterate 2 refine vSeq ?_
 refine vRegion ?_
 iterate 3 refine oVal tt rfl rfl rfl rfl rfl trivial ?_
 refine oSplit rfl rfl rfl (fun hb2 => ?_) (fun hb2 => ?_)
 ·replace h := cnd_t hb2 h
  iterate 3 refine oNoF rfl rfl rfl rfl hb2 rfl rfl ?_
  refine oPick rfl rfl rfl rfl rfl hb2 rfl ?_
  refine vNil ?_
  change VC _ _ _ _
  refine vCondT rfl rfl ?_
  refine vSeq ?_
  refine vRegion ?_
  refine oEmpty tt (wNone rfl) rfl rfl rfl rfl ?_
  refine oVal tt rfl rfl rfl rfl rfl trivial ?_
  refine vNil ?_
  change VC _ _ _ _
  refine vNilT 4 9001 3 (.ints []) rfl rfl rfl rfl ?_
  refine vRet ?_
  change ∃ _, _
  cases h
  exact ⟨[9001], _, rfl, ⟨rfl, trivial⟩, rfl, (.eq rfl), rfl⟩
 ·replace h := cnd_f hb2 h
  iterate 3 refine oValG tt rfl rfl rfl rfl rfl hb2 rfl rfl rfl trivial ?_
  refine oPickF rfl rfl rfl rfl rfl hb2 rfl ?_
  refine vNil ?_
  change VC _ _ _ _
  refine vCond rfl (fun hb3 => ?_) (fun hb3 => ?_)
  ·replace h := cnd_t hb3 h
   refine vSeq ?_
   refine vRegion ?_
   refine oEmpty tt (wNone rfl) rfl rfl rfl rfl ?_
   refine oVal tt rfl rfl rfl rfl rfl trivial ?_
   refine vNil ?_
   change VC _ _ _ _
   refine vNilT 4 9001 3 (.ints []) rfl rfl rfl rfl ?_
   refine vRet ?_
   change ∃ _, _
   cases h
   exact ⟨[9001], _, rfl, ⟨rfl, trivial⟩, rfl, (.eq rfl), rfl⟩
  ·replace h := cnd_f hb3 h
   refine vSkip ?_
   change VC _ _ _ _
   refine vSeq ?_
   refine vRegion ?_
   refine oVal tt rfl rfl rfl rfl rfl trivial ?_
   refine vNil ?_
   change VC _ _ _ _
   iterate 2 refine vSeq ?_
   refine vRegion ?_
   iterate 3 refine oVal tt rfl rfl rfl rfl rfl trivial ?_
   refine vNil ?_
   change VC _ _ _ _
   refine vJoin (F := fun k => I_LocatedPoints_l2 N anchors_1 k) h (α := Int) (J := fun (base4 : Int) => (⟨[(2, .ptr 2 0), (5, .ptr 5 0), (7, .int base4)], [(1150, some (39, .pairs v1.1.bars))], [(2, some [.int g_0.n, .ro false (.pairs g_0.bars)]), (5, some [.int v1.1.n, .row 1150 0 v1.1.bars.length])]⟩ : PS)) ?_ ?_
   ·rintro base4 h
    show VC _ _ _ (⟨[(2, .ptr 2 0), (5, .ptr 5 0), (7, .int base4)], [(1150, some (39, .pairs v1.1.bars))], [(2, some [.int g_0.n, .ro false (.pairs g_0.bars)]), (5, some [.int v1.1.n, .row 1150 0 v1.1.bars.length])]⟩ : PS)
    refine vSeq ?_
    refine vRegion ?_
    refine oVal tt rfl rfl rfl rfl rfl trivial ?_
    refine vNil ?_
    change VC _ _ _ _
    iterate 2 refine vSeq ?_
    refine vRegion ?_
    iterate 2 refine oVal tt rfl rfl rfl rfl rfl trivial ?_
    obtain ⟨hg4, h⟩ := grd_inv h
    refine oVal tt rfl rfl rfl rfl rfl hg4 ?_
    refine oVal tt rfl rfl rfl rfl rfl trivial ?_
    refine vNil ?_
    change VC _ _ _ _
    refine vJoin (F := fun k => I_LocatedPoints_l1 N g_0 v1 base4 k) h (α := Int) (J := fun (all10 : Int) => (⟨[(2, .ptr 2 0), (10, .int all10)], [], [(2, some [.int g_0.n, .ro false (.pairs g_0.bars)])]⟩ : PS)) ?_ ?_
    ·rintro all10 h
     show VC _ _ _ (⟨[(2, .ptr 2 0), (10, .int all10)], [], [(2, some [.int g_0.n, .ro false (.pairs g_0.bars)])]⟩ : PS)
     refine vSeq ?_
     refine vRegion ?_
     iterate 3 refine oVal tt rfl rfl rfl rfl rfl trivial ?_
     obtain ⟨v11, hc5, h⟩ := bind_inv h
     refine oCall (I_setOf_w N all10 g_0.n v11 hc5) rfl rfl rfl rfl rfl rfl rfl rfl ⟨rfl, rfl, trivial⟩ ?_
     refine oVal tt rfl rfl rfl rfl rfl trivial ?_
     refine vNil ?_
     change VC _ _ _ _
     refine vRet ?_
     change ∃ _, _
     cases h
     exact ⟨[1600], _, rfl, ⟨rfl, trivial⟩, rfl, (.eq rfl), rfl⟩
    ·intro k h
     refine vBlock ?_
     refine vLoopS (α := Int × Int) (fun | (all14, x15) => (⟨[(2, .ptr 2 0), (5, .ptr 5 0), (7, .int base4), (10, .int all14), (39, .int ((1 : Int) * 2 ^ ((g_0.n).toNat))), (40, .int x15)], [(1150, some (39, .pairs v1.1.bars))], [(2, some [.int g_0.n, .ro false (.pairs g_0.bars)]), (5, some [.int v1.1.n, .row 1150 0 v1.1.bars.length])]⟩ : PS)) (I_LocatedPoints_l1 N g_0 v1 base4 k) h (En.of ⟨rfl, rfl, rfl, rfl, rfl, rfl, trivial⟩ ⟨rfl, trivial⟩ ⟨rfl, rfl, trivial⟩) (fun _ => rfl) ?_
     rintro n ⟨all14, x15⟩ h
     rw [I_LocatedPoints_l1] at h
     show VC _ _ _ (⟨[(2, .ptr 2 0), (5, .ptr 5 0), (7, .int base4), (10, .int all14), (39, .int ((1 : Int) * 2 ^ ((g_0.n).toNat))), (40, .int x15)], [(1150, some (39, .pairs v1.1.bars))], [(2, some [.int g_0.n, .ro false (.pairs g_0.bars)]), (5, some [.int v1.1.n, .row 1150 0 v1.1.bars.length])]⟩ : PS)
     refine vSeq ?_
     refine vRegion ?_
     refine oVal tt rfl rfl rfl rfl rfl trivial ?_
     refine vNil ?_
     change VC _ _ _ _
     refine vSeq ?_
     refine vCond rfl (fun hb6 => ?_) (fun hb6 => ?_)
     ·replace h := cnd_t hb6 h
      refine vSkip ?_
      change VC _ _ _ _
      refine vSeq ?_
      refine vBlock ?_
      refine vSeq ?_
      refine vRegion ?_
      iterate 2 refine oVal tt rfl rfl rfl rfl rfl trivial ?_
      refine vNil ?_
      change VC _ _ _ _
      refine vSeq ?_
      refine vRegion ?_
      iterate 6 refine oVal tt rfl rfl rfl rfl rfl trivial ?_
      refine oSplit rfl rfl rfl (fun hb7 => ?_) (fun hb7 => ?_)
      ·replace h := cnd_t hb7 h
       iterate 2 refine oValG tt rfl rfl rfl rfl rfl hb7 rfl rfl rfl trivial ?_
       obtain ⟨v17, hc8, h⟩ := bind_inv h
       refine oCallG (I_isGlobal_w N v1.1 x15 v17 hc8) rfl rfl rfl rfl hb7 rfl rfl rfl rfl rfl rfl rfl ⟨⟨rfl, (.inl ⟨rfl, rfl⟩), trivial⟩, rfl, trivial⟩ ?_
       refine oPick rfl rfl rfl rfl rfl hb7 rfl ?_
       refine vNil ?_
       change VC _ _ _ _
       refine vCond rfl (fun hb9 => ?_) (fun hb9 => ?_)
       ·replace h := cnd_t hb9 h
        refine vRegion ?_
        iterate 4 refine oVal tt rfl rfl rfl rfl rfl trivial ?_
        refine vNil ?_
        change VC _ _ _ _
        refine vRegion ?_
        obtain ⟨hg10, h⟩ := grd_inv h
        refine oVal tt rfl rfl rfl rfl rfl hg10 ?_
        refine oVal tt rfl rfl rfl rfl rfl trivial ?_
        refine vNil ?_
        change ∃ _, _
        exact ⟨((orI all14 x15), (x15 + (1 : Int))), (En.of ⟨rfl, rfl, rfl, rfl, rfl, rfl, trivial⟩ ⟨rfl, trivial⟩ ⟨rfl, rfl, trivial⟩), h⟩
       ·replace h := cnd_f hb9 h
        refine vSkip ?_
        change VC _ _ _ _
        refine vRegion ?_
        obtain ⟨hg11, h⟩ := grd_inv h
        refine oVal tt rfl rfl rfl rfl rfl hg11 ?_
        refine oVal tt rfl rfl rfl rfl rfl trivial ?_
        refine vNil ?_
        change ∃ _, _
        exact ⟨(all14, (x15 + (1 : Int))), (En.of ⟨rfl, rfl, rfl, rfl, rfl, rfl, trivial⟩ ⟨rfl, trivial⟩ ⟨rfl, rfl, trivial⟩), h⟩
      ·replace h := cnd_f hb7 h
       iterate 3 refine oNoT rfl rfl rfl rfl hb7 rfl rfl ?_
       refine oPickF rfl rfl rfl rfl rfl hb7 rfl ?_
       refine vNil ?_
       change VC _ _ _ _
       refine vCondF rfl rfl ?_
       refine vSkip ?_
       change VC _ _ _ _
       refine vRegion ?_
       obtain ⟨hg12, h⟩ := grd_inv h
       refine oVal tt rfl rfl rfl rfl rfl hg12 ?_
       refine oVal tt rfl rfl rfl rfl rfl trivial ?_
       refine vNil ?_
       change ∃ _, _
       exact ⟨(all14, (x15 + (1 : Int))), (En.of ⟨rfl, rfl, rfl, rfl, rfl, rfl, trivial⟩ ⟨rfl, trivial⟩ ⟨rfl, rfl, trivial⟩), h⟩
     ·replace h := cnd_f hb6 h
      refine vExit ?_
      change ∃ _, _
      exact ⟨all14, (En.of ⟨rfl, rfl, trivial⟩ trivial ⟨rfl, trivial⟩), h⟩
   ·intro k h
    refine vBlock ?_
    refine vLoopS (α := Int × Int) (fun | (base19, x20) => (⟨[(2, .ptr 2 0), (5, .ptr 5 0), (7, .int base19), (26, .ro false (.ints anchors_1)), (27, .int (anchors_1.length : Int)), (28, .int x20)], [(1150, some (39, .pairs v1.1.bars))], [(2, some [.int g_0.n, .ro false (.pairs g_0.bars)]), (5, some [.int v1.1.n, .row 1150 0 v1.1.bars.length])]⟩ : PS)) (I_LocatedPoints_l2 N anchors_1 k) h (En.of ⟨rfl, rfl, rfl, rfl, rfl, rfl, trivial⟩ ⟨rfl, trivial⟩ ⟨rfl, rfl, trivial⟩) (fun _ => rfl) ?_
    rintro n ⟨base19, x20⟩ h
    rw [I_LocatedPoints_l2] at h
    show VC _ _ _ (⟨[(2, .ptr 2 0), (5, .ptr 5 0), (7, .int base19), (26, .ro false (.ints anchors_1)), (27, .int (anchors_1.length : Int)), (28, .int x20)], [(1150, some (39, .pairs v1.1.bars))], [(2, some [.int g_0.n, .ro false (.pairs g_0.bars)]), (5, some [.int v1.1.n, .row 1150 0 v1.1.bars.length])]⟩ : PS)
    refine vSeq ?_
    refine vRegion ?_
    refine oVal tt rfl rfl rfl rfl rfl trivial ?_
    refine vNil ?_
    change VC _ _ _ _
    refine vSeq ?_
    refine vCond rfl (fun hb13 => ?_) (fun hb13 => ?_)
    ·replace h := cnd_t hb13 h
     refine vSkip ?_
     change VC _ _ _ _
     refine vSeq ?_
     refine vBlock ?_
     refine vSeq ?_
     refine vRegion ?_
     obtain ⟨hg14, h⟩ := grd_inv h
     refine oVal tt rfl rfl rfl rfl rfl hg14 ?_
     iterate 2 refine oVal tt rfl rfl rfl rfl rfl trivial ?_
     refine vNil ?_
     change VC _ _ _ _
     refine vRegion ?_
     iterate 2 refine oVal tt rfl rfl rfl rfl rfl trivial ?_
     obtain ⟨hg15, h⟩ := grd_inv h
     refine oVal tt rfl rfl rfl rfl rfl hg15 ?_
     iterate 2 refine oVal tt rfl rfl rfl rfl rfl trivial ?_
     refine vNil ?_
     change VC _ _ _ _
     refine vRegion ?_
     obtain ⟨hg16, h⟩ := grd_inv h
     refine oVal tt rfl rfl rfl rfl rfl hg16 ?_
     refine oVal tt rfl rfl rfl rfl rfl trivial ?_
     refine vNil ?_
     change ∃ _, _
     exact ⟨((orI base19 ((1 : Int) * 2 ^ (((anchors_1.getD ((x20).toNat) 0)).toNat))), (x20 + (1 : Int))), (En.of ⟨rfl, rfl, rfl, rfl, rfl, rfl, trivial⟩ ⟨rfl, trivial⟩ ⟨rfl, rfl, trivial⟩), h⟩
    ·replace h := cnd_f hb13 h
     refine vExit ?_
     change ∃ _, _
     exact ⟨base19, (En.of ⟨rfl, rfl, rfl, trivial⟩ ⟨rfl, trivial⟩ ⟨rfl, rfl, trivial⟩), h⟩
end Go.Proofs.YtmoamglpocjhgaaGreat
namespace Go.Proofs.YtmoamglpocjhgaaGreat
open Go.RowKit
def S_MissingBars_l2 (N : Nat) (g_0 : Grf) (a88 : Int) (k : (List (Int × Int)) → Option (List (Int × Int))) : Nat → ((List (Int × Int)) × Int) → Option (List (Int × Int))
 | 0, _ => none
 | n + 1, (l111, b112) =>
  cnd (decide (b112 < g_0.n)) (
   (S_CountBar N g_0 a88 b112).bind fun v114 =>
   cnd (v114 == (0 : Int)) (
    grd (l111.length + 1 ≤ 4294967296) <|
    grd (Rg64 (b112 + (1 : Int))) <|
    S_MissingBars_l2 N g_0 a88 k n ((l111 ++ ([(a88, b112)] : List (Int × Int))), (b112 + (1 : Int)))) (
    grd (Rg64 (b112 + (1 : Int))) <|
    S_MissingBars_l2 N g_0 a88 k n (l111, (b112 + (1 : Int))))) (
   k l111)
def S_MissingBars_l1 (N : Nat) (g_0 : Grf) (k : (List (Int × Int)) → Option (List (Int × Int))) : Nat → ((List (Int × Int)) × Int) → Option (List (Int × Int))
 | 0, _ => none
 | n + 1, (l87, a88) =>
  cnd (decide (a88 < g_0.n)) (
   (S_IsGraph N g_0).bind fun v102 =>
   cnd v102 (
    grd (Rg64 (a88 + (1 : Int))) <|
    S_MissingBars_l2 N g_0 a88 (fun (l108 : List (Int × Int)) =>
       S_MissingBars_l1 N g_0 k n (l108, (a88 + (1 : Int)))) N (l87, (a88 + (1 : Int)))) (
    k l87)) (
   k l87)
def S_MissingBars (N : Nat) (g_0 : Grf) : Option (List (Int × Int)) :=
 S_MissingBars_l1 N g_0 (fun (l57 : List (Int × Int)) =>
    some l57) N (([] : List (Int × Int)), (0 : Int))
end Go.Proofs.YtmoamglpocjhgaaGreat
namespace Go.Proofs.YtmoamglpocjhgaaGreat
variable {N : Nat}
def rowM (bars : List (Int × Int)) (a : Nat) : Nat → List (Int × Int)
 | 0 => []
 | k + 1 => rowM bars a k ++ cnd (cntB bars (a : Int) ((a + 1 + k : Nat) : Int) == 0) [((a : Int), ((a + 1 + k : Nat) : Int))] []
def missM (bars : List (Int × Int)) (n : Nat) : Nat → List (Int × Int)
 | 0 => []
 | a + 1 => missM bars n a ++ rowM bars a (n - (a + 1))
theorem rowM_len (bars : List (Int × Int)) (a : Nat) : ∀ k, (rowM bars a k).length ≤ k
 | 0 => by simp [rowM]
 | k + 1 => by
  have := rowM_len bars a k
  rw [rowM, List.length_append]
  cases (cntB bars (a : Int) ((a + 1 + k : Nat) : Int) == 0) <;> simp [cnd] <;> omega
theorem missM_len (bars : List (Int × Int)) (n : Nat) : ∀ a, (missM bars n a).length ≤ a * n
 | 0 => by simp [missM]
 | a + 1 => by
  have h1 := missM_len bars n a
  have h2 := rowM_len bars a (n - (a + 1))
  rw [missM, List.length_append, Nat.add_mul, Nat.one_mul]; omega
theorem missI2_s (hN : 4000000 ≤ N) {g : Grf} (hb : g.bars.length ≤ 3000000) {n : Nat} (hn : g.n = (n : Int)) (hn8 : n ≤ 1000) {a : Nat} (kk : List (Int × Int) → Option (List (Int × Int))) {L : List (Int × Int)} (hL : L.length ≤ 1000000) :
  ∀ (fuel k : Nat), k ≤ n - (a + 1) → n - (a + 1) < fuel + k → I_MissingBars_l2 N g (a : Int) kk fuel (L ++ rowM g.bars a k, ((a + 1 + k : Nat) : Int)) = kk (L ++ rowM g.bars a (n - (a + 1))) := by
 intro fuel
 induction fuel with
 | zero => intro k h1 h2; omega
 | succ fuel ih =>
  intro k h1 h2
  rw [I_MissingBars_l2]
  by_cases hk : k < n - (a + 1)
  ·have hl := rowM_len g.bars a k
   have hih := ih (k + 1) (by omega) (by omega)
   rw [cnd_dt (by omega), countI_s hN hb, Option.bind_some, ← hih, rowM]
   cases (cntB g.bars (a : Int) ((a + 1 + k : Nat) : Int) == 0) with
   | true => rw [cnd_true, cnd_true, grd_pos (by rw [List.length_append]; omega), grd_R (by omega) (by omega), List.append_assoc, succ_cast]; rfl
   | false => rw [cnd_false, cnd_false, grd_R (by omega) (by omega), List.append_nil, succ_cast]; rfl
  ·rw [cnd_df (by omega), show k = n - (a + 1) from by omega]
theorem missS2_s (hN : 4000000 ≤ N) {g : Grf} (hb : g.bars.length ≤ 3000000) {n : Nat} (hn : g.n = (n : Int)) (hn8 : n ≤ 1000) {a : Nat} (kk : List (Int × Int) → Option (List (Int × Int))) {L : List (Int × Int)} (hL : L.length ≤ 1000000) :
  ∀ (fuel k : Nat), k ≤ n - (a + 1) → n - (a + 1) < fuel + k → S_MissingBars_l2 N g (a : Int) kk fuel (L ++ rowM g.bars a k, ((a + 1 + k : Nat) : Int)) = kk (L ++ rowM g.bars a (n - (a + 1))) := by
 intro fuel
 induction fuel with
 | zero => intro k h1 h2; omega
 | succ fuel ih =>
  intro k h1 h2
  rw [S_MissingBars_l2]
  by_cases hk : k < n - (a + 1)
  ·have hl := rowM_len g.bars a k
   have hih := ih (k + 1) (by omega) (by omega)
   rw [cnd_dt (by omega), countS_s hN hb, Option.bind_some, ← hih, rowM]
   cases (cntB g.bars (a : Int) ((a + 1 + k : Nat) : Int) == 0) with
   | true => rw [cnd_true, cnd_true, grd_pos (by rw [List.length_append]; omega), grd_R (by omega) (by omega), List.append_assoc, succ_cast]; rfl
   | false => rw [cnd_false, cnd_false, grd_R (by omega) (by omega), List.append_nil, succ_cast]; rfl
  ·rw [cnd_df (by omega), show k = n - (a + 1) from by omega]
theorem missing_x (hN : 4000000 ≤ N) {g : Grf} (hb : g.bars.length ≤ 3000000) (hg : isGraph g = true) : S_MissingBars N g = some (missM g.bars g.n.toNat g.n.toNat) ∧ I_MissingBars N g = some (missM g.bars g.n.toNat g.n.toNat) := by
 have hp := isGraph_parts hg
 obtain ⟨n, hn⟩ : ∃ n : Nat, g.n.toNat = n := ⟨_, rfl⟩
 have hn2 : g.n = (n : Int) := by omega
 have hml : ∀ a, a ≤ n → (missM g.bars n a).length ≤ 100 := fun a ha => Nat.le_trans (missM_len _ _ _) (by have := Nat.mul_le_mul ha (Nat.le_refl n); have h3 := Nat.mul_le_mul (show n ≤ 8 by omega) (show n ≤ 8 by omega); omega)
 rw [hn]
 constructor
 ·unfold S_MissingBars
  refine Eq.trans ?_ (fold (N := N) (len := n) (σ := List (Int × Int)) (st := fun a => missM g.bars n a) (F := fun m s => S_MissingBars_l1 N g (fun l57 => some l57) m (s.1, s.2)) (fin := some (missM g.bars n n)) (by omega) (fun m a ha => ?_) fun m => ?_)
  ·rfl
  ·show S_MissingBars_l1 N g _ (m + 1) (missM g.bars n a, (a : Int)) = S_MissingBars_l1 N g _ m (missM g.bars n (a + 1), ((a + 1 : Nat) : Int))
   have hl := hml a (by omega)
   have h2 := missS2_s hN hb hn2 (by omega) (a := a) (fun (l108 : List (Int × Int)) => S_MissingBars_l1 N g (fun l57 => some l57) m (l108, ((a : Int) + (1 : Int)))) (L := missM g.bars n a) (by omega) N 0 (by omega) (by omega)
   rw [S_MissingBars_l1, cnd_dt (by omega), isGraphS_s N hN, Option.bind_some, hg, cnd_true, grd_R (by omega) (by omega)]
   simp only [rowM, List.append_nil, Nat.add_zero] at h2
   rw [succ_cast]
   rw [succ_cast] at h2
   exact h2
  ·show S_MissingBars_l1 N g _ (m + 1) (missM g.bars n n, (n : Int)) = _
   rw [S_MissingBars_l1, cnd_df (by omega)]
 ·unfold I_MissingBars
  rw [isGraphI_s N hN, Option.bind_some, hg, Bool.not_true, cnd_false]
  refine Eq.trans ?_ (fold (N := N) (len := n) (σ := List (Int × Int)) (st := fun a => missM g.bars n a) (F := fun m s => I_MissingBars_l1 N g (fun l57 => some l57) m (s.1, s.2)) (fin := some (missM g.bars n n)) (by omega) (fun m a ha => ?_) fun m => ?_)
  ·rfl
  ·show I_MissingBars_l1 N g _ (m + 1) (missM g.bars n a, (a : Int)) = I_MissingBars_l1 N g _ m (missM g.bars n (a + 1), ((a + 1 : Nat) : Int))
   have hl := hml a (by omega)
   have h2 := missI2_s hN hb hn2 (by omega) (a := a) (fun (l108 : List (Int × Int)) => I_MissingBars_l1 N g (fun l57 => some l57) m (l108, ((a : Int) + (1 : Int)))) (L := missM g.bars n a) (by omega) N 0 (by omega) (by omega)
   rw [I_MissingBars_l1, cnd_dt (by omega), grd_R (by omega) (by omega)]
   simp only [rowM, List.append_nil, Nat.add_zero] at h2
   rw [succ_cast]
   rw [succ_cast] at h2
   exact h2
  ·show I_MissingBars_l1 N g _ (m + 1) (missM g.bars n n, (n : Int)) = _
   rw [I_MissingBars_l1, cnd_df (by omega)]
theorem pr3 {x : Int × Int} (h : 0 ≤ x.1 ∧ x.1 < x.2 ∧ x.2 < 3) : x = (0, 1) ∨ x = (0, 2) ∨ x = (1, 2) := by
 rcases x with ⟨a, b⟩
 simp only [Prod.mk.injEq] at *
 omega
def ltE (x y : Int × Int) : Prop := x.1 < y.1 ∨ (x.1 = y.1 ∧ x.2 < y.2)
theorem small_x {n : Nat} (hn : 1 ≤ n ∧ n ≤ 3) {L : List (Int × Int)} (hB : ∀ e ∈ L, 0 ≤ e.1 ∧ e.1 < e.2 ∧ e.2 < (n : Int)) (hS : ∀ i, i + 1 < L.length → ltE (L.getD i (0, 0)) (L.getD (i + 1) (0, 0))) :
  decide (((missM L n n).length : Int) > (0 : Int)) = decide ((L.length : Int) < Int.tdiv ((n : Int) * ((n : Int) - (1 : Int))) (2 : Int)) := by
 have hB3 : ∀ e ∈ L, e = (0, 1) ∨ e = (0, 2) ∨ e = (1, 2) := fun e he => pr3 (by have := hB e he; omega)
 match L, hB, hS, hB3 with
 | [], _, _, _ =>
  obtain rfl | rfl | rfl : n = 1 ∨ n = 2 ∨ n = 3 := by omega
  all_goals decide
 | [x], hB, hS, hB3 =>
  have b1 := hB x (by simp)
  rcases hB3 x (by simp) with rfl | rfl | rfl
  all_goals
   obtain rfl | rfl | rfl : n = 1 ∨ n = 2 ∨ n = 3 := by omega
   all_goals first | decide | (exfalso; simp at b1; done) | (exfalso; simp at b1; omega)
 | [x, y], hB, hS, hB3 =>
  have b1 := hB x (by simp)
  have b2 := hB y (by simp)
  have s1 : ltE x y := hS 0 (by simp)
  unfold ltE at s1
  rcases hB3 x (by simp) with rfl | rfl | rfl
  all_goals
   rcases hB3 y (by simp) with rfl | rfl | rfl
   all_goals
    obtain rfl | rfl | rfl : n = 1 ∨ n = 2 ∨ n = 3 := by omega
    all_goals first | decide | (exfalso; simp at b1 b2 s1; done) | (exfalso; simp at b1 b2 s1; omega)
 | [x, y, z], hB, hS, hB3 =>
  have b1 := hB x (by simp)
  have b2 := hB y (by simp)
  have b3 := hB z (by simp)
  have s1 : ltE x y := hS 0 (by simp)
  have s2 : ltE y z := hS 1 (by simp)
  unfold ltE at s1 s2
  have e1 : x = (0, 1) := by rcases hB3 x (by simp) with h | h | h <;> rcases hB3 y (by simp) with h' | h' | h' <;> rcases hB3 z (by simp) with h'' | h'' | h'' <;> subst h <;> subst h' <;> subst h'' <;> first | rfl | (exfalso; simp at s1 s2)
  have e2 : y = (0, 2) := by subst e1; rcases hB3 y (by simp) with h' | h' | h' <;> rcases hB3 z (by simp) with h'' | h'' | h'' <;> subst h' <;> subst h'' <;> first | rfl | (exfalso; simp at s1 s2)
  have e3 : z = (1, 2) := by subst e1; subst e2; rcases hB3 z (by simp) with h'' | h'' | h'' <;> subst h'' <;> first | rfl | (exfalso; simp at s1 s2)
  subst e1; subst e2; subst e3
  obtain rfl : n = 3 := by simp at b3; omega
  decide
 | x :: y :: z :: w :: rest, hB, hS, hB3 =>
  exfalso
  have b1 := hB x (by simp)
  have b2 := hB y (by simp)
  have b3 := hB z (by simp)
  have b4 := hB w (by simp)
  have s1 : ltE x y := hS 0 (by simp)
  have s2 : ltE y z := hS 1 (by simp)
  have s3 : ltE z w := hS 2 (by simp)
  unfold ltE at s1 s2 s3
  omega
theorem why_x (hN : 4000000 ≤ N) {g : Grf} (hb : g.bars.length ≤ 3000000) : ∃ s : ByteArray, S_WhyNotGlobal N g = some s ∧ I_WhyNotGlobal N g = some s := by
 unfold S_WhyNotGlobal I_WhyNotGlobal
 rw [l17Simple_s N hN hb, isGraphI_s N hN, hasDoubles_s N hN hb, Option.bind_some, Option.bind_some, Option.bind_some]
 unfold isSimple
 cases hg : isGraph g with
 | false => exact ⟨_, rfl, rfl⟩
 | true =>
  have hp := isGraph_parts hg
  rw [Bool.true_and, Bool.not_true, cnd_false]
  cases hd : hasDbl g.bars with
  | true => exact ⟨_, rfl, rfl⟩
  | false =>
   rw [Bool.not_false, Bool.not_true, cnd_false, cnd_false]
   obtain ⟨b1, r1, r2⟩ := rigid_x hN (g := g)
   obtain ⟨b2, k1, k2⟩ := kconn_x hN hb (g := g) (k := 3)
   obtain ⟨b3, q1, q2⟩ := redundant_x hN hb (g := g)
   by_cases h3 : g.n ≤ 3
   ·obtain ⟨m1, m2⟩ := missing_x hN hb hg
    have hsm := small_x (n := g.n.toNat) (by omega) (L := g.bars) (fun e he => by have := isGraph_bar hg he; omega) (fun i hi => by
     have h5 := hp.2.2 (i + 1) hi
     have h6 : doubleAt g.bars (i + 1) = false := by
      cases h : doubleAt g.bars (i + 1) with
      | false => rfl
      | true => rw [hasDbl_true (i + 1) hi h] at hd; cases hd
     simp only [barAt, barLeB, Bool.and_eq_true, Bool.or_eq_true, decide_eq_true_eq, Nat.add_sub_cancel, beq_iff_eq] at h5
     simp only [doubleAt, Nat.add_sub_cancel, Bool.and_eq_false_iff, decide_eq_false_iff_not, beq_eq_false_iff_ne] at h6
     have h7 : g.bars.getD i (0, 0) ≠ g.bars.getD (i + 1) (0, 0) := by
      rcases h6 with h6 | h6
      ·omega
      ·exact h6
     unfold ltE
     rcases h5.2 with h8 | h8 | ⟨h8, h9⟩
     ·omega
     ·exact .inl h8
     ·refine .inr ⟨h8, ?_⟩
      by_cases h10 : (g.bars.getD i (0, 0)).2 = (g.bars.getD (i + 1) (0, 0)).2
      ·exact absurd (Prod.ext h8 h10) h7
      ·omega)
    have hnn : ((g.n.toNat : Nat) : Int) = g.n := by omega
    rw [hnn] at hsm
    rw [cnd_dt h3, cnd_dt h3, m2, Option.bind_some, hsm, cnd_df (show ¬ g.n > 3 by omega)]
    have hr : Rg64 (g.n - 1) ∧ Rg64 (g.n * (g.n - 1)) ∧ ((2 : Int) ≠ 0 ∧ Rg64 (Int.tdiv (g.n * (g.n - 1)) 2)) := by
     obtain h | h | h : g.n = 1 ∨ g.n = 2 ∨ g.n = 3 := by omega
     all_goals rw [h]; decide
    rw [grd_pos hr.1, grd_pos hr.2.1, grd_pos hr.2.2]
    cases decide ((g.bars.length : Int) < Int.tdiv (g.n * (g.n - 1)) 2) <;> exact ⟨_, rfl, rfl⟩
   ·rw [cnd_df h3, cnd_df h3, cnd_dt (show g.n > 3 by omega), r1, r2, k1, k2, q1, q2]
    cases b1 <;> cases b2 <;> cases b3 <;> exact ⟨_, rfl, rfl⟩
theorem global_x (hN : 4000000 ≤ N) {g : Grf} (hb : g.bars.length ≤ 3000000) : ∃ b : Bool, S_IsGloballyRigid N g = some b ∧ I_IsGloballyRigid N g = some b := by
 unfold S_IsGloballyRigid I_IsGloballyRigid
 obtain ⟨s, h1, h2⟩ := why_x hN hb
 rw [h1, h2]
 exact ⟨_, rfl, rfl⟩
end Go.Proofs.YtmoamglpocjhgaaGreat
namespace Go.Proofs.YtmoamglpocjhgaaGreat
theorem ofInt_nat {a : Nat} (ha : a < 4611686018427387904) : (BitVec.ofInt 64 (a : Int)).toNat = a := by
 rw [BitVec.toNat_ofInt]
 omega
theorem andI_nat {a b : Nat} (ha : a < 4611686018427387904) (hb : b < 4611686018427387904) : andI (a : Int) (b : Int) = ((a &&& b : Nat) : Int) := by
 unfold andI
 rw [BitVec.toNat_and, ofInt_nat ha, ofInt_nat hb]
 have h : a &&& b ≤ a := Nat.and_le_left
 exact w64_id (by omega) (by omega)
theorem orI_nat {a b : Nat} (ha : a < 4611686018427387904) (hb : b < 4611686018427387904) : orI (a : Int) (b : Int) = ((a ||| b : Nat) : Int) := by
 unfold orI
 rw [BitVec.toNat_or, ofInt_nat ha, ofInt_nat hb]
 have h : a ||| b < 2 ^ 62 := Nat.or_lt_two_pow (by omega) (by omega)
 exact w64_id (by omega) (by omega)
theorem bitB_nat {m j : Nat} (hm : m < 4611686018427387904) (hj : j < 64) : bitB (m : Int) j = m.testBit j := by
 unfold bitB
 have h1 : shrI (m : Int) (j : Int) = ((m / 2 ^ j : Nat) : Int) := by
  unfold shrI
  rw [show min ((j : Int)).toNat 64 = j from by omega]
  rw [Int.fdiv_eq_ediv_of_nonneg _ (by exact Int.le_of_lt (Int.pow_pos (by omega)))]
  rw [Int.natCast_ediv]; simp
 have h2 : m / 2 ^ j ≤ m := Nat.div_le_self _ _
 rw [h1, show (1 : Int) = ((1 : Nat) : Int) from rfl, andI_nat (by omega) (by omega)]
 rw [Nat.testBit, Nat.shiftRight_eq_div_pow, Nat.and_comm]
 generalize m / 2 ^ j = q
 rw [Nat.one_and_eq_mod_two]
 rcases Nat.mod_two_eq_zero_or_one q with h | h <;> rw [h] <;> rfl
theorem setU_comp {n m : Nat} (hn : n ≤ 8) (hm : m < 2 ^ n) {j : Nat} (hj : j < n) : bitB ((2 ^ n - 1 - m : Nat) : Int) j = !bitB (m : Int) j := by
 have h8 : 2 ^ n ≤ 2 ^ 8 := Nat.pow_le_pow_right (by omega) hn
 have h88 : (2 : Nat) ^ 8 = 256 := by decide
 rw [bitB_nat (by omega) (by omega), bitB_nat (by omega) (by omega)]
 rw [show 2 ^ n - 1 - m = 2 ^ n - (m + 1) from by omega, Nat.testBit_two_pow_sub_succ hm]
 simp [hj]
theorem setU_mem {m k j : Nat} (hj : j < k) : (j : Int) ∈ setU (m : Int) k ↔ bitB (m : Int) j = true := by
 unfold setU
 constructor
 ·intro h
  obtain ⟨i, h1, h2⟩ := List.mem_map.1 h
  have : i = j := by omega
  subst this
  exact (List.mem_filter.1 h1).2
 ·intro h
  exact List.mem_map.2 ⟨j, List.mem_filter.2 ⟨List.mem_range.2 hj, h⟩, rfl⟩
theorem base_all {n m b : Nat} (hn : n ≤ 8) (hm : m < 2 ^ n) (hb : b < 2 ^ n) {A : List Int} (hA : ∀ x ∈ A, 0 ≤ x ∧ x < (n : Int)) (hbit : ∀ j, j < n → (b.testBit j = true ↔ (j : Int) ∈ A)) :
  (andI (m : Int) (b : Int) == (b : Int)) = A.all fun x => (setU (m : Int) n).contains x := by
 have h8 : 2 ^ n ≤ 2 ^ 8 := Nat.pow_le_pow_right (by omega) hn
 have h88 : (2 : Nat) ^ 8 = 256 := by decide
 rw [andI_nat (by omega) (by omega), Bool.eq_iff_iff, beq_iff_eq, List.all_eq_true]
 constructor
 ·intro h x hx
  have hx2 := hA x hx
  obtain ⟨j, rfl⟩ : ∃ j : Nat, x = (j : Int) := ⟨x.toNat, by omega⟩
  have hj : j < n := by omega
  rw [List.contains_iff_mem, setU_mem hj, bitB_nat (by omega) (by omega)]
  have h1 : (m &&& b) = b := by omega
  have h2 := (hbit j hj).2 hx
  rw [← h1, Nat.testBit_and, Bool.and_eq_true] at h2
  exact h2.1
 ·intro h
  have h1 : (m &&& b) = b := by
   apply Nat.eq_of_testBit_eq
   intro j
   rw [Nat.testBit_and]
   cases hbj : b.testBit j with
   | false => simp
   | true =>
    by_cases hj : j < n
    ·have h3 := h (j : Int) ((hbit j hj).1 hbj)
     rw [List.contains_iff_mem, setU_mem hj, bitB_nat (by omega) (by omega)] at h3
     rw [h3]; rfl
    ·have : b.testBit j = false := Nat.testBit_lt_two_pow (Nat.lt_of_lt_of_le hb (Nat.pow_le_pow_right (by omega) (by omega)))
     rw [this] at hbj; cases hbj
  rw [h1]
end Go.Proofs.YtmoamglpocjhgaaGreat
namespace Go.Proofs.YtmoamglpocjhgaaGreat
variable (N : Nat)
def onGrid (p : Int × Int) : Bool := inB p.1 0 4 && inB p.2 0 4
end Go.Proofs.YtmoamglpocjhgaaGreat
namespace Go.Proofs.YtmoamglpocjhgaaGreat
variable (N : Nat)
end Go.Proofs.YtmoamglpocjhgaaGreat
namespace Go.Proofs.YtmoamglpocjhgaaGreat
open Go.RowKit Go.Deep
section
variable {C : Cx} {ops : Array Oper} {Q : Exit → PS → Prop} {s : PS} {fuel : Nat} {listed : Array Bool}
end
section
variable {C : Cx} {tm : List (Nat × D)} {rw' : List (Nat × Option (TypeId × Sq))} {bx : List (Nat × Option (List D))} {s' : PS}
end
end Go.Proofs.YtmoamglpocjhgaaGreat
namespace Go.Proofs.YtmoamglpocjhgaaGreat
open Go.RowKit Go.Deep
end Go.Proofs.YtmoamglpocjhgaaGreat
namespace Go.Proofs.YtmoamglpocjhgaaGreat
variable {N : Nat}
section
variable {l : Lnk} {F : List Int}
end
end Go.Proofs.YtmoamglpocjhgaaGreat
namespace Go.Proofs.YtmoamglpocjhgaaGreat
open Go.RowKit
end Go.Proofs.YtmoamglpocjhgaaGreat
namespace Go.Proofs.YtmoamglpocjhgaaGreat
variable {N : Nat}
def stepB (p q : Int × Int) : Bool := onGrid p && (onGrid q && (inB (p.1 - q.1) (-1) 1 && inB (p.2 - q.2) (-1) 1))
def insR : List Int → Int → Bool → List Int
 | [], x, p => cnd (!p) [x] []
 | e :: l, x, p => cnd (decide (e > x)) (cnd (!(p || (e == x))) (x :: e :: insR l x true) (e :: insR l x (p || (e == x)))) (e :: insR l x (p || (e == x)))
theorem insR_true : ∀ (l : List Int) (x : Int), insR l x true = l
 | [], x => rfl
 | e :: l, x => by
  rw [insR, Bool.true_or, Bool.not_true, cnd_false, insR_true, cnd_same]
theorem insR_perm : ∀ {l : List Int} {x : Int}, x ∉ l → (insR l x false).Perm (x :: l)
 | [], x, _ => List.Perm.refl _
 | e :: l, x, h => by
  have hne : (e == x) = false := by rw [beq_eq_false_iff_ne]; exact fun h' => h (by simp [h'])
  have hx : x ∉ l := fun h' => h (by simp [h'])
  rw [insR, hne, Bool.or_false, Bool.not_false, cnd_true]
  by_cases he : e > x
  ·rw [cnd_dt he, insR_true]
  ·rw [cnd_df he]
   exact ((insR_perm hx).cons e).trans (List.Perm.swap x e l)
theorem insR_srt : ∀ {l : List Int} {x : Int}, x ∉ l → l.Pairwise (· ≤ ·) → (insR l x false).Pairwise (· ≤ ·)
 | [], x, _, _ => List.pairwise_singleton _ _
 | e :: l, x, h, hs => by
  have hne : (e == x) = false := by rw [beq_eq_false_iff_ne]; exact fun h' => h (by simp [h'])
  have hx : x ∉ l := fun h' => h (by simp [h'])
  have hs2 := List.pairwise_cons.1 hs
  rw [insR, hne, Bool.or_false, Bool.not_false, cnd_true]
  by_cases he : e > x
  ·rw [cnd_dt he, insR_true]
   refine List.pairwise_cons.2 ⟨fun y hy => ?_, hs⟩
   rcases List.mem_cons.1 hy with rfl | hy
   ·omega
   ·have := hs2.1 y hy; omega
  ·rw [cnd_df he]
   refine List.pairwise_cons.2 ⟨fun y hy => ?_, insR_srt hx hs2.2⟩
   rcases List.mem_cons.1 ((insR_perm hx).mem_iff.1 hy) with rfl | hy
   ·omega
   ·exact hs2.1 y hy
theorem l5With_s (hN : 4000000 ≤ N) {l : List Int} (hl : l.length ≤ 1000) (x : Int) : S_l5With N l x = some (insR l x false) := by
 have key : ∀ (fuel i : Nat) (out : List Int) (p : Bool), i ≤ l.length → l.length < fuel + i → out.length ≤ i + 1 → (p = false → out.length ≤ i) → S_l5With_l1 N l x (fun (x_1 : (List Int) × Bool) =>
   match x_1 with
   | (l12, placed13) =>
    cnd (!placed13) (
     grd (l12.length + 1 ≤ 4294967296) <|
     some (l12 ++ ([x] : List Int))) (
     some l12)) fuel (out, p, (i : Int)) = some (out ++ insR (l.drop i) x p) := by
  intro fuel
  induction fuel with
  | zero => intro i out p h1 h2; omega
  | succ fuel ih =>
   intro i out p h1 h2 h3 h4
   rw [S_l5With_l1]
   by_cases hi : i < l.length
   ·have e : ((i : Int)).toNat = i := by omega
    have hd : l.drop i = l.getD i 0 :: l.drop (i + 1) := by
     rw [List.drop_eq_getElem_cons hi, List.getD_eq_getElem?_getD, List.getElem?_eq_getElem hi]; rfl
    rw [cnd_dt (by omega), grd_pos (by omega), jn_def, e, hd, insR]
    have step : ∀ q : Bool, (q = false → out.length ≤ i) → cnd (decide (l.getD i 0 > x)) (
       cnd (!q) (
        grd (out.length + 1 ≤ 4294967296) <|
        grd ((out ++ ([x] : List Int)).length + 1 ≤ 4294967296) <|
        grd (Rg64 ((i : Int) + (1 : Int))) <|
        S_l5With_l1 N l x (fun (x_1 : (List Int) × Bool) =>
   match x_1 with
   | (l12, placed13) =>
    cnd (!placed13) (
     grd (l12.length + 1 ≤ 4294967296) <|
     some (l12 ++ ([x] : List Int))) (
     some l12)) fuel (((out ++ ([x] : List Int)) ++ ([l.getD i 0] : List Int)), true, ((i : Int) + (1 : Int)))) (
        grd (out.length + 1 ≤ 4294967296) <|
        grd (Rg64 ((i : Int) + (1 : Int))) <|
        S_l5With_l1 N l x (fun (x_1 : (List Int) × Bool) =>
   match x_1 with
   | (l12, placed13) =>
    cnd (!placed13) (
     grd (l12.length + 1 ≤ 4294967296) <|
     some (l12 ++ ([x] : List Int))) (
     some l12)) fuel ((out ++ ([l.getD i 0] : List Int)), q, ((i : Int) + (1 : Int))))) (
       grd (out.length + 1 ≤ 4294967296) <|
       grd (Rg64 ((i : Int) + (1 : Int))) <|
       S_l5With_l1 N l x (fun (x_1 : (List Int) × Bool) =>
   match x_1 with
   | (l12, placed13) =>
    cnd (!placed13) (
     grd (l12.length + 1 ≤ 4294967296) <|
     some (l12 ++ ([x] : List Int))) (
     some l12)) fuel ((out ++ ([l.getD i 0] : List Int)), q, ((i : Int) + (1 : Int)))) = some (out ++ cnd (decide (l.getD i 0 > x)) (cnd (!q) (x :: l.getD i 0 :: insR (l.drop (i + 1)) x true) (l.getD i 0 :: insR (l.drop (i + 1)) x q)) (l.getD i 0 :: insR (l.drop (i + 1)) x q)) := by
     intro q hq
     by_cases hg : l.getD i 0 > x
     ·cases q with
      | false =>
       have ho := hq rfl
       have nx := ih (i + 1) ((out ++ [x]) ++ [l.getD i 0]) true (by omega) (by omega) (by simp; omega) (fun h => by cases h)
       rw [cnd_dt hg, Bool.not_false, cnd_true, grd_pos (by omega), grd_pos (by simp; omega), grd_R (by omega) (by omega), succ_cast, nx, cnd_dt hg, cnd_true, List.append_assoc, List.append_assoc]
       rfl
      | true =>
       have nx := ih (i + 1) (out ++ [l.getD i 0]) true (by omega) (by omega) (by simp; omega) (fun h => by cases h)
       rw [cnd_dt hg, Bool.not_true, cnd_false, grd_pos (by omega), grd_R (by omega) (by omega), succ_cast, nx, cnd_dt hg, cnd_false, List.append_assoc]
       rfl
     ·have nx := ih (i + 1) (out ++ [l.getD i 0]) q (by omega) (by omega) (by simp; omega) (fun h => by have := hq h; simp; omega)
      rw [cnd_df hg, grd_pos (by omega), grd_R (by omega) (by omega), succ_cast, nx, cnd_df hg, List.append_assoc]
      rfl
    cases hb : (l.getD i 0 == x) with
    | true =>
     rw [cnd_true, Bool.or_true]
     exact step true fun h => by cases h
    | false =>
     rw [cnd_false, Bool.or_false]
     exact step p h4
   ·obtain rfl : i = l.length := by omega
    rw [cnd_df (by omega), List.drop_length, insR]
    cases p with
    | false =>
     show cnd (!false) _ _ = _
     rw [Bool.not_false, cnd_true, grd_pos (by omega), cnd_true]
    | true =>
     show cnd (!true) _ _ = _
     rw [Bool.not_true, cnd_false, cnd_false, List.append_nil]
 exact key N 0 [] false (by omega) (by omega) (by simp) (by simp)
end Go.Proofs.YtmoamglpocjhgaaGreat
namespace Go.Proofs.YtmoamglpocjhgaaGreat
variable {N : Nat}
theorem anch_y (hN : 4000000 ≤ N) {g : Grf} (hb : g.bars.length ≤ 3000000) {A : List Int} (hA : A.length ≤ 3000000) : ∃ (r : Grf) (b : Bool), r.bars.length ≤ 1000 ∧ S_AnchoredGraph N g A = some (r, b) ∧ I_AnchoredGraph N g A = some (r, b) ∧ (b = true → isGraph g = true ∧ asc g.n A = true ∧ r.n = g.n ∧ r.bars.length ≤ 1000) := by
 unfold S_AnchoredGraph I_AnchoredGraph S_l2Copy I_copyGraph
 rw [grd_pos (by omega), Option.bind_some, anchS_s N hN hb hA, anchI_s N hN hb hA, Option.bind_some, Option.bind_some]
 cases ho : anchOk g A with
 | false => exact ⟨⟨0, []⟩, false, by simp, rfl, rfl, fun h => by cases h⟩
 | true =>
  rw [Bool.not_true, cnd_false, cnd_false, Option.bind_some]
  simp only [anchOk, isSimple, Bool.and_eq_true] at ho
  have hg := ho.1.1
  have hn := isGraph_n hg
  have h8 := asc_len8 ho.2 (by omega)
  have hs := graph_srt hg
  obtain ⟨L', k1, k2, k3⟩ := anch_l1 hN (by omega) h8 (asc_lt ho.2) (kS := fun x => match x with | (l69, c70) => (S_IsGraph N (⟨c70, l69⟩ : Grf)).bind fun v71 => cnd (!v71) (some ((⟨(0 : Int), ([] : List (Int × Int))⟩ : Grf), false)) (some ((⟨c70, l69⟩ : Grf), true)))
   (kI := fun x => match x with | (l87, c88) => (I_IsGraph N (⟨c88, l87⟩ : Grf)).bind fun v89 => cnd (!v89) (some ((⟨(0 : Int), ([] : List (Int × Int))⟩ : Grf), false)) (some ((⟨c88, l87⟩ : Grf), true))) N 0 g.bars (by omega) (by omega) ⟨hs, by omega, fun e he => he, fun e he => .inl he⟩
  have e : ∀ X : Option (Grf × Bool), X = X := fun _ => rfl
  by_cases h2 : isGraph ⟨g.n, L'⟩ = true
  ·refine ⟨⟨g.n, L'⟩, true, k1, k2.trans ?_, k3.trans ?_, fun _ => ⟨hg, ho.2, rfl, k1⟩⟩
   ·show (S_IsGraph N ⟨g.n, L'⟩).bind _ = _
    rw [isGraphS_s N hN, h2]; rfl
   ·show (I_IsGraph N ⟨g.n, L'⟩).bind _ = _
    rw [isGraphI_s N hN, h2]; rfl
  ·have h2 : isGraph ⟨g.n, L'⟩ = false := by simpa using h2
   refine ⟨⟨0, []⟩, false, by simp, k2.trans ?_, k3.trans ?_, fun h => by cases h⟩
   ·show (S_IsGraph N ⟨g.n, L'⟩).bind _ = _
    rw [isGraphS_s N hN, h2]; rfl
   ·show (I_IsGraph N ⟨g.n, L'⟩).bind _ = _
    rw [isGraphI_s N hN, h2]; rfl
theorem part_s (hN : 4000000 ≤ N) {h : Grf} {n m : Nat} (hn : h.n = (n : Int)) (hn8 : n ≤ 8) (hm : m < 2 ^ n) : S_l23Part N h (setU (m : Int) n) = S_WithoutPoints N h (setU ((2 ^ n - 1 - m : Nat) : Int) n) := by
 unfold S_l23Part
 have hl := setU_len (m : Int) n
 refine Eq.trans ?_ ((fold (N := N) (len := n) (σ := List Int) (st := fun i => setU ((2 ^ n - 1 - m : Nat) : Int) i) (F := fun f s => S_l23Part_l1 N h (setU (m : Int) n) (fun (l7 : List Int) => (S_WithoutPoints N h l7).bind fun v8 => some (⟨v8.n, v8.bars⟩ : Grf)) f (s.1, s.2)) (fin := (S_WithoutPoints N h (setU ((2 ^ n - 1 - m : Nat) : Int) n)).bind fun v8 => some (⟨v8.n, v8.bars⟩ : Grf)) (by omega) (fun f i hi => ?_) fun f => ?_).trans ?_)
 ·simp [setU]
 ·show S_l23Part_l1 N h (setU (m : Int) n) _ (f + 1) (setU ((2 ^ n - 1 - m : Nat) : Int) i, (i : Int)) = S_l23Part_l1 N h (setU (m : Int) n) _ f (setU ((2 ^ n - 1 - m : Nat) : Int) (i + 1), ((i + 1 : Nat) : Int))
  have hl2 := setU_len ((2 ^ n - 1 - m : Nat) : Int) i
  have hc : (setU (m : Int) n).contains (i : Int) = bitB (m : Int) i := by rw [Bool.eq_iff_iff, List.contains_iff_mem, setU_mem hi]
  rw [S_l23Part_l1, cnd_dt (by omega), l2Has_s N hN (by omega), Option.bind_some, hc, setU_succ, setU_comp hn8 hm hi]
  cases bitB (m : Int) i with
  | true => rw [Bool.not_true, cnd_false, cnd_false, grd_R (by omega) (by omega), succ_cast]
  | false => rw [Bool.not_false, cnd_true, cnd_true, grd_pos (by omega), grd_R (by omega) (by omega), succ_cast]
 ·show S_l23Part_l1 N h (setU (m : Int) n) _ (f + 1) (setU ((2 ^ n - 1 - m : Nat) : Int) n, (n : Int)) = _
  rw [S_l23Part_l1, cnd_df (by omega)]
 ·cases S_WithoutPoints N h (setU ((2 ^ n - 1 - m : Nat) : Int) n) <;> rfl
theorem glob_x (hN : 4000000 ≤ N) {h : Grf} (hb : h.bars.length ≤ 1000) {n m : Nat} (hn : h.n = (n : Int)) (hn8 : n ≤ 8) (hm : m < 2 ^ n) : ∃ (v : Grf) (b : Bool), S_l23Part N h (setU (m : Int) n) = some v ∧ S_IsGloballyRigid N v = some b ∧ I_isGlobal N h (m : Int) = some b := by
 have h8 : 2 ^ n ≤ 2 ^ 8 := Nat.pow_le_pow_right (by omega) hn8
 have h88 : (2 : Nat) ^ 8 = 256 := by decide
 have hl := setU_len ((2 ^ n - 1 - m : Nat) : Int) n
 obtain ⟨v, w1, w2, w3, w4, w5⟩ := without_x hN (g := h) (by omega) (set := setU ((2 ^ n - 1 - m : Nat) : Int) n) (by omega)
 obtain ⟨b, g1, g2⟩ := global_x hN (g := v) (by omega)
 refine ⟨v, b, (part_s hN hn hn8 hm).trans w4, g1, ?_⟩
 unfold I_isGlobal
 have e0 : h.n.toNat = n := by omega
 have hpw : (1 : Int) * 2 ^ n = ((2 ^ n : Nat) : Int) := by rw [Int.one_mul]; simp
 have hpos : (0 : Int) ≤ ((2 ^ n : Nat) : Int) := Int.natCast_nonneg _
 rw [e0, hpw]
 have e1 : ((2 ^ n : Nat) : Int) - 1 - (m : Int) = ((2 ^ n - 1 - m : Nat) : Int) := by omega
 rw [grd_pos ⟨by omega, by omega, by omega, by omega⟩, grd_R (by omega) (by omega), grd_R (by omega) (by omega), e1, setI_s hN (by omega), Option.bind_some, e0, w5, Option.bind_some, g2]
 rfl
theorem all_s (hN : 4000000 ≤ N) {A U : List Int} (hA : A.length ≤ 1000) (hU : U.length ≤ 1000) (kk : Bool → Option (List Int)) : ∀ (fuel i : Nat) (f : Bool), i ≤ A.length → A.length < fuel + i → S_LocatedPoints_l3 N A U kk fuel (f, (i : Int)) = kk (f && (A.drop i).all fun x => U.contains x) := by
 intro fuel
 induction fuel with
 | zero => intro i f h1 h2; omega
 | succ fuel ih =>
  intro i f h1 h2
  rw [S_LocatedPoints_l3]
  by_cases hi : i < A.length
  ·have ed : A.drop i = A.getD i 0 :: A.drop (i + 1) := by
    rw [List.drop_eq_getElem_cons hi, List.getD_eq_getElem?_getD, List.getElem?_eq_getElem hi]; rfl
   rw [cnd_dt (by omega), ed, List.all_cons]
   cases f with
   | true =>
    rw [cnd_true, grd_pos (by omega), l2Has_s N hN (by omega), Option.bind_some, grd_R (by omega) (by omega), succ_cast, show ((i : Int)).toNat = i from by omega]
    refine (ih (i + 1) _ (by omega) (by omega)).trans ?_
    rw [Bool.true_and]
   | false =>
    rw [cnd_false, grd_R (by omega) (by omega), succ_cast]
    refine (ih (i + 1) _ (by omega) (by omega)).trans ?_
    simp
  ·rw [cnd_df (by omega), show i = A.length from by omega, List.drop_length]; simp
def insA (l : List Int) (x : Int) : List Int := cnd (!l.contains x) (insR l x false) l
theorem insA_facts {l : List Int} {x : Int} (h1 : l.Nodup) (h2 : l.Pairwise (· ≤ ·)) : (insA l x).Nodup ∧ (insA l x).Pairwise (· ≤ ·) ∧ ∀ y, y ∈ insA l x ↔ y = x ∨ y ∈ l := by
 unfold insA
 cases h : l.contains x with
 | true =>
  have hx : x ∈ l := by simpa using h
  rw [Bool.not_true, cnd_false]
  exact ⟨h1, h2, fun y => ⟨.inr, fun h => by rcases h with rfl | h; exact hx; exact h⟩⟩
 | false =>
  have hx : x ∉ l := by simpa using h
  rw [Bool.not_false, cnd_true]
  have hp := insR_perm hx
  exact ⟨hp.symm.nodup (List.nodup_cons.2 ⟨hx, h1⟩), insR_srt hx h2, fun y => by rw [hp.mem_iff, List.mem_cons]⟩
theorem insF_facts : ∀ (U l : List Int), l.Nodup → l.Pairwise (· ≤ ·) → (U.foldl insA l).Nodup ∧ (U.foldl insA l).Pairwise (· ≤ ·) ∧ ∀ y, y ∈ U.foldl insA l ↔ y ∈ U ∨ y ∈ l
 | [], l, h1, h2 => ⟨h1, h2, fun y => by simp⟩
 | x :: U, l, h1, h2 => by
  obtain ⟨a1, a2, a3⟩ := insA_facts (x := x) h1 h2
  obtain ⟨b1, b2, b3⟩ := insF_facts U (insA l x) a1 a2
  refine ⟨b1, b2, fun y => ?_⟩
  rw [List.foldl_cons, b3, a3, List.mem_cons]
  constructor
  ·rintro (h | h | h)
   ·exact .inl (.inr h)
   ·exact .inl (.inl h)
   ·exact .inr h
  ·rintro ((h | h) | h)
   ·exact .inr (.inl h)
   ·exact .inl h
   ·exact .inr (.inr h)
theorem setU_nd (m : Int) (k : Nat) : (setU m k).Nodup ∧ (setU m k).Pairwise (· ≤ ·) := by
 unfold setU
 constructor
 ·rw [List.nodup_iff_pairwise_ne]
  refine List.Pairwise.map _ (fun a b h => ?_) (List.Pairwise.filter _ (List.nodup_iff_pairwise_ne.1 List.nodup_range))
  omega
 ·refine List.Pairwise.map _ (fun a b h => ?_) (List.Pairwise.filter _ List.pairwise_lt_range)
  omega
theorem or_set {n a m : Nat} (hn : n ≤ 8) (ha : a < 2 ^ n) (hm : m < 2 ^ n) : (setU (m : Int) n).foldl insA (setU (a : Int) n) = setU ((a ||| m : Nat) : Int) n := by
 have h8 : 2 ^ n ≤ 2 ^ 8 := Nat.pow_le_pow_right (by omega) hn
 have h88 : (2 : Nat) ^ 8 = 256 := by decide
 have ho : a ||| m < 2 ^ n := Nat.or_lt_two_pow ha hm
 obtain ⟨a1, a2, a3⟩ := insF_facts (setU (m : Int) n) (setU (a : Int) n) (setU_nd _ _).1 (setU_nd _ _).2
 refine List.Perm.eq_of_pairwise (le := fun x y : Int => x ≤ y) (fun a b _ _ h1 h2 => by omega) a2 (setU_nd _ _).2 ?_
 rw [List.perm_ext_iff_of_nodup a1 (setU_nd _ _).1]
 intro y
 rw [a3]
 by_cases hy : 0 ≤ y ∧ y < (n : Int)
 ·obtain ⟨j, rfl⟩ : ∃ j : Nat, y = (j : Int) := ⟨y.toNat, by omega⟩
  have hj : j < n := by omega
  rw [setU_mem hj, setU_mem hj, setU_mem hj, bitB_nat (by omega) (by omega), bitB_nat (by omega) (by omega), bitB_nat (by omega) (by omega), Nat.testBit_or, Bool.or_eq_true]
  constructor
  ·rintro (h | h)
   ·exact .inr h
   ·exact .inl h
  ·rintro (h | h)
   ·exact .inr h
   ·exact .inl h
 ·constructor
  ·rintro (h | h)
   ·exact absurd (setU_rg h) hy
   ·exact absurd (setU_rg h) hy
  ·intro h; exact absurd (setU_rg h) hy
theorem ins_s (hN : 4000000 ≤ N) {U : List Int} (hU : U.length ≤ 8) (kk : List Int → Option (List Int)) : ∀ (fuel i : Nat) (l : List Int), i ≤ U.length → U.length < fuel + i → l.length ≤ 500 + i → S_LocatedPoints_l2 N U kk fuel (l, (i : Int)) = kk ((U.drop i).foldl insA l) := by
 intro fuel
 induction fuel with
 | zero => intro i l h1 h2; omega
 | succ fuel ih =>
  intro i l h1 h2 h3
  rw [S_LocatedPoints_l2]
  by_cases hi : i < U.length
  ·have ed : U.drop i = U.getD i 0 :: U.drop (i + 1) := by
    rw [List.drop_eq_getElem_cons hi, List.getD_eq_getElem?_getD, List.getElem?_eq_getElem hi]; rfl
   rw [cnd_dt (by omega), grd_pos (by omega), show ((i : Int)).toNat = i from by omega, l2Has_s N hN (by omega), Option.bind_some, ed, List.foldl_cons]
   unfold insA
   cases hc : l.contains (U.getD i 0) with
   | true =>
    rw [Bool.not_true, cnd_false, cnd_false, grd_R (by omega) (by omega), succ_cast]
    exact ih (i + 1) l (by omega) (by omega) (by omega)
   | false =>
    have hx : U.getD i 0 ∉ l := by simpa using hc
    have hpl := (insR_perm hx).length_eq
    rw [List.length_cons] at hpl
    rw [Bool.not_false, cnd_true, cnd_true, l5With_s hN (by omega), Option.bind_some, grd_R (by omega) (by omega), succ_cast]
    exact ih (i + 1) _ (by omega) (by omega) (by omega)
  ·rw [cnd_df (by omega), show i = U.length from by omega, List.drop_length]; rfl
theorem loc_l1 (hN : 4000000 ≤ N) {g h : Grf} {n : Nat} (hgn : g.n = (n : Int)) (hhn : h.n = (n : Int)) (hn8 : n ≤ 8) (hb : h.bars.length ≤ 1000) {A : List Int} (hA8 : A.length ≤ 8) (hA : ∀ x ∈ A, 0 ≤ x ∧ x < (n : Int)) {b : Nat} (hbn : b < 2 ^ n) (hbit : ∀ j, j < n → (b.testBit j = true ↔ (j : Int) ∈ A)) {kS : List Int → Option (List Int)} {kI : Int → Option (List Int)} :
  ∀ (k i a fS fI : Nat), i + k = 2 ^ n → k < fS → k < fI → a < 2 ^ n → ∃ a' : Nat, a' < 2 ^ n ∧ S_LocatedPoints_l1 N g A (h, true) kS fS (setU (a : Int) n, (i : Int)) = kS (setU (a' : Int) n) ∧ I_LocatedPoints_l1 N g (h, true) (b : Int) kI fI ((a : Int), (i : Int)) = kI (a' : Int) := by
 have h8 : 2 ^ n ≤ 2 ^ 8 := Nat.pow_le_pow_right (by omega) hn8
 have h88 : (2 : Nat) ^ 8 = 256 := by decide
 have hpw : (1 : Int) * 2 ^ n = ((2 ^ n : Nat) : Int) := by rw [Int.one_mul]; simp
 have e0 : g.n.toNat = n := by omega
 have hpos : (0 : Int) ≤ ((2 ^ n : Nat) : Int) := Int.natCast_nonneg _
 have hR : Rg64 ((2 ^ n : Nat) : Int) := ⟨by omega, by omega⟩
 intro k
 induction k with
 | zero =>
  intro i a fS fI h1 h2 h3 h4
  obtain ⟨fS, rfl⟩ : ∃ f, fS = f + 1 := ⟨fS - 1, by omega⟩
  obtain ⟨fI, rfl⟩ : ∃ f, fI = f + 1 := ⟨fI - 1, by omega⟩
  rw [S_LocatedPoints_l1, I_LocatedPoints_l1, e0, hpw, grd_pos ⟨by omega, by omega, hR⟩, cnd_df (by omega), cnd_df (by omega)]
  exact ⟨a, h4, rfl, rfl⟩
 | succ k ih =>
  intro i a fS fI h1 h2 h3 h4
  obtain ⟨fS, rfl⟩ : ∃ f, fS = f + 1 := ⟨fS - 1, by omega⟩
  obtain ⟨fI, rfl⟩ : ∃ f, fI = f + 1 := ⟨fI - 1, by omega⟩
  have hi : i < 2 ^ n := by omega
  have hsl := setU_len (i : Int) n
  have hal := setU_len (a : Int) n
  obtain ⟨v, bb, w1, w2, w3⟩ := glob_x hN hb hhn hn8 hi
  have hall : ∀ kk, S_LocatedPoints_l3 N A (setU (i : Int) n) kk N (true, (0 : Int)) = kk (A.all fun x => (setU (i : Int) n).contains x) := fun kk => by
   have := all_s hN (A := A) (U := setU (i : Int) n) (by omega) (by omega) kk N 0 true (by omega) (by omega)
   rw [List.drop_zero, Bool.true_and] at this; exact this
  have hins : ∀ kk, S_LocatedPoints_l2 N (setU (i : Int) n) kk N (setU (a : Int) n, (0 : Int)) = kk (setU ((a ||| i : Nat) : Int) n) := fun kk => by
   have := ins_s hN (U := setU (i : Int) n) (by omega) kk N 0 (setU (a : Int) n) (by omega) (by omega) (by omega)
   rw [List.drop_zero, or_set hn8 h4 hi] at this; exact this
  rw [S_LocatedPoints_l1, I_LocatedPoints_l1, e0, hpw, grd_pos ⟨by omega, by omega, hR⟩, cnd_dt (show (i : Int) < ((2 ^ n : Nat) : Int) by omega), cnd_dt (show (i : Int) < ((2 ^ n : Nat) : Int) by omega), setS_s hN (by omega), e0, Option.bind_some, hall, base_all hn8 hi hbn hA hbit]
  show ∃ a' : Nat, _ ∧ cnd (A.all fun x => (setU (i : Int) n).contains x) _ _ = _ ∧ _
  have noS : ∃ a' : Nat, a' < 2 ^ n ∧ S_LocatedPoints_l1 N g A (h, true) kS fS (setU (a : Int) n, ((i + 1 : Nat) : Int)) = kS (setU (a' : Int) n) ∧ I_LocatedPoints_l1 N g (h, true) (b : Int) kI fI ((a : Int), ((i + 1 : Nat) : Int)) = kI (a' : Int) := ih (i + 1) a fS fI (by omega) (by omega) (by omega) h4
  cases (A.all fun x => (setU (i : Int) n).contains x) with
  | false =>
   obtain ⟨a', k1, k2, k3⟩ := noS
   refine ⟨a', k1, ?_, ?_⟩
   ·rw [cnd_false, grd_R (by omega) (by omega), succ_cast]; exact k2
   ·rw [cnd_false, grd_R (by omega) (by omega), succ_cast]; exact k3
  | true =>
   rw [cnd_true, cnd_true, w1, w3, Option.bind_some, Option.bind_some, w2, Option.bind_some]
   cases bb with
   | false =>
    obtain ⟨a', k1, k2, k3⟩ := noS
    refine ⟨a', k1, ?_, ?_⟩
    ·rw [cnd_false, grd_R (by omega) (by omega), succ_cast]; exact k2
    ·rw [cnd_false, grd_R (by omega) (by omega), succ_cast]; exact k3
   | true =>
    have ho : a ||| i < 2 ^ n := Nat.or_lt_two_pow h4 hi
    obtain ⟨a', k1, k2, k3⟩ := ih (i + 1) (a ||| i) fS fI (by omega) (by omega) (by omega) ho
    refine ⟨a', k1, ?_, ?_⟩
    ·rw [cnd_true, hins]
     show grd (Rg64 ((i : Int) + 1)) _ = _
     rw [grd_R (by omega) (by omega), succ_cast]; exact k2
    ·rw [cnd_true, orI_nat (by omega) (by omega), grd_R (by omega) (by omega), succ_cast]; exact k3
theorem base_s (hN : 4000000 ≤ N) {n : Nat} (hn8 : n ≤ 8) {A : List Int} (hA8 : A.length ≤ 8) (hA : ∀ x ∈ A, 0 ≤ x ∧ x < (n : Int)) (kk : Int → Option (List Int)) :
  ∀ (fuel i b : Nat), i ≤ A.length → A.length < fuel + i → b < 2 ^ n → (∀ j, j < n → (b.testBit j = true ↔ (j : Int) ∈ A.take i)) →
  ∃ b' : Nat, b' < 2 ^ n ∧ (∀ j, j < n → (b'.testBit j = true ↔ (j : Int) ∈ A)) ∧ I_LocatedPoints_l2 N A kk fuel ((b : Int), (i : Int)) = kk (b' : Int) := by
 have h8 : 2 ^ n ≤ 2 ^ 8 := Nat.pow_le_pow_right (by omega) hn8
 have h88 : (2 : Nat) ^ 8 = 256 := by decide
 intro fuel
 induction fuel with
 | zero => intro i b h1 h2; omega
 | succ fuel ih =>
  intro i b h1 h2 h3 h4
  rw [I_LocatedPoints_l2]
  by_cases hi : i < A.length
  ·have hm : A.getD i 0 ∈ A := by rw [List.getD_eq_getElem?_getD, List.getElem?_eq_getElem hi]; exact List.getElem_mem hi
   have hr := hA _ hm
   have et : A.take (i + 1) = A.take i ++ [A.getD i 0] := by
    rw [List.take_add_one, List.getElem?_eq_getElem hi, List.getD_eq_getElem?_getD, List.getElem?_eq_getElem hi]; rfl
   obtain ⟨j0, hj0⟩ : ∃ j : Nat, A.getD i 0 = (j : Int) := ⟨(A.getD i 0).toNat, by omega⟩
   have hj : j0 < n := by omega
   have hp2 : 2 ^ j0 < 2 ^ n := Nat.pow_lt_pow_right (by omega) hj
   have hpw : (1 : Int) * 2 ^ j0 = ((2 ^ j0 : Nat) : Int) := by rw [Int.one_mul]; simp
   have hpos : (0 : Int) ≤ ((2 ^ j0 : Nat) : Int) := Int.natCast_nonneg _
   have hR : Rg64 ((2 ^ j0 : Nat) : Int) := ⟨by omega, by omega⟩
   rw [cnd_dt (by omega), grd_pos (by omega), show ((i : Int)).toNat = i from by omega, hj0, show ((j0 : Int)).toNat = j0 from by omega, hpw, grd_pos ⟨by omega, by omega, hR⟩, grd_R (by omega) (by omega), orI_nat (by omega) (by omega), succ_cast]
   refine ih (i + 1) (b ||| 2 ^ j0) (by omega) (by omega) (Nat.or_lt_two_pow h3 hp2) fun j hjn => ?_
   rw [Nat.testBit_or, Nat.testBit_two_pow, et, List.mem_append, List.mem_singleton, hj0, Bool.or_eq_true, h4 j hjn, decide_eq_true_eq]
   constructor
   ·rintro (h | h)
    ·exact .inl h
    ·exact .inr (by omega)
   ·rintro (h | h)
    ·exact .inl h
    ·exact .inr (by omega)
  ·rw [cnd_df (by omega)]
   rw [show i = A.length from by omega, List.take_length] at h4
   exact ⟨b, h3, h4, rfl⟩
theorem located_x (hN : 4000000 ≤ N) {g : Grf} (hb : g.bars.length ≤ 3000000) {A : List Int} (hA : A.length ≤ 3000000) : ∃ r : List Int, r.length ≤ 8 ∧ S_LocatedPoints N g A = some r ∧ I_LocatedPoints N g A = some r := by
 unfold S_LocatedPoints I_LocatedPoints
 obtain ⟨h, b, h1, h2, h3, h4⟩ := anch_y hN hb hA
 rw [h2, h3, Option.bind_some, Option.bind_some]
 cases b with
 | false => exact ⟨[], by simp, rfl, rfl⟩
 | true =>
  obtain ⟨hg, ha, hn, hl⟩ := h4 rfl
  have hp := isGraph_parts hg
  rw [Bool.not_true, cnd_false, cnd_false]
  by_cases hA3 : (A.length : Int) < 3
  ·rw [cnd_dt hA3, cnd_dt hA3]; exact ⟨[], by simp, rfl, rfl⟩
  ·rw [cnd_df hA3, cnd_df hA3]
   obtain ⟨n, hgn⟩ : ∃ n : Nat, g.n = (n : Int) := ⟨g.n.toNat, by omega⟩
   have hn8 : n ≤ 8 := by omega
   have hA8 := asc_len8 ha (by omega)
   have hAr : ∀ x ∈ A, 0 ≤ x ∧ x < (n : Int) := fun x hx => by
    have h1 : ∀ i, i < A.length → ascAt g.n A i = true := by simpa [asc, List.all_eq_true] using ha
    obtain ⟨i, hi, e⟩ := List.mem_iff_getElem.1 hx
    have h2 := h1 i hi
    simp only [ascAt, inB, Bool.and_eq_true, decide_eq_true_eq] at h2
    rw [List.getD_eq_getElem?_getD, List.getElem?_eq_getElem hi] at h2
    simp only [Option.getD_some, e] at h2
    omega
   have h8 : 2 ^ n ≤ 2 ^ 8 := Nat.pow_le_pow_right (by omega) hn8
   have h88 : (2 : Nat) ^ 8 = 256 := by decide
   have hone : 0 < 2 ^ n := Nat.pow_pos (by omega)
   have hpw : (1 : Int) * 2 ^ n = ((2 ^ n : Nat) : Int) := by rw [Int.one_mul]; simp
   have hpos : (0 : Int) ≤ ((2 ^ n : Nat) : Int) := Int.natCast_nonneg _
   have hR : Rg64 ((2 ^ n : Nat) : Int) := ⟨by omega, by omega⟩
   have e0 : g.n.toNat = n := by omega
   obtain ⟨b, b1, b2, b3⟩ := base_s hN hn8 hA8 hAr (fun (base4 : Int) => grd (0 ≤ g.n ∧ g.n < 64 ∧ Rg64 ((1 : Int) * 2 ^ ((g.n).toNat))) <| I_LocatedPoints_l1 N g (h, true) base4 (fun (all10 : Int) => (I_setOf N all10 g.n).bind fun v11 => some v11) N ((0 : Int), (0 : Int))) N 0 0 (by omega) (by omega) hone (fun j hj => by simp)
   obtain ⟨a', k1, k2, k3⟩ := loc_l1 hN hgn (hn.trans hgn) hn8 hl hA8 hAr b1 b2 (kS := fun (l140 : List Int) => some l140) (kI := fun (all10 : Int) => (I_setOf N all10 g.n).bind fun v11 => some v11) (2 ^ n - 1) 1 0 N (N - 1) (by omega) (by omega) (by omega) hone
   have hz : setU ((0 : Nat) : Int) n = [] := by
    unfold setU
    have : (List.range n).filter (bitB ((0 : Nat) : Int)) = [] := List.filter_eq_nil_iff.2 fun j hj => by
     have := List.mem_range.1 hj
     rw [bitB_nat (by omega) (by omega)]; simp
    rw [this]; rfl
   have hsl := setU_len (a' : Int) n
   refine ⟨setU (a' : Int) n, by omega, ?_, ?_⟩
   ·rw [hz] at k2; exact k2
   ·refine b3.trans ?_
    show grd _ _ = _
    rw [e0, hpw, grd_pos ⟨by omega, by omega, hR⟩]
    obtain ⟨M, rfl⟩ : ∃ M, N = M + 1 := ⟨N - 1, by omega⟩
    have hA0 : (A.all fun x => (setU ((0 : Nat) : Int) n).contains x) = false := by
     rw [hz]
     cases A with
     | nil => simp at hA3
     | cons x A => rfl
    have hb0 := base_all hn8 (m := 0) hone b1 hAr b2
    rw [hA0] at hb0
    rw [I_LocatedPoints_l1, e0, hpw, cnd_dt (by omega)]
    rw [show andI (0 : Int) (b : Int) = andI ((0 : Nat) : Int) (b : Int) from rfl, hb0, cnd_false, grd_R (by omega) (by omega)]
    refine k3.trans ?_
    show (I_setOf (M + 1) (a' : Int) g.n).bind _ = _
    rw [setI_s hN (by omega), e0]; rfl
end Go.Proofs.YtmoamglpocjhgaaGreat
namespace Go.Proofs.YtmoamglpocjhgaaGreat
open Go.RowKit
def L_FnExactLocatedPoints (N : Nat) (aG_0 : Grf) (aAnchors_1 : List Int) : Option (Bool) :=
 cnd (decide ((aAnchors_1.length : Int) > (1048576 : Int))) (
  some true) (
  (L_szGraph N aG_0 (1048576 : Int)).bind fun v1 =>
  cnd (decide (v1 < (0 : Int))) (
   some true) (
   (L_toGraph N aG_0).bind fun v2 =>
   (L_toIntS N aAnchors_1).bind fun v3 =>
   (S_LocatedPoints N v2 v3).bind fun v4 =>
   (L_toGraph N aG_0).bind fun v5 =>
   (L_toIntS N aAnchors_1).bind fun v6 =>
   (I_LocatedPoints N v5 v6).bind fun v7 =>
   (L_eqIntS N v7 v4).bind fun v8 =>
   cnd (!v8) (
    some false) (
    (L_toGraph N aG_0).bind fun v9 =>
    (L_eqGraph N v5 v9).bind fun v10 =>
    cnd (!v10) (
     some false) (
     (L_toIntS N aAnchors_1).bind fun v11 =>
     (L_eqIntS N v6 v11).bind fun v12 =>
     cnd (!v12) (
      some false) (
      (L_markGraph N (⟨v5.n, v5.bars⟩ : Grf) (1 : Int)).bind fun v13 =>
      (L_markIntS N v6 v13.1).bind fun v14 =>
      cnd (decide (v14.1 < (0 : Int))) (
       some false) (
       (L_eqIntS N v7 v4).bind fun v15 =>
       cnd (!v15) (
        some false) (
        (L_markIntS N v7 (1 : Int)).bind fun v16 =>
        grd (v7.length = v16.2.length) <|
        (L_heldIntS N v16.2 (1 : Int)).bind fun v17 =>
        cnd (decide (v17 < (0 : Int))) (
         some false) (
         cnd (v17 != v16.1) (
          some false) (
          (L_toGraph N aG_0).bind fun v18 =>
          (L_toIntS N aAnchors_1).bind fun v19 =>
          (I_LocatedPoints N v18 v19).bind fun v20 =>
          (L_eqIntS N v20 v4).bind fun v21 =>
          cnd (!v21) (
           some false) (
           (L_heldIntS N v16.2 (1 : Int)).bind fun v22 =>
           cnd (decide (v22 < (0 : Int))) (
            some false) (
            cnd (v22 != v16.1) (
             some false) (
             some true))))))))))))
set_option maxRecDepth 20000 in
set_option maxHeartbeats 1600000 in
theorem L_FnExactLocatedPoints_w (N : Nat) (aG_0 : Grf) (aAnchors_1 : List Int) (r : Bool) (h : L_FnExactLocatedPoints N aG_0 aAnchors_1 = some r) : PCall Tryz.prog 3 [gD aG_0, .ro false (.ints aAnchors_1)] [] (.bool r) := by
 unfold L_FnExactLocatedPoints at h
 refine pcall_intro (TT := TT) tt Tryz.func3 rfl rfl Tryz.ntmps3 (congrArg Array.toList Tryz.results3) rfl rfl fun w0 => ?_
 refine vSeq ?_
 refine vRegion ?_
 refine oBox rfl rfl rfl rfl rfl rfl rfl rfl rfl ?_
 refine oVal tt rfl rfl rfl rfl rfl trivial ?_
 refine vNil ?_
 change VC _ _ _ _
 iterate 2 refine vSeq ?_
 refine vRegion ?_
 iterate 3 refine oVal tt rfl rfl rfl rfl rfl trivial ?_
 refine vNil ?_
 change VC _ _ _ _
 refine vCond rfl (fun hb1 => ?_) (fun hb1 => ?_)
 ·replace h := cnd_t hb1 h
  refine vSeq ?_
  refine vRegion ?_
  refine oVal tt rfl rfl rfl rfl rfl trivial ?_
  refine vNil ?_
  change VC _ _ _ _
  refine vRet ?_
  change ∃ _, _
  cases h
  exact ⟨[], _, rfl, trivial, rfl, (.eq rfl), rfl⟩
 ·replace h := cnd_f hb1 h
  refine vSkip ?_
  change VC _ _ _ _
  refine vSeq ?_
  refine vRegion ?_
  refine oVal tt rfl rfl rfl rfl rfl trivial ?_
  refine vNil ?_
  change VC _ _ _ _
  refine vSeq ?_
  refine vRegion ?_
  iterate 2 refine oVal tt rfl rfl rfl rfl rfl trivial ?_
  obtain ⟨v1, hc2, h⟩ := bind_inv h
  refine oCall (L_szGraph_w N aG_0 (1048576 : Int) v1 hc2) rfl rfl rfl rfl rfl rfl rfl rfl ⟨⟨rfl, rfl, trivial⟩, rfl, trivial⟩ ?_
  refine oVal tt rfl rfl rfl rfl rfl trivial ?_
  refine vNil ?_
  change VC _ _ _ _
  iterate 2 refine vSeq ?_
  refine vRegion ?_
  iterate 2 refine oVal tt rfl rfl rfl rfl rfl trivial ?_
  refine vNil ?_
  change VC _ _ _ _
  refine vCond rfl (fun hb3 => ?_) (fun hb3 => ?_)
  ·replace h := cnd_t hb3 h
   refine vSeq ?_
   refine vRegion ?_
   refine oVal tt rfl rfl rfl rfl rfl trivial ?_
   refine vNil ?_
   change VC _ _ _ _
   refine vRet ?_
   change ∃ _, _
   cases h
   exact ⟨[], _, rfl, trivial, rfl, (.eq rfl), rfl⟩
  ·replace h := cnd_f hb3 h
   refine vSkip ?_
   change VC _ _ _ _
   refine vSeq ?_
   refine vRegion ?_
   refine oVal tt rfl rfl rfl rfl rfl trivial ?_
   obtain ⟨v2, hc4, h⟩ := bind_inv h
   refine oCall (L_toGraph_w N aG_0 v2 hc4) rfl rfl rfl rfl rfl rfl rfl rfl ⟨⟨rfl, rfl, trivial⟩, trivial⟩ ?_
   refine oVal tt rfl rfl rfl rfl rfl trivial ?_
   obtain ⟨v3, hc5, h⟩ := bind_inv h
   refine oCall (L_toIntS_w N aAnchors_1 v3 hc5) rfl rfl rfl rfl rfl rfl rfl rfl ⟨rfl, trivial⟩ ?_
   obtain ⟨v4, hc6, h⟩ := bind_inv h
   refine oCall (S_LocatedPoints_w N v2 v3 v4 hc6) rfl rfl rfl rfl rfl rfl rfl rfl ⟨⟨rfl, (.inl ⟨rfl, rfl⟩), trivial⟩, (.inl ⟨rfl, rfl⟩), trivial⟩ ?_
   refine oVal tt rfl rfl rfl rfl rfl trivial ?_
   refine vNil ?_
   change VC _ _ _ _
   refine vSeq ?_
   refine vRegion ?_
   refine oVal tt rfl rfl rfl rfl rfl trivial ?_
   obtain ⟨v5, hc7, h⟩ := bind_inv h
   refine oCall (L_toGraph_w N aG_0 v5 hc7) rfl rfl rfl rfl rfl rfl rfl rfl ⟨⟨rfl, rfl, trivial⟩, trivial⟩ ?_
   refine oAlloc tt rfl rfl rfl rfl rfl rfl rfl rfl rfl ?_
   refine oStore tt rfl rfl rfl rfl rfl rfl rfl rfl rfl rfl rfl ⟨trivial, trivial, trivial⟩ ?_
   refine vNil ?_
   change VC _ _ _ _
   refine vSeq ?_
   refine vRegion ?_
   refine oVal tt rfl rfl rfl rfl rfl trivial ?_
   obtain ⟨v6, hc8, h⟩ := bind_inv h
   refine oCall (L_toIntS_w N aAnchors_1 v6 hc8) rfl rfl rfl rfl rfl rfl rfl rfl ⟨rfl, trivial⟩ ?_
   refine oVal tt rfl rfl rfl rfl rfl trivial ?_
   refine vNil ?_
   change VC _ _ _ _
   refine vSeq ?_
   refine vRegion ?_
   iterate 2 refine oVal tt rfl rfl rfl rfl rfl trivial ?_
   obtain ⟨v7, hc9, h⟩ := bind_inv h
   refine oCall (I_LocatedPoints_w N v5 v6 v7 hc9) rfl rfl rfl rfl rfl rfl rfl rfl ⟨⟨rfl, (.inl ⟨rfl, rfl⟩), trivial⟩, (.inl ⟨rfl, rfl⟩), trivial⟩ ?_
   refine oVal tt rfl rfl rfl rfl rfl trivial ?_
   refine vNil ?_
   change VC _ _ _ _
   iterate 2 refine vSeq ?_
   refine vRegion ?_
   iterate 2 refine oVal tt rfl rfl rfl rfl rfl trivial ?_
   obtain ⟨v8, hc10, h⟩ := bind_inv h
   refine oCall (L_eqIntS_w N v7 v4 v8 hc10) rfl rfl rfl rfl rfl rfl rfl rfl ⟨(.inl ⟨rfl, rfl⟩), (.inl ⟨rfl, rfl⟩), trivial⟩ ?_
   refine oVal tt rfl rfl rfl rfl rfl trivial ?_
   refine vNil ?_
   change VC _ _ _ _
   refine vCond rfl (fun hb11 => ?_) (fun hb11 => ?_)
   ·replace h := cnd_t hb11 h
    refine vSeq ?_
    refine vRegion ?_
    refine oVal tt rfl rfl rfl rfl rfl trivial ?_
    refine vNil ?_
    change VC _ _ _ _
    refine vRet ?_
    change ∃ _, _
    cases h
    exact ⟨[], _, rfl, trivial, rfl, (.eq rfl), rfl⟩
   ·replace h := cnd_f hb11 h
    refine vSkip ?_
    change VC _ _ _ _
    iterate 2 refine vSeq ?_
    refine vRegionN 3 [2] [0, 0, 2, 7, 15] (by kernel_rfl) (by kernel_rfl) (by kernel_rfl) (by kernel_rfl) (by kernel_rfl) rfl (by rfl) ?_
    iterate 2 refine nVal tt rfl (wNone rfl) rfl rfl rfl rfl rfl trivial ?_
    obtain ⟨v9, hc12, h⟩ := bind_inv h
    refine nCallR (L_toGraph_w N aG_0 v9 hc12) rfl (wNone rfl) rfl rfl rfl rfl rfl rfl (by first | rfl | kernel_rfl | (simp [nrL, nm, gdst, nmT, rowB]; done)) rfl (by first | rfl | kernel_rfl | (simp [chkE, nrL, nm, gdst, nmT, rowB, hid, ment, mentA, mentS]; done) | (simp [chkE, nrL, nm, gdst, nmT, rowB, hid, ment, mentA, mentS]; decide)) ⟨⟨rfl, rfl, trivial⟩, trivial⟩ ?_
    refine nNil ?_
    change VO _ _ _ _ _
    obtain ⟨v10, hc13, h⟩ := bind_inv h
    refine oCall (L_eqGraph_w N v5 v9 v10 hc13) rfl rfl rfl rfl rfl rfl rfl rfl ⟨⟨rfl, (.inl ⟨rfl, rfl⟩), trivial⟩, ⟨rfl, (.inl ⟨rfl, rfl⟩), trivial⟩, trivial⟩ ?_
    refine oVal tt rfl rfl rfl rfl rfl trivial ?_
    refine vNil ?_
    change VC _ _ _ _
    refine vCond rfl (fun hb14 => ?_) (fun hb14 => ?_)
    ·replace h := cnd_t hb14 h
     refine vSeq ?_
     refine vRegion ?_
     refine oVal tt rfl rfl rfl rfl rfl trivial ?_
     refine vNil ?_
     change VC _ _ _ _
     refine vRet ?_
     change ∃ _, _
     cases h
     exact ⟨[], _, rfl, trivial, rfl, (.eq rfl), rfl⟩
    ·replace h := cnd_f hb14 h
     refine vSkip ?_
     change VC _ _ _ _
     iterate 2 refine vSeq ?_
     refine vRegion ?_
     iterate 2 refine oVal tt rfl rfl rfl rfl rfl trivial ?_
     obtain ⟨v11, hc15, h⟩ := bind_inv h
     refine oCall (L_toIntS_w N aAnchors_1 v11 hc15) rfl rfl rfl rfl rfl rfl rfl rfl ⟨rfl, trivial⟩ ?_
     obtain ⟨v12, hc16, h⟩ := bind_inv h
     refine oCall (L_eqIntS_w N v6 v11 v12 hc16) rfl rfl rfl rfl rfl rfl rfl rfl ⟨(.inl ⟨rfl, rfl⟩), (.inl ⟨rfl, rfl⟩), trivial⟩ ?_
     refine oVal tt rfl rfl rfl rfl rfl trivial ?_
     refine vNil ?_
     change VC _ _ _ _
     refine vCond rfl (fun hb17 => ?_) (fun hb17 => ?_)
     ·replace h := cnd_t hb17 h
      refine vSeq ?_
      refine vRegion ?_
      refine oVal tt rfl rfl rfl rfl rfl trivial ?_
      refine vNil ?_
      change VC _ _ _ _
      refine vRet ?_
      change ∃ _, _
      cases h
      exact ⟨[], _, rfl, trivial, rfl, (.eq rfl), rfl⟩
     ·replace h := cnd_f hb17 h
      refine vSkip ?_
      change VC _ _ _ _
      refine vSeq ?_
      refine vRegion ?_
      refine oVal tt rfl rfl rfl rfl rfl trivial ?_
      refine vNil ?_
      change VC _ _ _ _
      refine vSeq ?_
      refine vRegion ?_
      iterate 2 refine oVal tt rfl rfl rfl rfl rfl trivial ?_
      obtain ⟨v13, hc18, h⟩ := bind_inv h
      refine oMCall (L_markGraph_w N (⟨v5.n, v5.bars⟩ : Grf) (1 : Int) v13 hc18) [1280] [] [1280] rfl rfl rfl rfl rfl rfl ⟨rfl, trivial⟩ trivial ⟨⟨⟨rfl, rfl⟩, ⟨rfl, rfl⟩, trivial⟩, ⟨rfl, rfl⟩, trivial⟩ ?_
      refine oVal tt rfl rfl rfl rfl rfl trivial ?_
      refine vNil ?_
      change VC _ _ _ _
      refine vSeq ?_
      refine vRegion ?_
      iterate 2 refine oVal tt rfl rfl rfl rfl rfl trivial ?_
      obtain ⟨v14, hc19, h⟩ := bind_inv h
      refine oMCall (L_markIntS_w N v6 v13.1 v14 hc19) [1300] [] [1300] rfl rfl rfl rfl rfl rfl ⟨rfl, trivial⟩ trivial ⟨⟨rfl, rfl⟩, ⟨rfl, rfl⟩, trivial⟩ ?_
      refine oVal tt rfl rfl rfl rfl rfl trivial ?_
      refine vNil ?_
      change VC _ _ _ _
      iterate 2 refine vSeq ?_
      refine vRegion ?_
      iterate 3 refine oVal tt rfl rfl rfl rfl rfl trivial ?_
      refine oSplit rfl rfl rfl (fun hb20 => ?_) (fun hb20 => ?_)
      ·replace h := cnd_t hb20 h
       iterate 4 refine oNoF rfl rfl rfl rfl hb20 rfl rfl ?_
       refine oPick rfl rfl rfl rfl rfl hb20 rfl ?_
       refine vNil ?_
       change VC _ _ _ _
       refine vCondT rfl rfl ?_
       refine vSeq ?_
       refine vRegion ?_
       refine oVal tt rfl rfl rfl rfl rfl trivial ?_
       refine vNil ?_
       change VC _ _ _ _
       refine vRet ?_
       change ∃ _, _
       cases h
       exact ⟨[], _, rfl, trivial, rfl, (.eq rfl), rfl⟩
      ·replace h := cnd_f hb20 h
       iterate 2 refine oValG tt rfl rfl rfl rfl rfl hb20 rfl rfl rfl trivial ?_
       obtain ⟨v15, hc21, h⟩ := bind_inv h
       refine oCallG (L_eqIntS_w N v7 v4 v15 hc21) rfl rfl rfl rfl hb20 rfl rfl rfl rfl rfl rfl rfl ⟨(.inl ⟨rfl, rfl⟩), (.inl ⟨rfl, rfl⟩), trivial⟩ ?_
       refine oValG tt rfl rfl rfl rfl rfl hb20 rfl rfl rfl trivial ?_
       refine oPickF rfl rfl rfl rfl rfl hb20 rfl ?_
       refine vNil ?_
       change VC _ _ _ _
       refine vCond rfl (fun hb22 => ?_) (fun hb22 => ?_)
       ·replace h := cnd_t hb22 h
        refine vSeq ?_
        refine vRegion ?_
        refine oVal tt rfl rfl rfl rfl rfl trivial ?_
        refine vNil ?_
        change VC _ _ _ _
        refine vRet ?_
        change ∃ _, _
        cases h
        exact ⟨[], _, rfl, trivial, rfl, (.eq rfl), rfl⟩
       ·replace h := cnd_f hb22 h
        refine vSkip ?_
        change VC _ _ _ _
        refine vSeq ?_
        refine vRegion ?_
        refine oVal tt rfl rfl rfl rfl rfl trivial ?_
        refine vNil ?_
        change VC _ _ _ _
        refine vSeq ?_
        refine vRegion ?_
        iterate 2 refine oVal tt rfl rfl rfl rfl rfl trivial ?_
        obtain ⟨v16, hc23, h⟩ := bind_inv h
        refine oMCall (L_markIntS_w N v7 (1 : Int) v16 hc23) [1330] [] [1330] rfl rfl rfl rfl rfl rfl ⟨rfl, trivial⟩ trivial ⟨⟨rfl, rfl⟩, ⟨rfl, rfl⟩, trivial⟩ ?_
        refine oVal tt rfl rfl rfl rfl rfl trivial ?_
        refine vNil ?_
        change VC _ _ _ _
        refine vSeq ?_
        refine vRegion ?_
        refine oVal tt rfl rfl rfl rfl rfl trivial ?_
        refine vNil ?_
        change VC _ _ _ _
        refine vSeq ?_
        refine vRegion ?_
        iterate 2 refine oVal tt rfl rfl rfl rfl rfl trivial ?_
        obtain ⟨hg24, h⟩ := grd_inv h
        obtain ⟨v17, hc25, h⟩ := bind_inv h
        refine oCall (L_heldIntS_w N v16.2 (1 : Int) v17 hc25) rfl rfl rfl rfl rfl rfl rfl rfl ⟨(.inl ⟨hg24, rfl⟩), rfl, trivial⟩ ?_
        refine oVal tt rfl rfl rfl rfl rfl trivial ?_
        refine vNil ?_
        change VC _ _ _ _
        iterate 2 refine vSeq ?_
        refine vRegion ?_
        iterate 2 refine oVal tt rfl rfl rfl rfl rfl trivial ?_
        refine vNil ?_
        change VC _ _ _ _
        refine vCond rfl (fun hb26 => ?_) (fun hb26 => ?_)
        ·replace h := cnd_t hb26 h
         refine vSeq ?_
         refine vRegion ?_
         refine oVal tt rfl rfl rfl rfl rfl trivial ?_
         refine vNil ?_
         change VC _ _ _ _
         refine vRet ?_
         change ∃ _, _
         cases h
         exact ⟨[], _, rfl, trivial, rfl, (.eq rfl), rfl⟩
        ·replace h := cnd_f hb26 h
         refine vSkip ?_
         change VC _ _ _ _
         iterate 2 refine vSeq ?_
         refine vRegion ?_
         iterate 3 refine oVal tt rfl rfl rfl rfl rfl trivial ?_
         refine vNil ?_
         change VC _ _ _ _
         refine vCond rfl (fun hb27 => ?_) (fun hb27 => ?_)
         ·replace h := cnd_t hb27 h
          refine vSeq ?_
          refine vRegion ?_
          refine oVal tt rfl rfl rfl rfl rfl trivial ?_
          refine vNil ?_
          change VC _ _ _ _
          refine vRet ?_
          change ∃ _, _
          cases h
          exact ⟨[], _, rfl, trivial, rfl, (.eq rfl), rfl⟩
         ·replace h := cnd_f hb27 h
          refine vSkip ?_
          change VC _ _ _ _
          refine vSeq ?_
          refine vRegion ?_
          refine oVal tt rfl rfl rfl rfl rfl trivial ?_
          obtain ⟨v18, hc28, h⟩ := bind_inv h
          refine oCall (L_toGraph_w N aG_0 v18 hc28) rfl rfl rfl rfl rfl rfl rfl rfl ⟨⟨rfl, rfl, trivial⟩, trivial⟩ ?_
          refine oVal tt rfl rfl rfl rfl rfl trivial ?_
          obtain ⟨v19, hc29, h⟩ := bind_inv h
          refine oCall (L_toIntS_w N aAnchors_1 v19 hc29) rfl rfl rfl rfl rfl rfl rfl rfl ⟨rfl, trivial⟩ ?_
          obtain ⟨v20, hc30, h⟩ := bind_inv h
          refine oCall (I_LocatedPoints_w N v18 v19 v20 hc30) rfl rfl rfl rfl rfl rfl rfl rfl ⟨⟨rfl, (.inl ⟨rfl, rfl⟩), trivial⟩, (.inl ⟨rfl, rfl⟩), trivial⟩ ?_
          refine oVal tt rfl rfl rfl rfl rfl trivial ?_
          refine vNil ?_
          change VC _ _ _ _
          iterate 2 refine vSeq ?_
          refine vRegion ?_
          iterate 2 refine oVal tt rfl rfl rfl rfl rfl trivial ?_
          obtain ⟨v21, hc31, h⟩ := bind_inv h
          refine oCall (L_eqIntS_w N v20 v4 v21 hc31) rfl rfl rfl rfl rfl rfl rfl rfl ⟨(.inl ⟨rfl, rfl⟩), (.inl ⟨rfl, rfl⟩), trivial⟩ ?_
          refine oVal tt rfl rfl rfl rfl rfl trivial ?_
          refine vNil ?_
          change VC _ _ _ _
          refine vCond rfl (fun hb32 => ?_) (fun hb32 => ?_)
          ·replace h := cnd_t hb32 h
           refine vSeq ?_
           refine vRegion ?_
           refine oVal tt rfl rfl rfl rfl rfl trivial ?_
           refine vNil ?_
           change VC _ _ _ _
           refine vRet ?_
           change ∃ _, _
           cases h
           exact ⟨[], _, rfl, trivial, rfl, (.eq rfl), rfl⟩
          ·replace h := cnd_f hb32 h
           refine vSkip ?_
           change VC _ _ _ _
           refine vSeq ?_
           refine vRegion ?_
           refine oVal tt rfl rfl rfl rfl rfl trivial ?_
           refine vNil ?_
           change VC _ _ _ _
           refine vSeq ?_
           refine vRegion ?_
           iterate 2 refine oVal tt rfl rfl rfl rfl rfl trivial ?_
           obtain ⟨v22, hc33, h⟩ := bind_inv h
           refine oCall (L_heldIntS_w N v16.2 (1 : Int) v22 hc33) rfl rfl rfl rfl rfl rfl rfl rfl ⟨(.inl ⟨hg24, rfl⟩), rfl, trivial⟩ ?_
           refine oVal tt rfl rfl rfl rfl rfl trivial ?_
           refine vNil ?_
           change VC _ _ _ _
           iterate 2 refine vSeq ?_
           refine vRegion ?_
           iterate 2 refine oVal tt rfl rfl rfl rfl rfl trivial ?_
           refine vNil ?_
           change VC _ _ _ _
           refine vCond rfl (fun hb34 => ?_) (fun hb34 => ?_)
           ·replace h := cnd_t hb34 h
            refine vSeq ?_
            refine vRegion ?_
            refine oVal tt rfl rfl rfl rfl rfl trivial ?_
            refine vNil ?_
            change VC _ _ _ _
            refine vRet ?_
            change ∃ _, _
            cases h
            exact ⟨[], _, rfl, trivial, rfl, (.eq rfl), rfl⟩
           ·replace h := cnd_f hb34 h
            refine vSkip ?_
            change VC _ _ _ _
            iterate 2 refine vSeq ?_
            refine vRegion ?_
            iterate 3 refine oVal tt rfl rfl rfl rfl rfl trivial ?_
            refine vNil ?_
            change VC _ _ _ _
            refine vCond rfl (fun hb35 => ?_) (fun hb35 => ?_)
            ·replace h := cnd_t hb35 h
             refine vSeq ?_
             refine vRegion ?_
             refine oVal tt rfl rfl rfl rfl rfl trivial ?_
             refine vNil ?_
             change VC _ _ _ _
             refine vRet ?_
             change ∃ _, _
             cases h
             exact ⟨[], _, rfl, trivial, rfl, (.eq rfl), rfl⟩
            ·replace h := cnd_f hb35 h
             refine vSkip ?_
             change VC _ _ _ _
             refine vSeq ?_
             refine vRegion ?_
             refine oVal tt rfl rfl rfl rfl rfl trivial ?_
             refine vNil ?_
             change VC _ _ _ _
             refine vRet ?_
             change ∃ _, _
             cases h
             exact ⟨[], _, rfl, trivial, rfl, (.eq rfl), rfl⟩
end Go.Proofs.YtmoamglpocjhgaaGreat
