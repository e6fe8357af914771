/- Texts that the proof needs, put together: G75 G76 Qu Pe Pf Qs G40 G74 G77 Qt G78 Qv Pw Ph. -/
import Derived.Test.YtmoamglpocjhgaaGreatBnm3
import Derived.Test.YtmoamglpocjhgaaGreatBnm4
import Derived.Test.YtmoamglpocjhgaaGreatBnm5
set_option linter.unusedVariables false
set_option linter.unusedSimpArgs false
namespace Go.Proofs.YtmoamglpocjhgaaGreat
open Go.RowKit
def S_l23Part_l1 (N : Nat) (g_0 : Grf) (set_1 : List Int) (k : (List Int) → Option (Grf)) : Nat → ((List Int) × Int) → Option (Grf)
 | 0, _ => none
 | n + 1, (l12, v13) =>
  cnd (decide (v13 < g_0.n)) (
   (S_l2Has N set_1 v13).bind fun v15 =>
   cnd (!v15) (
    grd (l12.length + 1 ≤ 4294967296) <|
    grd (Rg64 (v13 + (1 : Int))) <|
    S_l23Part_l1 N g_0 set_1 k n ((l12 ++ ([v13] : List Int)), (v13 + (1 : Int)))) (
    grd (Rg64 (v13 + (1 : Int))) <|
    S_l23Part_l1 N g_0 set_1 k n (l12, (v13 + (1 : Int))))) (
   k l12)
def S_l23Part (N : Nat) (g_0 : Grf) (set_1 : List Int) : Option (Grf) :=
 S_l23Part_l1 N g_0 set_1 (fun (l7 : List Int) =>
    (S_WithoutPoints N g_0 l7).bind fun v8 =>
    some (⟨v8.n, v8.bars⟩ : Grf)) N (([] : List Int), (0 : Int))
set_option maxRecDepth 20000 in
set_option maxHeartbeats 1600000 in
theorem S_l23Part_w (N : Nat) (g_0 : Grf) (set_1 : List Int) (r : Grf) (h : S_l23Part N g_0 set_1 = some r) : PCall Tryz.prog 33 [gD g_0, .ro false (.ints set_1)] [(39, .pairs r.bars)] (.agg [.int r.n, .row 0 0 r.bars.length]) := by
 unfold S_l23Part at h
 refine pcall_intro (TT := TT) tt Tryz.func33 rfl rfl Tryz.ntmps33 (congrArg Array.toList Tryz.results33) rfl rfl fun w0 => ?_
 refine vSeq ?_
 refine vRegion ?_
 refine oBox rfl rfl rfl rfl rfl rfl rfl rfl rfl ?_
 refine oAlloc tt rfl rfl rfl rfl rfl rfl rfl rfl rfl ?_
 refine vNil ?_
 change VC _ _ _ _
 refine vSeq ?_
 refine vRegion ?_
 refine oEmpty tt (wNone rfl) rfl rfl rfl rfl ?_
 refine oVal tt rfl rfl rfl rfl rfl trivial ?_
 refine vNil ?_
 change VC _ _ _ _
 iterate 2 refine vSeq ?_
 refine vRegion ?_
 refine oVal tt rfl rfl rfl rfl rfl trivial ?_
 refine vNil ?_
 change VC _ _ _ _
 refine vJoin (F := fun k => S_l23Part_l1 N g_0 set_1 k) h (α := List Int) (J := fun (l7 : List Int) => (⟨[(2, .ptr 2 0), (4, .ptr 4 0), (5, .row 21 0 l7.length)], [(21, some (3, .ints l7))], [(2, some [.int g_0.n, .ro false (.pairs g_0.bars)]), (4, some [.int (0 : Int), .nil])]⟩ : PS)) ?_ ?_
 ·rintro l7 h
  show VC _ _ _ (⟨[(2, .ptr 2 0), (4, .ptr 4 0), (5, .row 21 0 l7.length)], [(21, some (3, .ints l7))], [(2, some [.int g_0.n, .ro false (.pairs g_0.bars)]), (4, some [.int (0 : Int), .nil])]⟩ : PS)
  refine vSeq ?_
  refine vRegion ?_
  iterate 2 refine oVal tt rfl rfl rfl rfl rfl trivial ?_
  obtain ⟨v8, hc1, h⟩ := bind_inv h
  refine oCall (S_WithoutPoints_w N g_0 l7 v8 hc1) rfl rfl rfl rfl rfl rfl rfl rfl ⟨⟨rfl, rfl, trivial⟩, (.inl ⟨rfl, rfl⟩), trivial⟩ ?_
  refine oStore tt rfl rfl rfl rfl rfl rfl rfl rfl rfl rfl rfl ⟨trivial, trivial, trivial⟩ ?_
  refine vNil ?_
  change VC _ _ _ _
  refine vRet ?_
  change ∃ _, _
  cases h
  exact ⟨[1240], _, rfl, ⟨rfl, trivial⟩, rfl, (.eq rfl), rfl⟩
 ·intro k h
  refine vBlock ?_
  refine vNilT 5 21 3 (.ints []) rfl rfl rfl rfl ?_
  refine vLoopS (α := (List Int) × Int) (fun | (l12, v13) => (⟨[(1, .ro false (.ints set_1)), (2, .ptr 2 0), (4, .ptr 4 0), (5, .row 21 0 l12.length), (6, .int v13)], [(21, some (3, .ints l12))], [(2, some [.int g_0.n, .ro false (.pairs g_0.bars)]), (4, some [.int (0 : Int), .nil])]⟩ : PS)) (S_l23Part_l1 N g_0 set_1 k) h (En.of ⟨rfl, rfl, rfl, rfl, rfl, trivial⟩ ⟨rfl, trivial⟩ ⟨rfl, rfl, trivial⟩) (fun _ => rfl) ?_
  rintro n ⟨l12, v13⟩ h
  rw [S_l23Part_l1] at h
  show VC _ _ _ (⟨[(1, .ro false (.ints set_1)), (2, .ptr 2 0), (4, .ptr 4 0), (5, .row 21 0 l12.length), (6, .int v13)], [(21, some (3, .ints l12))], [(2, some [.int g_0.n, .ro false (.pairs g_0.bars)]), (4, some [.int (0 : Int), .nil])]⟩ : PS)
  iterate 2 refine vSeq ?_
  refine vRegion ?_
  iterate 4 refine oVal tt rfl rfl rfl rfl rfl trivial ?_
  refine vNil ?_
  change VC _ _ _ _
  refine vCond rfl (fun hb2 => ?_) (fun hb2 => ?_)
  ·replace h := cnd_t hb2 h
   refine vSkip ?_
   change VC _ _ _ _
   refine vSeq ?_
   refine vBlock ?_
   refine vSeq ?_
   refine vRegion ?_
   iterate 2 refine oVal tt rfl rfl rfl rfl rfl trivial ?_
   obtain ⟨v15, hc3, h⟩ := bind_inv h
   refine oCall (S_l2Has_w N set_1 v13 v15 hc3) rfl rfl rfl rfl rfl rfl rfl rfl ⟨rfl, rfl, trivial⟩ ?_
   refine oVal tt rfl rfl rfl rfl rfl trivial ?_
   refine vNil ?_
   change VC _ _ _ _
   refine vCond rfl (fun hb4 => ?_) (fun hb4 => ?_)
   ·replace h := cnd_t hb4 h
    refine vRegion ?_
    iterate 2 refine oVal tt rfl rfl rfl rfl rfl trivial ?_
    refine oBuild tt rfl rfl rfl rfl rfl rfl rfl rfl rfl rfl rfl ?_
    obtain ⟨hg5, h⟩ := grd_inv h
    refine oAppend tt rfl rfl rfl rfl rfl rfl rfl rfl rfl rfl rfl rfl rfl rfl rfl rfl (Nat.le_of_eq (Nat.zero_add _)) hg5 ?_
    refine oVal tt rfl rfl rfl rfl rfl trivial ?_
    refine vNil ?_
    change VC _ _ _ _
    refine vRegion ?_
    refine oVal tt rfl rfl rfl rfl rfl trivial ?_
    obtain ⟨hg6, h⟩ := grd_inv h
    refine oVal tt rfl rfl rfl rfl rfl hg6 ?_
    refine oVal tt rfl rfl rfl rfl rfl trivial ?_
    refine vNil ?_
    change ∃ _, _
    exact ⟨((l12 ++ ([v13] : List Int)), (v13 + (1 : Int))), (En.of ⟨rfl, rfl, rfl, rfl, rfl, trivial⟩ ⟨rfl, trivial⟩ ⟨rfl, rfl, trivial⟩), h⟩
   ·replace h := cnd_f hb4 h
    refine vSkip ?_
    change VC _ _ _ _
    refine vRegion ?_
    refine oVal tt rfl rfl rfl rfl rfl trivial ?_
    obtain ⟨hg7, h⟩ := grd_inv h
    refine oVal tt rfl rfl rfl rfl rfl hg7 ?_
    refine oVal tt rfl rfl rfl rfl rfl trivial ?_
    refine vNil ?_
    change ∃ _, _
    exact ⟨(l12, (v13 + (1 : Int))), (En.of ⟨rfl, rfl, rfl, rfl, rfl, trivial⟩ ⟨rfl, trivial⟩ ⟨rfl, rfl, trivial⟩), h⟩
  ·replace h := cnd_f hb2 h
   refine vExit ?_
   change ∃ _, _
   exact ⟨l12, (En.of ⟨rfl, rfl, rfl, trivial⟩ ⟨rfl, trivial⟩ ⟨rfl, rfl, trivial⟩), h⟩
def I_setOf_l1 (N : Nat) (mask_0 : Int) (n_1 : Int) (k : (List Int) → Option (List Int)) : Nat → ((List Int) × Int) → Option (List Int)
 | 0, _ => none
 | n + 1, (l5, x6) =>
  cnd (decide (x6 < n_1)) (
   grd (0 ≤ x6) <|
   cnd ((andI (shrI mask_0 x6) (1 : Int)) == (1 : Int)) (
    grd (l5.length + 1 ≤ 4294967296) <|
    grd (Rg64 (x6 + (1 : Int))) <|
    I_setOf_l1 N mask_0 n_1 k n ((l5 ++ ([x6] : List Int)), (x6 + (1 : Int)))) (
    grd (Rg64 (x6 + (1 : Int))) <|
    I_setOf_l1 N mask_0 n_1 k n (l5, (x6 + (1 : Int))))) (
   k l5)
def I_setOf (N : Nat) (mask_0 : Int) (n_1 : Int) : Option (List Int) :=
 I_setOf_l1 N mask_0 n_1 (fun (l3 : List Int) =>
    some l3) N (([] : List Int), (0 : Int))
set_option maxRecDepth 20000 in
set_option maxHeartbeats 1600000 in
theorem I_setOf_w (N : Nat) (mask_0 : Int) (n_1 : Int) (r : List Int) (h : I_setOf N mask_0 n_1 = some r) : PCall Tryz.prog 38 [.int mask_0, .int n_1] [(3, .ints r)] (.row 0 0 r.length) := by
 unfold I_setOf at h
 refine pcall_intro (TT := TT) tt Tryz.func38 rfl rfl Tryz.ntmps38 (congrArg Array.toList Tryz.results38) rfl rfl fun w0 => ?_
 refine vSeq ?_
 refine vRegion ?_
 refine oVal tt rfl rfl rfl rfl rfl trivial ?_
 refine vNil ?_
 change VC _ _ _ _
 refine vSeq ?_
 refine vRegion ?_
 refine oEmpty tt (wNone rfl) rfl rfl rfl rfl ?_
 refine oVal tt rfl rfl rfl rfl rfl trivial ?_
 refine vNil ?_
 change VC _ _ _ _
 iterate 2 refine vSeq ?_
 refine vRegion ?_
 iterate 2 refine oVal tt rfl rfl rfl rfl rfl trivial ?_
 refine vNil ?_
 change VC _ _ _ _
 refine vJoin (F := fun k => I_setOf_l1 N mask_0 n_1 k) h (α := List Int) (J := fun (l3 : List Int) => (⟨[(5, .row 20 0 l3.length)], [(20, some (3, .ints l3))], []⟩ : PS)) ?_ ?_
 ·rintro l3 h
  show VC _ _ _ (⟨[(5, .row 20 0 l3.length)], [(20, some (3, .ints l3))], []⟩ : PS)
  refine vSeq ?_
  refine vRegion ?_
  iterate 2 refine oVal tt rfl rfl rfl rfl rfl trivial ?_
  refine vNil ?_
  change VC _ _ _ _
  refine vRet ?_
  change ∃ _, _
  cases h
  exact ⟨[20], _, rfl, ⟨rfl, trivial⟩, rfl, (.eq rfl), rfl⟩
 ·intro k h
  refine vBlock ?_
  refine vNilT 5 20 3 (.ints []) rfl rfl rfl rfl ?_
  refine vLoopS (α := (List Int) × Int) (fun | (l5, x6) => (⟨[(0, .int mask_0), (5, .row 20 0 l5.length), (8, .int n_1), (9, .int x6)], [(20, some (3, .ints l5))], []⟩ : PS)) (I_setOf_l1 N mask_0 n_1 k) h (En.of ⟨rfl, rfl, rfl, rfl, trivial⟩ ⟨rfl, trivial⟩ trivial) (fun _ => rfl) ?_
  rintro n ⟨l5, x6⟩ h
  rw [I_setOf_l1] at h
  show VC _ _ _ (⟨[(0, .int mask_0), (5, .row 20 0 l5.length), (8, .int n_1), (9, .int x6)], [(20, some (3, .ints l5))], []⟩ : PS)
  refine vSeq ?_
  refine vRegion ?_
  refine oVal tt rfl rfl rfl rfl rfl trivial ?_
  refine vNil ?_
  change VC _ _ _ _
  refine vSeq ?_
  refine vCond rfl (fun hb1 => ?_) (fun hb1 => ?_)
  ·replace h := cnd_t hb1 h
   refine vSkip ?_
   change VC _ _ _ _
   refine vSeq ?_
   refine vBlock ?_
   refine vSeq ?_
   refine vRegion ?_
   iterate 2 refine oVal tt rfl rfl rfl rfl rfl trivial ?_
   refine vNil ?_
   change VC _ _ _ _
   refine vSeq ?_
   refine vRegion ?_
   iterate 2 refine oVal tt rfl rfl rfl rfl rfl trivial ?_
   obtain ⟨hg2, h⟩ := grd_inv h
   refine oVal tt rfl rfl rfl rfl rfl hg2 ?_
   iterate 2 refine oVal tt rfl rfl rfl rfl rfl trivial ?_
   refine vNil ?_
   change VC _ _ _ _
   refine vCond rfl (fun hb3 => ?_) (fun hb3 => ?_)
   ·replace h := cnd_t hb3 h
    refine vRegion ?_
    iterate 2 refine oVal tt rfl rfl rfl rfl rfl trivial ?_
    refine oBuild tt rfl rfl rfl rfl rfl rfl rfl rfl rfl rfl rfl ?_
    obtain ⟨hg4, h⟩ := grd_inv h
    refine oAppend tt rfl rfl rfl rfl rfl rfl rfl rfl rfl rfl rfl rfl rfl rfl rfl rfl (Nat.le_of_eq (Nat.zero_add _)) hg4 ?_
    refine oVal tt rfl rfl rfl rfl rfl trivial ?_
    refine vNil ?_
    change VC _ _ _ _
    refine vRegion ?_
    obtain ⟨hg5, h⟩ := grd_inv h
    refine oVal tt rfl rfl rfl rfl rfl hg5 ?_
    refine oVal tt rfl rfl rfl rfl rfl trivial ?_
    refine vNil ?_
    change ∃ _, _
    exact ⟨((l5 ++ ([x6] : List Int)), (x6 + (1 : Int))), (En.of ⟨rfl, rfl, rfl, rfl, trivial⟩ ⟨rfl, trivial⟩ trivial), h⟩
   ·replace h := cnd_f hb3 h
    refine vSkip ?_
    change VC _ _ _ _
    refine vRegion ?_
    obtain ⟨hg6, h⟩ := grd_inv h
    refine oVal tt rfl rfl rfl rfl rfl hg6 ?_
    refine oVal tt rfl rfl rfl rfl rfl trivial ?_
    refine vNil ?_
    change ∃ _, _
    exact ⟨(l5, (x6 + (1 : Int))), (En.of ⟨rfl, rfl, rfl, rfl, trivial⟩ ⟨rfl, trivial⟩ trivial), h⟩
  ·replace h := cnd_f hb1 h
   refine vExit ?_
   change ∃ _, _
   exact ⟨l5, (En.of ⟨rfl, trivial⟩ ⟨rfl, trivial⟩ trivial), h⟩
def I_CountBar_l1 (N : Nat) (g_0 : Grf) (a_1 : Int) (b_2 : Int) (k : Int → Option (Int)) : Nat → (Int × Int) → Option (Int)
 | 0, _ => none
 | n + 1, (n5, x6) =>
  cnd (decide (x6 < (g_0.bars.length : Int))) (
   grd (0 ≤ x6 ∧ x6 < (g_0.bars.length : Int)) <|
   cnd (((g_0.bars.getD ((x6).toNat) (0, 0)).1) == a_1) (
    cnd (((g_0.bars.getD ((x6).toNat) (0, 0)).2) == b_2) (
     grd (Rg64 (n5 + (1 : Int))) <|
     grd (Rg64 (x6 + (1 : Int))) <|
     I_CountBar_l1 N g_0 a_1 b_2 k n ((n5 + (1 : Int)), (x6 + (1 : Int)))) (
     cnd (((g_0.bars.getD ((x6).toNat) (0, 0)).1) == b_2) (
      cnd (((g_0.bars.getD ((x6).toNat) (0, 0)).2) == a_1) (
       grd (Rg64 (n5 + (1 : Int))) <|
       grd (Rg64 (x6 + (1 : Int))) <|
       I_CountBar_l1 N g_0 a_1 b_2 k n ((n5 + (1 : Int)), (x6 + (1 : Int)))) (
       grd (Rg64 (x6 + (1 : Int))) <|
       I_CountBar_l1 N g_0 a_1 b_2 k n (n5, (x6 + (1 : Int))))) (
      grd (Rg64 (x6 + (1 : Int))) <|
      I_CountBar_l1 N g_0 a_1 b_2 k n (n5, (x6 + (1 : Int)))))) (
    cnd (((g_0.bars.getD ((x6).toNat) (0, 0)).1) == b_2) (
     cnd (((g_0.bars.getD ((x6).toNat) (0, 0)).2) == a_1) (
      grd (Rg64 (n5 + (1 : Int))) <|
      grd (Rg64 (x6 + (1 : Int))) <|
      I_CountBar_l1 N g_0 a_1 b_2 k n ((n5 + (1 : Int)), (x6 + (1 : Int)))) (
      grd (Rg64 (x6 + (1 : Int))) <|
      I_CountBar_l1 N g_0 a_1 b_2 k n (n5, (x6 + (1 : Int))))) (
     grd (Rg64 (x6 + (1 : Int))) <|
     I_CountBar_l1 N g_0 a_1 b_2 k n (n5, (x6 + (1 : Int)))))) (
   k n5)
def I_CountBar (N : Nat) (g_0 : Grf) (a_1 : Int) (b_2 : Int) : Option (Int) :=
 I_CountBar_l1 N g_0 a_1 b_2 (fun (n3 : Int) =>
    some n3) N ((0 : Int), (0 : Int))
set_option maxRecDepth 20000 in
set_option maxHeartbeats 1600000 in
theorem I_CountBar_w (N : Nat) (g_0 : Grf) (a_1 : Int) (b_2 : Int) (r : Int) (h : I_CountBar N g_0 a_1 b_2 = some r) : PCall Tryz.prog 69 [gD g_0, .int a_1, .int b_2] [] (.int r) := by
 unfold I_CountBar at h
 refine pcall_intro (TT := TT) tt Tryz.func69 rfl rfl Tryz.ntmps69 (congrArg Array.toList Tryz.results69) rfl rfl fun w0 => ?_
 refine vSeq ?_
 refine vRegion ?_
 refine oBox rfl rfl rfl rfl rfl rfl rfl rfl rfl ?_
 refine oVal tt rfl rfl rfl rfl rfl trivial ?_
 refine vNil ?_
 change VC _ _ _ _
 refine vSeq ?_
 refine vRegion ?_
 refine oVal tt rfl rfl rfl rfl rfl trivial ?_
 refine vNil ?_
 change VC _ _ _ _
 iterate 2 refine vSeq ?_
 refine vRegion ?_
 iterate 4 refine oVal tt rfl rfl rfl rfl rfl trivial ?_
 refine vNil ?_
 change VC _ _ _ _
 refine vJoin (F := fun k => I_CountBar_l1 N g_0 a_1 b_2 k) h (α := Int) (J := fun (n3 : Int) => (⟨[(7, .int n3)], [], []⟩ : PS)) ?_ ?_
 ·rintro n3 h
  show VC _ _ _ (⟨[(7, .int n3)], [], []⟩ : PS)
  refine vSeq ?_
  refine vRegion ?_
  iterate 2 refine oVal tt rfl rfl rfl rfl rfl trivial ?_
  refine vNil ?_
  change VC _ _ _ _
  refine vRet ?_
  change ∃ _, _
  cases h
  exact ⟨[], _, rfl, trivial, rfl, (.eq rfl), rfl⟩
 ·intro k h
  refine vBlock ?_
  refine vLoopS (α := Int × Int) (fun | (n5, x6) => (⟨[(1, .int a_1), (2, .int b_2), (7, .int n5), (11, .ro false (.pairs g_0.bars)), (12, .int (g_0.bars.length : Int)), (13, .int x6)], [], []⟩ : PS)) (I_CountBar_l1 N g_0 a_1 b_2 k) h (En.of ⟨rfl, rfl, rfl, rfl, rfl, rfl, trivial⟩ trivial trivial) (fun _ => rfl) ?_
  rintro n ⟨n5, x6⟩ h
  rw [I_CountBar_l1] at h
  show VC _ _ _ (⟨[(1, .int a_1), (2, .int b_2), (7, .int n5), (11, .ro false (.pairs g_0.bars)), (12, .int (g_0.bars.length : Int)), (13, .int x6)], [], []⟩ : PS)
  refine vSeq ?_
  refine vRegion ?_
  refine oVal tt rfl rfl rfl rfl rfl trivial ?_
  refine vNil ?_
  change VC _ _ _ _
  refine vSeq ?_
  refine vCond rfl (fun hb1 => ?_) (fun hb1 => ?_)
  ·replace h := cnd_t hb1 h
   refine vSkip ?_
   change VC _ _ _ _
   refine vSeq ?_
   refine vBlock ?_
   refine vSeq ?_
   refine vRegion ?_
   obtain ⟨hg2, h⟩ := grd_inv h
   refine oVal tt rfl rfl rfl rfl rfl hg2 ?_
   refine oVal tt rfl rfl rfl rfl rfl trivial ?_
   refine oAlloc tt rfl rfl rfl rfl rfl rfl rfl rfl rfl ?_
   refine oStore tt rfl rfl rfl rfl rfl rfl rfl rfl rfl rfl rfl ⟨trivial, trivial, trivial⟩ ?_
   refine vNil ?_
   change VC _ _ _ _
   refine vSeq ?_
   refine vRegion ?_
   iterate 5 refine oVal tt rfl rfl rfl rfl rfl trivial ?_
   refine oSplit rfl rfl rfl (fun hb3 => ?_) (fun hb3 => ?_)
   ·replace h := cnd_t hb3 h
    iterate 4 refine oValG tt rfl rfl rfl rfl rfl hb3 rfl rfl rfl trivial ?_
    refine oPick rfl rfl rfl rfl rfl hb3 rfl ?_
    refine oVal tt rfl rfl rfl rfl rfl trivial ?_
    refine oSplit rfl rfl rfl (fun hb4 => ?_) (fun hb4 => ?_)
    ·replace h := cnd_t hb4 h
     iterate 5 refine oNoF rfl rfl rfl rfl hb4 rfl rfl ?_
     iterate 4 refine oNoU rfl rfl rfl rfl rfl ?_
     refine oNoF rfl rfl rfl rfl hb4 rfl rfl ?_
     refine oPick rfl rfl rfl rfl rfl hb4 rfl ?_
     refine vNil ?_
     change VC _ _ _ _
     refine vCondT rfl rfl ?_
     refine vRegion ?_
     refine oVal tt rfl rfl rfl rfl rfl trivial ?_
     obtain ⟨hg5, h⟩ := grd_inv h
     refine oVal tt rfl rfl rfl rfl rfl hg5 ?_
     refine oVal tt rfl rfl rfl rfl rfl trivial ?_
     refine vNil ?_
     change VC _ _ _ _
     refine vRegion ?_
     obtain ⟨hg6, h⟩ := grd_inv h
     refine oVal tt rfl rfl rfl rfl rfl hg6 ?_
     refine oVal tt rfl rfl rfl rfl rfl trivial ?_
     refine vNil ?_
     change ∃ _, _
     exact ⟨((n5 + (1 : Int)), (x6 + (1 : Int))), (En.of ⟨rfl, rfl, rfl, rfl, rfl, rfl, trivial⟩ trivial trivial), h⟩
    ·replace h := cnd_f hb4 h
     iterate 5 refine oValG tt rfl rfl rfl rfl rfl hb4 rfl rfl rfl trivial ?_
     refine oSplit rfl rfl rfl (fun hb7 => ?_) (fun hb7 => ?_)
     ·replace h := cnd_t hb7 h
      iterate 4 refine oValG tt rfl rfl rfl rfl rfl hb7 rfl rfl rfl trivial ?_
      refine oPickGT rfl rfl rfl rfl hb4 rfl rfl rfl rfl hb7 rfl ?_
      refine oPickF rfl rfl rfl rfl rfl hb4 rfl ?_
      refine vNil ?_
      change VC _ _ _ _
      refine vCond rfl (fun hb8 => ?_) (fun hb8 => ?_)
      ·replace h := cnd_t hb8 h
       refine vRegion ?_
       refine oVal tt rfl rfl rfl rfl rfl trivial ?_
       obtain ⟨hg9, h⟩ := grd_inv h
       refine oVal tt rfl rfl rfl rfl rfl hg9 ?_
       refine oVal tt rfl rfl rfl rfl rfl trivial ?_
       refine vNil ?_
       change VC _ _ _ _
       refine vRegion ?_
       obtain ⟨hg10, h⟩ := grd_inv h
       refine oVal tt rfl rfl rfl rfl rfl hg10 ?_
       refine oVal tt rfl rfl rfl rfl rfl trivial ?_
       refine vNil ?_
       change ∃ _, _
       exact ⟨((n5 + (1 : Int)), (x6 + (1 : Int))), (En.of ⟨rfl, rfl, rfl, rfl, rfl, rfl, trivial⟩ trivial trivial), h⟩
      ·replace h := cnd_f hb8 h
       refine vSkip ?_
       change VC _ _ _ _
       refine vRegion ?_
       obtain ⟨hg11, h⟩ := grd_inv h
       refine oVal tt rfl rfl rfl rfl rfl hg11 ?_
       refine oVal tt rfl rfl rfl rfl rfl trivial ?_
       refine vNil ?_
       change ∃ _, _
       exact ⟨(n5, (x6 + (1 : Int))), (En.of ⟨rfl, rfl, rfl, rfl, rfl, rfl, trivial⟩ trivial trivial), h⟩
     ·replace h := cnd_f hb7 h
      iterate 4 refine oNoT rfl rfl rfl rfl hb7 rfl rfl ?_
      refine oPickGF rfl rfl rfl rfl hb4 rfl rfl rfl rfl hb7 rfl ?_
      refine oPickF rfl rfl rfl rfl rfl hb4 rfl ?_
      refine vNil ?_
      change VC _ _ _ _
      refine vCondF rfl rfl ?_
      refine vSkip ?_
      change VC _ _ _ _
      refine vRegion ?_
      obtain ⟨hg12, h⟩ := grd_inv h
      refine oVal tt rfl rfl rfl rfl rfl hg12 ?_
      refine oVal tt rfl rfl rfl rfl rfl trivial ?_
      refine vNil ?_
      change ∃ _, _
      exact ⟨(n5, (x6 + (1 : Int))), (En.of ⟨rfl, rfl, rfl, rfl, rfl, rfl, trivial⟩ trivial trivial), h⟩
   ·replace h := cnd_f hb3 h
    iterate 4 refine oNoT rfl rfl rfl rfl hb3 rfl rfl ?_
    refine oPickF rfl rfl rfl rfl rfl hb3 rfl ?_
    refine oVal tt rfl rfl rfl rfl rfl trivial ?_
    iterate 5 refine oValG tt rfl rfl rfl rfl rfl rfl rfl rfl rfl trivial ?_
    refine oSplit rfl rfl rfl (fun hb13 => ?_) (fun hb13 => ?_)
    ·replace h := cnd_t hb13 h
     iterate 4 refine oValG tt rfl rfl rfl rfl rfl hb13 rfl rfl rfl trivial ?_
     refine oPickGT rfl rfl rfl rfl rfl rfl rfl rfl rfl hb13 rfl ?_
     refine oPickF rfl rfl rfl rfl rfl rfl rfl ?_
     refine vNil ?_
     change VC _ _ _ _
     refine vCond rfl (fun hb14 => ?_) (fun hb14 => ?_)
     ·replace h := cnd_t hb14 h
      refine vRegion ?_
      refine oVal tt rfl rfl rfl rfl rfl trivial ?_
      obtain ⟨hg15, h⟩ := grd_inv h
      refine oVal tt rfl rfl rfl rfl rfl hg15 ?_
      refine oVal tt rfl rfl rfl rfl rfl trivial ?_
      refine vNil ?_
      change VC _ _ _ _
      refine vRegion ?_
      obtain ⟨hg16, h⟩ := grd_inv h
      refine oVal tt rfl rfl rfl rfl rfl hg16 ?_
      refine oVal tt rfl rfl rfl rfl rfl trivial ?_
      refine vNil ?_
      change ∃ _, _
      exact ⟨((n5 + (1 : Int)), (x6 + (1 : Int))), (En.of ⟨rfl, rfl, rfl, rfl, rfl, rfl, trivial⟩ trivial trivial), h⟩
     ·replace h := cnd_f hb14 h
      refine vSkip ?_
      change VC _ _ _ _
      refine vRegion ?_
      obtain ⟨hg17, h⟩ := grd_inv h
      refine oVal tt rfl rfl rfl rfl rfl hg17 ?_
      refine oVal tt rfl rfl rfl rfl rfl trivial ?_
      refine vNil ?_
      change ∃ _, _
      exact ⟨(n5, (x6 + (1 : Int))), (En.of ⟨rfl, rfl, rfl, rfl, rfl, rfl, trivial⟩ trivial trivial), h⟩
    ·replace h := cnd_f hb13 h
     iterate 4 refine oNoT rfl rfl rfl rfl hb13 rfl rfl ?_
     refine oPickGF rfl rfl rfl rfl rfl rfl rfl rfl rfl hb13 rfl ?_
     refine oPickF rfl rfl rfl rfl rfl rfl rfl ?_
     refine vNil ?_
     change VC _ _ _ _
     refine vCondF rfl rfl ?_
     refine vSkip ?_
     change VC _ _ _ _
     refine vRegion ?_
     obtain ⟨hg18, h⟩ := grd_inv h
     refine oVal tt rfl rfl rfl rfl rfl hg18 ?_
     refine oVal tt rfl rfl rfl rfl rfl trivial ?_
     refine vNil ?_
     change ∃ _, _
     exact ⟨(n5, (x6 + (1 : Int))), (En.of ⟨rfl, rfl, rfl, rfl, rfl, rfl, trivial⟩ trivial trivial), h⟩
  ·replace h := cnd_f hb1 h
   refine vExit ?_
   change ∃ _, _
   exact ⟨n5, (En.of ⟨rfl, trivial⟩ trivial trivial), h⟩
def I_MissingBars_l2 (N : Nat) (g_0 : Grf) (x83 : Int) (k : (List (Int × Int)) → Option (List (Int × Int))) : Nat → ((List (Int × Int)) × Int) → Option (List (Int × Int))
 | 0, _ => none
 | n + 1, (l104, b105) =>
  cnd (decide (b105 < g_0.n)) (
   (I_CountBar N g_0 x83 b105).bind fun v107 =>
   cnd (v107 == (0 : Int)) (
    grd (l104.length + 1 ≤ 4294967296) <|
    grd (Rg64 (b105 + (1 : Int))) <|
    I_MissingBars_l2 N g_0 x83 k n ((l104 ++ ([(x83, b105)] : List (Int × Int))), (b105 + (1 : Int)))) (
    grd (Rg64 (b105 + (1 : Int))) <|
    I_MissingBars_l2 N g_0 x83 k n (l104, (b105 + (1 : Int))))) (
   k l104)
def I_MissingBars_l1 (N : Nat) (g_0 : Grf) (k : (List (Int × Int)) → Option (List (Int × Int))) : Nat → ((List (Int × Int)) × Int) → Option (List (Int × Int))
 | 0, _ => none
 | n + 1, (l82, x83) =>
  cnd (decide (x83 < g_0.n)) (
   grd (Rg64 (x83 + (1 : Int))) <|
   I_MissingBars_l2 N g_0 x83 (fun (l101 : List (Int × Int)) =>
      I_MissingBars_l1 N g_0 k n (l101, (x83 + (1 : Int)))) N (l82, (x83 + (1 : Int)))) (
   k l82)
def I_MissingBars (N : Nat) (g_0 : Grf) : Option (List (Int × Int)) :=
 (I_IsGraph N g_0).bind fun v1 =>
 cnd (!v1) (
  some ([] : List (Int × Int))) (
  I_MissingBars_l1 N g_0 (fun (l54 : List (Int × Int)) =>
     some l54) N (([] : List (Int × Int)), (0 : Int)))
set_option maxRecDepth 20000 in
set_option maxHeartbeats 1600000 in
theorem I_MissingBars_w (N : Nat) (g_0 : Grf) (r : List (Int × Int)) (h : I_MissingBars N g_0 = some r) : PCall Tryz.prog 45 [gD g_0] [(39, .pairs r)] (.row 0 0 r.length) := by
 unfold I_MissingBars at h
 refine pcall_intro (TT := TT) tt Tryz.func45 rfl rfl Tryz.ntmps45 (congrArg Array.toList Tryz.results45) rfl rfl fun w0 => ?_
 refine vSeq ?_
 refine vRegion ?_
 refine oBox rfl rfl rfl rfl rfl rfl rfl rfl rfl ?_
 refine oVal tt rfl rfl rfl rfl rfl trivial ?_
 refine vNil ?_
 change VC _ _ _ _
 refine vSeq ?_
 refine vRegion ?_
 refine oEmpty tt (wNone rfl) rfl rfl rfl rfl ?_
 refine oVal tt rfl rfl rfl rfl rfl trivial ?_
 refine vNil ?_
 change VC _ _ _ _
 iterate 2 refine vSeq ?_
 refine vRegion ?_
 refine oVal tt rfl rfl rfl rfl rfl trivial ?_
 obtain ⟨v1, hc1, h⟩ := bind_inv h
 refine oCall (I_IsGraph_w N g_0 v1 hc1) rfl rfl rfl rfl rfl rfl rfl rfl ⟨⟨rfl, rfl, trivial⟩, trivial⟩ ?_
 refine oVal tt rfl rfl rfl rfl rfl trivial ?_
 refine vNil ?_
 change VC _ _ _ _
 refine vCond rfl (fun hb2 => ?_) (fun hb2 => ?_)
 ·replace h := cnd_t hb2 h
  refine vSeq ?_
  refine vRegion ?_
  iterate 2 refine oVal tt rfl rfl rfl rfl rfl trivial ?_
  refine vNil ?_
  change VC _ _ _ _
  refine vNilT 2 9001 39 (.pairs []) rfl rfl rfl rfl ?_
  refine vRet ?_
  change ∃ _, _
  cases h
  exact ⟨[9001], _, rfl, ⟨rfl, trivial⟩, rfl, (.eq rfl), rfl⟩
 ·replace h := cnd_f hb2 h
  refine vSkip ?_
  change VC _ _ _ _
  iterate 2 refine vSeq ?_
  refine vRegion ?_
  iterate 3 refine oVal tt rfl rfl rfl rfl rfl trivial ?_
  refine vNil ?_
  change VC _ _ _ _
  refine vJoin (F := fun k => I_MissingBars_l1 N g_0 k) h (α := List (Int × Int)) (J := fun (l54 : List (Int × Int)) => (⟨[(3, .row 34 0 l54.length)], [(34, some (39, .pairs l54))], []⟩ : PS)) ?_ ?_
  ·rintro l54 h
   show VC _ _ _ (⟨[(3, .row 34 0 l54.length)], [(34, some (39, .pairs l54))], []⟩ : PS)
   refine vSeq ?_
   refine vRegion ?_
   iterate 2 refine oVal tt rfl rfl rfl rfl rfl trivial ?_
   refine vNil ?_
   change VC _ _ _ _
   refine vRet ?_
   change ∃ _, _
   cases h
   exact ⟨[34], _, rfl, ⟨rfl, trivial⟩, rfl, (.eq rfl), rfl⟩
  ·intro k h
   refine vBlock ?_
   refine vNilT 3 34 39 (.pairs []) rfl rfl rfl rfl ?_
   refine vLoopS (α := (List (Int × Int)) × Int) (fun | (l82, x83) => (⟨[(1, .ptr 1 0), (3, .row 34 0 l82.length), (12, .int g_0.n), (13, .int x83)], [(34, some (39, .pairs l82))], [(1, some [.int g_0.n, .ro false (.pairs g_0.bars)])]⟩ : PS)) (I_MissingBars_l1 N g_0 k) h (En.of ⟨rfl, rfl, rfl, rfl, trivial⟩ ⟨rfl, trivial⟩ ⟨rfl, trivial⟩) (fun _ => rfl) ?_
   rintro n ⟨l82, x83⟩ h
   rw [I_MissingBars_l1] at h
   show VC _ _ _ (⟨[(1, .ptr 1 0), (3, .row 34 0 l82.length), (12, .int g_0.n), (13, .int x83)], [(34, some (39, .pairs l82))], [(1, some [.int g_0.n, .ro false (.pairs g_0.bars)])]⟩ : PS)
   refine vSeq ?_
   refine vRegion ?_
   refine oVal tt rfl rfl rfl rfl rfl trivial ?_
   refine vNil ?_
   change VC _ _ _ _
   refine vSeq ?_
   refine vCond rfl (fun hb3 => ?_) (fun hb3 => ?_)
   ·replace h := cnd_t hb3 h
    refine vSkip ?_
    change VC _ _ _ _
    refine vSeq ?_
    refine vBlock ?_
    refine vSeq ?_
    refine vRegion ?_
    iterate 2 refine oVal tt rfl rfl rfl rfl rfl trivial ?_
    refine vNil ?_
    change VC _ _ _ _
    refine vSeq ?_
    refine vRegion ?_
    refine oVal tt rfl rfl rfl rfl rfl trivial ?_
    obtain ⟨hg4, h⟩ := grd_inv h
    refine oVal tt rfl rfl rfl rfl rfl hg4 ?_
    refine oVal tt rfl rfl rfl rfl rfl trivial ?_
    refine vNil ?_
    change VC _ _ _ _
    refine vJoin (F := fun k => I_MissingBars_l2 N g_0 x83 k) h (α := List (Int × Int)) (J := fun (l101 : List (Int × Int)) => (⟨[(1, .ptr 1 0), (3, .row 34 0 l101.length), (12, .int g_0.n), (13, .int x83)], [(34, some (39, .pairs l101))], [(1, some [.int g_0.n, .ro false (.pairs g_0.bars)])]⟩ : PS)) ?_ ?_
    ·rintro l101 h
     show VC _ _ _ (⟨[(1, .ptr 1 0), (3, .row 34 0 l101.length), (12, .int g_0.n), (13, .int x83)], [(34, some (39, .pairs l101))], [(1, some [.int g_0.n, .ro false (.pairs g_0.bars)])]⟩ : PS)
     refine vRegion ?_
     refine oVal tt rfl rfl rfl rfl rfl hg4 ?_
     refine oVal tt rfl rfl rfl rfl rfl trivial ?_
     refine vNil ?_
     change ∃ _, _
     exact ⟨(l101, (x83 + (1 : Int))), (En.of ⟨rfl, rfl, rfl, rfl, trivial⟩ ⟨rfl, trivial⟩ ⟨rfl, trivial⟩), h⟩
    ·intro k h
     refine vBlock ?_
     refine vLoopS (α := (List (Int × Int)) × Int) (fun | (l104, b105) => (⟨[(1, .ptr 1 0), (3, .row 34 0 l104.length), (4, .int x83), (5, .int b105), (12, .int g_0.n), (13, .int x83)], [(34, some (39, .pairs l104))], [(1, some [.int g_0.n, .ro false (.pairs g_0.bars)])]⟩ : PS)) (I_MissingBars_l2 N g_0 x83 k) h (En.of ⟨rfl, rfl, rfl, rfl, rfl, rfl, trivial⟩ ⟨rfl, trivial⟩ ⟨rfl, trivial⟩) (fun _ => rfl) ?_
     rintro n ⟨l104, b105⟩ h
     rw [I_MissingBars_l2] at h
     show VC _ _ _ (⟨[(1, .ptr 1 0), (3, .row 34 0 l104.length), (4, .int x83), (5, .int b105), (12, .int g_0.n), (13, .int x83)], [(34, some (39, .pairs l104))], [(1, some [.int g_0.n, .ro false (.pairs g_0.bars)])]⟩ : PS)
     iterate 2 refine vSeq ?_
     refine vRegion ?_
     iterate 4 refine oVal tt rfl rfl rfl rfl rfl trivial ?_
     refine vNil ?_
     change VC _ _ _ _
     refine vCond rfl (fun hb5 => ?_) (fun hb5 => ?_)
     ·replace h := cnd_t hb5 h
      refine vSkip ?_
      change VC _ _ _ _
      refine vSeq ?_
      refine vBlock ?_
      refine vSeq ?_
      refine vRegion ?_
      iterate 3 refine oVal tt rfl rfl rfl rfl rfl trivial ?_
      obtain ⟨v107, hc6, h⟩ := bind_inv h
      refine oCall (I_CountBar_w N g_0 x83 b105 v107 hc6) rfl rfl rfl rfl rfl rfl rfl rfl ⟨⟨rfl, rfl, trivial⟩, rfl, rfl, trivial⟩ ?_
      refine oVal tt rfl rfl rfl rfl rfl trivial ?_
      refine vNil ?_
      change VC _ _ _ _
      refine vCond rfl (fun hb7 => ?_) (fun hb7 => ?_)
      ·replace h := cnd_t hb7 h
       refine vRegion ?_
       iterate 3 refine oVal tt rfl rfl rfl rfl rfl trivial ?_
       refine oPure (wNone rfl) (pBuild bld_impl_Bar rfl rfl) rfl rfl ?_
       refine oBuild tt rfl rfl rfl rfl rfl rfl rfl rfl rfl rfl rfl ?_
       obtain ⟨hg8, h⟩ := grd_inv h
       refine oAppend tt rfl rfl rfl rfl rfl rfl rfl rfl rfl rfl rfl rfl rfl rfl rfl rfl (Nat.le_of_eq (Nat.zero_add _)) hg8 ?_
       refine oVal tt rfl rfl rfl rfl rfl trivial ?_
       refine vNil ?_
       change VC _ _ _ _
       refine vRegion ?_
       refine oVal tt rfl rfl rfl rfl rfl trivial ?_
       obtain ⟨hg9, h⟩ := grd_inv h
       refine oVal tt rfl rfl rfl rfl rfl hg9 ?_
       refine oVal tt rfl rfl rfl rfl rfl trivial ?_
       refine vNil ?_
       change ∃ _, _
       exact ⟨((l104 ++ ([(x83, b105)] : List (Int × Int))), (b105 + (1 : Int))), (En.of ⟨rfl, rfl, rfl, rfl, rfl, rfl, trivial⟩ ⟨rfl, trivial⟩ ⟨rfl, trivial⟩), h⟩
      ·replace h := cnd_f hb7 h
       refine vSkip ?_
       change VC _ _ _ _
       refine vRegion ?_
       refine oVal tt rfl rfl rfl rfl rfl trivial ?_
       obtain ⟨hg10, h⟩ := grd_inv h
       refine oVal tt rfl rfl rfl rfl rfl hg10 ?_
       refine oVal tt rfl rfl rfl rfl rfl trivial ?_
       refine vNil ?_
       change ∃ _, _
       exact ⟨(l104, (b105 + (1 : Int))), (En.of ⟨rfl, rfl, rfl, rfl, rfl, rfl, trivial⟩ ⟨rfl, trivial⟩ ⟨rfl, trivial⟩), h⟩
     ·replace h := cnd_f hb5 h
      refine vExit ?_
      change ∃ _, _
      exact ⟨l104, (En.of ⟨rfl, rfl, rfl, rfl, trivial⟩ ⟨rfl, trivial⟩ ⟨rfl, trivial⟩), h⟩
   ·replace h := cnd_f hb3 h
    refine vExit ?_
    change ∃ _, _
    exact ⟨l82, (En.of ⟨rfl, trivial⟩ ⟨rfl, trivial⟩ trivial), h⟩
def I_IsRange (N : Nat) (k_0 : Int) (l_1 : Int) : Option (Bool) :=
 (I_within N k_0 (1 : Int) (3 : Int)).bind fun v1 =>
 cnd v1 (
  grd (Rg64 ((2 : Int) * k_0)) <|
  grd (Rg64 (((2 : Int) * k_0) - (1 : Int))) <|
  (I_within N l_1 (0 : Int) (((2 : Int) * k_0) - (1 : Int))).bind fun v2 =>
  some v2) (
  some false)
set_option maxRecDepth 20000 in
set_option maxHeartbeats 1600000 in
theorem I_IsRange_w (N : Nat) (k_0 : Int) (l_1 : Int) (r : Bool) (h : I_IsRange N k_0 l_1 = some r) : PCall Tryz.prog 192 [.int k_0, .int l_1] [] (.bool r) := by
 unfold I_IsRange at h
 refine pcall_intro (TT := TT) tt Tryz.func192 rfl rfl Tryz.ntmps192 (congrArg Array.toList Tryz.results192) rfl rfl fun w0 => ?_
 refine vSeq ?_
 refine vRegion ?_
 refine oVal tt rfl rfl rfl rfl rfl trivial ?_
 refine vNil ?_
 change VC _ _ _ _
 refine vSeq ?_
 refine vRegion ?_
 refine oVal tt rfl rfl rfl rfl rfl trivial ?_
 obtain ⟨v1, hc1, h⟩ := bind_inv h
 refine oCall (I_within_w N k_0 (1 : Int) (3 : Int) v1 hc1) rfl rfl rfl rfl rfl rfl rfl rfl ⟨rfl, rfl, rfl, trivial⟩ ?_
 refine oVal tt rfl rfl rfl rfl rfl trivial ?_
 refine oSplit rfl rfl rfl (fun hb2 => ?_) (fun hb2 => ?_)
 ·replace h := cnd_t hb2 h
  iterate 2 refine oValG tt rfl rfl rfl rfl rfl hb2 rfl rfl rfl trivial ?_
  obtain ⟨hg3, h⟩ := grd_inv h
  refine oValG tt rfl rfl rfl rfl rfl hb2 rfl rfl rfl hg3 ?_
  obtain ⟨hg4, h⟩ := grd_inv h
  refine oValG tt rfl rfl rfl rfl rfl hb2 rfl rfl rfl hg4 ?_
  obtain ⟨v2, hc5, h⟩ := bind_inv h
  refine oCallG (I_within_w N l_1 (0 : Int) (((2 : Int) * k_0) - (1 : Int)) v2 hc5) rfl rfl rfl rfl hb2 rfl rfl rfl rfl rfl rfl rfl ⟨rfl, rfl, rfl, trivial⟩ ?_
  refine oPick rfl rfl rfl rfl rfl hb2 rfl ?_
  refine oVal tt rfl rfl rfl rfl rfl trivial ?_
  refine vNil ?_
  change VC _ _ _ _
  refine vRet ?_
  change ∃ _, _
  cases h
  exact ⟨[], _, rfl, trivial, rfl, (.eq rfl), rfl⟩
 ·replace h := cnd_f hb2 h
  iterate 5 refine oNoT rfl rfl rfl rfl hb2 rfl rfl ?_
  refine oPickF rfl rfl rfl rfl rfl hb2 rfl ?_
  refine oVal tt rfl rfl rfl rfl rfl trivial ?_
  refine vNil ?_
  change VC _ _ _ _
  refine vRet ?_
  change ∃ _, _
  cases h
  exact ⟨[], _, rfl, trivial, rfl, (.eq rfl), rfl⟩
def I_RunPebbles (N : Nat) (g_0 : Grf) (k_1 : Int) (l_2 : Int) : Option (Pbl × Bool) :=
 (I_IsGraph N g_0).bind fun v1 =>
 cnd (!v1) (
  some ((⟨([] : List Int), ([] : List Int), ([] : List Int)⟩ : Pbl), false)) (
  (I_IsRange N k_1 l_2).bind fun v2 =>
  cnd (!v2) (
   some ((⟨([] : List Int), ([] : List Int), ([] : List Int)⟩ : Pbl), false)) (
   (I_play N g_0.n g_0.bars k_1 l_2).bind fun v3 =>
   some ((⟨v3.free, v3.tails, v3.placed⟩ : Pbl), true)))
set_option maxRecDepth 20000 in
set_option maxHeartbeats 1600000 in
theorem I_RunPebbles_w (N : Nat) (g_0 : Grf) (k_1 : Int) (l_2 : Int) (r : Pbl × Bool) (h : I_RunPebbles N g_0 k_1 l_2 = some r) : PCall Tryz.prog 185 [gD g_0, .int k_1, .int l_2] [(3, .ints r.1.free), (3, .ints r.1.tails), (3, .ints r.1.placed)] (.tup [.agg [.row 0 0 r.1.free.length, .row 1 0 r.1.tails.length, .row 2 0 r.1.placed.length], .bool r.2]) := by
 unfold I_RunPebbles at h
 refine pcall_intro (TT := TT) tt Tryz.func185 rfl rfl Tryz.ntmps185 (congrArg Array.toList Tryz.results185) rfl rfl fun w0 => ?_
 refine vSeq ?_
 refine vRegion ?_
 refine oBox rfl rfl rfl rfl rfl rfl rfl rfl rfl ?_
 refine oAlloc tt rfl rfl rfl rfl rfl rfl rfl rfl rfl ?_
 refine oVal tt rfl rfl rfl rfl rfl trivial ?_
 refine vNil ?_
 change VC _ _ _ _
 iterate 2 refine vSeq ?_
 refine vRegion ?_
 refine oVal tt rfl rfl rfl rfl rfl trivial ?_
 obtain ⟨v1, hc1, h⟩ := bind_inv h
 refine oCall (I_IsGraph_w N g_0 v1 hc1) rfl rfl rfl rfl rfl rfl rfl rfl ⟨⟨rfl, rfl, trivial⟩, trivial⟩ ?_
 iterate 2 refine oVal tt rfl rfl rfl rfl rfl trivial ?_
 refine oSplit rfl rfl rfl (fun hb2 => ?_) (fun hb2 => ?_)
 ·replace h := cnd_t hb2 h
  iterate 4 refine oNoF rfl rfl rfl rfl hb2 rfl rfl ?_
  refine oPick rfl rfl rfl rfl rfl hb2 rfl ?_
  refine vNil ?_
  change VC _ _ _ _
  refine vCondT rfl rfl ?_
  refine vSeq ?_
  refine vRegion ?_
  refine oPure (wNone rfl) (pBuild bld_impl_Pebbles rfl rfl) rfl rfl ?_
  refine oStore tt rfl rfl rfl rfl rfl rfl rfl rfl rfl rfl rfl ⟨trivial, trivial, trivial, trivial⟩ ?_
  refine oVal tt rfl rfl rfl rfl rfl trivial ?_
  refine vNil ?_
  change VC _ _ _ _
  refine vNilB 6 0 9001 3 (.ints []) rfl rfl rfl rfl rfl ?_
  refine vNilB 6 1 9002 3 (.ints []) rfl rfl rfl rfl rfl ?_
  refine vNilB 6 2 9003 3 (.ints []) rfl rfl rfl rfl rfl ?_
  refine vRet ?_
  change ∃ _, _
  cases h
  exact ⟨[9001, 9002, 9003], _, rfl, ⟨rfl, rfl, rfl, trivial⟩, rfl, (.eq rfl), rfl⟩
 ·replace h := cnd_f hb2 h
  iterate 2 refine oValG tt rfl rfl rfl rfl rfl hb2 rfl rfl rfl trivial ?_
  obtain ⟨v2, hc3, h⟩ := bind_inv h
  refine oCallG (I_IsRange_w N k_1 l_2 v2 hc3) rfl rfl rfl rfl hb2 rfl rfl rfl rfl rfl rfl rfl ⟨rfl, rfl, trivial⟩ ?_
  refine oValG tt rfl rfl rfl rfl rfl hb2 rfl rfl rfl trivial ?_
  refine oPickF rfl rfl rfl rfl rfl hb2 rfl ?_
  refine vNil ?_
  change VC _ _ _ _
  refine vCond rfl (fun hb4 => ?_) (fun hb4 => ?_)
  ·replace h := cnd_t hb4 h
   refine vSeq ?_
   refine vRegion ?_
   refine oPure (wNone rfl) (pBuild bld_impl_Pebbles rfl rfl) rfl rfl ?_
   refine oStore tt rfl rfl rfl rfl rfl rfl rfl rfl rfl rfl rfl ⟨trivial, trivial, trivial, trivial⟩ ?_
   refine oVal tt rfl rfl rfl rfl rfl trivial ?_
   refine vNil ?_
   change VC _ _ _ _
   refine vNilB 6 0 9001 3 (.ints []) rfl rfl rfl rfl rfl ?_
   refine vNilB 6 1 9002 3 (.ints []) rfl rfl rfl rfl rfl ?_
   refine vNilB 6 2 9003 3 (.ints []) rfl rfl rfl rfl rfl ?_
   refine vRet ?_
   change ∃ _, _
   cases h
   exact ⟨[9001, 9002, 9003], _, rfl, ⟨rfl, rfl, rfl, trivial⟩, rfl, (.eq rfl), rfl⟩
  ·replace h := cnd_f hb4 h
   refine vSkip ?_
   change VC _ _ _ _
   refine vSeq ?_
   refine vRegion ?_
   iterate 6 refine oVal tt rfl rfl rfl rfl rfl trivial ?_
   obtain ⟨v3, hc5, h⟩ := bind_inv h
   refine oCall (I_play_w N g_0.n g_0.bars k_1 l_2 v3 hc5) rfl rfl rfl rfl rfl rfl rfl rfl ⟨rfl, rfl, rfl, rfl, trivial⟩ ?_
   refine oStore tt rfl rfl rfl rfl rfl rfl rfl rfl rfl rfl rfl ⟨trivial, trivial, trivial, trivial⟩ ?_
   refine oVal tt rfl rfl rfl rfl rfl trivial ?_
   refine vNil ?_
   change VC _ _ _ _
   refine vRet ?_
   change ∃ _, _
   cases h
   exact ⟨[1240, 1241, 1242], _, rfl, ⟨rfl, rfl, rfl, trivial⟩, rfl, (.eq rfl), rfl⟩
end Go.Proofs.YtmoamglpocjhgaaGreat
namespace Go.Proofs.YtmoamglpocjhgaaGreat
open Go.RowKit
def I_RankOf (N : Nat) (g_0 : Grf) (k_1 : Int) (l_2 : Int) : Option (Int) :=
 (I_RunPebbles N g_0 k_1 l_2).bind fun v1 =>
 cnd (!v1.2) (
  some (-1 : Int)) (
  some (v1.1.placed.length : Int))
set_option maxRecDepth 20000 in
set_option maxHeartbeats 1600000 in
theorem I_RankOf_w (N : Nat) (g_0 : Grf) (k_1 : Int) (l_2 : Int) (r : Int) (h : I_RankOf N g_0 k_1 l_2 = some r) : PCall Tryz.prog 173 [gD g_0, .int k_1, .int l_2] [] (.int r) := by
 unfold I_RankOf at h
 refine pcall_intro (TT := TT) tt Tryz.func173 rfl rfl Tryz.ntmps173 (congrArg Array.toList Tryz.results173) rfl rfl fun w0 => ?_
 refine vSeq ?_
 refine vRegion ?_
 refine oBox rfl rfl rfl rfl rfl rfl rfl rfl rfl ?_
 refine oVal tt rfl rfl rfl rfl rfl trivial ?_
 refine vNil ?_
 change VC _ _ _ _
 refine vSeq ?_
 refine vRegion ?_
 iterate 3 refine oVal tt rfl rfl rfl rfl rfl trivial ?_
 obtain ⟨v1, hc1, h⟩ := bind_inv h
 refine oCall (I_RunPebbles_w N g_0 k_1 l_2 v1 hc1) rfl rfl rfl rfl rfl rfl rfl rfl ⟨⟨rfl, rfl, trivial⟩, rfl, rfl, trivial⟩ ?_
 iterate 3 refine oVal tt rfl rfl rfl rfl rfl trivial ?_
 refine oAlloc tt rfl rfl rfl rfl rfl rfl rfl rfl rfl ?_
 refine oStore tt rfl rfl rfl rfl rfl rfl rfl rfl rfl rfl rfl ⟨trivial, trivial, trivial, trivial⟩ ?_
 refine oVal tt rfl rfl rfl rfl rfl trivial ?_
 refine vNil ?_
 change VC _ _ _ _
 iterate 2 refine vSeq ?_
 refine vRegion ?_
 iterate 2 refine oVal tt rfl rfl rfl rfl rfl trivial ?_
 refine vNil ?_
 change VC _ _ _ _
 refine vCond rfl (fun hb2 => ?_) (fun hb2 => ?_)
 ·replace h := cnd_t hb2 h
  refine vSeq ?_
  refine vRegion ?_
  refine oVal tt rfl rfl rfl rfl rfl trivial ?_
  refine vNil ?_
  change VC _ _ _ _
  refine vRet ?_
  change ∃ _, _
  cases h
  exact ⟨[], _, rfl, trivial, rfl, (.eq rfl), rfl⟩
 ·replace h := cnd_f hb2 h
  refine vSkip ?_
  change VC _ _ _ _
  refine vSeq ?_
  refine vRegion ?_
  iterate 4 refine oVal tt rfl rfl rfl rfl rfl trivial ?_
  refine vNil ?_
  change VC _ _ _ _
  refine vRet ?_
  change ∃ _, _
  cases h
  exact ⟨[], _, rfl, trivial, rfl, (.eq rfl), rfl⟩
def I_FreedomOf (N : Nat) (g_0 : Grf) : Option (Int) :=
 (I_IsGraph N g_0).bind fun v1 =>
 cnd (!v1) (
  some (-1 : Int)) (
  grd (Rg64 ((2 : Int) * g_0.n)) <|
  grd (Rg64 (((2 : Int) * g_0.n) - (3 : Int))) <|
  (I_RankOf N g_0 (2 : Int) (3 : Int)).bind fun v2 =>
  grd (Rg64 ((max (0 : Int) (((2 : Int) * g_0.n) - (3 : Int))) - v2)) <|
  some ((max (0 : Int) (((2 : Int) * g_0.n) - (3 : Int))) - v2))
set_option maxRecDepth 20000 in
set_option maxHeartbeats 1600000 in
theorem I_FreedomOf_w (N : Nat) (g_0 : Grf) (r : Int) (h : I_FreedomOf N g_0 = some r) : PCall Tryz.prog 153 [gD g_0] [] (.int r) := by
 unfold I_FreedomOf at h
 refine pcall_intro (TT := TT) tt Tryz.func153 rfl rfl Tryz.ntmps153 (congrArg Array.toList Tryz.results153) rfl rfl fun w0 => ?_
 refine vSeq ?_
 refine vRegion ?_
 refine oBox rfl rfl rfl rfl rfl rfl rfl rfl rfl ?_
 refine oVal tt rfl rfl rfl rfl rfl trivial ?_
 refine vNil ?_
 change VC _ _ _ _
 iterate 2 refine vSeq ?_
 refine vRegion ?_
 refine oVal tt rfl rfl rfl rfl rfl trivial ?_
 obtain ⟨v1, hc1, h⟩ := bind_inv h
 refine oCall (I_IsGraph_w N g_0 v1 hc1) rfl rfl rfl rfl rfl rfl rfl rfl ⟨⟨rfl, rfl, trivial⟩, trivial⟩ ?_
 refine oVal tt rfl rfl rfl rfl rfl trivial ?_
 refine vNil ?_
 change VC _ _ _ _
 refine vCond rfl (fun hb2 => ?_) (fun hb2 => ?_)
 ·replace h := cnd_t hb2 h
  refine vSeq ?_
  refine vRegion ?_
  refine oVal tt rfl rfl rfl rfl rfl trivial ?_
  refine vNil ?_
  change VC _ _ _ _
  refine vRet ?_
  change ∃ _, _
  cases h
  exact ⟨[], _, rfl, trivial, rfl, (.eq rfl), rfl⟩
 ·replace h := cnd_f hb2 h
  refine vSkip ?_
  change VC _ _ _ _
  refine vSeq ?_
  refine vRegionD (by kernel_rfl) (by kernel_rfl) ?_
  iterate 2 refine cVal tt rfl (wNone rfl) rfl rfl rfl trivial ?_
  obtain ⟨hg3, h⟩ := grd_inv h
  refine cVal tt rfl (wNone rfl) rfl rfl rfl hg3 ?_
  obtain ⟨hg4, h⟩ := grd_inv h
  refine cVal tt rfl (wNone rfl) rfl rfl rfl hg4 ?_
  iterate 2 refine cVal tt rfl (wNone rfl) rfl rfl rfl trivial ?_
  obtain ⟨v2, hc5, h⟩ := bind_inv h
  refine cCall (I_RankOf_w N g_0 (2 : Int) (3 : Int) v2 hc5) rfl (wNone rfl) rfl rfl rfl rfl rfl rfl ⟨⟨rfl, rfl, trivial⟩, rfl, rfl, trivial⟩ ?_
  obtain ⟨hg6, h⟩ := grd_inv h
  refine cVal tt rfl (wNone rfl) rfl rfl rfl hg6 ?_
  refine cVal tt rfl (wNone rfl) rfl rfl rfl trivial ?_
  refine cNil ?_
  change VC _ _ _ _
  refine vRet ?_
  change ∃ _, _
  cases h
  exact ⟨[], _, rfl, trivial, rfl, (.eq rfl), rfl⟩
def I_IsRigid (N : Nat) (g_0 : Grf) : Option (Bool) :=
 (I_FreedomOf N g_0).bind fun v1 =>
 some (v1 == (0 : Int))
set_option maxRecDepth 20000 in
set_option maxHeartbeats 1600000 in
theorem I_IsRigid_w (N : Nat) (g_0 : Grf) (r : Bool) (h : I_IsRigid N g_0 = some r) : PCall Tryz.prog 129 [gD g_0] [] (.bool r) := by
 unfold I_IsRigid at h
 refine pcall_intro (TT := TT) tt Tryz.func129 rfl rfl Tryz.ntmps129 (congrArg Array.toList Tryz.results129) rfl rfl fun w0 => ?_
 refine vSeq ?_
 refine vRegion ?_
 refine oBox rfl rfl rfl rfl rfl rfl rfl rfl rfl ?_
 refine oVal tt rfl rfl rfl rfl rfl trivial ?_
 refine vNil ?_
 change VC _ _ _ _
 refine vSeq ?_
 refine vRegion ?_
 refine oVal tt rfl rfl rfl rfl rfl trivial ?_
 obtain ⟨v1, hc1, h⟩ := bind_inv h
 refine oCall (I_FreedomOf_w N g_0 v1 hc1) rfl rfl rfl rfl rfl rfl rfl rfl ⟨⟨rfl, rfl, trivial⟩, trivial⟩ ?_
 iterate 2 refine oVal tt rfl rfl rfl rfl rfl trivial ?_
 refine vNil ?_
 change VC _ _ _ _
 refine vRet ?_
 change ∃ _, _
 cases h
 exact ⟨[], _, rfl, trivial, rfl, (.eq rfl), rfl⟩
def I_WithoutPoints_l1 (N : Nat) (g_0 : Grf) (l7 : List Int) (k : (List (Int × Int)) → Option (Grf)) : Nat → ((List (Int × Int)) × Int) → Option (Grf)
 | 0, _ => none
 | n + 1, (l16, x17) =>
  cnd (decide (x17 < (g_0.bars.length : Int))) (
   grd (0 ≤ x17 ∧ x17 < (g_0.bars.length : Int)) <|
   grd (0 ≤ ((g_0.bars.getD ((x17).toNat) (0, 0)).1) ∧ ((g_0.bars.getD ((x17).toNat) (0, 0)).1) < ((List.replicate (((max (0 : Int) (min g_0.n (8 : Int)))).toNat) (0 : Int)).length : Int)) <|
   grd (0 ≤ ((g_0.bars.getD ((x17).toNat) (0, 0)).1) ∧ ((g_0.bars.getD ((x17).toNat) (0, 0)).1) < (l7.length : Int)) <|
   grd (0 ≤ ((g_0.bars.getD ((x17).toNat) (0, 0)).2) ∧ ((g_0.bars.getD ((x17).toNat) (0, 0)).2) < ((List.replicate (((max (0 : Int) (min g_0.n (8 : Int)))).toNat) (0 : Int)).length : Int)) <|
   grd (0 ≤ ((g_0.bars.getD ((x17).toNat) (0, 0)).2) ∧ ((g_0.bars.getD ((x17).toNat) (0, 0)).2) < (l7.length : Int)) <|
   cnd (decide ((l7.getD (((g_0.bars.getD ((x17).toNat) (0, 0)).1).toNat) 0) ≥ (0 : Int))) (
    cnd (decide ((l7.getD (((g_0.bars.getD ((x17).toNat) (0, 0)).2).toNat) 0) ≥ (0 : Int))) (
     grd (l16.length + 1 ≤ 4294967296) <|
     grd (Rg64 (x17 + (1 : Int))) <|
     I_WithoutPoints_l1 N g_0 l7 k n ((l16 ++ ([((l7.getD (((g_0.bars.getD ((x17).toNat) (0, 0)).1).toNat) 0), (l7.getD (((g_0.bars.getD ((x17).toNat) (0, 0)).2).toNat) 0))] : List (Int × Int))), (x17 + (1 : Int)))) (
     grd (Rg64 (x17 + (1 : Int))) <|
     I_WithoutPoints_l1 N g_0 l7 k n (l16, (x17 + (1 : Int))))) (
    grd (Rg64 (x17 + (1 : Int))) <|
    I_WithoutPoints_l1 N g_0 l7 k n (l16, (x17 + (1 : Int))))) (
   k l16)
def I_WithoutPoints_l2 (N : Nat) (g_0 : Grf) (set_1 : List Int) (k : ((List Int) × Int) → Option (Grf)) : Nat → ((List Int) × Int × Int) → Option (Grf)
 | 0, _ => none
 | n + 1, (l20, x21, c22) =>
  cnd (decide (x21 < ((List.replicate (((max (0 : Int) (min g_0.n (8 : Int)))).toNat) (0 : Int)).length : Int))) (
   grd (0 ≤ x21 ∧ x21 < ((List.replicate (((max (0 : Int) (min g_0.n (8 : Int)))).toNat) (0 : Int)).length : Int)) <|
   grd (0 ≤ x21 ∧ x21 < (l20.length : Int)) <|
   (G_Contains_int N set_1 x21).bind fun v24 =>
   cnd (!v24) (
    grd (0 ≤ x21 ∧ x21 < ((l20.set ((x21).toNat) (-1 : Int)).length : Int)) <|
    grd (Rg64 (c22 + (1 : Int))) <|
    grd (Rg64 (x21 + (1 : Int))) <|
    I_WithoutPoints_l2 N g_0 set_1 k n (((l20.set ((x21).toNat) (-1 : Int)).set ((x21).toNat) c22), (x21 + (1 : Int)), (c22 + (1 : Int)))) (
    grd (Rg64 (x21 + (1 : Int))) <|
    I_WithoutPoints_l2 N g_0 set_1 k n ((l20.set ((x21).toNat) (-1 : Int)), (x21 + (1 : Int)), c22))) (
   k (l20, c22))
def I_WithoutPoints (N : Nat) (g_0 : Grf) (set_1 : List Int) : Option (Grf) :=
 grd (0 ≤ (max (0 : Int) (min g_0.n (8 : Int))) ∧ (max (0 : Int) (min g_0.n (8 : Int))) ≤ 4294967296) <|
 I_WithoutPoints_l2 N g_0 set_1 (fun (x : (List Int) × Int) =>
   match x with
   | (l7, c8) =>
    (I_IsGraph N g_0).bind fun v9 =>
    cnd (!v9) (
     some (⟨c8, ([] : List (Int × Int))⟩ : Grf)) (
     I_WithoutPoints_l1 N g_0 l7 (fun (l13 : List (Int × Int)) =>
        some (⟨c8, l13⟩ : Grf)) N (([] : List (Int × Int)), (0 : Int)))) N ((List.replicate (((max (0 : Int) (min g_0.n (8 : Int)))).toNat) (0 : Int)), (0 : Int), (0 : Int))
set_option maxRecDepth 20000 in
set_option maxHeartbeats 1600000 in
theorem I_WithoutPoints_w (N : Nat) (g_0 : Grf) (set_1 : List Int) (r : Grf) (h : I_WithoutPoints N g_0 set_1 = some r) : PCall Tryz.prog 73 [gD g_0, .ro false (.ints set_1)] [(39, .pairs r.bars)] (.agg [.int r.n, .row 0 0 r.bars.length]) := by
 unfold I_WithoutPoints at h
 refine pcall_intro (TT := TT) tt Tryz.func73 rfl rfl Tryz.ntmps73 (congrArg Array.toList Tryz.results73) rfl rfl fun w0 => ?_
 refine vSeq ?_
 refine vRegion ?_
 refine oBox rfl rfl rfl rfl rfl rfl rfl rfl rfl ?_
 refine oAlloc tt rfl rfl rfl rfl rfl rfl rfl rfl rfl ?_
 refine vNil ?_
 change VC _ _ _ _
 refine vSeq ?_
 refine vRegion ?_
 iterate 4 refine oVal tt rfl rfl rfl rfl rfl trivial ?_
 obtain ⟨hg1, h⟩ := grd_inv h
 refine oMake tt rfl rfl rfl rfl rfl rfl rfl rfl rfl rfl rfl hg1 ?_
 refine oVal tt rfl rfl rfl rfl rfl trivial ?_
 refine vNil ?_
 change VC _ _ _ _
 refine vSeq ?_
 refine vRegion ?_
 refine oPure (wNone rfl) (pBuild bld_impl_Graph rfl rfl) rfl rfl ?_
 refine oAlloc tt rfl rfl rfl rfl rfl rfl rfl rfl rfl ?_
 refine oStore tt rfl rfl rfl rfl rfl rfl rfl rfl rfl rfl rfl ⟨trivial, trivial, trivial⟩ ?_
 refine vNil ?_
 change VC _ _ _ _
 iterate 2 refine vSeq ?_
 refine vRegion ?_
 iterate 3 refine oVal tt rfl rfl rfl rfl rfl trivial ?_
 refine vNil ?_
 change VC _ _ _ _
 refine vJoin (F := fun k => I_WithoutPoints_l2 N g_0 set_1 k) h (α := (List Int) × Int) (J := fun | (l7, c8) => (⟨[(2, .ptr 2 0), (4, .ptr 4 0), (5, .row 16 0 ((List.replicate (((max (0 : Int) (min g_0.n (8 : Int)))).toNat) (0 : Int)).length)), (6, .ptr 6 0)], [(16, some (3, .ints l7))], [(2, some [.int g_0.n, .ro false (.pairs g_0.bars)]), (4, some [.int (0 : Int), .nil]), (6, some [.int c8, .nil])]⟩ : PS)) ?_ ?_
 ·rintro ⟨l7, c8⟩ h
  show VC _ _ _ (⟨[(2, .ptr 2 0), (4, .ptr 4 0), (5, .row 16 0 ((List.replicate (((max (0 : Int) (min g_0.n (8 : Int)))).toNat) (0 : Int)).length)), (6, .ptr 6 0)], [(16, some (3, .ints l7))], [(2, some [.int g_0.n, .ro false (.pairs g_0.bars)]), (4, some [.int (0 : Int), .nil]), (6, some [.int c8, .nil])]⟩ : PS)
  iterate 2 refine vSeq ?_
  refine vRegion ?_
  refine oVal tt rfl rfl rfl rfl rfl trivial ?_
  obtain ⟨v9, hc2, h⟩ := bind_inv h
  refine oCall (I_IsGraph_w N g_0 v9 hc2) rfl rfl rfl rfl rfl rfl rfl rfl ⟨⟨rfl, rfl, trivial⟩, trivial⟩ ?_
  refine oVal tt rfl rfl rfl rfl rfl trivial ?_
  refine vNil ?_
  change VC _ _ _ _
  refine vCond rfl (fun hb3 => ?_) (fun hb3 => ?_)
  ·replace h := cnd_t hb3 h
   refine vSeq ?_
   refine vRegion ?_
   refine oVal tt rfl rfl rfl rfl rfl trivial ?_
   refine oStore tt rfl rfl rfl rfl rfl rfl rfl rfl rfl rfl rfl ⟨trivial, trivial, trivial⟩ ?_
   refine vNil ?_
   change VC _ _ _ _
   refine vNilB 4 1 9001 39 (.pairs []) rfl rfl rfl rfl rfl ?_
   refine vRet ?_
   change ∃ _, _
   cases h
   exact ⟨[9001], _, rfl, ⟨rfl, trivial⟩, rfl, (.eq rfl), rfl⟩
  ·replace h := cnd_f hb3 h
   refine vSkip ?_
   change VC _ _ _ _
   iterate 2 refine vSeq ?_
   refine vRegion ?_
   iterate 4 refine oVal tt rfl rfl rfl rfl rfl trivial ?_
   refine vNil ?_
   change VC _ _ _ _
   refine vJoin (F := fun k => I_WithoutPoints_l1 N g_0 l7 k) h (α := List (Int × Int)) (J := fun (l13 : List (Int × Int)) => (⟨[(4, .ptr 4 0), (6, .ptr 6 0)], [(73, some (39, .pairs l13))], [(4, some [.int (0 : Int), .nil]), (6, some [.int c8, .row 73 0 l13.length])]⟩ : PS)) ?_ ?_
   ·rintro l13 h
    show VC _ _ _ (⟨[(4, .ptr 4 0), (6, .ptr 6 0)], [(73, some (39, .pairs l13))], [(4, some [.int (0 : Int), .nil]), (6, some [.int c8, .row 73 0 l13.length])]⟩ : PS)
    refine vSeq ?_
    refine vRegion ?_
    refine oVal tt rfl rfl rfl rfl rfl trivial ?_
    refine oStore tt rfl rfl rfl rfl rfl rfl rfl rfl rfl rfl rfl ⟨trivial, trivial, trivial⟩ ?_
    refine vNil ?_
    change VC _ _ _ _
    refine vRet ?_
    change ∃ _, _
    cases h
    exact ⟨[73], _, rfl, ⟨rfl, trivial⟩, rfl, (.eq rfl), rfl⟩
   ·intro k h
    refine vBlock ?_
    refine vNilB 6 1 73 39 (.pairs []) rfl rfl rfl rfl rfl ?_
    refine vLoopS (α := (List (Int × Int)) × Int) (fun | (l16, x17) => (⟨[(4, .ptr 4 0), (5, .row 16 0 ((List.replicate (((max (0 : Int) (min g_0.n (8 : Int)))).toNat) (0 : Int)).length)), (6, .ptr 6 0), (45, .ro false (.pairs g_0.bars)), (46, .int (g_0.bars.length : Int)), (47, .int x17)], [(16, some (3, .ints l7)), (73, some (39, .pairs l16))], [(4, some [.int (0 : Int), .nil]), (6, some [.int c8, .row 73 0 l16.length])]⟩ : PS)) (I_WithoutPoints_l1 N g_0 l7 k) h (En.of ⟨rfl, rfl, rfl, rfl, rfl, rfl, trivial⟩ ⟨rfl, rfl, trivial⟩ ⟨rfl, rfl, trivial⟩) (fun _ => rfl) ?_
    rintro n ⟨l16, x17⟩ h
    rw [I_WithoutPoints_l1] at h
    show VC _ _ _ (⟨[(4, .ptr 4 0), (5, .row 16 0 ((List.replicate (((max (0 : Int) (min g_0.n (8 : Int)))).toNat) (0 : Int)).length)), (6, .ptr 6 0), (45, .ro false (.pairs g_0.bars)), (46, .int (g_0.bars.length : Int)), (47, .int x17)], [(16, some (3, .ints l7)), (73, some (39, .pairs l16))], [(4, some [.int (0 : Int), .nil]), (6, some [.int c8, .row 73 0 l16.length])]⟩ : PS)
    refine vSeq ?_
    refine vRegion ?_
    refine oVal tt rfl rfl rfl rfl rfl trivial ?_
    refine vNil ?_
    change VC _ _ _ _
    refine vSeq ?_
    refine vCond rfl (fun hb4 => ?_) (fun hb4 => ?_)
    ·replace h := cnd_t hb4 h
     refine vSkip ?_
     change VC _ _ _ _
     refine vSeq ?_
     refine vBlock ?_
     refine vSeq ?_
     refine vRegion ?_
     obtain ⟨hg5, h⟩ := grd_inv h
     refine oVal tt rfl rfl rfl rfl rfl hg5 ?_
     refine oVal tt rfl rfl rfl rfl rfl trivial ?_
     refine oAlloc tt rfl rfl rfl rfl rfl rfl rfl rfl rfl ?_
     refine oStore tt rfl rfl rfl rfl rfl rfl rfl rfl rfl rfl rfl ⟨trivial, trivial, trivial⟩ ?_
     refine vNil ?_
     change VC _ _ _ _
     refine vSeq ?_
     refine vRegionD (by kernel_rfl) (by kernel_rfl) ?_
     iterate 3 refine cVal tt rfl (wNone rfl) rfl rfl rfl trivial ?_
     obtain ⟨hg6, h⟩ := grd_inv h
     refine cVal tt rfl (wNone rfl) rfl rfl rfl hg6 ?_
     obtain ⟨hg7, h⟩ := grd_inv h
     refine cVal tt rfl (wNone rfl) rfl rfl rfl hg7 ?_
     iterate 3 refine cVal tt rfl (wNone rfl) rfl rfl rfl trivial ?_
     obtain ⟨hg8, h⟩ := grd_inv h
     refine cVal tt rfl (wNone rfl) rfl rfl rfl hg8 ?_
     obtain ⟨hg9, h⟩ := grd_inv h
     refine cVal tt rfl (wNone rfl) rfl rfl rfl hg9 ?_
     iterate 2 refine cVal tt rfl (wNone rfl) rfl rfl rfl trivial ?_
     refine cNil ?_
     change VC _ _ _ _
     refine vSeq ?_
     refine vRegion ?_
     iterate 3 refine oVal tt rfl rfl rfl rfl rfl trivial ?_
     refine oSplit rfl rfl rfl (fun hb10 => ?_) (fun hb10 => ?_)
     ·replace h := cnd_t hb10 h
      iterate 2 refine oValG tt rfl rfl rfl rfl rfl hb10 rfl rfl rfl trivial ?_
      refine oPick rfl rfl rfl rfl rfl hb10 rfl ?_
      refine vNil ?_
      change VC _ _ _ _
      refine vCond rfl (fun hb11 => ?_) (fun hb11 => ?_)
      ·replace h := cnd_t hb11 h
       refine vRegion ?_
       iterate 4 refine oVal tt rfl rfl rfl rfl rfl trivial ?_
       refine oPure (wNone rfl) (pBuild bld_impl_Bar rfl rfl) rfl rfl ?_
       refine oBuild tt rfl rfl rfl rfl rfl rfl rfl rfl rfl rfl rfl ?_
       obtain ⟨hg12, h⟩ := grd_inv h
       refine oAppend tt rfl rfl rfl rfl rfl rfl rfl rfl rfl rfl rfl rfl rfl rfl rfl rfl (Nat.le_of_eq (Nat.zero_add _)) hg12 ?_
       refine oVal tt rfl rfl rfl rfl rfl trivial ?_
       refine oStore tt rfl rfl rfl rfl rfl rfl rfl rfl rfl rfl rfl ⟨trivial, trivial⟩ ?_
       refine vNil ?_
       change VC _ _ _ _
       refine vRegion ?_
       obtain ⟨hg13, h⟩ := grd_inv h
       refine oVal tt rfl rfl rfl rfl rfl hg13 ?_
       refine oVal tt rfl rfl rfl rfl rfl trivial ?_
       refine vNil ?_
       change ∃ _, _
       exact ⟨((l16 ++ ([((l7.getD (((g_0.bars.getD ((x17).toNat) (0, 0)).1).toNat) 0), (l7.getD (((g_0.bars.getD ((x17).toNat) (0, 0)).2).toNat) 0))] : List (Int × Int))), (x17 + (1 : Int))), (En.of ⟨rfl, rfl, rfl, rfl, rfl, rfl, trivial⟩ ⟨rfl, rfl, trivial⟩ ⟨rfl, rfl, trivial⟩), h⟩
      ·replace h := cnd_f hb11 h
       refine vSkip ?_
       change VC _ _ _ _
       refine vRegion ?_
       obtain ⟨hg14, h⟩ := grd_inv h
       refine oVal tt rfl rfl rfl rfl rfl hg14 ?_
       refine oVal tt rfl rfl rfl rfl rfl trivial ?_
       refine vNil ?_
       change ∃ _, _
       exact ⟨(l16, (x17 + (1 : Int))), (En.of ⟨rfl, rfl, rfl, rfl, rfl, rfl, trivial⟩ ⟨rfl, rfl, trivial⟩ ⟨rfl, rfl, trivial⟩), h⟩
     ·replace h := cnd_f hb10 h
      iterate 2 refine oNoT rfl rfl rfl rfl hb10 rfl rfl ?_
      refine oPickF rfl rfl rfl rfl rfl hb10 rfl ?_
      refine vNil ?_
      change VC _ _ _ _
      refine vCondF rfl rfl ?_
      refine vSkip ?_
      change VC _ _ _ _
      refine vRegion ?_
      obtain ⟨hg15, h⟩ := grd_inv h
      refine oVal tt rfl rfl rfl rfl rfl hg15 ?_
      refine oVal tt rfl rfl rfl rfl rfl trivial ?_
      refine vNil ?_
      change ∃ _, _
      exact ⟨(l16, (x17 + (1 : Int))), (En.of ⟨rfl, rfl, rfl, rfl, rfl, rfl, trivial⟩ ⟨rfl, rfl, trivial⟩ ⟨rfl, rfl, trivial⟩), h⟩
    ·replace h := cnd_f hb4 h
     refine vExit ?_
     change ∃ _, _
     exact ⟨l16, (En.of ⟨rfl, rfl, trivial⟩ ⟨rfl, trivial⟩ ⟨rfl, rfl, trivial⟩), h⟩
 ·intro k h
  refine vBlock ?_
  refine vLoopS (α := (List Int) × Int × Int) (fun | (l20, x21, c22) => (⟨[(1, .ro false (.ints set_1)), (2, .ptr 2 0), (4, .ptr 4 0), (5, .row 16 0 ((List.replicate (((max (0 : Int) (min g_0.n (8 : Int)))).toNat) (0 : Int)).length)), (6, .ptr 6 0), (19, .int ((List.replicate (((max (0 : Int) (min g_0.n (8 : Int)))).toNat) (0 : Int)).length : Int)), (20, .int x21)], [(16, some (3, .ints l20))], [(2, some [.int g_0.n, .ro false (.pairs g_0.bars)]), (4, some [.int (0 : Int), .nil]), (6, some [.int c22, .nil])]⟩ : PS)) (I_WithoutPoints_l2 N g_0 set_1 k) h (En.of ⟨rfl, rfl, rfl, rfl, rfl, rfl, rfl, trivial⟩ ⟨rfl, trivial⟩ ⟨rfl, rfl, rfl, trivial⟩) (fun _ => rfl) ?_
  rintro n ⟨l20, x21, c22⟩ h
  rw [I_WithoutPoints_l2] at h
  show VC _ _ _ (⟨[(1, .ro false (.ints set_1)), (2, .ptr 2 0), (4, .ptr 4 0), (5, .row 16 0 ((List.replicate (((max (0 : Int) (min g_0.n (8 : Int)))).toNat) (0 : Int)).length)), (6, .ptr 6 0), (19, .int ((List.replicate (((max (0 : Int) (min g_0.n (8 : Int)))).toNat) (0 : Int)).length : Int)), (20, .int x21)], [(16, some (3, .ints l20))], [(2, some [.int g_0.n, .ro false (.pairs g_0.bars)]), (4, some [.int (0 : Int), .nil]), (6, some [.int c22, .nil])]⟩ : PS)
  refine vSeq ?_
  refine vRegion ?_
  refine oVal tt rfl rfl rfl rfl rfl trivial ?_
  refine vNil ?_
  change VC _ _ _ _
  refine vSeq ?_
  refine vCond rfl (fun hb16 => ?_) (fun hb16 => ?_)
  ·replace h := cnd_t hb16 h
   refine vSkip ?_
   change VC _ _ _ _
   refine vSeq ?_
   refine vBlock ?_
   refine vSeq ?_
   refine vRegion ?_
   iterate 2 refine oVal tt rfl rfl rfl rfl rfl trivial ?_
   refine vNil ?_
   change VC _ _ _ _
   refine vSeq ?_
   refine vRegion ?_
   iterate 2 refine oVal tt rfl rfl rfl rfl rfl trivial ?_
   obtain ⟨hg17, h⟩ := grd_inv h
   refine oVal tt rfl rfl rfl rfl rfl hg17 ?_
   obtain ⟨hg18, h⟩ := grd_inv h
   refine oStore tt rfl rfl rfl rfl rfl rfl rfl rfl rfl rfl ⟨_, _, rfl, hg18.1, hg18.2⟩ ⟨hg18, trivial⟩ ?_
   refine vNil ?_
   change VC _ _ _ _
   refine vSeq ?_
   refine vRegion ?_
   iterate 2 refine oVal tt rfl rfl rfl rfl rfl trivial ?_
   obtain ⟨v24, hc19, h⟩ := bind_inv h
   refine oCall (G_Contains_int_w N set_1 x21 v24 hc19) rfl rfl rfl rfl rfl rfl rfl rfl ⟨rfl, rfl, trivial⟩ ?_
   refine oVal tt rfl rfl rfl rfl rfl trivial ?_
   refine vNil ?_
   change VC _ _ _ _
   refine vCond rfl (fun hb20 => ?_) (fun hb20 => ?_)
   ·replace h := cnd_t hb20 h
    refine vSeq ?_
    refine vRegion ?_
    iterate 4 refine oVal tt rfl rfl rfl rfl rfl trivial ?_
    refine oVal tt rfl rfl rfl rfl rfl hg17 ?_
    obtain ⟨hg21, h⟩ := grd_inv h
    refine oStore tt rfl rfl rfl rfl rfl rfl rfl rfl rfl rfl ⟨_, _, rfl, hg21.1, hg21.2⟩ ⟨hg21, trivial⟩ ?_
    refine vNil ?_
    change VC _ _ _ _
    refine vRegion ?_
    iterate 2 refine oVal tt rfl rfl rfl rfl rfl trivial ?_
    obtain ⟨hg22, h⟩ := grd_inv h
    refine oVal tt rfl rfl rfl rfl rfl hg22 ?_
    refine oVal tt rfl rfl rfl rfl rfl trivial ?_
    refine oStore tt rfl rfl rfl rfl rfl rfl rfl rfl rfl rfl rfl ⟨trivial, trivial⟩ ?_
    refine vNil ?_
    change VC _ _ _ _
    refine vRegion ?_
    obtain ⟨hg23, h⟩ := grd_inv h
    refine oVal tt rfl rfl rfl rfl rfl hg23 ?_
    refine oVal tt rfl rfl rfl rfl rfl trivial ?_
    refine vNil ?_
    change ∃ _, _
    exact ⟨(((l20.set ((x21).toNat) (-1 : Int)).set ((x21).toNat) c22), (x21 + (1 : Int)), (c22 + (1 : Int))), (En.of ⟨rfl, rfl, rfl, rfl, rfl, rfl, rfl, trivial⟩ ⟨rfl, trivial⟩ ⟨rfl, rfl, rfl, trivial⟩), h⟩
   ·replace h := cnd_f hb20 h
    refine vSkip ?_
    change VC _ _ _ _
    refine vRegion ?_
    obtain ⟨hg24, h⟩ := grd_inv h
    refine oVal tt rfl rfl rfl rfl rfl hg24 ?_
    refine oVal tt rfl rfl rfl rfl rfl trivial ?_
    refine vNil ?_
    change ∃ _, _
    exact ⟨((l20.set ((x21).toNat) (-1 : Int)), (x21 + (1 : Int)), c22), (En.of ⟨rfl, rfl, rfl, rfl, rfl, rfl, rfl, trivial⟩ ⟨rfl, trivial⟩ ⟨rfl, rfl, rfl, trivial⟩), h⟩
  ·replace h := cnd_f hb16 h
   refine vExit ?_
   change ∃ _, _
   exact ⟨(l20, c22), (En.of ⟨rfl, rfl, rfl, rfl, trivial⟩ ⟨rfl, trivial⟩ ⟨rfl, rfl, rfl, trivial⟩), h⟩
def M_Graph_reach_l2 (N : Nat) (g_0 : Grf) (k : ((List Bool) × Bool) → Option (List Bool)) : Nat → ((List Bool) × Bool × Int) → Option (List Bool)
 | 0, _ => none
 | n + 1, (l58, again59, x60) =>
  cnd (decide (x60 < (g_0.bars.length : Int))) (
   grd (0 ≤ x60 ∧ x60 < (g_0.bars.length : Int)) <|
   grd (0 ≤ ((g_0.bars.getD ((x60).toNat) (0, 0)).1) ∧ ((g_0.bars.getD ((x60).toNat) (0, 0)).1) < ((List.replicate ((g_0.n).toNat) (false : Bool)).length : Int)) <|
   grd (0 ≤ ((g_0.bars.getD ((x60).toNat) (0, 0)).1) ∧ ((g_0.bars.getD ((x60).toNat) (0, 0)).1) < (l58.length : Int)) <|
   grd (0 ≤ ((g_0.bars.getD ((x60).toNat) (0, 0)).2) ∧ ((g_0.bars.getD ((x60).toNat) (0, 0)).2) < ((List.replicate ((g_0.n).toNat) (false : Bool)).length : Int)) <|
   grd (0 ≤ ((g_0.bars.getD ((x60).toNat) (0, 0)).2) ∧ ((g_0.bars.getD ((x60).toNat) (0, 0)).2) < (l58.length : Int)) <|
   cnd ((l58.getD (((g_0.bars.getD ((x60).toNat) (0, 0)).1).toNat) false) != (l58.getD (((g_0.bars.getD ((x60).toNat) (0, 0)).2).toNat) false)) (
    grd (0 ≤ ((g_0.bars.getD ((x60).toNat) (0, 0)).2) ∧ ((g_0.bars.getD ((x60).toNat) (0, 0)).2) < ((l58.set (((g_0.bars.getD ((x60).toNat) (0, 0)).1).toNat) true).length : Int)) <|
    grd (Rg64 (x60 + (1 : Int))) <|
    M_Graph_reach_l2 N g_0 k n (((l58.set (((g_0.bars.getD ((x60).toNat) (0, 0)).1).toNat) true).set (((g_0.bars.getD ((x60).toNat) (0, 0)).2).toNat) true), true, (x60 + (1 : Int)))) (
    grd (Rg64 (x60 + (1 : Int))) <|
    M_Graph_reach_l2 N g_0 k n (l58, again59, (x60 + (1 : Int))))) (
   k (l58, again59))
def M_Graph_reach_l1 (N : Nat) (g_0 : Grf) (k : (List Bool) → Option (List Bool)) : Nat → ((List Bool) × Bool) → Option (List Bool)
 | 0, _ => none
 | n + 1, (l41, again42) =>
  cnd again42 (
   M_Graph_reach_l2 N g_0 (fun (x : (List Bool) × Bool) =>
     match x with
     | (l55, again56) =>
      M_Graph_reach_l1 N g_0 k n (l55, again56)) N (l41, false, (0 : Int))) (
   k l41)
def M_Graph_reach (N : Nat) (g_0 : Grf) (v_1 : Int) : Option (List Bool) :=
 grd (0 ≤ g_0.n ∧ g_0.n ≤ 4294967296) <|
 grd (0 ≤ v_1 ∧ v_1 < ((List.replicate ((g_0.n).toNat) (false : Bool)).length : Int)) <|
 M_Graph_reach_l1 N g_0 (fun (l30 : List Bool) =>
    grd ((List.replicate ((g_0.n).toNat) (false : Bool)).length = l30.length) <|
    some l30) N (((List.replicate ((g_0.n).toNat) (false : Bool)).set ((v_1).toNat) true), true)
set_option maxRecDepth 20000 in
set_option maxHeartbeats 1600000 in
theorem M_Graph_reach_w (N : Nat) (g_0 : Grf) (v_1 : Int) (r : List Bool) (h : M_Graph_reach N g_0 v_1 = some r) : PCall Tryz.prog 194 [gD g_0, .int v_1] [(4, .bools r)] (.row 0 0 r.length) := by
 unfold M_Graph_reach at h
 refine pcall_intro (TT := TT) tt Tryz.func194 rfl rfl Tryz.ntmps194 (congrArg Array.toList Tryz.results194) rfl rfl fun w0 => ?_
 refine vSeq ?_
 refine vRegion ?_
 refine oBox rfl rfl rfl rfl rfl rfl rfl rfl rfl ?_
 refine oVal tt rfl rfl rfl rfl rfl trivial ?_
 refine vNil ?_
 change VC _ _ _ _
 refine vSeq ?_
 refine vRegion ?_
 iterate 2 refine oVal tt rfl rfl rfl rfl rfl trivial ?_
 obtain ⟨hg1, h⟩ := grd_inv h
 refine oMake tt rfl rfl rfl rfl rfl rfl rfl rfl rfl rfl rfl hg1 ?_
 refine oVal tt rfl rfl rfl rfl rfl trivial ?_
 refine vNil ?_
 change VC _ _ _ _
 refine vSeq ?_
 refine vRegion ?_
 iterate 2 refine oVal tt rfl rfl rfl rfl rfl trivial ?_
 obtain ⟨hg2, h⟩ := grd_inv h
 refine oVal tt rfl rfl rfl rfl rfl hg2 ?_
 refine oStore tt rfl rfl rfl rfl rfl rfl rfl rfl rfl rfl ⟨_, _, rfl, hg2.1, hg2.2⟩ ⟨hg2, trivial⟩ ?_
 refine vNil ?_
 change VC _ _ _ _
 iterate 2 refine vSeq ?_
 refine vRegion ?_
 refine oVal tt rfl rfl rfl rfl rfl trivial ?_
 refine vNil ?_
 change VC _ _ _ _
 refine vJoin (F := fun k => M_Graph_reach_l1 N g_0 k) h (α := List Bool) (J := fun (l30 : List Bool) => (⟨[(5, .row 11 0 ((List.replicate ((g_0.n).toNat) (false : Bool)).length))], [(11, some (4, .bools l30))], []⟩ : PS)) ?_ ?_
 ·rintro l30 h
  show VC _ _ _ (⟨[(5, .row 11 0 ((List.replicate ((g_0.n).toNat) (false : Bool)).length))], [(11, some (4, .bools l30))], []⟩ : PS)
  refine vSeq ?_
  refine vRegion ?_
  iterate 2 refine oVal tt rfl rfl rfl rfl rfl trivial ?_
  refine vNil ?_
  change VC _ _ _ _
  obtain ⟨hg3, h⟩ := grd_inv h
  refine vRet ?_
  change ∃ _, _
  cases h
  exact ⟨[11], _, rfl, ⟨rfl, trivial⟩, rfl, (.eq (by simp only [hg3]; rfl)), rfl⟩
 ·intro k h
  refine vBlock ?_
  refine vLoopS (α := (List Bool) × Bool) (fun | (l41, again42) => (⟨[(2, .ptr 2 0), (5, .row 11 0 ((List.replicate ((g_0.n).toNat) (false : Bool)).length)), (6, .bool again42)], [(11, some (4, .bools l41))], [(2, some [.int g_0.n, .ro false (.pairs g_0.bars)])]⟩ : PS)) (M_Graph_reach_l1 N g_0 k) h (En.of ⟨rfl, rfl, rfl, trivial⟩ ⟨rfl, trivial⟩ ⟨rfl, trivial⟩) (fun _ => rfl) ?_
  rintro n ⟨l41, again42⟩ h
  rw [M_Graph_reach_l1] at h
  show VC _ _ _ (⟨[(2, .ptr 2 0), (5, .row 11 0 ((List.replicate ((g_0.n).toNat) (false : Bool)).length)), (6, .bool again42)], [(11, some (4, .bools l41))], [(2, some [.int g_0.n, .ro false (.pairs g_0.bars)])]⟩ : PS)
  iterate 2 refine vSeq ?_
  refine vRegion ?_
  refine oVal tt rfl rfl rfl rfl rfl trivial ?_
  refine vNil ?_
  change VC _ _ _ _
  refine vCond rfl (fun hb4 => ?_) (fun hb4 => ?_)
  ·replace h := cnd_t hb4 h
   refine vSkip ?_
   change VC _ _ _ _
   refine vBlock ?_
   refine vSeq ?_
   refine vRegion ?_
   refine oVal tt rfl rfl rfl rfl rfl trivial ?_
   refine vNil ?_
   change VC _ _ _ _
   refine vSeq ?_
   refine vRegion ?_
   iterate 4 refine oVal tt rfl rfl rfl rfl rfl trivial ?_
   refine vNil ?_
   change VC _ _ _ _
   refine vJoin (F := fun k => M_Graph_reach_l2 N g_0 k) h (α := (List Bool) × Bool) (J := fun | (l55, again56) => (⟨[(2, .ptr 2 0), (5, .row 11 0 ((List.replicate ((g_0.n).toNat) (false : Bool)).length)), (6, .bool again56)], [(11, some (4, .bools l55))], [(2, some [.int g_0.n, .ro false (.pairs g_0.bars)])]⟩ : PS)) ?_ ?_
   ·rintro ⟨l55, again56⟩ h
    change ∃ _, _
    exact ⟨(l55, again56), (En.of ⟨rfl, rfl, rfl, trivial⟩ ⟨rfl, trivial⟩ ⟨rfl, trivial⟩), h⟩
   ·intro k h
    refine vBlock ?_
    refine vLoopS (α := (List Bool) × Bool × Int) (fun | (l58, again59, x60) => (⟨[(2, .ptr 2 0), (5, .row 11 0 ((List.replicate ((g_0.n).toNat) (false : Bool)).length)), (6, .bool again59), (17, .ro false (.pairs g_0.bars)), (18, .int (g_0.bars.length : Int)), (19, .int x60)], [(11, some (4, .bools l58))], [(2, some [.int g_0.n, .ro false (.pairs g_0.bars)])]⟩ : PS)) (M_Graph_reach_l2 N g_0 k) h (En.of ⟨rfl, rfl, rfl, rfl, rfl, rfl, trivial⟩ ⟨rfl, trivial⟩ ⟨rfl, trivial⟩) (fun _ => rfl) ?_
    rintro n ⟨l58, again59, x60⟩ h
    rw [M_Graph_reach_l2] at h
    show VC _ _ _ (⟨[(2, .ptr 2 0), (5, .row 11 0 ((List.replicate ((g_0.n).toNat) (false : Bool)).length)), (6, .bool again59), (17, .ro false (.pairs g_0.bars)), (18, .int (g_0.bars.length : Int)), (19, .int x60)], [(11, some (4, .bools l58))], [(2, some [.int g_0.n, .ro false (.pairs g_0.bars)])]⟩ : PS)
    refine vSeq ?_
    refine vRegion ?_
    refine oVal tt rfl rfl rfl rfl rfl trivial ?_
    refine vNil ?_
    change VC _ _ _ _
    refine vSeq ?_
    refine vCond rfl (fun hb5 => ?_) (fun hb5 => ?_)
    ·replace h := cnd_t hb5 h
     refine vSkip ?_
     change VC _ _ _ _
     refine vSeq ?_
     refine vBlock ?_
     refine vSeq ?_
     refine vRegion ?_
     obtain ⟨hg6, h⟩ := grd_inv h
     refine oVal tt rfl rfl rfl rfl rfl hg6 ?_
     refine oVal tt rfl rfl rfl rfl rfl trivial ?_
     refine oAlloc tt rfl rfl rfl rfl rfl rfl rfl rfl rfl ?_
     refine oStore tt rfl rfl rfl rfl rfl rfl rfl rfl rfl rfl rfl ⟨trivial, trivial, trivial⟩ ?_
     refine vNil ?_
     change VC _ _ _ _
     refine vSeq ?_
     refine vRegionD (by kernel_rfl) (by kernel_rfl) ?_
     iterate 3 refine cVal tt rfl (wNone rfl) rfl rfl rfl trivial ?_
     obtain ⟨hg7, h⟩ := grd_inv h
     refine cVal tt rfl (wNone rfl) rfl rfl rfl hg7 ?_
     obtain ⟨hg8, h⟩ := grd_inv h
     refine cVal tt rfl (wNone rfl) rfl rfl rfl hg8 ?_
     iterate 3 refine cVal tt rfl (wNone rfl) rfl rfl rfl trivial ?_
     obtain ⟨hg9, h⟩ := grd_inv h
     refine cVal tt rfl (wNone rfl) rfl rfl rfl hg9 ?_
     obtain ⟨hg10, h⟩ := grd_inv h
     refine cVal tt rfl (wNone rfl) rfl rfl rfl hg10 ?_
     refine cPure (wNone rfl) (pNeB Tryz.underlying4 rfl rfl rfl) rfl rfl ?_
     refine cNil ?_
     change VC _ _ _ _
     refine vCond rfl (fun hb11 => ?_) (fun hb11 => ?_)
     ·replace h := cnd_t hb11 h
      refine vSeq ?_
      refine vRegion ?_
      iterate 3 refine oVal tt rfl rfl rfl rfl rfl trivial ?_
      refine oVal tt rfl rfl rfl rfl rfl hg7 ?_
      refine oStore tt rfl rfl rfl rfl rfl rfl rfl rfl rfl rfl ⟨_, _, rfl, hg8.1, hg8.2⟩ ⟨hg8, trivial⟩ ?_
      refine vNil ?_
      change VC _ _ _ _
      refine vSeq ?_
      refine vRegion ?_
      iterate 3 refine oVal tt rfl rfl rfl rfl rfl trivial ?_
      refine oVal tt rfl rfl rfl rfl rfl hg9 ?_
      obtain ⟨hg12, h⟩ := grd_inv h
      refine oStore tt rfl rfl rfl rfl rfl rfl rfl rfl rfl rfl ⟨_, _, rfl, hg12.1, hg12.2⟩ ⟨hg12, trivial⟩ ?_
      refine vNil ?_
      change VC _ _ _ _
      refine vRegion ?_
      refine oVal tt rfl rfl rfl rfl rfl trivial ?_
      refine vNil ?_
      change VC _ _ _ _
      refine vRegion ?_
      obtain ⟨hg13, h⟩ := grd_inv h
      refine oVal tt rfl rfl rfl rfl rfl hg13 ?_
      refine oVal tt rfl rfl rfl rfl rfl trivial ?_
      refine vNil ?_
      change ∃ _, _
      exact ⟨(((l58.set (((g_0.bars.getD ((x60).toNat) (0, 0)).1).toNat) true).set (((g_0.bars.getD ((x60).toNat) (0, 0)).2).toNat) true), true, (x60 + (1 : Int))), (En.of ⟨rfl, rfl, rfl, rfl, rfl, rfl, trivial⟩ ⟨rfl, trivial⟩ ⟨rfl, trivial⟩), h⟩
     ·replace h := cnd_f hb11 h
      refine vSkip ?_
      change VC _ _ _ _
      refine vRegion ?_
      obtain ⟨hg14, h⟩ := grd_inv h
      refine oVal tt rfl rfl rfl rfl rfl hg14 ?_
      refine oVal tt rfl rfl rfl rfl rfl trivial ?_
      refine vNil ?_
      change ∃ _, _
      exact ⟨(l58, again59, (x60 + (1 : Int))), (En.of ⟨rfl, rfl, rfl, rfl, rfl, rfl, trivial⟩ ⟨rfl, trivial⟩ ⟨rfl, trivial⟩), h⟩
    ·replace h := cnd_f hb5 h
     refine vExit ?_
     change ∃ _, _
     exact ⟨(l58, again59), (En.of ⟨rfl, rfl, rfl, trivial⟩ ⟨rfl, trivial⟩ ⟨rfl, trivial⟩), h⟩
  ·replace h := cnd_f hb4 h
   refine vExit ?_
   change ∃ _, _
   exact ⟨l41, (En.of ⟨rfl, trivial⟩ ⟨rfl, trivial⟩ trivial), h⟩
def I_ReachOf_l1 (N : Nat) (v3 : List Bool) (k : (List Int) → Option (List Int)) : Nat → ((List Int) × Int) → Option (List Int)
 | 0, _ => none
 | n + 1, (l8, x9) =>
  cnd (decide (x9 < (v3.length : Int))) (
   grd (0 ≤ x9 ∧ x9 < (v3.length : Int)) <|
   cnd (v3.getD ((x9).toNat) false) (
    grd (l8.length + 1 ≤ 4294967296) <|
    grd (Rg64 (x9 + (1 : Int))) <|
    I_ReachOf_l1 N v3 k n ((l8 ++ ([x9] : List Int)), (x9 + (1 : Int)))) (
    grd (Rg64 (x9 + (1 : Int))) <|
    I_ReachOf_l1 N v3 k n (l8, (x9 + (1 : Int))))) (
   k l8)
def I_ReachOf (N : Nat) (g_0 : Grf) (v_1 : Int) : Option (List Int) :=
 (I_IsGraph N g_0).bind fun v1 =>
 cnd (!v1) (
  some ([] : List Int)) (
  (M_Graph_has N g_0 v_1).bind fun v2 =>
  cnd (!v2) (
   some ([] : List Int)) (
   (M_Graph_reach N g_0 v_1).bind fun v3 =>
   I_ReachOf_l1 N v3 (fun (l6 : List Int) =>
      some l6) N (([] : List Int), (0 : Int))))
set_option maxRecDepth 20000 in
set_option maxHeartbeats 1600000 in
theorem I_ReachOf_w (N : Nat) (g_0 : Grf) (v_1 : Int) (r : List Int) (h : I_ReachOf N g_0 v_1 = some r) : PCall Tryz.prog 186 [gD g_0, .int v_1] [(3, .ints r)] (.row 0 0 r.length) := by
 unfold I_ReachOf at h
 refine pcall_intro (TT := TT) tt Tryz.func186 rfl rfl Tryz.ntmps186 (congrArg Array.toList Tryz.results186) rfl rfl fun w0 => ?_
 refine vSeq ?_
 refine vRegion ?_
 refine oBox rfl rfl rfl rfl rfl rfl rfl rfl rfl ?_
 refine oVal tt rfl rfl rfl rfl rfl trivial ?_
 refine vNil ?_
 change VC _ _ _ _
 refine vSeq ?_
 refine vRegion ?_
 refine oEmpty tt (wNone rfl) rfl rfl rfl rfl ?_
 refine oVal tt rfl rfl rfl rfl rfl trivial ?_
 refine vNil ?_
 change VC _ _ _ _
 iterate 2 refine vSeq ?_
 refine vRegion ?_
 refine oVal tt rfl rfl rfl rfl rfl trivial ?_
 obtain ⟨v1, hc1, h⟩ := bind_inv h
 refine oCall (I_IsGraph_w N g_0 v1 hc1) rfl rfl rfl rfl rfl rfl rfl rfl ⟨⟨rfl, rfl, trivial⟩, trivial⟩ ?_
 iterate 2 refine oVal tt rfl rfl rfl rfl rfl trivial ?_
 refine oSplit rfl rfl rfl (fun hb2 => ?_) (fun hb2 => ?_)
 ·replace h := cnd_t hb2 h
  iterate 4 refine oNoF rfl rfl rfl rfl hb2 rfl rfl ?_
  refine oPick rfl rfl rfl rfl rfl hb2 rfl ?_
  refine vNil ?_
  change VC _ _ _ _
  refine vCondT rfl rfl ?_
  refine vSeq ?_
  refine vRegion ?_
  iterate 2 refine oVal tt rfl rfl rfl rfl rfl trivial ?_
  refine vNil ?_
  change VC _ _ _ _
  refine vNilT 4 9001 3 (.ints []) rfl rfl rfl rfl ?_
  refine vRet ?_
  change ∃ _, _
  cases h
  exact ⟨[9001], _, rfl, ⟨rfl, trivial⟩, rfl, (.eq rfl), rfl⟩
 ·replace h := cnd_f hb2 h
  iterate 2 refine oValG tt rfl rfl rfl rfl rfl hb2 rfl rfl rfl trivial ?_
  obtain ⟨v2, hc3, h⟩ := bind_inv h
  refine oCallG (M_Graph_has_w N g_0 v_1 v2 hc3) rfl rfl rfl rfl hb2 rfl rfl rfl rfl rfl rfl rfl ⟨⟨rfl, rfl, trivial⟩, rfl, trivial⟩ ?_
  refine oValG tt rfl rfl rfl rfl rfl hb2 rfl rfl rfl trivial ?_
  refine oPickF rfl rfl rfl rfl rfl hb2 rfl ?_
  refine vNil ?_
  change VC _ _ _ _
  refine vCond rfl (fun hb4 => ?_) (fun hb4 => ?_)
  ·replace h := cnd_t hb4 h
   refine vSeq ?_
   refine vRegion ?_
   iterate 2 refine oVal tt rfl rfl rfl rfl rfl trivial ?_
   refine vNil ?_
   change VC _ _ _ _
   refine vNilT 4 9001 3 (.ints []) rfl rfl rfl rfl ?_
   refine vRet ?_
   change ∃ _, _
   cases h
   exact ⟨[9001], _, rfl, ⟨rfl, trivial⟩, rfl, (.eq rfl), rfl⟩
  ·replace h := cnd_f hb4 h
   refine vSkip ?_
   change VC _ _ _ _
   iterate 2 refine vSeq ?_
   refine vRegion ?_
   iterate 2 refine oVal tt rfl rfl rfl rfl rfl trivial ?_
   obtain ⟨v3, hc5, h⟩ := bind_inv h
   refine oCall (M_Graph_reach_w N g_0 v_1 v3 hc5) rfl rfl rfl rfl rfl rfl rfl rfl ⟨⟨rfl, rfl, trivial⟩, rfl, trivial⟩ ?_
   iterate 2 refine oVal tt rfl rfl rfl rfl rfl trivial ?_
   refine vNil ?_
   change VC _ _ _ _
   refine vJoin (F := fun k => I_ReachOf_l1 N v3 k) h (α := List Int) (J := fun (l6 : List Int) => (⟨[(5, .row 32 0 l6.length)], [(32, some (3, .ints l6))], []⟩ : PS)) ?_ ?_
   ·rintro l6 h
    show VC _ _ _ (⟨[(5, .row 32 0 l6.length)], [(32, some (3, .ints l6))], []⟩ : PS)
    refine vSeq ?_
    refine vRegion ?_
    iterate 2 refine oVal tt rfl rfl rfl rfl rfl trivial ?_
    refine vNil ?_
    change VC _ _ _ _
    refine vRet ?_
    change ∃ _, _
    cases h
    exact ⟨[32], _, rfl, ⟨rfl, trivial⟩, rfl, (.eq rfl), rfl⟩
   ·intro k h
    refine vBlock ?_
    refine vNilT 5 32 3 (.ints []) rfl rfl rfl rfl ?_
    refine vLoopS (α := (List Int) × Int) (fun | (l8, x9) => (⟨[(5, .row 32 0 l8.length), (21, .row 1210 0 v3.length), (22, .int (v3.length : Int)), (23, .int x9)], [(32, some (3, .ints l8)), (1210, some (4, .bools v3))], []⟩ : PS)) (I_ReachOf_l1 N v3 k) h (En.of ⟨rfl, rfl, rfl, rfl, trivial⟩ ⟨rfl, rfl, trivial⟩ trivial) (fun _ => rfl) ?_
    rintro n ⟨l8, x9⟩ h
    rw [I_ReachOf_l1] at h
    show VC _ _ _ (⟨[(5, .row 32 0 l8.length), (21, .row 1210 0 v3.length), (22, .int (v3.length : Int)), (23, .int x9)], [(32, some (3, .ints l8)), (1210, some (4, .bools v3))], []⟩ : PS)
    refine vSeq ?_
    refine vRegion ?_
    refine oVal tt rfl rfl rfl rfl rfl trivial ?_
    refine vNil ?_
    change VC _ _ _ _
    refine vSeq ?_
    refine vCond rfl (fun hb6 => ?_) (fun hb6 => ?_)
    ·replace h := cnd_t hb6 h
     refine vSkip ?_
     change VC _ _ _ _
     refine vSeq ?_
     refine vBlock ?_
     refine vSeq ?_
     refine vRegion ?_
     refine oVal tt rfl rfl rfl rfl rfl trivial ?_
     obtain ⟨hg7, h⟩ := grd_inv h
     iterate 2 refine oVal tt rfl rfl rfl rfl rfl hg7 ?_
     iterate 2 refine oVal tt rfl rfl rfl rfl rfl trivial ?_
     refine vNil ?_
     change VC _ _ _ _
     refine vSeq ?_
     refine vRegion ?_
     refine oVal tt rfl rfl rfl rfl rfl trivial ?_
     refine vNil ?_
     change VC _ _ _ _
     refine vCond rfl (fun hb8 => ?_) (fun hb8 => ?_)
     ·replace h := cnd_t hb8 h
      refine vRegion ?_
      iterate 2 refine oVal tt rfl rfl rfl rfl rfl trivial ?_
      refine oBuild tt rfl rfl rfl rfl rfl rfl rfl rfl rfl rfl rfl ?_
      obtain ⟨hg9, h⟩ := grd_inv h
      refine oAppend tt rfl rfl rfl rfl rfl rfl rfl rfl rfl rfl rfl rfl rfl rfl rfl rfl (Nat.le_of_eq (Nat.zero_add _)) hg9 ?_
      refine oVal tt rfl rfl rfl rfl rfl trivial ?_
      refine vNil ?_
      change VC _ _ _ _
      refine vRegion ?_
      obtain ⟨hg10, h⟩ := grd_inv h
      refine oVal tt rfl rfl rfl rfl rfl hg10 ?_
      refine oVal tt rfl rfl rfl rfl rfl trivial ?_
      refine vNil ?_
      change ∃ _, _
      exact ⟨((l8 ++ ([x9] : List Int)), (x9 + (1 : Int))), (En.of ⟨rfl, rfl, rfl, rfl, trivial⟩ ⟨rfl, rfl, trivial⟩ trivial), h⟩
     ·replace h := cnd_f hb8 h
      refine vSkip ?_
      change VC _ _ _ _
      refine vRegion ?_
      obtain ⟨hg11, h⟩ := grd_inv h
      refine oVal tt rfl rfl rfl rfl rfl hg11 ?_
      refine oVal tt rfl rfl rfl rfl rfl trivial ?_
      refine vNil ?_
      change ∃ _, _
      exact ⟨(l8, (x9 + (1 : Int))), (En.of ⟨rfl, rfl, rfl, rfl, trivial⟩ ⟨rfl, rfl, trivial⟩ trivial), h⟩
    ·replace h := cnd_f hb6 h
     refine vExit ?_
     change ∃ _, _
     exact ⟨l8, (En.of ⟨rfl, trivial⟩ ⟨rfl, trivial⟩ trivial), h⟩
end Go.Proofs.YtmoamglpocjhgaaGreat
namespace Go.Proofs.YtmoamglpocjhgaaGreat
variable {n : Nat} {N : Nat}
theorem tailR_s (hN : 4000000 ≤ N) {p : Pbl} (hl : p.tails.length ≤ 3000000) (v : Int) : S_l4Tail N p v = some (p.tails.count v : Int) := by
 unfold S_l4Tail
 refine Eq.trans ?_ (fold (N := N) (len := p.tails.length) (σ := Int) (st := fun i => ((p.tails.take i).count v : Int)) (F := fun m s => S_l4Tail_l1 N p v (fun n3 => some n3) m (s.1, s.2)) (fin := some (p.tails.count v : Int)) (by omega) (fun m i hi => ?_) fun m => ?_)
 ·simp
 ·show S_l4Tail_l1 N p v _ (m + 1) (((p.tails.take i).count v : Int), (i : Int)) = S_l4Tail_l1 N p v _ m (((p.tails.take (i + 1)).count v : Int), ((i + 1 : Nat) : Int))
  have e : p.tails.take (i + 1) = p.tails.take i ++ [p.tails.getD i 0] := by
   rw [List.take_add_one, List.getElem?_eq_getElem hi, List.getD_eq_getElem?_getD, List.getElem?_eq_getElem hi]; rfl
  have hc := List.count_le_length (a := v) (l := p.tails.take i)
  have ht : (p.tails.take i).length ≤ i := by rw [List.length_take]; omega
  rw [S_l4Tail_l1, cnd_dt (by omega), grd_pos (by omega), show ((i : Int)).toNat = i from by omega, e, List.count_append]
  by_cases hv : p.tails.getD i 0 = v
  ·have hb : (p.tails.getD i 0 == v) = true := by rw [beq_iff_eq]; exact hv
   rw [hb, cnd_true, grd_R (by omega) (by omega), grd_R (by omega) (by omega), succ_cast, hv]
   simp
  ·have hb : (p.tails.getD i 0 == v) = false := by rw [beq_eq_false_iff_ne]; exact hv
   have hc2 : [p.tails.getD i 0].count v = 0 := by rw [List.count_eq_zero]; simpa using fun h => hv h.symm
   rw [hb, cnd_false, grd_R (by omega) (by omega), succ_cast, hc2]; rfl
 ·show S_l4Tail_l1 N p v _ (m + 1) (((p.tails.take p.tails.length).count v : Int), (p.tails.length : Int)) = _
  rw [S_l4Tail_l1, cnd_df (by omega), List.take_length]
structure Asc (p : Pbl) (i : Nat) : Prop where
 lt : ∀ j, 0 < j → j < p.placed.length → p.placed.getD (j - 1) 0 < p.placed.getD j 0
 last : ∀ j, j < p.placed.length → p.placed.getD j 0 < (i : Int)
theorem isPeb_s (hN : 4000000 ≤ N) {g : Grf} (hg : isGraph g = true) (hn : g.n = n) {p : Pbl} (hp : PG n g.bars p) {i : Nat} (ha : Asc p i) : S_IsPebbles N g 2 p = some true := by
 have hgp := isGraph_parts hg
 have fl := hp.inv.fl
 have tl := hp.inv.tl
 simp only [List.length_map] at tl
 have t2 := hp.inv.tlen
 have l1 : ∀ (fuel v : Nat), v ≤ n → n < fuel + v → S_IsPebbles_l1 N g 2 p (fun (_ : Unit) => some true) fuel (v : Int) = some true := by
  intro fuel
  induction fuel with
  | zero => intro v h1 h2; omega
  | succ fuel ih =>
   intro v h1 h2
   rw [S_IsPebbles_l1]
   by_cases hv : v < n
   ·have h3 := hp.inv.nn v hv
    have h4 := hp.inv.sm v hv
    rw [cnd_dt (by omega), grd_pos (by omega), show ((v : Int)).toNat = v from by omega, cnd_df (by omega), tailR_s hN (by omega), Option.bind_some, grd_R (by omega) (by omega)]
    have hb : ((p.free.getD v 0 + (p.tails.count (v : Int) : Int)) != (2 : Int)) = false := by rw [h4]; rfl
    rw [hb, cnd_false, grd_R (by omega) (by omega), succ_cast]
    exact ih (v + 1) (by omega) (by omega)
   ·rw [cnd_df (by omega)]
 have l2 : ∀ (fuel j : Nat) (kk : Unit → Option Bool), j ≤ p.placed.length → p.placed.length < fuel + j → S_IsPebbles_l2 N g p kk fuel (j : Int) = kk () := by
  intro fuel
  induction fuel with
  | zero => intro j kk h1 h2; omega
  | succ fuel ih =>
   intro j kk h1 h2
   rw [S_IsPebbles_l2]
   by_cases hj : j < p.placed.length
   ·have h3 := hp.pl (p.placed.getD j 0) (getD_mem hj)
    have h4 := hp.inv.en j (by rw [List.length_map]; exact hj)
    rw [eAt hj] at h4
    have hend : ∀ X : Option Bool, cnd (p.tails.getD j 0 != (g.bars.getD (p.placed.getD j 0).toNat (0, 0)).1) (cnd (p.tails.getD j 0 != (g.bars.getD (p.placed.getD j 0).toNat (0, 0)).2) (some false) X) X = X := by
     intro X
     rcases h4 with h4 | h4
     ·have hb : (p.tails.getD j 0 != (g.bars.getD (p.placed.getD j 0).toNat (0, 0)).1) = false := by rw [h4]; simp
      rw [hb, cnd_false]
     ·have hb : (p.tails.getD j 0 != (g.bars.getD (p.placed.getD j 0).toNat (0, 0)).2) = false := by rw [h4]; simp
      rw [hb, cnd_false]
      cases (p.tails.getD j 0 != (g.bars.getD (p.placed.getD j 0).toNat (0, 0)).1) <;> rfl
    rw [cnd_dt (by omega), grd_pos (p := 0 ≤ (j : Int) ∧ (j : Int) < (p.placed.length : Int)) (by omega), show ((j : Int)).toNat = j from by omega, cnd_df (by omega), cnd_df (by omega), grd_pos (p := 0 ≤ (j : Int) ∧ (j : Int) < (p.tails.length : Int)) (by omega), grd_pos (p := 0 ≤ p.placed.getD j 0 ∧ p.placed.getD j 0 < (g.bars.length : Int)) (by omega), grd_R (by omega) (by omega), hend, succ_cast]
    by_cases h0 : 0 < j
    ·have h5 := ha.lt j h0 hj
     rw [cnd_dt (by omega), grd_R (by omega) (by omega), grd_pos (by omega), show ((j : Int) - 1).toNat = j - 1 from by omega, cnd_df (by omega)]
     exact ih (j + 1) kk (by omega) (by omega)
    ·rw [cnd_df (by omega), grd_R (by omega) (by omega)]
     exact ih (j + 1) kk (by omega) (by omega)
   ·rw [cnd_df (by omega)]
 unfold S_IsPebbles
 have hb1 : ((p.free.length : Int) != g.n) = false := by rw [fl, hn]; simp
 have hb2 : ((p.tails.length : Int) != (p.placed.length : Int)) = false := by rw [tl]; simp
 rw [isGraphS_s N hN, Option.bind_some, hg, Bool.not_true, cnd_false, l1In_s N, Option.bind_some, show inB (2 : Int) 1 3 = true from by decide, Bool.not_true, cnd_false, hb1, cnd_false, hb2, cnd_false]
 exact (l2 N 0 _ (by omega) (by omega)).trans (l1 N 0 (by omega) (by omega))
theorem rangeS_s : S_IsRange N 2 3 = some true := by
 unfold S_IsRange
 rw [l1In_s N, Option.bind_some, show inB (2 : Int) 1 3 = true from by decide, cnd_true, cnd_dt (by omega), grd_R (by omega) (by omega)]
 rfl
theorem rangeI_s : I_IsRange N 2 3 = some true := by
 unfold I_IsRange
 rw [within_s N, Option.bind_some, show inB (2 : Int) 1 3 = true from by decide, cnd_true, grd_R (by omega) (by omega), grd_R (by omega) (by omega), within_s N]
 rfl
theorem newPeb_s (hN : 4000000 ≤ N) {g : Grf} (hg : isGraph g = true) (hn : g.n = n) : S_NewPebbles N g 2 = some (⟨List.replicate n 2, [], []⟩, true) := by
 have hgp := isGraph_parts hg
 unfold S_NewPebbles
 rw [isGraphS_s N hN, Option.bind_some, hg, Bool.not_true, cnd_false, l1In_s N, Option.bind_some, show inB (2 : Int) 1 3 = true from by decide, Bool.not_true, cnd_false]
 refine (fold (len := n) (st := fun i => List.replicate i (2 : Int)) (by omega) ?_ ?_)
 ·intro m i hi
  rw [S_NewPebbles_l1]
  simp (disch := omega) only [Int.toNat_natCast, tk0, List.length_cons, List.length_nil, grd_pos, grd_T, grd_R, cnd_dt, cnd_df, cnd_true, cnd_false, Option.bind_some, List.length_replicate, succ_cast]
  rw [List.replicate_succ']
 ·intro m
  rw [S_NewPebbles_l1, cnd_df (by omega)]
theorem place_s (hN : 4000000 ≤ N) {g : Grf} (hg : isGraph g = true) (hn : g.n = n) (hb : ∀ e ∈ g.bars, Bok n e) {p : Pbl} {i : Nat} (hi : i < g.bars.length) (h : Gm n g.bars p i) (ha : Asc p i) :
  ∃ (p' : Pbl) (b : Bool), S_PlaceBar N g 2 3 p (i : Int) = some (p', b) ∧ Gm n g.bars p' (i + 1) ∧ Asc p' (i + 1) := by
 have hgp := isGraph_parts hg
 have hbi := hb _ (getD_mem (d := (0, 0)) hi)
 have r1 := hbi.1
 have r2 := hbi.2.1
 have r3 := hbi.2.2.1
 have r4 := hbi.2.2.2.1
 have fl0 := h.pg.inv.fl
 have tl0 := h.pg.inv.tl
 simp only [List.length_map] at tl0
 have t20 := h.pg.inv.tlen
 have hcopy : S_l4Copy N p = some p := by
  unfold S_l4Copy
  rw [grd_pos (by omega), grd_pos (by omega), grd_pos (by omega)]; rfl
 have hlast : ∀ X Y : Option (Pbl × Bool), cnd (decide ((p.placed.length : Int) > 0)) (grd (Rg64 ((p.placed.length : Int) - 1)) (grd (0 ≤ ((p.placed.length : Int) - 1) ∧ ((p.placed.length : Int) - 1) < (p.placed.length : Int)) (cnd (decide (p.placed.getD ((p.placed.length : Int) - 1).toNat 0 ≥ (i : Int))) Y X))) X = X := by
  intro X Y
  by_cases h0 : (p.placed.length : Int) > 0
  ·have h5 := ha.last (p.placed.length - 1) (by omega)
   rw [cnd_dt h0, grd_R (by omega) (by omega), grd_pos (by omega), show ((p.placed.length : Int) - 1).toNat = p.placed.length - 1 from by omega, cnd_df (by omega)]
  ·rw [cnd_df h0]
 unfold S_PlaceBar
 rw [isPeb_s hN hg hn h.pg ha, Option.bind_some, Bool.not_true, cnd_false, rangeS_s, Option.bind_some, Bool.not_true, cnd_false, cnd_df (by omega), cnd_df (by omega), hlast]
 rw [grd_pos (by omega), grd_R (by omega) (by omega), show ((i : Int)).toNat = i from by omega]
 obtain ⟨p', g1, g2, ⟨g3, g4⟩ | ⟨g3, g4⟩⟩ := gather_s hN (by omega) hn (a := (g.bars.getD i (0, 0)).1) (b := (g.bars.getD i (0, 0)).2) hbi h.pg
 ·have le1 := g2.inv.le2 (v := (g.bars.getD i (0, 0)).2.toNat) (by omega)
  have le2 := g2.inv.le2 (v := (g.bars.getD i (0, 0)).1.toNat) (by omega)
  have hput := h.put hi hbi g1 g2 (.inl rfl) (by omega) g4
  have fl := g2.inv.fl
  have tl := g2.inv.tl
  simp only [List.length_map] at tl
  have t2 := g2.inv.tlen
  refine ⟨_, true, ?_, hput, ?_⟩
  ·show (S_l4Gather N g p (g.bars.getD i (0, 0)).1 (g.bars.getD i (0, 0)).2 4).bind _ = _
   rw [g3, Option.bind_some]
   dsimp only [jn]
   have hb0 : ((p'.free.getD (g.bars.getD i (0, 0)).1.toNat 0) == (0 : Int)) = false := by rw [beq_eq_false_iff_ne]; omega
   rw [Bool.not_true, cnd_false, grd_pos (by omega), hb0, cnd_false]
   rw [grd_pos (by omega), grd_R (by omega) (by omega), grd_pos (by omega), grd_pos (by rw [g1]; omega), grd_pos (by rw [List.length_set])]
  ·constructor
   ·intro j h0 hj
    show (p'.placed ++ [(i : Int)]).getD (j - 1) 0 < (p'.placed ++ [(i : Int)]).getD j 0
    have hj : j < (p'.placed ++ [(i : Int)]).length := hj
    rw [g1] at hj ⊢
    rw [List.length_append] at hj
    simp only [List.length_cons, List.length_nil] at hj
    rw [getD_app, getD_app, if_pos (by omega)]
    by_cases hjl : j < p.placed.length
    ·rw [if_pos hjl]; exact ha.lt j h0 hjl
    ·rw [if_neg hjl, if_pos (by omega)]; exact ha.last (j - 1) (by omega)
   ·intro j hj
    show (p'.placed ++ [(i : Int)]).getD j 0 < _
    have hj : j < (p'.placed ++ [(i : Int)]).length := hj
    rw [g1] at hj ⊢
    rw [List.length_append] at hj
    simp only [List.length_cons, List.length_nil] at hj
    rw [getD_app]
    by_cases hjl : j < p.placed.length
    ·rw [if_pos hjl]; have := ha.last j hjl; omega
    ·rw [if_neg hjl, if_pos (by omega)]; omega
 ·refine ⟨p, false, ?_, h.skip g4, ⟨ha.lt, fun j hj => by have := ha.last j hj; omega⟩⟩
  show (S_l4Gather N g p (g.bars.getD i (0, 0)).1 (g.bars.getD i (0, 0)).2 4).bind _ = _
  rw [g3, Option.bind_some]
  show cnd (!false) _ _ = _
  rw [Bool.not_false, cnd_true, hcopy]; rfl
theorem runS_s (hN : 4000000 ≤ N) {g : Grf} (hg : isGraph g = true) (hn : g.n = n) (hb : ∀ e ∈ g.bars, Bok n e) : ∃ p : Pbl, Gm n g.bars p g.bars.length ∧ S_RunPebbles N g 2 3 = some (p, true) := by
 have hgp := isGraph_parts hg
 unfold S_RunPebbles
 rw [newPeb_s hN hg hn, Option.bind_some]
 show ∃ p, _ ∧ cnd (!true) _ _ = _
 rw [Bool.not_true, cnd_false, rangeS_s, Option.bind_some, Bool.not_true, cnd_false]
 have key : ∀ (fuel i : Nat) (p : Pbl), i ≤ g.bars.length → g.bars.length < fuel + i → Gm n g.bars p i → Asc p i → ∃ p' : Pbl, Gm n g.bars p' g.bars.length ∧
   S_RunPebbles_l1 N g 2 3 (fun (x : (List Int) × (List Int) × (List Int)) => match x with | (l17, l18, l19) => some ((⟨l17, l18, l19⟩ : Pbl), true)) fuel (p.free, p.tails, p.placed, (i : Int)) = some (p', true) := by
  intro fuel
  induction fuel with
  | zero => intro i p h1 h2; omega
  | succ fuel ih =>
   intro i p h1 h2 h3 h4
   rw [S_RunPebbles_l1]
   by_cases hi : i < g.bars.length
   ·obtain ⟨p', b, k1, k2, k3⟩ := place_s hN hg hn hb hi h3 h4
    obtain ⟨q, q1, q2⟩ := ih (i + 1) p' (by omega) (by omega) k2 k3
    refine ⟨q, q1, ?_⟩
    rw [cnd_dt (by omega)]
    show (S_PlaceBar N g 2 3 p (i : Int)).bind _ = _
    rw [k1, Option.bind_some]
    show grd (Rg64 ((i : Int) + 1)) _ = _
    rw [grd_R (by omega) (by omega), succ_cast]
    exact q2
   ·have e : i = g.bars.length := by omega
    subst e
    rw [cnd_df (by omega)]
    exact ⟨p, h3, rfl⟩
 exact key N 0 ⟨List.replicate n 2, [], []⟩ (by omega) (by omega) (Gm.start g.bars) ⟨fun j h1 h2 => by simp at h2, fun j h2 => by simp at h2⟩
theorem runI_s (hN : 4000000 ≤ N) {g : Grf} (hg : isGraph g = true) (hn : g.n = n) (hb : ∀ e ∈ g.bars, Bok n e) : ∃ p : Pbl, Gm n g.bars p g.bars.length ∧ I_RunPebbles N g 2 3 = some (p, true) := by
 have hgp := isGraph_parts hg
 obtain ⟨p', g1, g2⟩ := play1_s hN (by omega) hb (by omega) (kk := fun x => match x with | (l24, l25, l26) => some (⟨l24, l25, l26⟩ : Pbl)) N 0 ⟨List.replicate n 2, [], []⟩ (by omega) (by omega) (Gm.start g.bars)
 refine ⟨p', g1, ?_⟩
 have e : I_play N n g.bars 2 3 = some p' := by
  unfold I_play
  refine (fold (len := n) (st := fun i => List.replicate i (2 : Int)) (by omega) ?_ ?_)
  ·intro m i hi
   rw [I_play_l2]
   simp (disch := omega) only [Int.toNat_natCast, tk0, List.length_cons, List.length_nil, grd_pos, grd_T, grd_R, cnd_dt, cnd_df, cnd_true, cnd_false, Option.bind_some, List.length_replicate, succ_cast]
   rw [List.replicate_succ']
  ·intro m
   rw [I_play_l2]
   rw [cnd_df (by omega)]
   exact g2
 unfold I_RunPebbles
 rw [isGraphI_s N hN, Option.bind_some, hg, Bool.not_true, cnd_false, rangeI_s, Option.bind_some, Bool.not_true, cnd_false, hn, e]
 rfl
theorem rank_x (hN : 4000000 ≤ N) {g : Grf} : ∃ r : Int, -1 ≤ r ∧ r ≤ 24 ∧ S_RankOf N g 2 3 = some r ∧ I_RankOf N g 2 3 = some r := by
 unfold S_RankOf I_RankOf
 cases hg : isGraph g with
 | false =>
  refine ⟨-1, by omega, by omega, ?_, ?_⟩
  ·have : S_RunPebbles N g 2 3 = some (⟨[], [], []⟩, false) := by
    unfold S_RunPebbles S_NewPebbles
    rw [isGraphS_s N hN, Option.bind_some, hg]; rfl
   rw [this]; rfl
  ·have : I_RunPebbles N g 2 3 = some (⟨[], [], []⟩, false) := by
    unfold I_RunPebbles
    rw [isGraphI_s N hN, Option.bind_some, hg]; rfl
   rw [this]; rfl
 | true =>
  have hgp := isGraph_parts hg
  have hn : g.n = (g.n.toNat : Int) := by omega
  have hb : ∀ e ∈ g.bars, Bok g.n.toNat e := fun e he => by
   have := isGraph_bar hg he
   exact ⟨by omega, by omega, by omega, by omega, by omega⟩
  obtain ⟨p, k1, k2⟩ := runS_s hN hg hn hb
  obtain ⟨q, q1, q2⟩ := runI_s hN hg hn hb
  have b1 := k1.bas
  have b2 := q1.bas
  have hlen : p.placed.length = q.placed.length := by
   have a1 := Bas.len hb b1 b2 (fun e he => b2.1 e he)
   have a2 := Bas.len hb b2 b1 (fun e he => b1.1 e he)
   simp only [List.length_map] at a1 a2
   omega
  have t2 := k1.pg.inv.tlen
  have tl := k1.pg.inv.tl
  simp only [List.length_map] at tl
  refine ⟨(p.placed.length : Int), by omega, by omega, ?_, ?_⟩
  ·rw [k2]; rfl
  ·rw [q2, hlen]; rfl
end Go.Proofs.YtmoamglpocjhgaaGreat
namespace Go.Proofs.YtmoamglpocjhgaaGreat
variable (N : Nat)
theorem all_not_dbl (l : List (Int × Int)) : ((List.range l.length).all fun i => !doubleAt l i) = !hasDbl l := by
 simp only [hasDbl, List.not_any_eq_all_not]
theorem pair_eq (a b : Int × Int) : ((a.1 == b.1) && (a.2 == b.2)) = (a == b) := by
 obtain ⟨x, y⟩ := a; obtain ⟨u, v⟩ := b; rfl
theorem hasDoubles_s (hN : 4000000 ≤ N) {g : Grf} (hb : g.bars.length ≤ 3000000) : I_hasDoubles N g = some (hasDbl g.bars) := by
 unfold I_hasDoubles
 refine (srch1 (len := g.bars.length) (ok := fun i => !doubleAt g.bars i) (bad := some true) (fin := some false) (by omega) rfl ?_ ?_).trans ?_
 ·intro n i h0 hi
  rw [I_hasDoubles_l1]
  simp (disch := omega) only [Int.toNat_natCast, tk0, List.length_cons, List.length_nil, grd_pos, grd_T, grd_R, cnd_dt, cnd_df, cnd_true, cnd_false, Option.bind_some, succ_cast, pair_eq, show ((i : Int) - 1).toNat = i - 1 from by omega]
  refine cnd_congr' ?_ _ _
  simp [doubleAt, h0]
 ·intro n i hi
  rw [I_hasDoubles_l1]
  simp (disch := omega) only [Int.toNat_natCast, tk0, List.length_cons, List.length_nil, grd_pos, grd_T, grd_R, cnd_dt, cnd_df, cnd_true, cnd_false, Option.bind_some]
 ·rw [all_not_dbl, cnd_some]; cases hasDbl g.bars <;> rfl
theorem l17Simple_s (hN : 4000000 ≤ N) {g : Grf} (hb : g.bars.length ≤ 3000000) : S_l17Simple N g = some (isSimple g) := by
 unfold S_l17Simple isSimple
 refine (srch1 (len := g.bars.length) (ok := fun i => !doubleAt g.bars i) (bad := some false) (fin := some (isGraph g)) (by omega) rfl ?_ ?_).trans ?_
 ·intro n i h0 hi
  rw [S_l17Simple_l1]
  simp (disch := omega) only [Int.toNat_natCast, tk0, List.length_cons, List.length_nil, grd_pos, grd_T, grd_R, cnd_dt, cnd_df, cnd_true, cnd_false, Option.bind_some, succ_cast, pair_eq, show ((i : Int) - 1).toNat = i - 1 from by omega]
  refine cnd_congr' ?_ _ _
  simp [doubleAt, h0]
 ·intro n i hi
  rw [S_l17Simple_l1]
  simp (disch := omega) only [Int.toNat_natCast, tk0, List.length_cons, List.length_nil, grd_pos, grd_T, grd_R, cnd_dt, cnd_df, cnd_true, cnd_false, Option.bind_some, isGraphS_s N hN]
 ·rw [all_not_dbl, cnd_some]; cases hasDbl g.bars <;> cases isGraph g <;> rfl
theorem ghasW_s (g : Grf) (x : Int) : M_Graph_has N g x = some (inB x 0 (w64 (g.n - 1))) := by
 unfold M_Graph_has
 simp (disch := omega) only [Int.toNat_natCast, tk0, List.length_cons, List.length_nil, grd_pos, grd_T, grd_R, cnd_dt, cnd_df, cnd_true, cnd_false, Option.bind_some, within_s]
theorem ghas_s {g : Grf} (h : 0 ≤ g.n) (h' : g.n ≤ 1048576) (x : Int) : M_Graph_has N g x = some (inB x 0 (g.n - 1)) := by
 unfold M_Graph_has
 rw [w64_id (by omega) (by omega)]
 simp (disch := omega) only [Int.toNat_natCast, tk0, List.length_cons, List.length_nil, grd_pos, grd_T, grd_R, cnd_dt, cnd_df, cnd_true, cnd_false, Option.bind_some, within_s]
end Go.Proofs.YtmoamglpocjhgaaGreat
namespace Go.Proofs.YtmoamglpocjhgaaGreat
variable (N : Nat)
end Go.Proofs.YtmoamglpocjhgaaGreat
namespace Go.Proofs.YtmoamglpocjhgaaGreat
variable {N : Nat}
def bitB (m : Int) (j : Nat) : Bool := andI (shrI m (j : Int)) (1 : Int) == (1 : Int)
def setU (m : Int) (k : Nat) : List Int := ((List.range k).filter (bitB m)).map fun (j : Nat) => (j : Int)
theorem setU_succ (m : Int) (k : Nat) : setU m (k + 1) = cnd (bitB m k) (setU m k ++ [(k : Int)]) (setU m k) := by
 unfold setU
 rw [List.range_succ, List.filter_append, List.map_append]
 cases h : bitB m k <;> simp [h, cnd]
theorem setU_len (m : Int) (k : Nat) : (setU m k).length ≤ k := by
 unfold setU
 rw [List.length_map]
 exact Nat.le_trans (List.length_filter_le _ _) (by simp)
theorem setU_rg {m : Int} {k : Nat} {x : Int} (h : x ∈ setU m k) : 0 ≤ x ∧ x < (k : Int) := by
 unfold setU at h
 obtain ⟨j, h1, rfl⟩ := List.mem_map.1 h
 have := (List.mem_filter.1 h1).1
 have := List.mem_range.1 this
 omega
theorem setS_s (hN : 4000000 ≤ N) {n m : Int} (hn : n ≤ 1000) : S_l3Set N n m = some (setU m n.toNat) := by
 unfold S_l3Set
 refine Eq.trans ?_ (fold (N := N) (len := n.toNat) (σ := List Int) (st := fun i => setU m i) (F := fun f s => S_l3Set_l1 N n m (fun l3 => some l3) f (s.1, s.2)) (fin := some (setU m n.toNat)) (by omega) (fun f i hi => ?_) fun f => ?_)
 ·simp [setU]
 ·show S_l3Set_l1 N n m _ (f + 1) (setU m i, (i : Int)) = S_l3Set_l1 N n m _ f (setU m (i + 1), ((i + 1 : Nat) : Int))
  have hl := setU_len m i
  rw [S_l3Set_l1, cnd_dt (by omega), grd_pos (by omega), setU_succ]
  show cnd (bitB m i) _ _ = _
  cases bitB m i with
  | true => rw [cnd_true, cnd_true, grd_pos (by omega), grd_R (by omega) (by omega), succ_cast]
  | false => rw [cnd_false, cnd_false, grd_R (by omega) (by omega), succ_cast]
 ·show S_l3Set_l1 N n m _ (f + 1) (setU m n.toNat, ((n.toNat : Nat) : Int)) = _
  rw [S_l3Set_l1, cnd_df (by omega)]
theorem setI_s (hN : 4000000 ≤ N) {n m : Int} (hn : n ≤ 1000) : I_setOf N m n = some (setU m n.toNat) := by
 unfold I_setOf
 refine Eq.trans ?_ (fold (N := N) (len := n.toNat) (σ := List Int) (st := fun i => setU m i) (F := fun f s => I_setOf_l1 N m n (fun l3 => some l3) f (s.1, s.2)) (fin := some (setU m n.toNat)) (by omega) (fun f i hi => ?_) fun f => ?_)
 ·simp [setU]
 ·show I_setOf_l1 N m n _ (f + 1) (setU m i, (i : Int)) = I_setOf_l1 N m n _ f (setU m (i + 1), ((i + 1 : Nat) : Int))
  have hl := setU_len m i
  rw [I_setOf_l1, cnd_dt (by omega), grd_pos (by omega), setU_succ]
  show cnd (bitB m i) _ _ = _
  cases bitB m i with
  | true => rw [cnd_true, cnd_true, grd_pos (by omega), grd_R (by omega) (by omega), succ_cast]
  | false => rw [cnd_false, cnd_false, grd_R (by omega) (by omega), succ_cast]
 ·show I_setOf_l1 N m n _ (f + 1) (setU m n.toNat, ((n.toNat : Nat) : Int)) = _
  rw [I_setOf_l1, cnd_df (by omega)]
def outN (set : List Int) (i : Nat) : Nat := (List.range i).countP fun (j : Nat) => !set.contains (j : Int)
theorem outN_succ (set : List Int) (i : Nat) : outN set (i + 1) = outN set i + (if set.contains (i : Int) then 0 else 1) := by
 unfold outN
 rw [List.range_succ, List.countP_append, List.countP_singleton]
 cases set.contains (i : Int) <;> rfl
theorem outN_set (m : Int) (k : Nat) : outN (setU m k) k + (setU m k).length = k := by
 have h1 : (setU m k).length = (List.range k).countP (bitB m) := by unfold setU; rw [List.length_map, List.countP_eq_length_filter]
 have h2 : outN (setU m k) k = (List.range k).countP fun j => !bitB m j := by
  unfold outN
  apply List.countP_congr
  intro j hj
  have hj := List.mem_range.1 hj
  have : (setU m k).contains (j : Int) = bitB m j := by
   rw [Bool.eq_iff_iff, List.contains_iff_mem]
   unfold setU
   constructor
   ·intro h
    obtain ⟨i, h1, h2⟩ := List.mem_map.1 h
    have : i = j := by omega
    subst this
    exact (List.mem_filter.1 h1).2
   ·intro h
    exact List.mem_map.2 ⟨j, List.mem_filter.2 ⟨List.mem_range.2 hj, h⟩, rfl⟩
  rw [this]
 rw [h1, h2]
 have := List.length_eq_countP_add_countP (bitB m) (l := List.range k)
 rw [List.length_range] at this
 have h3 : (List.range k).countP (fun j => !bitB m j) = (List.range k).countP (fun a => decide ¬bitB m a = true) := by
  apply List.countP_congr
  intro j _
  simp
 rw [h3]; omega
theorem wo_l2 (hN : 4000000 ≤ N) {g : Grf} {set : List Int} (hs : set.length ≤ 3000000) {m : Nat} (hm : (max (0 : Int) (min (8 : Int) g.n)).toNat = m) (hm8 : m ≤ 8) {kS : List Int × Int → Option Grf} {kI : List Int × Int → Option Grf} :
  ∀ (fuel i : Nat) (l : List Int) (c : Int), i ≤ m → m < fuel + i → l.length = m → 0 ≤ c ∧ c ≤ (i : Int) → c = (outN set i : Int) →
  ∃ (l' : List Int) (c' : Int), l'.length = m ∧ (0 ≤ c' ∧ c' = (outN set m : Int)) ∧ c' ≤ (m : Int) ∧ S_WithoutPoints_l2 N g set kS fuel (l, c, (i : Int)) = kS (l', c') ∧ I_WithoutPoints_l2 N g set kI fuel (l, (i : Int), c) = kI (l', c') := by
 have hm2 : (max (0 : Int) (min g.n (8 : Int))).toNat = m := by omega
 intro fuel
 induction fuel with
 | zero => intro i l c h1 h2; omega
 | succ fuel ih =>
  intro i l c h1 h2 h3 h4 h5
  have ho := outN_succ set i
  rw [S_WithoutPoints_l2, I_WithoutPoints_l2, hm, hm2]
  by_cases hi : i < m
  ·have er : (List.replicate m (0 : Int)).length = m := List.length_replicate
   rw [cnd_dt (by rw [er]; omega), cnd_dt (by rw [er]; omega), grd_pos (p := 0 ≤ (i : Int) ∧ (i : Int) < ((List.replicate m (0 : Int)).length : Int)) (by rw [er]; omega), grd_pos (p := 0 ≤ (i : Int) ∧ (i : Int) < (l.length : Int)) (by omega), grd_pos (p := 0 ≤ (i : Int) ∧ (i : Int) < ((List.replicate m (0 : Int)).length : Int)) (by rw [er]; omega), grd_pos (p := 0 ≤ (i : Int) ∧ (i : Int) < (l.length : Int)) (by omega), l2Has_s N hN hs, contains_s N hN hs, Option.bind_some, Option.bind_some, show ((i : Int)).toNat = i from by omega]
   have el : (l.set i (-1 : Int)).length = m := by rw [List.length_set]; exact h3
   cases hc : set.contains (i : Int) with
   | true =>
    rw [hc] at ho
    obtain ⟨l', c', g1, g2, g3, g4, g5⟩ := ih (i + 1) (l.set i (-1 : Int)) c (by omega) (by omega) el (by omega) (by simp at ho; omega)
    refine ⟨l', c', g1, g2, g3, ?_, ?_⟩
    ·rw [Bool.not_true, cnd_false, grd_R (by omega) (by omega), succ_cast]; exact g4
    ·rw [Bool.not_true, cnd_false, grd_R (by omega) (by omega), succ_cast]; exact g5
   | false =>
    rw [hc] at ho
    obtain ⟨l', c', g1, g2, g3, g4, g5⟩ := ih (i + 1) ((l.set i (-1 : Int)).set i c) (c + 1) (by omega) (by omega) (by rw [List.length_set]; exact el) (by omega) (by simp at ho; omega)
    refine ⟨l', c', g1, g2, g3, ?_, ?_⟩
    ·rw [Bool.not_false, cnd_true, grd_pos (by omega), grd_R (by omega) (by omega), grd_R (by omega) (by omega), succ_cast]; exact g4
    ·rw [Bool.not_false, cnd_true, grd_pos (by omega), grd_R (by omega) (by omega), grd_R (by omega) (by omega), succ_cast]; exact g5
  ·have er : (List.replicate m (0 : Int)).length = m := List.length_replicate
   rw [cnd_df (by rw [er]; omega), cnd_df (by rw [er]; omega)]
   have e : i = m := by omega
   exact ⟨l, c, h3, ⟨h4.1, by rw [h5, e]⟩, by omega, rfl, rfl⟩
theorem wo_l1 (hN : 4000000 ≤ N) {g : Grf} (hg : isGraph g = true) {l : List Int} (hl : (l.length : Int) = g.n) {kS kI : List (Int × Int) → Option Grf} :
  ∀ (fuel i : Nat) (L : List (Int × Int)), i ≤ g.bars.length → g.bars.length < fuel + i → L.length ≤ i →
  ∃ L', L'.length ≤ g.bars.length ∧ S_WithoutPoints_l1 N g l kS fuel (L, (i : Int)) = kS L' ∧ I_WithoutPoints_l1 N g l kI fuel (L, (i : Int)) = kI L' := by
 have hp := isGraph_parts hg
 have hmS : (((max (0 : Int) (min (8 : Int) g.n))).toNat : Int) = g.n := by omega
 have hmI : (((max (0 : Int) (min g.n (8 : Int)))).toNat : Int) = g.n := by omega
 intro fuel
 induction fuel with
 | zero => intro i L h1 h2; omega
 | succ fuel ih =>
  intro i L h1 h2 h3
  by_cases hi : i < g.bars.length
  ·have hb := isGraph_bar hg (p := g.bars.getD i (0, 0)) (by rw [List.getD_eq_getElem?_getD, List.getElem?_eq_getElem hi]; exact List.getElem_mem hi)
   obtain ⟨e, he⟩ : ∃ e, e = g.bars.getD i (0, 0) := ⟨_, rfl⟩
   rw [← he] at hb
   have hS : S_WithoutPoints_l1 N g l kS (fuel + 1) (L, (i : Int)) = cnd (decide (l.getD e.1.toNat 0 ≥ 0)) (cnd (decide (l.getD e.2.toNat 0 ≥ 0)) (S_WithoutPoints_l1 N g l kS fuel (L ++ [(l.getD e.1.toNat 0, l.getD e.2.toNat 0)], ((i + 1 : Nat) : Int))) (S_WithoutPoints_l1 N g l kS fuel (L, ((i + 1 : Nat) : Int)))) (S_WithoutPoints_l1 N g l kS fuel (L, ((i + 1 : Nat) : Int))) := by
    rw [S_WithoutPoints_l1, cnd_dt (by omega), isGraphS_s N hN, Option.bind_some, hg, cnd_true, List.length_replicate, show ((i : Int)).toNat = i from by omega, ← he]
    rw [grd_pos (p := 0 ≤ (i : Int) ∧ (i : Int) < (g.bars.length : Int)) (by omega)]
    rw [grd_pos (p := 0 ≤ e.1 ∧ e.1 < ((((max (0 : Int) (min (8 : Int) g.n))).toNat : Nat) : Int)) (by omega), grd_pos (p := 0 ≤ e.1 ∧ e.1 < (l.length : Int)) (by omega), grd_pos (p := 0 ≤ e.2 ∧ e.2 < ((((max (0 : Int) (min (8 : Int) g.n))).toNat : Nat) : Int)) (by omega), grd_pos (p := 0 ≤ e.2 ∧ e.2 < (l.length : Int)) (by omega)]
    rw [grd_pos (p := L.length + 1 ≤ 4294967296) (by omega), grd_R (by omega) (by omega), grd_R (by omega) (by omega), succ_cast]
   have hI : I_WithoutPoints_l1 N g l kI (fuel + 1) (L, (i : Int)) = cnd (decide (l.getD e.1.toNat 0 ≥ 0)) (cnd (decide (l.getD e.2.toNat 0 ≥ 0)) (I_WithoutPoints_l1 N g l kI fuel (L ++ [(l.getD e.1.toNat 0, l.getD e.2.toNat 0)], ((i + 1 : Nat) : Int))) (I_WithoutPoints_l1 N g l kI fuel (L, ((i + 1 : Nat) : Int)))) (I_WithoutPoints_l1 N g l kI fuel (L, ((i + 1 : Nat) : Int))) := by
    rw [I_WithoutPoints_l1, cnd_dt (by omega), List.length_replicate, show ((i : Int)).toNat = i from by omega, ← he]
    rw [grd_pos (p := 0 ≤ (i : Int) ∧ (i : Int) < (g.bars.length : Int)) (by omega)]
    rw [grd_pos (p := 0 ≤ e.1 ∧ e.1 < ((((max (0 : Int) (min g.n (8 : Int)))).toNat : Nat) : Int)) (by omega), grd_pos (p := 0 ≤ e.1 ∧ e.1 < (l.length : Int)) (by omega), grd_pos (p := 0 ≤ e.2 ∧ e.2 < ((((max (0 : Int) (min g.n (8 : Int)))).toNat : Nat) : Int)) (by omega), grd_pos (p := 0 ≤ e.2 ∧ e.2 < (l.length : Int)) (by omega)]
    rw [grd_pos (p := L.length + 1 ≤ 4294967296) (by omega), grd_R (by omega) (by omega), grd_R (by omega) (by omega), succ_cast]
   rw [hS, hI]
   obtain ⟨L1, a1, a2, a3⟩ := ih (i + 1) L (by omega) (by omega) (by omega)
   obtain ⟨L2, b1, b2, b3⟩ := ih (i + 1) (L ++ [(l.getD e.1.toNat 0, l.getD e.2.toNat 0)]) (by omega) (by omega) (by simp; omega)
   cases decide (l.getD e.1.toNat 0 ≥ 0) <;> cases decide (l.getD e.2.toNat 0 ≥ 0) <;> simp only [cnd_true, cnd_false]
   ·exact ⟨L1, a1, a2, a3⟩
   ·exact ⟨L1, a1, a2, a3⟩
   ·exact ⟨L1, a1, a2, a3⟩
   ·exact ⟨L2, b1, b2, b3⟩
  ·rw [S_WithoutPoints_l1, I_WithoutPoints_l1, cnd_df (by omega), cnd_df (by omega)]
   exact ⟨L, by omega, rfl, rfl⟩
theorem without_x (hN : 4000000 ≤ N) {g : Grf} (hgb : g.bars.length ≤ 3000000) {set : List Int} (hs : set.length ≤ 3000000) : ∃ h : Grf, h.bars.length ≤ 24 ∧ (0 ≤ h.n ∧ h.n = (outN set (max (0 : Int) (min (8 : Int) g.n)).toNat : Int)) ∧ h.n ≤ 8 ∧ S_WithoutPoints N g set = some h ∧ I_WithoutPoints N g set = some h := by
 unfold S_WithoutPoints I_WithoutPoints
 rw [grd_pos (by omega), grd_pos (by omega)]
 obtain ⟨m, hm⟩ : ∃ m, (max (0 : Int) (min (8 : Int) g.n)).toNat = m := ⟨_, rfl⟩
 have hm2 : (max (0 : Int) (min g.n (8 : Int))).toNat = m := by omega
 obtain ⟨l', c', h1, h2, h3, h4, h5⟩ := wo_l2 hN (g := g) hs hm (by omega)
  (kS := fun x => match x with | (l7, n8) => S_WithoutPoints_l1 N g l7 (fun (l16 : List (Int × Int)) => some (⟨n8, l16⟩ : Grf)) N (([] : List (Int × Int)), (0 : Int)))
  (kI := fun x => match x with | (l7, c8) => (I_IsGraph N g).bind fun v9 => cnd (!v9) (some (⟨c8, ([] : List (Int × Int))⟩ : Grf)) (I_WithoutPoints_l1 N g l7 (fun (l13 : List (Int × Int)) => some (⟨c8, l13⟩ : Grf)) N (([] : List (Int × Int)), (0 : Int))))
  N 0 (List.replicate m (0 : Int)) 0 (by omega) (by omega) List.length_replicate (by omega) (by simp [outN])
 rw [hm, hm2]
 cases hg : isGraph g with
 | false =>
  refine ⟨⟨c', []⟩, by simp, h2, by show c' ≤ 8; omega, h4.trans ?_, h5.trans ?_⟩
  ·obtain ⟨M, rfl⟩ : ∃ M, N = M + 1 := ⟨N - 1, by omega⟩
   show S_WithoutPoints_l1 (M + 1) g l' _ (M + 1) ([], 0) = _
   rw [S_WithoutPoints_l1, isGraphS_s _ hN, Option.bind_some, hg, cnd_false]
   cases decide ((0 : Int) < (g.bars.length : Int)) <;> rfl
  ·show (I_IsGraph N g).bind _ = _
   rw [isGraphI_s N hN, hg]; rfl
 | true =>
  have hp := isGraph_parts hg
  obtain ⟨L', k1, k2, k3⟩ := wo_l1 hN hg (l := l') (by omega) (kS := fun l16 => some (⟨c', l16⟩ : Grf)) (kI := fun l13 => some (⟨c', l13⟩ : Grf)) N 0 [] (by omega) (by omega) (by simp)
  refine ⟨⟨c', L'⟩, by show L'.length ≤ 24; omega, h2, by show c' ≤ 8; omega, h4.trans k2, h5.trans ?_⟩
  show (I_IsGraph N g).bind _ = _
  rw [isGraphI_s N hN, hg, Option.bind_some, Bool.not_true, cnd_false]
  exact k3
end Go.Proofs.YtmoamglpocjhgaaGreat
namespace Go.Proofs.YtmoamglpocjhgaaGreat
open Go.RowKit
def S_RemoveBar (N : Nat) (g_0 : Grf) (k_1 : Int) : Option (Grf × Bool) :=
 (S_IsGraph N g_0).bind fun v1 =>
 cnd (!v1) (
  (S_l2Copy N g_0).bind fun v2 =>
  some ((⟨v2.n, v2.bars⟩ : Grf), false)) (
  cnd (decide (k_1 < (0 : Int))) (
   (S_l2Copy N g_0).bind fun v3 =>
   some ((⟨v3.n, v3.bars⟩ : Grf), false)) (
   cnd (decide (k_1 ≥ (g_0.bars.length : Int))) (
    (S_l2Copy N g_0).bind fun v4 =>
    some ((⟨v4.n, v4.bars⟩ : Grf), false)) (
    grd (0 ≤ k_1 ∧ k_1 ≤ (g_0.bars.length : Int)) <|
    grd (((g_0.bars.take ((k_1).toNat)).drop 0).length ≤ 4294967296) <|
    grd (Rg64 (k_1 + (1 : Int))) <|
    grd (0 ≤ (k_1 + (1 : Int)) ∧ (k_1 + (1 : Int)) ≤ (g_0.bars.length : Int)) <|
    grd ((([] : List (Int × Int)) ++ ((g_0.bars.take ((k_1).toNat)).drop 0)).length + ((g_0.bars.take g_0.bars.length).drop (((k_1 + (1 : Int))).toNat)).length ≤ 4294967296) <|
    some ((⟨g_0.n, ((([] : List (Int × Int)) ++ ((g_0.bars.take ((k_1).toNat)).drop 0)) ++ ((g_0.bars.take g_0.bars.length).drop (((k_1 + (1 : Int))).toNat)))⟩ : Grf), true))))
set_option maxRecDepth 20000 in
set_option maxHeartbeats 1600000 in
theorem S_RemoveBar_w (N : Nat) (g_0 : Grf) (k_1 : Int) (r : Grf × Bool) (h : S_RemoveBar N g_0 k_1 = some r) : PCall Tryz.prog 172 [gD g_0, .int k_1] [(39, .pairs r.1.bars)] (.tup [.agg [.int r.1.n, .row 0 0 r.1.bars.length], .bool r.2]) := by
 unfold S_RemoveBar at h
 refine pcall_intro (TT := TT) tt Tryz.func172 rfl rfl Tryz.ntmps172 (congrArg Array.toList Tryz.results172) rfl rfl fun w0 => ?_
 refine vSeq ?_
 refine vRegion ?_
 refine oBox rfl rfl rfl rfl rfl rfl rfl rfl rfl ?_
 refine oAlloc tt rfl rfl rfl rfl rfl rfl rfl rfl rfl ?_
 refine oVal tt rfl rfl rfl rfl rfl trivial ?_
 refine vNil ?_
 change VC _ _ _ _
 iterate 2 refine vSeq ?_
 refine vRegion ?_
 refine oVal tt rfl rfl rfl rfl rfl trivial ?_
 obtain ⟨v1, hc1, h⟩ := bind_inv h
 refine oCall (S_IsGraph_w N g_0 v1 hc1) rfl rfl rfl rfl rfl rfl rfl rfl ⟨⟨rfl, rfl, trivial⟩, trivial⟩ ?_
 iterate 2 refine oVal tt rfl rfl rfl rfl rfl trivial ?_
 refine oSplit rfl rfl rfl (fun hb2 => ?_) (fun hb2 => ?_)
 ·replace h := cnd_t hb2 h
  iterate 2 refine oNoF rfl rfl rfl rfl hb2 rfl rfl ?_
  refine oPick rfl rfl rfl rfl rfl hb2 rfl ?_
  refine oVal tt rfl rfl rfl rfl rfl trivial ?_
  iterate 5 refine oNoF rfl rfl rfl rfl rfl rfl rfl ?_
  refine oPick rfl rfl rfl rfl rfl rfl rfl ?_
  refine vNil ?_
  change VC _ _ _ _
  refine vCondT rfl rfl ?_
  refine vSeq ?_
  refine vRegion ?_
  refine oVal tt rfl rfl rfl rfl rfl trivial ?_
  obtain ⟨v2, hc3, h⟩ := bind_inv h
  refine oCall (S_l2Copy_w N g_0 v2 hc3) rfl rfl rfl rfl rfl rfl rfl rfl ⟨⟨rfl, rfl, trivial⟩, trivial⟩ ?_
  refine oStore tt rfl rfl rfl rfl rfl rfl rfl rfl rfl rfl rfl ⟨trivial, trivial, trivial⟩ ?_
  refine oVal tt rfl rfl rfl rfl rfl trivial ?_
  refine vNil ?_
  change VC _ _ _ _
  refine vRet ?_
  change ∃ _, _
  cases h
  exact ⟨[1210], _, rfl, ⟨rfl, trivial⟩, rfl, (.eq rfl), rfl⟩
 ·replace h := cnd_f hb2 h
  iterate 2 refine oValG tt rfl rfl rfl rfl rfl hb2 rfl rfl rfl trivial ?_
  refine oPickF rfl rfl rfl rfl rfl hb2 rfl ?_
  refine oVal tt rfl rfl rfl rfl rfl trivial ?_
  refine oSplit rfl rfl rfl (fun hb4 => ?_) (fun hb4 => ?_)
  ·replace h := cnd_t hb4 h
   iterate 5 refine oNoF rfl rfl rfl rfl hb4 rfl rfl ?_
   refine oPick rfl rfl rfl rfl rfl hb4 rfl ?_
   refine vNil ?_
   change VC _ _ _ _
   refine vCondT rfl rfl ?_
   refine vSeq ?_
   refine vRegion ?_
   refine oVal tt rfl rfl rfl rfl rfl trivial ?_
   obtain ⟨v3, hc5, h⟩ := bind_inv h
   refine oCall (S_l2Copy_w N g_0 v3 hc5) rfl rfl rfl rfl rfl rfl rfl rfl ⟨⟨rfl, rfl, trivial⟩, trivial⟩ ?_
   refine oStore tt rfl rfl rfl rfl rfl rfl rfl rfl rfl rfl rfl ⟨trivial, trivial, trivial⟩ ?_
   refine oVal tt rfl rfl rfl rfl rfl trivial ?_
   refine vNil ?_
   change VC _ _ _ _
   refine vRet ?_
   change ∃ _, _
   cases h
   exact ⟨[1210], _, rfl, ⟨rfl, trivial⟩, rfl, (.eq rfl), rfl⟩
  ·replace h := cnd_f hb4 h
   iterate 5 refine oValG tt rfl rfl rfl rfl rfl hb4 rfl rfl rfl trivial ?_
   refine oPickF rfl rfl rfl rfl rfl hb4 rfl ?_
   refine vNil ?_
   change VC _ _ _ _
   refine vCond rfl (fun hb6 => ?_) (fun hb6 => ?_)
   ·replace h := cnd_t hb6 h
    refine vSeq ?_
    refine vRegion ?_
    refine oVal tt rfl rfl rfl rfl rfl trivial ?_
    obtain ⟨v4, hc7, h⟩ := bind_inv h
    refine oCall (S_l2Copy_w N g_0 v4 hc7) rfl rfl rfl rfl rfl rfl rfl rfl ⟨⟨rfl, rfl, trivial⟩, trivial⟩ ?_
    refine oStore tt rfl rfl rfl rfl rfl rfl rfl rfl rfl rfl rfl ⟨trivial, trivial, trivial⟩ ?_
    refine oVal tt rfl rfl rfl rfl rfl trivial ?_
    refine vNil ?_
    change VC _ _ _ _
    refine vRet ?_
    change ∃ _, _
    cases h
    exact ⟨[1210], _, rfl, ⟨rfl, trivial⟩, rfl, (.eq rfl), rfl⟩
   ·replace h := cnd_f hb6 h
    refine vSkip ?_
    change VC _ _ _ _
    refine vSeq ?_
    refine vRegionN 14 [7, 13, 1130000029] [0, 1, 0, 0, 8, 0, 56, 124, 0, 256, 0, 1024, 3840, 8188, 16383, 32767, 65535] (by kernel_rfl) (by kernel_rfl) (by kernel_rfl) (by kernel_rfl) (by kernel_rfl) rfl (by rfl) ?_
    iterate 2 refine nVal tt rfl (wNone rfl) rfl rfl rfl rfl rfl trivial ?_
    refine nEmpty tt (wNone rfl) rfl rfl rfl rfl rfl ?_
    iterate 3 refine nVal tt rfl (wNone rfl) rfl rfl rfl rfl rfl trivial ?_
    obtain ⟨hg8, h⟩ := grd_inv h
    refine nVal tt rfl (wNone rfl) rfl rfl rfl rfl rfl hg8 ?_
    obtain ⟨hg9, h⟩ := grd_inv h
    refine nAppNil tt (wNone rfl) rfl rfl rfl rfl rfl rfl rfl rfl (fun _ => rfl) rfl rfl rfl rfl rfl rfl hg9 ?_
    iterate 3 refine nVal tt rfl (wNone rfl) rfl rfl rfl rfl rfl trivial ?_
    obtain ⟨hg10, h⟩ := grd_inv h
    refine nVal tt rfl (wNone rfl) rfl rfl rfl rfl rfl hg10 ?_
    obtain ⟨hg11, h⟩ := grd_inv h
    refine nVal tt rfl (wNone rfl) rfl rfl rfl rfl rfl hg11 ?_
    obtain ⟨hg12, h⟩ := grd_inv h
    refine nAppMove tt (wNone rfl) rfl rfl rfl rfl rfl rfl rfl rfl rfl rfl rfl rfl rfl rfl rfl rfl rfl rfl rfl rfl trivial hg12 ?_
    refine nNil ?_
    change VO _ _ _ _ _
    refine oPure (wNone rfl) (pBuild bld_impl_Graph rfl rfl) rfl rfl ?_
    refine oStore tt rfl rfl rfl rfl rfl rfl rfl rfl rfl rfl rfl ⟨trivial, trivial, trivial⟩ ?_
    refine oVal tt rfl rfl rfl rfl rfl trivial ?_
    refine vNil ?_
    change VC _ _ _ _
    refine vRet ?_
    change ∃ _, _
    cases h
    exact ⟨[35], _, rfl, ⟨rfl, trivial⟩, rfl, (.eq rfl), rfl⟩
end Go.Proofs.YtmoamglpocjhgaaGreat
namespace Go.Proofs.YtmoamglpocjhgaaGreat
open Go.RowKit
def S_IsConnected (N : Nat) (g_0 : Grf) : Option (Bool) :=
 (S_IsGraph N g_0).bind fun v1 =>
 cnd v1 (
  (S_ReachOf N g_0 (0 : Int)).bind fun v2 =>
  some ((v2.length : Int) == g_0.n)) (
  some false)
set_option maxRecDepth 20000 in
set_option maxHeartbeats 1600000 in
theorem S_IsConnected_w (N : Nat) (g_0 : Grf) (r : Bool) (h : S_IsConnected N g_0 = some r) : PCall Tryz.prog 151 [gD g_0] [] (.bool r) := by
 unfold S_IsConnected at h
 refine pcall_intro (TT := TT) tt Tryz.func151 rfl rfl Tryz.ntmps151 (congrArg Array.toList Tryz.results151) rfl rfl fun w0 => ?_
 refine vSeq ?_
 refine vRegion ?_
 refine oBox rfl rfl rfl rfl rfl rfl rfl rfl rfl ?_
 refine oVal tt rfl rfl rfl rfl rfl trivial ?_
 refine vNil ?_
 change VC _ _ _ _
 refine vSeq ?_
 refine vRegionN 8 [4] [0, 1, 3, 7, 15, 31, 7, 71, 255, 511, 1023] (by kernel_rfl) (by kernel_rfl) (by kernel_rfl) (by kernel_rfl) (by kernel_rfl) rfl (by rfl) ?_
 refine nVal tt rfl (wNone rfl) rfl rfl rfl rfl rfl trivial ?_
 obtain ⟨v1, hc1, h⟩ := bind_inv h
 refine nCall (S_IsGraph_w N g_0 v1 hc1) rfl (wNone rfl) rfl rfl rfl rfl rfl rfl rfl rfl ⟨⟨rfl, rfl, trivial⟩, trivial⟩ ?_
 refine nVal tt rfl (wNone rfl) rfl rfl rfl rfl rfl trivial ?_
 refine nSplit rfl rfl rfl (fun hb2 => ?_) (fun hb2 => ?_)
 ·replace h := cnd_t hb2 h
  refine nVal tt rfl (wSome rfl rfl rfl rfl hb2) rfl rfl rfl rfl rfl trivial ?_
  obtain ⟨v2, hc3, h⟩ := bind_inv h
  refine nCallR (S_ReachOf_w N g_0 (0 : Int) v2 hc3) rfl (wSome rfl rfl rfl rfl hb2) rfl rfl rfl rfl rfl rfl (by first | rfl | kernel_rfl | (simp [nrL, nm, gdst, nmT, rowB]; done)) rfl (by first | rfl | kernel_rfl | (simp [chkE, nrL, nm, gdst, nmT, rowB, hid, ment, mentA, mentS]; done) | (simp [chkE, nrL, nm, gdst, nmT, rowB, hid, ment, mentA, mentS]; decide)) ⟨⟨rfl, rfl, trivial⟩, rfl, trivial⟩ ?_
  iterate 3 refine nVal tt rfl (wSome rfl rfl rfl rfl hb2) rfl rfl rfl rfl rfl trivial ?_
  refine nNil ?_
  change VO _ _ _ _ _
  refine oValG tt rfl rfl rfl rfl rfl hb2 rfl rfl rfl trivial ?_
  refine oPick rfl rfl rfl rfl rfl hb2 rfl ?_
  refine oVal tt rfl rfl rfl rfl rfl trivial ?_
  refine vNil ?_
  change VC _ _ _ _
  refine vRet ?_
  change ∃ _, _
  cases h
  exact ⟨[], _, rfl, trivial, rfl, (.eq rfl), rfl⟩
 ·replace h := cnd_f hb2 h
  iterate 5 refine nNoT rfl rfl rfl rfl hb2 rfl rfl ?_
  refine nNil ?_
  change VO _ _ _ _ _
  refine oNoT rfl rfl rfl rfl hb2 rfl rfl ?_
  refine oPickF rfl rfl rfl rfl rfl hb2 rfl ?_
  refine oVal tt rfl rfl rfl rfl rfl trivial ?_
  refine vNil ?_
  change VC _ _ _ _
  refine vRet ?_
  change ∃ _, _
  cases h
  exact ⟨[], _, rfl, trivial, rfl, (.eq rfl), rfl⟩
def S_CutSets_l1 (N : Nat) (g_0 : Grf) (k_1 : Int) (k : (List (List Int)) → Option (List (List Int))) : Nat → ((List (List Int)) × Int) → Option (List (List Int))
 | 0, _ => none
 | n + 1, (l25, mask26) =>
  grd (0 ≤ g_0.n ∧ g_0.n < 64 ∧ Rg64 ((1 : Int) * 2 ^ ((g_0.n).toNat))) <|
  cnd (decide (mask26 < ((1 : Int) * 2 ^ ((g_0.n).toNat)))) (
   (S_l3Set N g_0.n mask26).bind fun v30 =>
   cnd ((v30.length : Int) == k_1) (
    grd (Rg64 (g_0.n - k_1)) <|
    cnd (decide ((g_0.n - k_1) ≥ (2 : Int))) (
     (S_WithoutPoints N g_0 v30).bind fun v31 =>
     (S_IsConnected N v31).bind fun v32 =>
     cnd (!v32) (
      grd (l25.length + 1 ≤ 4294967296) <|
      grd (Rg64 (mask26 + (1 : Int))) <|
      S_CutSets_l1 N g_0 k_1 k n ((l25 ++ ([v30] : List (List Int))), (mask26 + (1 : Int)))) (
      grd (Rg64 (mask26 + (1 : Int))) <|
      S_CutSets_l1 N g_0 k_1 k n (l25, (mask26 + (1 : Int))))) (
     grd (Rg64 (mask26 + (1 : Int))) <|
     S_CutSets_l1 N g_0 k_1 k n (l25, (mask26 + (1 : Int))))) (
    grd (Rg64 (mask26 + (1 : Int))) <|
    S_CutSets_l1 N g_0 k_1 k n (l25, (mask26 + (1 : Int))))) (
   k l25)
def S_CutSets (N : Nat) (g_0 : Grf) (k_1 : Int) : Option (List (List Int)) :=
 (S_IsGraph N g_0).bind fun v1 =>
 cnd (!v1) (
  some ([] : List (List Int))) (
  (S_l1In N k_1 (0 : Int) (3 : Int)).bind fun v2 =>
  cnd (!v2) (
   some ([] : List (List Int))) (
   S_CutSets_l1 N g_0 k_1 (fun (l17 : List (List Int)) =>
      some l17) N (([] : List (List Int)), (0 : Int))))
set_option maxRecDepth 20000 in
set_option maxHeartbeats 1600000 in
theorem S_CutSets_w (N : Nat) (g_0 : Grf) (k_1 : Int) (r : List (List Int)) (h : S_CutSets N g_0 k_1 = some r) : PCall Tryz.prog 127 [gD g_0, .int k_1] [(25, .intss r)] (.row 0 0 r.length) := by
 unfold S_CutSets at h
 refine pcall_intro (TT := TT) tt Tryz.func127 rfl rfl Tryz.ntmps127 (congrArg Array.toList Tryz.results127) rfl rfl fun w0 => ?_
 refine vSeq ?_
 refine vRegion ?_
 refine oBox rfl rfl rfl rfl rfl rfl rfl rfl rfl ?_
 refine oVal tt rfl rfl rfl rfl rfl trivial ?_
 refine vNil ?_
 change VC _ _ _ _
 refine vSeq ?_
 refine vRegion ?_
 refine oEmpty tt (wNone rfl) rfl rfl rfl rfl ?_
 refine oVal tt rfl rfl rfl rfl rfl trivial ?_
 refine vNil ?_
 change VC _ _ _ _
 iterate 2 refine vSeq ?_
 refine vRegion ?_
 refine oVal tt rfl rfl rfl rfl rfl trivial ?_
 obtain ⟨v1, hc1, h⟩ := bind_inv h
 refine oCall (S_IsGraph_w N g_0 v1 hc1) rfl rfl rfl rfl rfl rfl rfl rfl ⟨⟨rfl, rfl, trivial⟩, trivial⟩ ?_
 iterate 2 refine oVal tt rfl rfl rfl rfl rfl trivial ?_
 refine oSplit rfl rfl rfl (fun hb2 => ?_) (fun hb2 => ?_)
 ·replace h := cnd_t hb2 h
  iterate 3 refine oNoF rfl rfl rfl rfl hb2 rfl rfl ?_
  refine oPick rfl rfl rfl rfl rfl hb2 rfl ?_
  refine vNil ?_
  change VC _ _ _ _
  refine vCondT rfl rfl ?_
  refine vSeq ?_
  refine vRegion ?_
  iterate 2 refine oVal tt rfl rfl rfl rfl rfl trivial ?_
  refine vNil ?_
  change VC _ _ _ _
  refine vNilT 4 9001 25 (.intss []) rfl rfl rfl rfl ?_
  refine vRet ?_
  change ∃ _, _
  cases h
  exact ⟨[9001], _, rfl, ⟨rfl, trivial⟩, rfl, (.eq rfl), rfl⟩
 ·replace h := cnd_f hb2 h
  refine oValG tt rfl rfl rfl rfl rfl hb2 rfl rfl rfl trivial ?_
  obtain ⟨v2, hc3, h⟩ := bind_inv h
  refine oCallG (S_l1In_w N k_1 (0 : Int) (3 : Int) v2 hc3) rfl rfl rfl rfl hb2 rfl rfl rfl rfl rfl rfl rfl ⟨rfl, rfl, rfl, trivial⟩ ?_
  refine oValG tt rfl rfl rfl rfl rfl hb2 rfl rfl rfl trivial ?_
  refine oPickF rfl rfl rfl rfl rfl hb2 rfl ?_
  refine vNil ?_
  change VC _ _ _ _
  refine vCond rfl (fun hb4 => ?_) (fun hb4 => ?_)
  ·replace h := cnd_t hb4 h
   refine vSeq ?_
   refine vRegion ?_
   iterate 2 refine oVal tt rfl rfl rfl rfl rfl trivial ?_
   refine vNil ?_
   change VC _ _ _ _
   refine vNilT 4 9001 25 (.intss []) rfl rfl rfl rfl ?_
   refine vRet ?_
   change ∃ _, _
   cases h
   exact ⟨[9001], _, rfl, ⟨rfl, trivial⟩, rfl, (.eq rfl), rfl⟩
  ·replace h := cnd_f hb4 h
   refine vSkip ?_
   change VC _ _ _ _
   iterate 2 refine vSeq ?_
   refine vRegion ?_
   refine oVal tt rfl rfl rfl rfl rfl trivial ?_
   refine vNil ?_
   change VC _ _ _ _
   refine vJoin (F := fun k => S_CutSets_l1 N g_0 k_1 k) h (α := List (List Int)) (J := fun (l17 : List (List Int)) => (⟨[(5, .row 50 0 l17.length)], [(50, some (25, .intss l17))], []⟩ : PS)) ?_ ?_
   ·rintro l17 h
    show VC _ _ _ (⟨[(5, .row 50 0 l17.length)], [(50, some (25, .intss l17))], []⟩ : PS)
    refine vSeq ?_
    refine vRegion ?_
    iterate 2 refine oVal tt rfl rfl rfl rfl rfl trivial ?_
    refine vNil ?_
    change VC _ _ _ _
    refine vRet ?_
    change ∃ _, _
    cases h
    exact ⟨[50], _, rfl, ⟨rfl, trivial⟩, rfl, (.eq rfl), rfl⟩
   ·intro k h
    refine vBlock ?_
    refine vNilT 5 50 25 (.intss []) rfl rfl rfl rfl ?_
    refine vLoopS (α := (List (List Int)) × Int) (fun | (l25, mask26) => (⟨[(1, .int k_1), (2, .ptr 2 0), (5, .row 50 0 l25.length), (6, .int mask26)], [(50, some (25, .intss l25))], [(2, some [.int g_0.n, .ro false (.pairs g_0.bars)])]⟩ : PS)) (S_CutSets_l1 N g_0 k_1 k) h (En.of ⟨rfl, rfl, rfl, rfl, trivial⟩ ⟨rfl, trivial⟩ ⟨rfl, trivial⟩) (fun _ => rfl) ?_
    rintro n ⟨l25, mask26⟩ h
    rw [S_CutSets_l1] at h
    show VC _ _ _ (⟨[(1, .int k_1), (2, .ptr 2 0), (5, .row 50 0 l25.length), (6, .int mask26)], [(50, some (25, .intss l25))], [(2, some [.int g_0.n, .ro false (.pairs g_0.bars)])]⟩ : PS)
    iterate 2 refine vSeq ?_
    refine vRegion ?_
    iterate 3 refine oVal tt rfl rfl rfl rfl rfl trivial ?_
    obtain ⟨hg5, h⟩ := grd_inv h
    refine oVal tt rfl rfl rfl rfl rfl hg5 ?_
    refine oVal tt rfl rfl rfl rfl rfl trivial ?_
    refine vNil ?_
    change VC _ _ _ _
    refine vCond rfl (fun hb6 => ?_) (fun hb6 => ?_)
    ·replace h := cnd_t hb6 h
     refine vSkip ?_
     change VC _ _ _ _
     refine vSeq ?_
     refine vBlock ?_
     refine vSeq ?_
     refine vRegion ?_
     iterate 3 refine oVal tt rfl rfl rfl rfl rfl trivial ?_
     obtain ⟨v30, hc7, h⟩ := bind_inv h
     refine oCall (S_l3Set_w N g_0.n mask26 v30 hc7) rfl rfl rfl rfl rfl rfl rfl rfl ⟨rfl, rfl, trivial⟩ ?_
     refine oVal tt rfl rfl rfl rfl rfl trivial ?_
     refine vNil ?_
     change VC _ _ _ _
     refine vSeq ?_
     refine vRegion ?_
     iterate 5 refine oVal tt rfl rfl rfl rfl rfl trivial ?_
     refine oSplit rfl rfl rfl (fun hb8 => ?_) (fun hb8 => ?_)
     ·replace h := cnd_t hb8 h
      iterate 3 refine oValG tt rfl rfl rfl rfl rfl hb8 rfl rfl rfl trivial ?_
      obtain ⟨hg9, h⟩ := grd_inv h
      refine oValG tt rfl rfl rfl rfl rfl hb8 rfl rfl rfl hg9 ?_
      refine oValG tt rfl rfl rfl rfl rfl hb8 rfl rfl rfl trivial ?_
      refine oPick rfl rfl rfl rfl rfl hb8 rfl ?_
      refine oVal tt rfl rfl rfl rfl rfl trivial ?_
      refine oSplit rfl rfl rfl (fun hb10 => ?_) (fun hb10 => ?_)
      ·replace h := cnd_t hb10 h
       iterate 2 refine oValG tt rfl rfl rfl rfl rfl hb10 rfl rfl rfl trivial ?_
       obtain ⟨v31, hc11, h⟩ := bind_inv h
       refine oCallG (S_WithoutPoints_w N g_0 v30 v31 hc11) rfl rfl rfl rfl hb10 rfl rfl rfl rfl rfl rfl rfl ⟨⟨rfl, rfl, trivial⟩, (.inl ⟨rfl, rfl⟩), trivial⟩ ?_
       obtain ⟨v32, hc12, h⟩ := bind_inv h
       refine oCallG (S_IsConnected_w N v31 v32 hc12) rfl rfl rfl rfl hb10 rfl rfl rfl rfl rfl rfl rfl ⟨⟨rfl, (.inl ⟨rfl, rfl⟩), trivial⟩, trivial⟩ ?_
       refine oValG tt rfl rfl rfl rfl rfl hb10 rfl rfl rfl trivial ?_
       refine oPick rfl rfl rfl rfl rfl hb10 rfl ?_
       refine vNil ?_
       change VC _ _ _ _
       refine vCond rfl (fun hb13 => ?_) (fun hb13 => ?_)
       ·replace h := cnd_t hb13 h
        refine vRegion ?_
        iterate 2 refine oVal tt rfl rfl rfl rfl rfl trivial ?_
        refine oFreeze (t := 48) rfl rfl rfl rfl ?_
        refine oBuild tt rfl rfl rfl rfl rfl rfl rfl rfl rfl rfl rfl ?_
        obtain ⟨hg14, h⟩ := grd_inv h
        refine oAppend tt rfl rfl rfl rfl rfl rfl rfl rfl rfl rfl rfl rfl rfl rfl rfl rfl (Nat.le_of_eq (Nat.zero_add _)) hg14 ?_
        refine oVal tt rfl rfl rfl rfl rfl trivial ?_
        refine vNil ?_
        change VC _ _ _ _
        refine vRegion ?_
        refine oVal tt rfl rfl rfl rfl rfl trivial ?_
        obtain ⟨hg15, h⟩ := grd_inv h
        refine oVal tt rfl rfl rfl rfl rfl hg15 ?_
        refine oVal tt rfl rfl rfl rfl rfl trivial ?_
        refine vNil ?_
        change ∃ _, _
        exact ⟨((l25 ++ ([v30] : List (List Int))), (mask26 + (1 : Int))), (En.of ⟨rfl, rfl, rfl, rfl, trivial⟩ ⟨rfl, trivial⟩ ⟨rfl, trivial⟩), h⟩
       ·replace h := cnd_f hb13 h
        refine vSkip ?_
        change VC _ _ _ _
        refine vRegion ?_
        refine oVal tt rfl rfl rfl rfl rfl trivial ?_
        obtain ⟨hg16, h⟩ := grd_inv h
        refine oVal tt rfl rfl rfl rfl rfl hg16 ?_
        refine oVal tt rfl rfl rfl rfl rfl trivial ?_
        refine vNil ?_
        change ∃ _, _
        exact ⟨(l25, (mask26 + (1 : Int))), (En.of ⟨rfl, rfl, rfl, rfl, trivial⟩ ⟨rfl, trivial⟩ ⟨rfl, trivial⟩), h⟩
      ·replace h := cnd_f hb10 h
       iterate 5 refine oNoT rfl rfl rfl rfl hb10 rfl rfl ?_
       refine oPickF rfl rfl rfl rfl rfl hb10 rfl ?_
       refine vNil ?_
       change VC _ _ _ _
       refine vCondF rfl rfl ?_
       refine vSkip ?_
       change VC _ _ _ _
       refine vRegion ?_
       refine oVal tt rfl rfl rfl rfl rfl trivial ?_
       obtain ⟨hg17, h⟩ := grd_inv h
       refine oVal tt rfl rfl rfl rfl rfl hg17 ?_
       refine oVal tt rfl rfl rfl rfl rfl trivial ?_
       refine vNil ?_
       change ∃ _, _
       exact ⟨(l25, (mask26 + (1 : Int))), (En.of ⟨rfl, rfl, rfl, rfl, trivial⟩ ⟨rfl, trivial⟩ ⟨rfl, trivial⟩), h⟩
     ·replace h := cnd_f hb8 h
      iterate 5 refine oNoT rfl rfl rfl rfl hb8 rfl rfl ?_
      refine oPickF rfl rfl rfl rfl rfl hb8 rfl ?_
      refine oVal tt rfl rfl rfl rfl rfl trivial ?_
      iterate 5 refine oNoT rfl rfl rfl rfl rfl rfl rfl ?_
      refine oPickF rfl rfl rfl rfl rfl rfl rfl ?_
      refine vNil ?_
      change VC _ _ _ _
      refine vCondF rfl rfl ?_
      refine vSkip ?_
      change VC _ _ _ _
      refine vRegion ?_
      refine oVal tt rfl rfl rfl rfl rfl trivial ?_
      obtain ⟨hg18, h⟩ := grd_inv h
      refine oVal tt rfl rfl rfl rfl rfl hg18 ?_
      refine oVal tt rfl rfl rfl rfl rfl trivial ?_
      refine vNil ?_
      change ∃ _, _
      exact ⟨(l25, (mask26 + (1 : Int))), (En.of ⟨rfl, rfl, rfl, rfl, trivial⟩ ⟨rfl, trivial⟩ ⟨rfl, trivial⟩), h⟩
    ·replace h := cnd_f hb6 h
     refine vExit ?_
     change ∃ _, _
     exact ⟨l25, (En.of ⟨rfl, trivial⟩ ⟨rfl, trivial⟩ trivial), h⟩
def S_IsKConnected_l1 (N : Nat) (g_0 : Grf) (k_1 : Int) (k : Unit → Option (Bool)) : Nat → Int → Option (Bool)
 | 0, _ => none
 | n + 1, i9 =>
  cnd (decide (i9 < k_1)) (
   (S_CutSets N g_0 i9).bind fun v11 =>
   cnd (decide ((v11.length : Int) > (0 : Int))) (
    some false) (
    grd (Rg64 (i9 + (1 : Int))) <|
    S_IsKConnected_l1 N g_0 k_1 k n (i9 + (1 : Int)))) (
   k ())
def S_IsKConnected (N : Nat) (g_0 : Grf) (k_1 : Int) : Option (Bool) :=
 (S_IsGraph N g_0).bind fun v1 =>
 cnd (!v1) (
  some false) (
  (S_l1In N k_1 (1 : Int) (3 : Int)).bind fun v2 =>
  cnd (!v2) (
   some false) (
   cnd (decide (g_0.n ≤ k_1)) (
    some false) (
    S_IsKConnected_l1 N g_0 k_1 (fun (_ : Unit) =>
       some true) N (0 : Int))))
set_option maxRecDepth 20000 in
set_option maxHeartbeats 1600000 in
theorem S_IsKConnected_w (N : Nat) (g_0 : Grf) (k_1 : Int) (r : Bool) (h : S_IsKConnected N g_0 k_1 = some r) : PCall Tryz.prog 100 [gD g_0, .int k_1] [] (.bool r) := by
 unfold S_IsKConnected at h
 refine pcall_intro (TT := TT) tt Tryz.func100 rfl rfl Tryz.ntmps100 (congrArg Array.toList Tryz.results100) rfl rfl fun w0 => ?_
 refine vSeq ?_
 refine vRegion ?_
 refine oBox rfl rfl rfl rfl rfl rfl rfl rfl rfl ?_
 refine oVal tt rfl rfl rfl rfl rfl trivial ?_
 refine vNil ?_
 change VC _ _ _ _
 iterate 2 refine vSeq ?_
 refine vRegion ?_
 refine oVal tt rfl rfl rfl rfl rfl trivial ?_
 obtain ⟨v1, hc1, h⟩ := bind_inv h
 refine oCall (S_IsGraph_w N g_0 v1 hc1) rfl rfl rfl rfl rfl rfl rfl rfl ⟨⟨rfl, rfl, trivial⟩, trivial⟩ ?_
 iterate 2 refine oVal tt rfl rfl rfl rfl rfl trivial ?_
 refine oSplit rfl rfl rfl (fun hb2 => ?_) (fun hb2 => ?_)
 ·replace h := cnd_t hb2 h
  iterate 3 refine oNoF rfl rfl rfl rfl hb2 rfl rfl ?_
  refine oPick rfl rfl rfl rfl rfl hb2 rfl ?_
  refine oVal tt rfl rfl rfl rfl rfl trivial ?_
  iterate 4 refine oNoF rfl rfl rfl rfl rfl rfl rfl ?_
  refine oPick rfl rfl rfl rfl rfl rfl rfl ?_
  refine vNil ?_
  change VC _ _ _ _
  refine vCondT rfl rfl ?_
  refine vSeq ?_
  refine vRegion ?_
  refine oVal tt rfl rfl rfl rfl rfl trivial ?_
  refine vNil ?_
  change VC _ _ _ _
  refine vRet ?_
  change ∃ _, _
  cases h
  exact ⟨[], _, rfl, trivial, rfl, (.eq rfl), rfl⟩
 ·replace h := cnd_f hb2 h
  refine oValG tt rfl rfl rfl rfl rfl hb2 rfl rfl rfl trivial ?_
  obtain ⟨v2, hc3, h⟩ := bind_inv h
  refine oCallG (S_l1In_w N k_1 (1 : Int) (3 : Int) v2 hc3) rfl rfl rfl rfl hb2 rfl rfl rfl rfl rfl rfl rfl ⟨rfl, rfl, rfl, trivial⟩ ?_
  refine oValG tt rfl rfl rfl rfl rfl hb2 rfl rfl rfl trivial ?_
  refine oPickF rfl rfl rfl rfl rfl hb2 rfl ?_
  refine oVal tt rfl rfl rfl rfl rfl trivial ?_
  refine oSplit rfl rfl rfl (fun hb4 => ?_) (fun hb4 => ?_)
  ·replace h := cnd_t hb4 h
   iterate 4 refine oNoF rfl rfl rfl rfl hb4 rfl rfl ?_
   refine oPick rfl rfl rfl rfl rfl hb4 rfl ?_
   refine vNil ?_
   change VC _ _ _ _
   refine vCondT rfl rfl ?_
   refine vSeq ?_
   refine vRegion ?_
   refine oVal tt rfl rfl rfl rfl rfl trivial ?_
   refine vNil ?_
   change VC _ _ _ _
   refine vRet ?_
   change ∃ _, _
   cases h
   exact ⟨[], _, rfl, trivial, rfl, (.eq rfl), rfl⟩
  ·replace h := cnd_f hb4 h
   iterate 4 refine oValG tt rfl rfl rfl rfl rfl hb4 rfl rfl rfl trivial ?_
   refine oPickF rfl rfl rfl rfl rfl hb4 rfl ?_
   refine vNil ?_
   change VC _ _ _ _
   refine vCond rfl (fun hb5 => ?_) (fun hb5 => ?_)
   ·replace h := cnd_t hb5 h
    refine vSeq ?_
    refine vRegion ?_
    refine oVal tt rfl rfl rfl rfl rfl trivial ?_
    refine vNil ?_
    change VC _ _ _ _
    refine vRet ?_
    change ∃ _, _
    cases h
    exact ⟨[], _, rfl, trivial, rfl, (.eq rfl), rfl⟩
   ·replace h := cnd_f hb5 h
    refine vSkip ?_
    change VC _ _ _ _
    iterate 2 refine vSeq ?_
    refine vRegion ?_
    refine oVal tt rfl rfl rfl rfl rfl trivial ?_
    refine vNil ?_
    change VC _ _ _ _
    refine vJoin (F := fun k => S_IsKConnected_l1 N g_0 k_1 k) h (α := Unit) (J := fun (_ : Unit) => (⟨[], [], []⟩ : PS)) ?_ ?_
    ·rintro ⟨⟩ h
     show VC _ _ _ (⟨[], [], []⟩ : PS)
     refine vSeq ?_
     refine vRegion ?_
     refine oVal tt rfl rfl rfl rfl rfl trivial ?_
     refine vNil ?_
     change VC _ _ _ _
     refine vRet ?_
     change ∃ _, _
     cases h
     exact ⟨[], _, rfl, trivial, rfl, (.eq rfl), rfl⟩
    ·intro k h
     refine vBlock ?_
     refine vLoopS (α := Int) (fun (i9 : Int) => (⟨[(1, .int k_1), (2, .ptr 2 0), (5, .int i9)], [], [(2, some [.int g_0.n, .ro false (.pairs g_0.bars)])]⟩ : PS)) (S_IsKConnected_l1 N g_0 k_1 k) h (En.of ⟨rfl, rfl, rfl, trivial⟩ trivial ⟨rfl, trivial⟩) (fun _ => rfl) ?_
     rintro n i9 h
     rw [S_IsKConnected_l1] at h
     show VC _ _ _ (⟨[(1, .int k_1), (2, .ptr 2 0), (5, .int i9)], [], [(2, some [.int g_0.n, .ro false (.pairs g_0.bars)])]⟩ : PS)
     iterate 2 refine vSeq ?_
     refine vRegion ?_
     iterate 3 refine oVal tt rfl rfl rfl rfl rfl trivial ?_
     refine vNil ?_
     change VC _ _ _ _
     refine vCond rfl (fun hb6 => ?_) (fun hb6 => ?_)
     ·replace h := cnd_t hb6 h
      refine vSkip ?_
      change VC _ _ _ _
      refine vSeq ?_
      refine vBlock ?_
      refine vSeq ?_
      refine vRegion ?_
      iterate 2 refine oVal tt rfl rfl rfl rfl rfl trivial ?_
      obtain ⟨v11, hc7, h⟩ := bind_inv h
      refine oCall (S_CutSets_w N g_0 i9 v11 hc7) rfl rfl rfl rfl rfl rfl rfl rfl ⟨⟨rfl, rfl, trivial⟩, rfl, trivial⟩ ?_
      iterate 2 refine oVal tt rfl rfl rfl rfl rfl trivial ?_
      refine vNil ?_
      change VC _ _ _ _
      refine vCond rfl (fun hb8 => ?_) (fun hb8 => ?_)
      ·replace h := cnd_t hb8 h
       refine vSeq ?_
       refine vRegion ?_
       refine oVal tt rfl rfl rfl rfl rfl trivial ?_
       refine vNil ?_
       change VC _ _ _ _
       refine vRet ?_
       change ∃ _, _
       cases h
       exact ⟨[], _, rfl, trivial, rfl, (.eq rfl), rfl⟩
      ·replace h := cnd_f hb8 h
       refine vSkip ?_
       change VC _ _ _ _
       refine vRegion ?_
       refine oVal tt rfl rfl rfl rfl rfl trivial ?_
       obtain ⟨hg9, h⟩ := grd_inv h
       refine oVal tt rfl rfl rfl rfl rfl hg9 ?_
       refine oVal tt rfl rfl rfl rfl rfl trivial ?_
       refine vNil ?_
       change ∃ _, _
       exact ⟨(i9 + (1 : Int)), (En.of ⟨rfl, rfl, rfl, trivial⟩ trivial ⟨rfl, trivial⟩), h⟩
     ·replace h := cnd_f hb6 h
      refine vExit ?_
      change ∃ _, _
      exact ⟨(), (En.of trivial trivial trivial), h⟩
def S_BridgesOf_l1 (N : Nat) (g_0 : Grf) (k_1 : Int) (l_2 : Int) (v1 : Int) (k : (List Int) → Option (List Int)) : Nat → ((List Int) × Int) → Option (List Int)
 | 0, _ => none
 | n + 1, (l18, i19) =>
  cnd (decide (i19 < (g_0.bars.length : Int))) (
   cnd (decide (v1 ≥ (0 : Int))) (
    (S_RemoveBar N g_0 i19).bind fun v22 =>
    (S_RankOf N v22.1 k_1 l_2).bind fun v23 =>
    cnd (decide (v23 < v1)) (
     grd (l18.length + 1 ≤ 4294967296) <|
     grd (Rg64 (i19 + (1 : Int))) <|
     S_BridgesOf_l1 N g_0 k_1 l_2 v1 k n ((l18 ++ ([i19] : List Int)), (i19 + (1 : Int)))) (
     grd (Rg64 (i19 + (1 : Int))) <|
     S_BridgesOf_l1 N g_0 k_1 l_2 v1 k n (l18, (i19 + (1 : Int))))) (
    k l18)) (
   k l18)
def S_BridgesOf (N : Nat) (g_0 : Grf) (k_1 : Int) (l_2 : Int) : Option (List Int) :=
 (S_RankOf N g_0 k_1 l_2).bind fun v1 =>
 S_BridgesOf_l1 N g_0 k_1 l_2 v1 (fun (l12 : List Int) =>
    some l12) N (([] : List Int), (0 : Int))
set_option maxRecDepth 20000 in
set_option maxHeartbeats 1600000 in
theorem S_BridgesOf_w (N : Nat) (g_0 : Grf) (k_1 : Int) (l_2 : Int) (r : List Int) (h : S_BridgesOf N g_0 k_1 l_2 = some r) : PCall Tryz.prog 152 [gD g_0, .int k_1, .int l_2] [(3, .ints r)] (.row 0 0 r.length) := by
 unfold S_BridgesOf at h
 refine pcall_intro (TT := TT) tt Tryz.func152 rfl rfl Tryz.ntmps152 (congrArg Array.toList Tryz.results152) rfl rfl fun w0 => ?_
 refine vSeq ?_
 refine vRegion ?_
 refine oBox rfl rfl rfl rfl rfl rfl rfl rfl rfl ?_
 refine oVal tt rfl rfl rfl rfl rfl trivial ?_
 refine vNil ?_
 change VC _ _ _ _
 refine vSeq ?_
 refine vRegion ?_
 refine oEmpty tt (wNone rfl) rfl rfl rfl rfl ?_
 refine oVal tt rfl rfl rfl rfl rfl trivial ?_
 refine vNil ?_
 change VC _ _ _ _
 refine vSeq ?_
 refine vRegion ?_
 iterate 3 refine oVal tt rfl rfl rfl rfl rfl trivial ?_
 obtain ⟨v1, hc1, h⟩ := bind_inv h
 refine oCall (S_RankOf_w N g_0 k_1 l_2 v1 hc1) rfl rfl rfl rfl rfl rfl rfl rfl ⟨⟨rfl, rfl, trivial⟩, rfl, rfl, trivial⟩ ?_
 refine oVal tt rfl rfl rfl rfl rfl trivial ?_
 refine vNil ?_
 change VC _ _ _ _
 iterate 2 refine vSeq ?_
 refine vRegion ?_
 refine oVal tt rfl rfl rfl rfl rfl trivial ?_
 refine vNil ?_
 change VC _ _ _ _
 refine vJoin (F := fun k => S_BridgesOf_l1 N g_0 k_1 l_2 v1 k) h (α := List Int) (J := fun (l12 : List Int) => (⟨[(7, .row 43 0 l12.length)], [(43, some (3, .ints l12))], []⟩ : PS)) ?_ ?_
 ·rintro l12 h
  show VC _ _ _ (⟨[(7, .row 43 0 l12.length)], [(43, some (3, .ints l12))], []⟩ : PS)
  refine vSeq ?_
  refine vRegion ?_
  iterate 2 refine oVal tt rfl rfl rfl rfl rfl trivial ?_
  refine vNil ?_
  change VC _ _ _ _
  refine vRet ?_
  change ∃ _, _
  cases h
  exact ⟨[43], _, rfl, ⟨rfl, trivial⟩, rfl, (.eq rfl), rfl⟩
 ·intro k h
  refine vBlock ?_
  refine vNilT 7 43 3 (.ints []) rfl rfl rfl rfl ?_
  refine vLoopS (α := (List Int) × Int) (fun | (l18, i19) => (⟨[(1, .int k_1), (2, .int l_2), (3, .ptr 3 0), (7, .row 43 0 l18.length), (8, .int v1), (9, .int i19)], [(43, some (3, .ints l18))], [(3, some [.int g_0.n, .ro false (.pairs g_0.bars)])]⟩ : PS)) (S_BridgesOf_l1 N g_0 k_1 l_2 v1 k) h (En.of ⟨rfl, rfl, rfl, rfl, rfl, rfl, trivial⟩ ⟨rfl, trivial⟩ ⟨rfl, trivial⟩) (fun _ => rfl) ?_
  rintro n ⟨l18, i19⟩ h
  rw [S_BridgesOf_l1] at h
  show VC _ _ _ (⟨[(1, .int k_1), (2, .int l_2), (3, .ptr 3 0), (7, .row 43 0 l18.length), (8, .int v1), (9, .int i19)], [(43, some (3, .ints l18))], [(3, some [.int g_0.n, .ro false (.pairs g_0.bars)])]⟩ : PS)
  iterate 2 refine vSeq ?_
  refine vRegion ?_
  iterate 6 refine oVal tt rfl rfl rfl rfl rfl trivial ?_
  refine oSplit rfl rfl rfl (fun hb2 => ?_) (fun hb2 => ?_)
  ·replace h := cnd_t hb2 h
   iterate 2 refine oValG tt rfl rfl rfl rfl rfl hb2 rfl rfl rfl trivial ?_
   refine oPick rfl rfl rfl rfl rfl hb2 rfl ?_
   refine vNil ?_
   change VC _ _ _ _
   refine vCond rfl (fun hb3 => ?_) (fun hb3 => ?_)
   ·replace h := cnd_t hb3 h
    refine vSkip ?_
    change VC _ _ _ _
    refine vSeq ?_
    refine vBlock ?_
    refine vSeq ?_
    refine vRegion ?_
    iterate 2 refine oVal tt rfl rfl rfl rfl rfl trivial ?_
    obtain ⟨v22, hc4, h⟩ := bind_inv h
    refine oCall (S_RemoveBar_w N g_0 i19 v22 hc4) rfl rfl rfl rfl rfl rfl rfl rfl ⟨⟨rfl, rfl, trivial⟩, rfl, trivial⟩ ?_
    iterate 3 refine oVal tt rfl rfl rfl rfl rfl trivial ?_
    refine oAlloc tt rfl rfl rfl rfl rfl rfl rfl rfl rfl ?_
    refine oStore tt rfl rfl rfl rfl rfl rfl rfl rfl rfl rfl rfl ⟨trivial, trivial, trivial⟩ ?_
    refine oVal tt rfl rfl rfl rfl rfl trivial ?_
    refine vNil ?_
    change VC _ _ _ _
    refine vSeq ?_
    refine vRegion ?_
    iterate 3 refine oVal tt rfl rfl rfl rfl rfl trivial ?_
    obtain ⟨v23, hc5, h⟩ := bind_inv h
    refine oCall (S_RankOf_w N v22.1 k_1 l_2 v23 hc5) rfl rfl rfl rfl rfl rfl rfl rfl ⟨⟨rfl, (.inl ⟨rfl, rfl⟩), trivial⟩, rfl, rfl, trivial⟩ ?_
    iterate 2 refine oVal tt rfl rfl rfl rfl rfl trivial ?_
    refine vNil ?_
    change VC _ _ _ _
    refine vCond rfl (fun hb6 => ?_) (fun hb6 => ?_)
    ·replace h := cnd_t hb6 h
     refine vRegion ?_
     iterate 2 refine oVal tt rfl rfl rfl rfl rfl trivial ?_
     refine oBuild tt rfl rfl rfl rfl rfl rfl rfl rfl rfl rfl rfl ?_
     obtain ⟨hg7, h⟩ := grd_inv h
     refine oAppend tt rfl rfl rfl rfl rfl rfl rfl rfl rfl rfl rfl rfl rfl rfl rfl rfl (Nat.le_of_eq (Nat.zero_add _)) hg7 ?_
     refine oVal tt rfl rfl rfl rfl rfl trivial ?_
     refine vNil ?_
     change VC _ _ _ _
     refine vRegion ?_
     refine oVal tt rfl rfl rfl rfl rfl trivial ?_
     obtain ⟨hg8, h⟩ := grd_inv h
     refine oVal tt rfl rfl rfl rfl rfl hg8 ?_
     refine oVal tt rfl rfl rfl rfl rfl trivial ?_
     refine vNil ?_
     change ∃ _, _
     exact ⟨((l18 ++ ([i19] : List Int)), (i19 + (1 : Int))), (En.of ⟨rfl, rfl, rfl, rfl, rfl, rfl, trivial⟩ ⟨rfl, trivial⟩ ⟨rfl, trivial⟩), h⟩
    ·replace h := cnd_f hb6 h
     refine vSkip ?_
     change VC _ _ _ _
     refine vRegion ?_
     refine oVal tt rfl rfl rfl rfl rfl trivial ?_
     obtain ⟨hg9, h⟩ := grd_inv h
     refine oVal tt rfl rfl rfl rfl rfl hg9 ?_
     refine oVal tt rfl rfl rfl rfl rfl trivial ?_
     refine vNil ?_
     change ∃ _, _
     exact ⟨(l18, (i19 + (1 : Int))), (En.of ⟨rfl, rfl, rfl, rfl, rfl, rfl, trivial⟩ ⟨rfl, trivial⟩ ⟨rfl, trivial⟩), h⟩
   ·replace h := cnd_f hb3 h
    refine vExit ?_
    change ∃ _, _
    exact ⟨l18, (En.of ⟨rfl, trivial⟩ ⟨rfl, trivial⟩ trivial), h⟩
  ·replace h := cnd_f hb2 h
   iterate 2 refine oNoT rfl rfl rfl rfl hb2 rfl rfl ?_
   refine oPickF rfl rfl rfl rfl rfl hb2 rfl ?_
   refine vNil ?_
   change VC _ _ _ _
   refine vCondF rfl rfl ?_
   refine vExit ?_
   change ∃ _, _
   exact ⟨l18, (En.of ⟨rfl, trivial⟩ ⟨rfl, trivial⟩ trivial), h⟩
def S_FragileBars (N : Nat) (g_0 : Grf) : Option (List Int) :=
 (S_BridgesOf N g_0 (2 : Int) (3 : Int)).bind fun v1 =>
 some v1
set_option maxRecDepth 20000 in
set_option maxHeartbeats 1600000 in
theorem S_FragileBars_w (N : Nat) (g_0 : Grf) (r : List Int) (h : S_FragileBars N g_0 = some r) : PCall Tryz.prog 128 [gD g_0] [(3, .ints r)] (.row 0 0 r.length) := by
 unfold S_FragileBars at h
 refine pcall_intro (TT := TT) tt Tryz.func128 rfl rfl Tryz.ntmps128 (congrArg Array.toList Tryz.results128) rfl rfl fun w0 => ?_
 refine vSeq ?_
 refine vRegion ?_
 refine oBox rfl rfl rfl rfl rfl rfl rfl rfl rfl ?_
 refine oVal tt rfl rfl rfl rfl rfl trivial ?_
 refine vNil ?_
 change VC _ _ _ _
 refine vSeq ?_
 refine vRegion ?_
 refine oVal tt rfl rfl rfl rfl rfl trivial ?_
 obtain ⟨v1, hc1, h⟩ := bind_inv h
 refine oCall (S_BridgesOf_w N g_0 (2 : Int) (3 : Int) v1 hc1) rfl rfl rfl rfl rfl rfl rfl rfl ⟨⟨rfl, rfl, trivial⟩, rfl, rfl, trivial⟩ ?_
 refine oVal tt rfl rfl rfl rfl rfl trivial ?_
 refine vNil ?_
 change VC _ _ _ _
 refine vRet ?_
 change ∃ _, _
 cases h
 exact ⟨[1040], _, rfl, ⟨rfl, trivial⟩, rfl, (.eq rfl), rfl⟩
def S_IsRedundantlyRigid (N : Nat) (g_0 : Grf) : Option (Bool) :=
 (S_IsRigid N g_0).bind fun v1 =>
 cnd v1 (
  (S_FragileBars N g_0).bind fun v2 =>
  some ((v2.length : Int) == (0 : Int))) (
  some false)
set_option maxRecDepth 20000 in
set_option maxHeartbeats 1600000 in
theorem S_IsRedundantlyRigid_w (N : Nat) (g_0 : Grf) (r : Bool) (h : S_IsRedundantlyRigid N g_0 = some r) : PCall Tryz.prog 101 [gD g_0] [] (.bool r) := by
 unfold S_IsRedundantlyRigid at h
 refine pcall_intro (TT := TT) tt Tryz.func101 rfl rfl Tryz.ntmps101 (congrArg Array.toList Tryz.results101) rfl rfl fun w0 => ?_
 refine vSeq ?_
 refine vRegion ?_
 refine oBox rfl rfl rfl rfl rfl rfl rfl rfl rfl ?_
 refine oVal tt rfl rfl rfl rfl rfl trivial ?_
 refine vNil ?_
 change VC _ _ _ _
 refine vSeq ?_
 refine vRegion ?_
 refine oVal tt rfl rfl rfl rfl rfl trivial ?_
 obtain ⟨v1, hc1, h⟩ := bind_inv h
 refine oCall (S_IsRigid_w N g_0 v1 hc1) rfl rfl rfl rfl rfl rfl rfl rfl ⟨⟨rfl, rfl, trivial⟩, trivial⟩ ?_
 refine oVal tt rfl rfl rfl rfl rfl trivial ?_
 refine oSplit rfl rfl rfl (fun hb2 => ?_) (fun hb2 => ?_)
 ·replace h := cnd_t hb2 h
  refine oValG tt rfl rfl rfl rfl rfl hb2 rfl rfl rfl trivial ?_
  obtain ⟨v2, hc3, h⟩ := bind_inv h
  refine oCallG (S_FragileBars_w N g_0 v2 hc3) rfl rfl rfl rfl hb2 rfl rfl rfl rfl rfl rfl rfl ⟨⟨rfl, rfl, trivial⟩, trivial⟩ ?_
  iterate 2 refine oValG tt rfl rfl rfl rfl rfl hb2 rfl rfl rfl trivial ?_
  refine oPick rfl rfl rfl rfl rfl hb2 rfl ?_
  refine oVal tt rfl rfl rfl rfl rfl trivial ?_
  refine vNil ?_
  change VC _ _ _ _
  refine vRet ?_
  change ∃ _, _
  cases h
  exact ⟨[], _, rfl, trivial, rfl, (.eq rfl), rfl⟩
 ·replace h := cnd_f hb2 h
  iterate 4 refine oNoT rfl rfl rfl rfl hb2 rfl rfl ?_
  refine oPickF rfl rfl rfl rfl rfl hb2 rfl ?_
  refine oVal tt rfl rfl rfl rfl rfl trivial ?_
  refine vNil ?_
  change VC _ _ _ _
  refine vRet ?_
  change ∃ _, _
  cases h
  exact ⟨[], _, rfl, trivial, rfl, (.eq rfl), rfl⟩
end Go.Proofs.YtmoamglpocjhgaaGreat
namespace Go.Proofs.YtmoamglpocjhgaaGreat
open Go.RowKit
def I_IsConnected (N : Nat) (g_0 : Grf) : Option (Bool) :=
 (I_IsGraph N g_0).bind fun v1 =>
 cnd v1 (
  (I_ReachOf N g_0 (0 : Int)).bind fun v2 =>
  some ((v2.length : Int) == g_0.n)) (
  some false)
set_option maxRecDepth 20000 in
set_option maxHeartbeats 1600000 in
theorem I_IsConnected_w (N : Nat) (g_0 : Grf) (r : Bool) (h : I_IsConnected N g_0 = some r) : PCall Tryz.prog 174 [gD g_0] [] (.bool r) := by
 unfold I_IsConnected at h
 refine pcall_intro (TT := TT) tt Tryz.func174 rfl rfl Tryz.ntmps174 (congrArg Array.toList Tryz.results174) rfl rfl fun w0 => ?_
 refine vSeq ?_
 refine vRegion ?_
 refine oBox rfl rfl rfl rfl rfl rfl rfl rfl rfl ?_
 refine oVal tt rfl rfl rfl rfl rfl trivial ?_
 refine vNil ?_
 change VC _ _ _ _
 refine vSeq ?_
 refine vRegionN 8 [4] [0, 1, 3, 7, 15, 31, 7, 71, 255, 511, 1023] (by kernel_rfl) (by kernel_rfl) (by kernel_rfl) (by kernel_rfl) (by kernel_rfl) rfl (by rfl) ?_
 refine nVal tt rfl (wNone rfl) rfl rfl rfl rfl rfl trivial ?_
 obtain ⟨v1, hc1, h⟩ := bind_inv h
 refine nCall (I_IsGraph_w N g_0 v1 hc1) rfl (wNone rfl) rfl rfl rfl rfl rfl rfl rfl rfl ⟨⟨rfl, rfl, trivial⟩, trivial⟩ ?_
 refine nVal tt rfl (wNone rfl) rfl rfl rfl rfl rfl trivial ?_
 refine nSplit rfl rfl rfl (fun hb2 => ?_) (fun hb2 => ?_)
 ·replace h := cnd_t hb2 h
  refine nVal tt rfl (wSome rfl rfl rfl rfl hb2) rfl rfl rfl rfl rfl trivial ?_
  obtain ⟨v2, hc3, h⟩ := bind_inv h
  refine nCallR (I_ReachOf_w N g_0 (0 : Int) v2 hc3) rfl (wSome rfl rfl rfl rfl hb2) rfl rfl rfl rfl rfl rfl (by first | rfl | kernel_rfl | (simp [nrL, nm, gdst, nmT, rowB]; done)) rfl (by first | rfl | kernel_rfl | (simp [chkE, nrL, nm, gdst, nmT, rowB, hid, ment, mentA, mentS]; done) | (simp [chkE, nrL, nm, gdst, nmT, rowB, hid, ment, mentA, mentS]; decide)) ⟨⟨rfl, rfl, trivial⟩, rfl, trivial⟩ ?_
  iterate 3 refine nVal tt rfl (wSome rfl rfl rfl rfl hb2) rfl rfl rfl rfl rfl trivial ?_
  refine nNil ?_
  change VO _ _ _ _ _
  refine oValG tt rfl rfl rfl rfl rfl hb2 rfl rfl rfl trivial ?_
  refine oPick rfl rfl rfl rfl rfl hb2 rfl ?_
  refine oVal tt rfl rfl rfl rfl rfl trivial ?_
  refine vNil ?_
  change VC _ _ _ _
  refine vRet ?_
  change ∃ _, _
  cases h
  exact ⟨[], _, rfl, trivial, rfl, (.eq rfl), rfl⟩
 ·replace h := cnd_f hb2 h
  iterate 5 refine nNoT rfl rfl rfl rfl hb2 rfl rfl ?_
  refine nNil ?_
  change VO _ _ _ _ _
  refine oNoT rfl rfl rfl rfl hb2 rfl rfl ?_
  refine oPickF rfl rfl rfl rfl rfl hb2 rfl ?_
  refine oVal tt rfl rfl rfl rfl rfl trivial ?_
  refine vNil ?_
  change VC _ _ _ _
  refine vRet ?_
  change ∃ _, _
  cases h
  exact ⟨[], _, rfl, trivial, rfl, (.eq rfl), rfl⟩
def I_CutSets_l1 (N : Nat) (g_0 : Grf) (k_1 : Int) (k : (List (List Int)) → Option (List (List Int))) : Nat → ((List (List Int)) × Int) → Option (List (List Int))
 | 0, _ => none
 | n + 1, (l25, x26) =>
  cnd (decide (x26 < ((1 : Int) * 2 ^ ((g_0.n).toNat)))) (
   (I_setOf N x26 g_0.n).bind fun v30 =>
   cnd ((v30.length : Int) != k_1) (
    grd (Rg64 (x26 + (1 : Int))) <|
    I_CutSets_l1 N g_0 k_1 k n (l25, (x26 + (1 : Int)))) (
    (I_WithoutPoints N g_0 v30).bind fun v31 =>
    cnd (decide (v31.n ≥ (2 : Int))) (
     (I_IsConnected N v31).bind fun v32 =>
     cnd (!v32) (
      grd (l25.length + 1 ≤ 4294967296) <|
      grd (Rg64 (x26 + (1 : Int))) <|
      I_CutSets_l1 N g_0 k_1 k n ((l25 ++ ([v30] : List (List Int))), (x26 + (1 : Int)))) (
      grd (Rg64 (x26 + (1 : Int))) <|
      I_CutSets_l1 N g_0 k_1 k n (l25, (x26 + (1 : Int))))) (
     grd (Rg64 (x26 + (1 : Int))) <|
     I_CutSets_l1 N g_0 k_1 k n (l25, (x26 + (1 : Int)))))) (
   k l25)
def I_CutSets (N : Nat) (g_0 : Grf) (k_1 : Int) : Option (List (List Int)) :=
 (I_IsGraph N g_0).bind fun v1 =>
 cnd (!v1) (
  some ([] : List (List Int))) (
  (I_within N k_1 (0 : Int) (3 : Int)).bind fun v2 =>
  cnd (!v2) (
   some ([] : List (List Int))) (
   grd (0 ≤ g_0.n ∧ g_0.n < 64 ∧ Rg64 ((1 : Int) * 2 ^ ((g_0.n).toNat))) <|
   I_CutSets_l1 N g_0 k_1 (fun (l17 : List (List Int)) =>
      some l17) N (([] : List (List Int)), (0 : Int))))
set_option maxRecDepth 20000 in
set_option maxHeartbeats 1600000 in
theorem I_CutSets_w (N : Nat) (g_0 : Grf) (k_1 : Int) (r : List (List Int)) (h : I_CutSets N g_0 k_1 = some r) : PCall Tryz.prog 154 [gD g_0, .int k_1] [(25, .intss r)] (.row 0 0 r.length) := by
 unfold I_CutSets at h
 refine pcall_intro (TT := TT) tt Tryz.func154 rfl rfl Tryz.ntmps154 (congrArg Array.toList Tryz.results154) rfl rfl fun w0 => ?_
 refine vSeq ?_
 refine vRegion ?_
 refine oBox rfl rfl rfl rfl rfl rfl rfl rfl rfl ?_
 refine oVal tt rfl rfl rfl rfl rfl trivial ?_
 refine vNil ?_
 change VC _ _ _ _
 refine vSeq ?_
 refine vRegion ?_
 refine oEmpty tt (wNone rfl) rfl rfl rfl rfl ?_
 refine oVal tt rfl rfl rfl rfl rfl trivial ?_
 refine vNil ?_
 change VC _ _ _ _
 iterate 2 refine vSeq ?_
 refine vRegion ?_
 refine oVal tt rfl rfl rfl rfl rfl trivial ?_
 obtain ⟨v1, hc1, h⟩ := bind_inv h
 refine oCall (I_IsGraph_w N g_0 v1 hc1) rfl rfl rfl rfl rfl rfl rfl rfl ⟨⟨rfl, rfl, trivial⟩, trivial⟩ ?_
 iterate 2 refine oVal tt rfl rfl rfl rfl rfl trivial ?_
 refine oSplit rfl rfl rfl (fun hb2 => ?_) (fun hb2 => ?_)
 ·replace h := cnd_t hb2 h
  iterate 3 refine oNoF rfl rfl rfl rfl hb2 rfl rfl ?_
  refine oPick rfl rfl rfl rfl rfl hb2 rfl ?_
  refine vNil ?_
  change VC _ _ _ _
  refine vCondT rfl rfl ?_
  refine vSeq ?_
  refine vRegion ?_
  iterate 2 refine oVal tt rfl rfl rfl rfl rfl trivial ?_
  refine vNil ?_
  change VC _ _ _ _
  refine vNilT 4 9001 25 (.intss []) rfl rfl rfl rfl ?_
  refine vRet ?_
  change ∃ _, _
  cases h
  exact ⟨[9001], _, rfl, ⟨rfl, trivial⟩, rfl, (.eq rfl), rfl⟩
 ·replace h := cnd_f hb2 h
  refine oValG tt rfl rfl rfl rfl rfl hb2 rfl rfl rfl trivial ?_
  obtain ⟨v2, hc3, h⟩ := bind_inv h
  refine oCallG (I_within_w N k_1 (0 : Int) (3 : Int) v2 hc3) rfl rfl rfl rfl hb2 rfl rfl rfl rfl rfl rfl rfl ⟨rfl, rfl, rfl, trivial⟩ ?_
  refine oValG tt rfl rfl rfl rfl rfl hb2 rfl rfl rfl trivial ?_
  refine oPickF rfl rfl rfl rfl rfl hb2 rfl ?_
  refine vNil ?_
  change VC _ _ _ _
  refine vCond rfl (fun hb4 => ?_) (fun hb4 => ?_)
  ·replace h := cnd_t hb4 h
   refine vSeq ?_
   refine vRegion ?_
   iterate 2 refine oVal tt rfl rfl rfl rfl rfl trivial ?_
   refine vNil ?_
   change VC _ _ _ _
   refine vNilT 4 9001 25 (.intss []) rfl rfl rfl rfl ?_
   refine vRet ?_
   change ∃ _, _
   cases h
   exact ⟨[9001], _, rfl, ⟨rfl, trivial⟩, rfl, (.eq rfl), rfl⟩
  ·replace h := cnd_f hb4 h
   refine vSkip ?_
   change VC _ _ _ _
   iterate 2 refine vSeq ?_
   refine vRegion ?_
   iterate 2 refine oVal tt rfl rfl rfl rfl rfl trivial ?_
   obtain ⟨hg5, h⟩ := grd_inv h
   refine oVal tt rfl rfl rfl rfl rfl hg5 ?_
   refine oVal tt rfl rfl rfl rfl rfl trivial ?_
   refine vNil ?_
   change VC _ _ _ _
   refine vJoin (F := fun k => I_CutSets_l1 N g_0 k_1 k) h (α := List (List Int)) (J := fun (l17 : List (List Int)) => (⟨[(5, .row 47 0 l17.length)], [(47, some (25, .intss l17))], []⟩ : PS)) ?_ ?_
   ·rintro l17 h
    show VC _ _ _ (⟨[(5, .row 47 0 l17.length)], [(47, some (25, .intss l17))], []⟩ : PS)
    refine vSeq ?_
    refine vRegion ?_
    iterate 2 refine oVal tt rfl rfl rfl rfl rfl trivial ?_
    refine vNil ?_
    change VC _ _ _ _
    refine vRet ?_
    change ∃ _, _
    cases h
    exact ⟨[47], _, rfl, ⟨rfl, trivial⟩, rfl, (.eq rfl), rfl⟩
   ·intro k h
    refine vBlock ?_
    refine vNilT 5 47 25 (.intss []) rfl rfl rfl rfl ?_
    refine vLoopS (α := (List (List Int)) × Int) (fun | (l25, x26) => (⟨[(1, .int k_1), (2, .ptr 2 0), (5, .row 47 0 l25.length), (21, .int ((1 : Int) * 2 ^ ((g_0.n).toNat))), (22, .int x26)], [(47, some (25, .intss l25))], [(2, some [.int g_0.n, .ro false (.pairs g_0.bars)])]⟩ : PS)) (I_CutSets_l1 N g_0 k_1 k) h (En.of ⟨rfl, rfl, rfl, rfl, rfl, trivial⟩ ⟨rfl, trivial⟩ ⟨rfl, trivial⟩) (fun _ => rfl) ?_
    rintro n ⟨l25, x26⟩ h
    rw [I_CutSets_l1] at h
    show VC _ _ _ (⟨[(1, .int k_1), (2, .ptr 2 0), (5, .row 47 0 l25.length), (21, .int ((1 : Int) * 2 ^ ((g_0.n).toNat))), (22, .int x26)], [(47, some (25, .intss l25))], [(2, some [.int g_0.n, .ro false (.pairs g_0.bars)])]⟩ : PS)
    refine vSeq ?_
    refine vRegion ?_
    refine oVal tt rfl rfl rfl rfl rfl trivial ?_
    refine vNil ?_
    change VC _ _ _ _
    refine vSeq ?_
    refine vCond rfl (fun hb6 => ?_) (fun hb6 => ?_)
    ·replace h := cnd_t hb6 h
     refine vSkip ?_
     change VC _ _ _ _
     refine vSeq ?_
     refine vBlock ?_
     refine vSeq ?_
     refine vRegion ?_
     iterate 2 refine oVal tt rfl rfl rfl rfl rfl trivial ?_
     refine vNil ?_
     change VC _ _ _ _
     refine vSeq ?_
     refine vRegion ?_
     iterate 3 refine oVal tt rfl rfl rfl rfl rfl trivial ?_
     obtain ⟨v30, hc7, h⟩ := bind_inv h
     refine oCall (I_setOf_w N x26 g_0.n v30 hc7) rfl rfl rfl rfl rfl rfl rfl rfl ⟨rfl, rfl, trivial⟩ ?_
     refine oVal tt rfl rfl rfl rfl rfl trivial ?_
     refine vNil ?_
     change VC _ _ _ _
     iterate 2 refine vSeq ?_
     refine vRegion ?_
     iterate 4 refine oVal tt rfl rfl rfl rfl rfl trivial ?_
     refine vNil ?_
     change VC _ _ _ _
     refine vCond rfl (fun hb8 => ?_) (fun hb8 => ?_)
     ·replace h := cnd_t hb8 h
      refine vExit ?_
      change VC _ _ _ _
      refine vRegion ?_
      obtain ⟨hg9, h⟩ := grd_inv h
      refine oVal tt rfl rfl rfl rfl rfl hg9 ?_
      refine oVal tt rfl rfl rfl rfl rfl trivial ?_
      refine vNil ?_
      change ∃ _, _
      exact ⟨(l25, (x26 + (1 : Int))), (En.of ⟨rfl, rfl, rfl, rfl, rfl, trivial⟩ ⟨rfl, trivial⟩ ⟨rfl, trivial⟩), h⟩
     ·replace h := cnd_f hb8 h
      refine vSkip ?_
      change VC _ _ _ _
      refine vSeq ?_
      refine vRegion ?_
      iterate 2 refine oVal tt rfl rfl rfl rfl rfl trivial ?_
      obtain ⟨v31, hc10, h⟩ := bind_inv h
      refine oCall (I_WithoutPoints_w N g_0 v30 v31 hc10) rfl rfl rfl rfl rfl rfl rfl rfl ⟨⟨rfl, rfl, trivial⟩, (.inl ⟨rfl, rfl⟩), trivial⟩ ?_
      refine oAlloc tt rfl rfl rfl rfl rfl rfl rfl rfl rfl ?_
      refine oStore tt rfl rfl rfl rfl rfl rfl rfl rfl rfl rfl rfl ⟨trivial, trivial, trivial⟩ ?_
      refine vNil ?_
      change VC _ _ _ _
      refine vSeq ?_
      refine vRegion ?_
      iterate 4 refine oVal tt rfl rfl rfl rfl rfl trivial ?_
      refine oSplit rfl rfl rfl (fun hb11 => ?_) (fun hb11 => ?_)
      ·replace h := cnd_t hb11 h
       refine oValG tt rfl rfl rfl rfl rfl hb11 rfl rfl rfl trivial ?_
       obtain ⟨v32, hc12, h⟩ := bind_inv h
       refine oCallG (I_IsConnected_w N v31 v32 hc12) rfl rfl rfl rfl hb11 rfl rfl rfl rfl rfl rfl rfl ⟨⟨rfl, (.inl ⟨rfl, rfl⟩), trivial⟩, trivial⟩ ?_
       refine oValG tt rfl rfl rfl rfl rfl hb11 rfl rfl rfl trivial ?_
       refine oPick rfl rfl rfl rfl rfl hb11 rfl ?_
       refine vNil ?_
       change VC _ _ _ _
       refine vCond rfl (fun hb13 => ?_) (fun hb13 => ?_)
       ·replace h := cnd_t hb13 h
        refine vRegion ?_
        iterate 2 refine oVal tt rfl rfl rfl rfl rfl trivial ?_
        refine oFreeze (t := 45) rfl rfl rfl rfl ?_
        refine oBuild tt rfl rfl rfl rfl rfl rfl rfl rfl rfl rfl rfl ?_
        obtain ⟨hg14, h⟩ := grd_inv h
        refine oAppend tt rfl rfl rfl rfl rfl rfl rfl rfl rfl rfl rfl rfl rfl rfl rfl rfl (Nat.le_of_eq (Nat.zero_add _)) hg14 ?_
        refine oVal tt rfl rfl rfl rfl rfl trivial ?_
        refine vNil ?_
        change VC _ _ _ _
        refine vRegion ?_
        obtain ⟨hg15, h⟩ := grd_inv h
        refine oVal tt rfl rfl rfl rfl rfl hg15 ?_
        refine oVal tt rfl rfl rfl rfl rfl trivial ?_
        refine vNil ?_
        change ∃ _, _
        exact ⟨((l25 ++ ([v30] : List (List Int))), (x26 + (1 : Int))), (En.of ⟨rfl, rfl, rfl, rfl, rfl, trivial⟩ ⟨rfl, trivial⟩ ⟨rfl, trivial⟩), h⟩
       ·replace h := cnd_f hb13 h
        refine vSkip ?_
        change VC _ _ _ _
        refine vRegion ?_
        obtain ⟨hg16, h⟩ := grd_inv h
        refine oVal tt rfl rfl rfl rfl rfl hg16 ?_
        refine oVal tt rfl rfl rfl rfl rfl trivial ?_
        refine vNil ?_
        change ∃ _, _
        exact ⟨(l25, (x26 + (1 : Int))), (En.of ⟨rfl, rfl, rfl, rfl, rfl, trivial⟩ ⟨rfl, trivial⟩ ⟨rfl, trivial⟩), h⟩
      ·replace h := cnd_f hb11 h
       iterate 3 refine oNoT rfl rfl rfl rfl hb11 rfl rfl ?_
       refine oPickF rfl rfl rfl rfl rfl hb11 rfl ?_
       refine vNil ?_
       change VC _ _ _ _
       refine vCondF rfl rfl ?_
       refine vSkip ?_
       change VC _ _ _ _
       refine vRegion ?_
       obtain ⟨hg17, h⟩ := grd_inv h
       refine oVal tt rfl rfl rfl rfl rfl hg17 ?_
       refine oVal tt rfl rfl rfl rfl rfl trivial ?_
       refine vNil ?_
       change ∃ _, _
       exact ⟨(l25, (x26 + (1 : Int))), (En.of ⟨rfl, rfl, rfl, rfl, rfl, trivial⟩ ⟨rfl, trivial⟩ ⟨rfl, trivial⟩), h⟩
    ·replace h := cnd_f hb6 h
     refine vExit ?_
     change ∃ _, _
     exact ⟨l25, (En.of ⟨rfl, trivial⟩ ⟨rfl, trivial⟩ trivial), h⟩
def I_IsKConnected_l1 (N : Nat) (g_0 : Grf) (k_1 : Int) (k : Unit → Option (Bool)) : Nat → Int → Option (Bool)
 | 0, _ => none
 | n + 1, x9 =>
  cnd (decide (x9 < k_1)) (
   (I_CutSets N g_0 x9).bind fun v11 =>
   cnd (decide ((v11.length : Int) > (0 : Int))) (
    some false) (
    grd (Rg64 (x9 + (1 : Int))) <|
    I_IsKConnected_l1 N g_0 k_1 k n (x9 + (1 : Int)))) (
   k ())
def I_IsKConnected (N : Nat) (g_0 : Grf) (k_1 : Int) : Option (Bool) :=
 (I_IsGraph N g_0).bind fun v1 =>
 cnd (!v1) (
  some false) (
  (I_within N k_1 (1 : Int) (3 : Int)).bind fun v2 =>
  cnd (!v2) (
   some false) (
   cnd (decide (g_0.n ≤ k_1)) (
    some false) (
    I_IsKConnected_l1 N g_0 k_1 (fun (_ : Unit) =>
       some true) N (0 : Int))))
set_option maxRecDepth 20000 in
set_option maxHeartbeats 1600000 in
theorem I_IsKConnected_w (N : Nat) (g_0 : Grf) (k_1 : Int) (r : Bool) (h : I_IsKConnected N g_0 k_1 = some r) : PCall Tryz.prog 130 [gD g_0, .int k_1] [] (.bool r) := by
 unfold I_IsKConnected at h
 refine pcall_intro (TT := TT) tt Tryz.func130 rfl rfl Tryz.ntmps130 (congrArg Array.toList Tryz.results130) rfl rfl fun w0 => ?_
 refine vSeq ?_
 refine vRegion ?_
 refine oBox rfl rfl rfl rfl rfl rfl rfl rfl rfl ?_
 refine oVal tt rfl rfl rfl rfl rfl trivial ?_
 refine vNil ?_
 change VC _ _ _ _
 iterate 2 refine vSeq ?_
 refine vRegion ?_
 refine oVal tt rfl rfl rfl rfl rfl trivial ?_
 obtain ⟨v1, hc1, h⟩ := bind_inv h
 refine oCall (I_IsGraph_w N g_0 v1 hc1) rfl rfl rfl rfl rfl rfl rfl rfl ⟨⟨rfl, rfl, trivial⟩, trivial⟩ ?_
 iterate 2 refine oVal tt rfl rfl rfl rfl rfl trivial ?_
 refine oSplit rfl rfl rfl (fun hb2 => ?_) (fun hb2 => ?_)
 ·replace h := cnd_t hb2 h
  iterate 3 refine oNoF rfl rfl rfl rfl hb2 rfl rfl ?_
  refine oPick rfl rfl rfl rfl rfl hb2 rfl ?_
  refine oVal tt rfl rfl rfl rfl rfl trivial ?_
  iterate 4 refine oNoF rfl rfl rfl rfl rfl rfl rfl ?_
  refine oPick rfl rfl rfl rfl rfl rfl rfl ?_
  refine vNil ?_
  change VC _ _ _ _
  refine vCondT rfl rfl ?_
  refine vSeq ?_
  refine vRegion ?_
  refine oVal tt rfl rfl rfl rfl rfl trivial ?_
  refine vNil ?_
  change VC _ _ _ _
  refine vRet ?_
  change ∃ _, _
  cases h
  exact ⟨[], _, rfl, trivial, rfl, (.eq rfl), rfl⟩
 ·replace h := cnd_f hb2 h
  refine oValG tt rfl rfl rfl rfl rfl hb2 rfl rfl rfl trivial ?_
  obtain ⟨v2, hc3, h⟩ := bind_inv h
  refine oCallG (I_within_w N k_1 (1 : Int) (3 : Int) v2 hc3) rfl rfl rfl rfl hb2 rfl rfl rfl rfl rfl rfl rfl ⟨rfl, rfl, rfl, trivial⟩ ?_
  refine oValG tt rfl rfl rfl rfl rfl hb2 rfl rfl rfl trivial ?_
  refine oPickF rfl rfl rfl rfl rfl hb2 rfl ?_
  refine oVal tt rfl rfl rfl rfl rfl trivial ?_
  refine oSplit rfl rfl rfl (fun hb4 => ?_) (fun hb4 => ?_)
  ·replace h := cnd_t hb4 h
   iterate 4 refine oNoF rfl rfl rfl rfl hb4 rfl rfl ?_
   refine oPick rfl rfl rfl rfl rfl hb4 rfl ?_
   refine vNil ?_
   change VC _ _ _ _
   refine vCondT rfl rfl ?_
   refine vSeq ?_
   refine vRegion ?_
   refine oVal tt rfl rfl rfl rfl rfl trivial ?_
   refine vNil ?_
   change VC _ _ _ _
   refine vRet ?_
   change ∃ _, _
   cases h
   exact ⟨[], _, rfl, trivial, rfl, (.eq rfl), rfl⟩
  ·replace h := cnd_f hb4 h
   iterate 4 refine oValG tt rfl rfl rfl rfl rfl hb4 rfl rfl rfl trivial ?_
   refine oPickF rfl rfl rfl rfl rfl hb4 rfl ?_
   refine vNil ?_
   change VC _ _ _ _
   refine vCond rfl (fun hb5 => ?_) (fun hb5 => ?_)
   ·replace h := cnd_t hb5 h
    refine vSeq ?_
    refine vRegion ?_
    refine oVal tt rfl rfl rfl rfl rfl trivial ?_
    refine vNil ?_
    change VC _ _ _ _
    refine vRet ?_
    change ∃ _, _
    cases h
    exact ⟨[], _, rfl, trivial, rfl, (.eq rfl), rfl⟩
   ·replace h := cnd_f hb5 h
    refine vSkip ?_
    change VC _ _ _ _
    iterate 2 refine vSeq ?_
    refine vRegion ?_
    iterate 2 refine oVal tt rfl rfl rfl rfl rfl trivial ?_
    refine vNil ?_
    change VC _ _ _ _
    refine vJoin (F := fun k => I_IsKConnected_l1 N g_0 k_1 k) h (α := Unit) (J := fun (_ : Unit) => (⟨[], [], []⟩ : PS)) ?_ ?_
    ·rintro ⟨⟩ h
     show VC _ _ _ (⟨[], [], []⟩ : PS)
     refine vSeq ?_
     refine vRegion ?_
     refine oVal tt rfl rfl rfl rfl rfl trivial ?_
     refine vNil ?_
     change VC _ _ _ _
     refine vRet ?_
     change ∃ _, _
     cases h
     exact ⟨[], _, rfl, trivial, rfl, (.eq rfl), rfl⟩
    ·intro k h
     refine vBlock ?_
     refine vLoopS (α := Int) (fun (x9 : Int) => (⟨[(2, .ptr 2 0), (20, .int k_1), (21, .int x9)], [], [(2, some [.int g_0.n, .ro false (.pairs g_0.bars)])]⟩ : PS)) (I_IsKConnected_l1 N g_0 k_1 k) h (En.of ⟨rfl, rfl, rfl, trivial⟩ trivial ⟨rfl, trivial⟩) (fun _ => rfl) ?_
     rintro n x9 h
     rw [I_IsKConnected_l1] at h
     show VC _ _ _ (⟨[(2, .ptr 2 0), (20, .int k_1), (21, .int x9)], [], [(2, some [.int g_0.n, .ro false (.pairs g_0.bars)])]⟩ : PS)
     refine vSeq ?_
     refine vRegion ?_
     refine oVal tt rfl rfl rfl rfl rfl trivial ?_
     refine vNil ?_
     change VC _ _ _ _
     refine vSeq ?_
     refine vCond rfl (fun hb6 => ?_) (fun hb6 => ?_)
     ·replace h := cnd_t hb6 h
      refine vSkip ?_
      change VC _ _ _ _
      refine vSeq ?_
      refine vBlock ?_
      refine vSeq ?_
      refine vRegion ?_
      iterate 2 refine oVal tt rfl rfl rfl rfl rfl trivial ?_
      refine vNil ?_
      change VC _ _ _ _
      refine vSeq ?_
      refine vRegion ?_
      iterate 2 refine oVal tt rfl rfl rfl rfl rfl trivial ?_
      obtain ⟨v11, hc7, h⟩ := bind_inv h
      refine oCall (I_CutSets_w N g_0 x9 v11 hc7) rfl rfl rfl rfl rfl rfl rfl rfl ⟨⟨rfl, rfl, trivial⟩, rfl, trivial⟩ ?_
      iterate 2 refine oVal tt rfl rfl rfl rfl rfl trivial ?_
      refine vNil ?_
      change VC _ _ _ _
      refine vCond rfl (fun hb8 => ?_) (fun hb8 => ?_)
      ·replace h := cnd_t hb8 h
       refine vSeq ?_
       refine vRegion ?_
       refine oVal tt rfl rfl rfl rfl rfl trivial ?_
       refine vNil ?_
       change VC _ _ _ _
       refine vRet ?_
       change ∃ _, _
       cases h
       exact ⟨[], _, rfl, trivial, rfl, (.eq rfl), rfl⟩
      ·replace h := cnd_f hb8 h
       refine vSkip ?_
       change VC _ _ _ _
       refine vRegion ?_
       obtain ⟨hg9, h⟩ := grd_inv h
       refine oVal tt rfl rfl rfl rfl rfl hg9 ?_
       refine oVal tt rfl rfl rfl rfl rfl trivial ?_
       refine vNil ?_
       change ∃ _, _
       exact ⟨(x9 + (1 : Int)), (En.of ⟨rfl, rfl, rfl, trivial⟩ trivial ⟨rfl, trivial⟩), h⟩
     ·replace h := cnd_f hb6 h
      refine vExit ?_
      change ∃ _, _
      exact ⟨(), (En.of trivial trivial trivial), h⟩
def I_RemoveBar (N : Nat) (g_0 : Grf) (k_1 : Int) : Option (Grf × Bool) :=
 (I_copyGraph N g_0).bind fun v1 =>
 (I_IsGraph N g_0).bind fun v2 =>
 cnd (!v2) (
  some ((⟨v1.n, v1.bars⟩ : Grf), false)) (
  grd (Rg64 ((g_0.bars.length : Int) - (1 : Int))) <|
  (I_within N k_1 (0 : Int) ((g_0.bars.length : Int) - (1 : Int))).bind fun v3 =>
  cnd (!v3) (
   some ((⟨v1.n, v1.bars⟩ : Grf), false)) (
   grd (0 ≤ k_1 ∧ k_1 ≤ (v1.bars.length : Int)) <|
   grd (Rg64 (k_1 + (1 : Int))) <|
   grd (0 ≤ (k_1 + (1 : Int)) ∧ (k_1 + (1 : Int)) ≤ (v1.bars.length : Int)) <|
   grd ((0 + (((k_1 + (1 : Int))).toNat)) + (v1.bars.length - (((k_1 + (1 : Int))).toNat)) ≤ v1.bars.length) <|
   grd (((k_1).toNat) ≤ v1.bars.length) <|
   grd (((k_1).toNat) + ((v1.bars.take ((0 + (((k_1 + (1 : Int))).toNat)) + (v1.bars.length - (((k_1 + (1 : Int))).toNat)))).drop (0 + (((k_1 + (1 : Int))).toNat))).length ≤ 4294967296) <|
   some ((⟨v1.n, ((v1.bars.take ((k_1).toNat)) ++ ((v1.bars.take ((0 + (((k_1 + (1 : Int))).toNat)) + (v1.bars.length - (((k_1 + (1 : Int))).toNat)))).drop (0 + (((k_1 + (1 : Int))).toNat))))⟩ : Grf), true)))
set_option maxRecDepth 20000 in
set_option maxHeartbeats 1600000 in
theorem I_RemoveBar_w (N : Nat) (g_0 : Grf) (k_1 : Int) (r : Grf × Bool) (h : I_RemoveBar N g_0 k_1 = some r) : PCall Tryz.prog 187 [gD g_0, .int k_1] [(39, .pairs r.1.bars)] (.tup [.agg [.int r.1.n, .row 0 0 r.1.bars.length], .bool r.2]) := by
 unfold I_RemoveBar at h
 refine pcall_intro (TT := TT) tt Tryz.func187 rfl rfl Tryz.ntmps187 (congrArg Array.toList Tryz.results187) rfl rfl fun w0 => ?_
 refine vSeq ?_
 refine vRegion ?_
 refine oBox rfl rfl rfl rfl rfl rfl rfl rfl rfl ?_
 refine oAlloc tt rfl rfl rfl rfl rfl rfl rfl rfl rfl ?_
 refine oVal tt rfl rfl rfl rfl rfl trivial ?_
 refine vNil ?_
 change VC _ _ _ _
 refine vSeq ?_
 refine vRegion ?_
 refine oVal tt rfl rfl rfl rfl rfl trivial ?_
 obtain ⟨v1, hc1, h⟩ := bind_inv h
 refine oCall (I_copyGraph_w N g_0 v1 hc1) rfl rfl rfl rfl rfl rfl rfl rfl ⟨⟨rfl, rfl, trivial⟩, trivial⟩ ?_
 refine oAlloc tt rfl rfl rfl rfl rfl rfl rfl rfl rfl ?_
 refine oStore tt rfl rfl rfl rfl rfl rfl rfl rfl rfl rfl rfl ⟨trivial, trivial, trivial⟩ ?_
 refine vNil ?_
 change VC _ _ _ _
 iterate 2 refine vSeq ?_
 refine vRegion ?_
 refine oVal tt rfl rfl rfl rfl rfl trivial ?_
 obtain ⟨v2, hc2, h⟩ := bind_inv h
 refine oCall (I_IsGraph_w N g_0 v2 hc2) rfl rfl rfl rfl rfl rfl rfl rfl ⟨⟨rfl, rfl, trivial⟩, trivial⟩ ?_
 iterate 2 refine oVal tt rfl rfl rfl rfl rfl trivial ?_
 refine oSplit rfl rfl rfl (fun hb3 => ?_) (fun hb3 => ?_)
 ·replace h := cnd_t hb3 h
  iterate 7 refine oNoF rfl rfl rfl rfl hb3 rfl rfl ?_
  refine oPick rfl rfl rfl rfl rfl hb3 rfl ?_
  refine vNil ?_
  change VC _ _ _ _
  refine vCondT rfl rfl ?_
  refine vSeq ?_
  refine vRegion ?_
  refine oVal tt rfl rfl rfl rfl rfl trivial ?_
  refine oStore tt rfl rfl rfl rfl rfl rfl rfl rfl rfl rfl rfl ⟨trivial, trivial, trivial⟩ ?_
  refine oVal tt rfl rfl rfl rfl rfl trivial ?_
  refine vNil ?_
  change VC _ _ _ _
  refine vRet ?_
  change ∃ _, _
  cases h
  exact ⟨[1080], _, rfl, ⟨rfl, trivial⟩, rfl, (.eq rfl), rfl⟩
 ·replace h := cnd_f hb3 h
  iterate 4 refine oValG tt rfl rfl rfl rfl rfl hb3 rfl rfl rfl trivial ?_
  obtain ⟨hg4, h⟩ := grd_inv h
  refine oValG tt rfl rfl rfl rfl rfl hb3 rfl rfl rfl hg4 ?_
  obtain ⟨v3, hc5, h⟩ := bind_inv h
  refine oCallG (I_within_w N k_1 (0 : Int) ((g_0.bars.length : Int) - (1 : Int)) v3 hc5) rfl rfl rfl rfl hb3 rfl rfl rfl rfl rfl rfl rfl ⟨rfl, rfl, rfl, trivial⟩ ?_
  refine oValG tt rfl rfl rfl rfl rfl hb3 rfl rfl rfl trivial ?_
  refine oPickF rfl rfl rfl rfl rfl hb3 rfl ?_
  refine vNil ?_
  change VC _ _ _ _
  refine vCond rfl (fun hb6 => ?_) (fun hb6 => ?_)
  ·replace h := cnd_t hb6 h
   refine vSeq ?_
   refine vRegion ?_
   refine oVal tt rfl rfl rfl rfl rfl trivial ?_
   refine oStore tt rfl rfl rfl rfl rfl rfl rfl rfl rfl rfl rfl ⟨trivial, trivial, trivial⟩ ?_
   refine oVal tt rfl rfl rfl rfl rfl trivial ?_
   refine vNil ?_
   change VC _ _ _ _
   refine vRet ?_
   change ∃ _, _
   cases h
   exact ⟨[1080], _, rfl, ⟨rfl, trivial⟩, rfl, (.eq rfl), rfl⟩
  ·replace h := cnd_f hb6 h
   refine vSkip ?_
   change VC _ _ _ _
   refine vSeq ?_
   refine vRegionN 9 [] [0, 1, 0, 7, 0, 16, 0, 64, 240, 511, 1023, 2047] (by kernel_rfl) (by kernel_rfl) (by kernel_rfl) (by kernel_rfl) (by kernel_rfl) rfl (by rfl) ?_
   iterate 3 refine nVal tt rfl (wNone rfl) rfl rfl rfl rfl rfl trivial ?_
   obtain ⟨hg7, h⟩ := grd_inv h
   refine nVal tt rfl (wNone rfl) rfl rfl rfl rfl rfl hg7 ?_
   iterate 3 refine nVal tt rfl (wNone rfl) rfl rfl rfl rfl rfl trivial ?_
   obtain ⟨hg8, h⟩ := grd_inv h
   refine nVal tt rfl (wNone rfl) rfl rfl rfl rfl rfl hg8 ?_
   obtain ⟨hg9, h⟩ := grd_inv h
   refine nVal tt rfl (wNone rfl) rfl rfl rfl rfl rfl hg9 ?_
   refine nNil ?_
   change VO _ _ _ _ _
   obtain ⟨hg10, h⟩ := grd_inv h
   obtain ⟨hg11, h⟩ := grd_inv h
   obtain ⟨hg12, h⟩ := grd_inv h
   refine oAppendP tt rfl rfl rfl rfl rfl rfl rfl rfl rfl rfl rfl rfl rfl rfl rfl hg11 hg10 hg12 ?_
   refine oVal tt rfl rfl rfl rfl rfl trivial ?_
   refine oStore tt rfl rfl rfl rfl rfl rfl rfl rfl rfl rfl rfl ⟨trivial, trivial⟩ ?_
   refine vNil ?_
   change VC _ _ _ _
   refine vSeq ?_
   refine vRegion ?_
   refine oVal tt rfl rfl rfl rfl rfl trivial ?_
   refine oStore tt rfl rfl rfl rfl rfl rfl rfl rfl rfl rfl rfl ⟨trivial, trivial, trivial⟩ ?_
   refine oVal tt rfl rfl rfl rfl rfl trivial ?_
   refine vNil ?_
   change VC _ _ _ _
   refine vRet ?_
   change ∃ _, _
   cases h
   exact ⟨[1080], _, rfl, ⟨rfl, trivial⟩, rfl, (.eq rfl), rfl⟩
def I_BridgesOf_l1 (N : Nat) (g_0 : Grf) (k_1 : Int) (l_2 : Int) (v1 : Int) (k : (List Int) → Option (List Int)) : Nat → ((List Int) × Int) → Option (List Int)
 | 0, _ => none
 | n + 1, (l18, x19) =>
  cnd (decide (x19 < (g_0.bars.length : Int))) (
   (I_RemoveBar N g_0 x19).bind fun v22 =>
   (I_RankOf N v22.1 k_1 l_2).bind fun v23 =>
   cnd (decide (v23 < v1)) (
    grd (l18.length + 1 ≤ 4294967296) <|
    grd (Rg64 (x19 + (1 : Int))) <|
    I_BridgesOf_l1 N g_0 k_1 l_2 v1 k n ((l18 ++ ([x19] : List Int)), (x19 + (1 : Int)))) (
    grd (Rg64 (x19 + (1 : Int))) <|
    I_BridgesOf_l1 N g_0 k_1 l_2 v1 k n (l18, (x19 + (1 : Int))))) (
   k l18)
def I_BridgesOf (N : Nat) (g_0 : Grf) (k_1 : Int) (l_2 : Int) : Option (List Int) :=
 (I_RankOf N g_0 k_1 l_2).bind fun v1 =>
 cnd (decide (v1 < (0 : Int))) (
  some ([] : List Int)) (
  I_BridgesOf_l1 N g_0 k_1 l_2 v1 (fun (l12 : List Int) =>
     some l12) N (([] : List Int), (0 : Int)))
set_option maxRecDepth 20000 in
set_option maxHeartbeats 1600000 in
theorem I_BridgesOf_w (N : Nat) (g_0 : Grf) (k_1 : Int) (l_2 : Int) (r : List Int) (h : I_BridgesOf N g_0 k_1 l_2 = some r) : PCall Tryz.prog 175 [gD g_0, .int k_1, .int l_2] [(3, .ints r)] (.row 0 0 r.length) := by
 unfold I_BridgesOf at h
 refine pcall_intro (TT := TT) tt Tryz.func175 rfl rfl Tryz.ntmps175 (congrArg Array.toList Tryz.results175) rfl rfl fun w0 => ?_
 refine vSeq ?_
 refine vRegion ?_
 refine oBox rfl rfl rfl rfl rfl rfl rfl rfl rfl ?_
 refine oVal tt rfl rfl rfl rfl rfl trivial ?_
 refine vNil ?_
 change VC _ _ _ _
 refine vSeq ?_
 refine vRegion ?_
 refine oEmpty tt (wNone rfl) rfl rfl rfl rfl ?_
 refine oVal tt rfl rfl rfl rfl rfl trivial ?_
 refine vNil ?_
 change VC _ _ _ _
 refine vSeq ?_
 refine vRegion ?_
 iterate 3 refine oVal tt rfl rfl rfl rfl rfl trivial ?_
 obtain ⟨v1, hc1, h⟩ := bind_inv h
 refine oCall (I_RankOf_w N g_0 k_1 l_2 v1 hc1) rfl rfl rfl rfl rfl rfl rfl rfl ⟨⟨rfl, rfl, trivial⟩, rfl, rfl, trivial⟩ ?_
 refine oVal tt rfl rfl rfl rfl rfl trivial ?_
 refine vNil ?_
 change VC _ _ _ _
 iterate 2 refine vSeq ?_
 refine vRegion ?_
 iterate 2 refine oVal tt rfl rfl rfl rfl rfl trivial ?_
 refine vNil ?_
 change VC _ _ _ _
 refine vCond rfl (fun hb2 => ?_) (fun hb2 => ?_)
 ·replace h := cnd_t hb2 h
  refine vSeq ?_
  refine vRegion ?_
  iterate 2 refine oVal tt rfl rfl rfl rfl rfl trivial ?_
  refine vNil ?_
  change VC _ _ _ _
  refine vNilT 6 9001 3 (.ints []) rfl rfl rfl rfl ?_
  refine vRet ?_
  change ∃ _, _
  cases h
  exact ⟨[9001], _, rfl, ⟨rfl, trivial⟩, rfl, (.eq rfl), rfl⟩
 ·replace h := cnd_f hb2 h
  refine vSkip ?_
  change VC _ _ _ _
  iterate 2 refine vSeq ?_
  refine vRegion ?_
  iterate 4 refine oVal tt rfl rfl rfl rfl rfl trivial ?_
  refine vNil ?_
  change VC _ _ _ _
  refine vJoin (F := fun k => I_BridgesOf_l1 N g_0 k_1 l_2 v1 k) h (α := List Int) (J := fun (l12 : List Int) => (⟨[(7, .row 41 0 l12.length)], [(41, some (3, .ints l12))], []⟩ : PS)) ?_ ?_
  ·rintro l12 h
   show VC _ _ _ (⟨[(7, .row 41 0 l12.length)], [(41, some (3, .ints l12))], []⟩ : PS)
   refine vSeq ?_
   refine vRegion ?_
   iterate 2 refine oVal tt rfl rfl rfl rfl rfl trivial ?_
   refine vNil ?_
   change VC _ _ _ _
   refine vRet ?_
   change ∃ _, _
   cases h
   exact ⟨[41], _, rfl, ⟨rfl, trivial⟩, rfl, (.eq rfl), rfl⟩
  ·intro k h
   refine vBlock ?_
   refine vNilT 7 41 3 (.ints []) rfl rfl rfl rfl ?_
   refine vLoopS (α := (List Int) × Int) (fun | (l18, x19) => (⟨[(1, .int k_1), (2, .int l_2), (3, .ptr 3 0), (7, .row 41 0 l18.length), (8, .int v1), (22, .int (g_0.bars.length : Int)), (23, .int x19)], [(41, some (3, .ints l18))], [(3, some [.int g_0.n, .ro false (.pairs g_0.bars)])]⟩ : PS)) (I_BridgesOf_l1 N g_0 k_1 l_2 v1 k) h (En.of ⟨rfl, rfl, rfl, rfl, rfl, rfl, rfl, trivial⟩ ⟨rfl, trivial⟩ ⟨rfl, trivial⟩) (fun _ => rfl) ?_
   rintro n ⟨l18, x19⟩ h
   rw [I_BridgesOf_l1] at h
   show VC _ _ _ (⟨[(1, .int k_1), (2, .int l_2), (3, .ptr 3 0), (7, .row 41 0 l18.length), (8, .int v1), (22, .int (g_0.bars.length : Int)), (23, .int x19)], [(41, some (3, .ints l18))], [(3, some [.int g_0.n, .ro false (.pairs g_0.bars)])]⟩ : PS)
   refine vSeq ?_
   refine vRegion ?_
   refine oVal tt rfl rfl rfl rfl rfl trivial ?_
   refine vNil ?_
   change VC _ _ _ _
   refine vSeq ?_
   refine vCond rfl (fun hb3 => ?_) (fun hb3 => ?_)
   ·replace h := cnd_t hb3 h
    refine vSkip ?_
    change VC _ _ _ _
    refine vSeq ?_
    refine vBlock ?_
    refine vSeq ?_
    refine vRegion ?_
    iterate 2 refine oVal tt rfl rfl rfl rfl rfl trivial ?_
    refine vNil ?_
    change VC _ _ _ _
    refine vSeq ?_
    refine vRegion ?_
    iterate 2 refine oVal tt rfl rfl rfl rfl rfl trivial ?_
    obtain ⟨v22, hc4, h⟩ := bind_inv h
    refine oCall (I_RemoveBar_w N g_0 x19 v22 hc4) rfl rfl rfl rfl rfl rfl rfl rfl ⟨⟨rfl, rfl, trivial⟩, rfl, trivial⟩ ?_
    iterate 3 refine oVal tt rfl rfl rfl rfl rfl trivial ?_
    refine oAlloc tt rfl rfl rfl rfl rfl rfl rfl rfl rfl ?_
    refine oStore tt rfl rfl rfl rfl rfl rfl rfl rfl rfl rfl rfl ⟨trivial, trivial, trivial⟩ ?_
    refine oVal tt rfl rfl rfl rfl rfl trivial ?_
    refine vNil ?_
    change VC _ _ _ _
    refine vSeq ?_
    refine vRegion ?_
    iterate 3 refine oVal tt rfl rfl rfl rfl rfl trivial ?_
    obtain ⟨v23, hc5, h⟩ := bind_inv h
    refine oCall (I_RankOf_w N v22.1 k_1 l_2 v23 hc5) rfl rfl rfl rfl rfl rfl rfl rfl ⟨⟨rfl, (.inl ⟨rfl, rfl⟩), trivial⟩, rfl, rfl, trivial⟩ ?_
    iterate 2 refine oVal tt rfl rfl rfl rfl rfl trivial ?_
    refine vNil ?_
    change VC _ _ _ _
    refine vCond rfl (fun hb6 => ?_) (fun hb6 => ?_)
    ·replace h := cnd_t hb6 h
     refine vRegion ?_
     iterate 2 refine oVal tt rfl rfl rfl rfl rfl trivial ?_
     refine oBuild tt rfl rfl rfl rfl rfl rfl rfl rfl rfl rfl rfl ?_
     obtain ⟨hg7, h⟩ := grd_inv h
     refine oAppend tt rfl rfl rfl rfl rfl rfl rfl rfl rfl rfl rfl rfl rfl rfl rfl rfl (Nat.le_of_eq (Nat.zero_add _)) hg7 ?_
     refine oVal tt rfl rfl rfl rfl rfl trivial ?_
     refine vNil ?_
     change VC _ _ _ _
     refine vRegion ?_
     obtain ⟨hg8, h⟩ := grd_inv h
     refine oVal tt rfl rfl rfl rfl rfl hg8 ?_
     refine oVal tt rfl rfl rfl rfl rfl trivial ?_
     refine vNil ?_
     change ∃ _, _
     exact ⟨((l18 ++ ([x19] : List Int)), (x19 + (1 : Int))), (En.of ⟨rfl, rfl, rfl, rfl, rfl, rfl, rfl, trivial⟩ ⟨rfl, trivial⟩ ⟨rfl, trivial⟩), h⟩
    ·replace h := cnd_f hb6 h
     refine vSkip ?_
     change VC _ _ _ _
     refine vRegion ?_
     obtain ⟨hg9, h⟩ := grd_inv h
     refine oVal tt rfl rfl rfl rfl rfl hg9 ?_
     refine oVal tt rfl rfl rfl rfl rfl trivial ?_
     refine vNil ?_
     change ∃ _, _
     exact ⟨(l18, (x19 + (1 : Int))), (En.of ⟨rfl, rfl, rfl, rfl, rfl, rfl, rfl, trivial⟩ ⟨rfl, trivial⟩ ⟨rfl, trivial⟩), h⟩
   ·replace h := cnd_f hb3 h
    refine vExit ?_
    change ∃ _, _
    exact ⟨l18, (En.of ⟨rfl, trivial⟩ ⟨rfl, trivial⟩ trivial), h⟩
def I_FragileBars (N : Nat) (g_0 : Grf) : Option (List Int) :=
 (I_BridgesOf N g_0 (2 : Int) (3 : Int)).bind fun v1 =>
 some v1
set_option maxRecDepth 20000 in
set_option maxHeartbeats 1600000 in
theorem I_FragileBars_w (N : Nat) (g_0 : Grf) (r : List Int) (h : I_FragileBars N g_0 = some r) : PCall Tryz.prog 155 [gD g_0] [(3, .ints r)] (.row 0 0 r.length) := by
 unfold I_FragileBars at h
 refine pcall_intro (TT := TT) tt Tryz.func155 rfl rfl Tryz.ntmps155 (congrArg Array.toList Tryz.results155) rfl rfl fun w0 => ?_
 refine vSeq ?_
 refine vRegion ?_
 refine oBox rfl rfl rfl rfl rfl rfl rfl rfl rfl ?_
 refine oVal tt rfl rfl rfl rfl rfl trivial ?_
 refine vNil ?_
 change VC _ _ _ _
 refine vSeq ?_
 refine vRegion ?_
 refine oVal tt rfl rfl rfl rfl rfl trivial ?_
 obtain ⟨v1, hc1, h⟩ := bind_inv h
 refine oCall (I_BridgesOf_w N g_0 (2 : Int) (3 : Int) v1 hc1) rfl rfl rfl rfl rfl rfl rfl rfl ⟨⟨rfl, rfl, trivial⟩, rfl, rfl, trivial⟩ ?_
 refine oVal tt rfl rfl rfl rfl rfl trivial ?_
 refine vNil ?_
 change VC _ _ _ _
 refine vRet ?_
 change ∃ _, _
 cases h
 exact ⟨[1040], _, rfl, ⟨rfl, trivial⟩, rfl, (.eq rfl), rfl⟩
end Go.Proofs.YtmoamglpocjhgaaGreat
namespace Go.Proofs.YtmoamglpocjhgaaGreat
variable {N : Nat}
def relB (l : List Bool) (e : Int × Int) : List Bool := cnd (l.getD e.1.toNat false || l.getD e.2.toNat false) ((l.set e.1.toNat true).set e.2.toNat true) l
theorem relB_len (l : List Bool) (e : Int × Int) : (relB l e).length = l.length := by
 unfold relB
 cases (l.getD e.1.toNat false || l.getD e.2.toNat false) <;> simp [cnd]
def passB (bars : List (Int × Int)) (l : List Bool) : List Bool := bars.foldl relB l
theorem passB_len (bars : List (Int × Int)) : ∀ l, (passB bars l).length = l.length := by
 induction bars with
 | nil => intro l; rfl
 | cons e bars ih => intro l; show (passB bars (relB l e)).length = _; rw [ih, relB_len]
def itB (bars : List (Int × Int)) : Nat → List Bool → List Bool
 | 0, l => l
 | k + 1, l => itB bars k (passB bars l)
theorem itB_succ (bars : List (Int × Int)) : ∀ k l, itB bars (k + 1) l = passB bars (itB bars k l)
 | 0, l => rfl
 | k + 1, l => by
  show itB bars (k + 1) (passB bars l) = _
  rw [itB_succ bars k (passB bars l)]; rfl
theorem itB_len (bars : List (Int × Int)) : ∀ k l, (itB bars k l).length = l.length
 | 0, l => rfl
 | k + 1, l => by rw [itB, itB_len bars k, passB_len]
theorem itB_same {bars : List (Int × Int)} {l : List Bool} (h : passB bars l = l) : ∀ k, itB bars k l = l
 | 0 => rfl
 | k + 1 => by rw [itB, h, itB_same h k]
def fcB (l : List Bool) : Nat := l.countP fun b => !b
theorem fcB_set (l : List Bool) (i : Nat) : fcB (l.set i true) ≤ fcB l := by
 unfold fcB
 by_cases hi : i < l.length
 ·rw [List.countP_set hi]; simp
 ·rw [List.set_eq_of_length_le (by omega)]; exact Nat.le_refl _
theorem fcB_lt {l : List Bool} {i : Nat} (hi : i < l.length) (h : l.getD i false = false) : fcB (l.set i true) < fcB l := by
 have hg : l[i] = false := by rw [List.getD_eq_getElem?_getD, List.getElem?_eq_getElem hi] at h; exact h
 unfold fcB
 rw [List.countP_set hi, hg]
 have : 0 < l.countP fun b => !b := List.countP_pos_iff.2 ⟨l[i], List.getElem_mem hi, by rw [hg]; rfl⟩
 simp; omega
theorem set_self {l : List Bool} {i : Nat} (h : l.getD i false = true) : l.set i true = l := by
 by_cases hi : i < l.length
 ·have hg : l[i] = true := by rw [List.getD_eq_getElem?_getD, List.getElem?_eq_getElem hi] at h; exact h
  rw [← hg, List.set_getElem_self]
 ·rw [List.set_eq_of_length_le (by omega)]
theorem relB_eq {l : List Bool} {e : Int × Int} (h : l.getD e.1.toNat false = l.getD e.2.toNat false) : relB l e = l := by
 unfold relB
 cases h2 : l.getD e.2.toNat false with
 | true =>
  rw [h2] at h
  rw [h, Bool.true_or, cnd_true, set_self h, set_self h2]
 | false => rw [h, h2]; rfl
theorem relB_ne {l : List Bool} {e : Int × Int} (h1 : e.1.toNat < l.length) (h2 : e.2.toNat < l.length) (h : ¬ l.getD e.1.toNat false = l.getD e.2.toNat false) : relB l e = (l.set e.1.toNat true).set e.2.toNat true ∧ fcB (relB l e) < fcB l := by
 unfold relB
 cases a : l.getD e.1.toNat false with
 | true =>
  cases b : l.getD e.2.toNat false with
  | true => exact absurd (by rw [a, b]) h
  | false =>
   refine ⟨rfl, ?_⟩
   show fcB ((l.set e.1.toNat true).set e.2.toNat true) < _
   rw [set_self a]
   exact fcB_lt h2 b
 | false =>
  cases b : l.getD e.2.toNat false with
  | true =>
   refine ⟨rfl, ?_⟩
   show fcB ((l.set e.1.toNat true).set e.2.toNat true) < _
   exact Nat.lt_of_le_of_lt (fcB_set _ _) (fcB_lt h1 a)
  | false => exact absurd (by rw [a, b]) h
theorem drop_cons2 {l : List (Int × Int)} {i : Nat} (hi : i < l.length) : l.drop i = l.getD i (0, 0) :: l.drop (i + 1) := by
 rw [List.drop_eq_getElem_cons hi, List.getD_eq_getElem?_getD, List.getElem?_eq_getElem hi]; rfl
theorem bar_in {g : Grf} (hg : isGraph g = true) {i : Nat} (hi : i < g.bars.length) : 0 ≤ (g.bars.getD i (0, 0)).1 ∧ (g.bars.getD i (0, 0)).1 < (g.bars.getD i (0, 0)).2 ∧ (g.bars.getD i (0, 0)).2 < g.n :=
 isGraph_bar hg (p := g.bars.getD i (0, 0)) (by rw [List.getD_eq_getElem?_getD, List.getElem?_eq_getElem hi]; exact List.getElem_mem hi)
theorem reachS3_s (hN : 4000000 ≤ N) {g : Grf} (hg : isGraph g = true) (kk : List Bool → Option (List Int)) : ∀ (fuel i : Nat) (l : List Bool), i ≤ g.bars.length → g.bars.length < fuel + i → (l.length : Int) = g.n →
  S_ReachOf_l3 N g kk fuel (l, (i : Int)) = kk ((g.bars.drop i).foldl relB l) := by
 have hp := isGraph_parts hg
 intro fuel
 induction fuel with
 | zero => intro i l h1 h2; omega
 | succ fuel ih =>
  intro i l h1 h2 h3
  rw [S_ReachOf_l3]
  by_cases hi : i < g.bars.length
  ·have hb := bar_in hg hi
   rw [cnd_dt (by omega), grd_pos (by omega), show ((i : Int)).toNat = i from by omega, drop_cons2 hi, List.foldl_cons, List.length_replicate]
   have hrl := relB_len l (g.bars.getD i (0, 0))
   have hih := ih (i + 1) (relB l (g.bars.getD i (0, 0))) (by omega) (by omega) (by omega)
   rw [← hih]
   unfold relB
   generalize g.bars.getD i (0, 0) = e at hb
   have hn : ((g.n.toNat : Nat) : Int) = g.n := by omega
   rw [grd_pos (p := 0 ≤ e.1 ∧ e.1 < ((g.n.toNat : Nat) : Int)) (by omega), grd_pos (p := 0 ≤ e.1 ∧ e.1 < (l.length : Int)) (by omega)]
   cases a : l.getD e.1.toNat false with
   | true =>
    rw [cnd_true, Bool.true_or, cnd_true, grd_pos (p := 0 ≤ e.2 ∧ e.2 < ((g.n.toNat : Nat) : Int)) (by omega), grd_pos (by rw [List.length_set]; omega), grd_R (by omega) (by omega), succ_cast]
   | false =>
    rw [cnd_false, Bool.false_or, grd_pos (p := 0 ≤ e.2 ∧ e.2 < ((g.n.toNat : Nat) : Int)) (by omega), grd_pos (p := 0 ≤ e.2 ∧ e.2 < (l.length : Int)) (by omega)]
    cases b : l.getD e.2.toNat false with
    | true => rw [cnd_true, cnd_true, grd_pos (by rw [List.length_set]; omega), grd_R (by omega) (by omega), succ_cast]
    | false => rw [cnd_false, cnd_false, grd_R (by omega) (by omega), succ_cast]
  ·have e : i = g.bars.length := by omega
   rw [cnd_df (by omega), e, List.drop_length]; rfl
theorem reachS2_s (hN : 4000000 ≤ N) {g : Grf} (hg : isGraph g = true) (kk : List Bool → Option (List Int)) {l : List Bool} (hl : (l.length : Int) = g.n) : S_ReachOf_l2 N g kk N (l, (0 : Int)) = kk (itB g.bars g.n.toNat l) := by
 have hp := isGraph_parts hg
 refine fold (N := N) (len := g.n.toNat) (σ := List Bool) (st := fun i => itB g.bars i l) (F := fun m s => S_ReachOf_l2 N g kk m (s.1, s.2)) (fin := kk (itB g.bars g.n.toNat l)) (by omega) (fun m i hi => ?_) fun m => ?_
 ·show S_ReachOf_l2 N g kk (m + 1) (itB g.bars i l, (i : Int)) = S_ReachOf_l2 N g kk m (itB g.bars (i + 1) l, ((i + 1 : Nat) : Int))
  rw [S_ReachOf_l2, cnd_dt (by omega)]
  have h := reachS3_s hN hg (fun (l46 : List Bool) => grd (Rg64 ((i : Int) + (1 : Int))) <| S_ReachOf_l2 N g kk m (l46, ((i : Int) + (1 : Int)))) N 0 (itB g.bars i l) (by omega) (by omega) (by rw [itB_len]; exact hl)
  refine h.trans ?_
  rw [List.drop_zero, itB_succ]
  show grd (Rg64 ((i : Int) + 1)) _ = _
  rw [grd_R (by omega) (by omega), succ_cast]; rfl
 ·show S_ReachOf_l2 N g kk (m + 1) (itB g.bars g.n.toNat l, ((g.n.toNat : Nat) : Int)) = _
  rw [S_ReachOf_l2, cnd_df (by omega)]
theorem reachI2_s (hN : 4000000 ≤ N) {g : Grf} (hg : isGraph g = true) (kk : List Bool × Bool → Option (List Bool)) : ∀ (fuel i : Nat) (l : List Bool) (ag : Bool), i ≤ g.bars.length → g.bars.length < fuel + i → (l.length : Int) = g.n →
  ∃ ag' : Bool, M_Graph_reach_l2 N g kk fuel (l, ag, (i : Int)) = kk ((g.bars.drop i).foldl relB l, ag') ∧ ((ag' = ag ∧ (g.bars.drop i).foldl relB l = l) ∨ (ag' = true ∧ fcB ((g.bars.drop i).foldl relB l) < fcB l)) := by
 have hp := isGraph_parts hg
 intro fuel
 induction fuel with
 | zero => intro i l ag h1 h2; omega
 | succ fuel ih =>
  intro i l ag h1 h2 h3
  rw [M_Graph_reach_l2]
  by_cases hi : i < g.bars.length
  ·have hb := bar_in hg hi
   rw [cnd_dt (by omega), grd_pos (by omega), show ((i : Int)).toNat = i from by omega, drop_cons2 hi, List.foldl_cons, List.length_replicate]
   have hrl := relB_len l (g.bars.getD i (0, 0))
   generalize g.bars.getD i (0, 0) = e at hb hrl
   have hn : ((g.n.toNat : Nat) : Int) = g.n := by omega
   rw [grd_pos (p := 0 ≤ e.1 ∧ e.1 < ((g.n.toNat : Nat) : Int)) (by omega), grd_pos (p := 0 ≤ e.1 ∧ e.1 < (l.length : Int)) (by omega), grd_pos (p := 0 ≤ e.2 ∧ e.2 < ((g.n.toNat : Nat) : Int)) (by omega), grd_pos (p := 0 ≤ e.2 ∧ e.2 < (l.length : Int)) (by omega)]
   by_cases hq : l.getD e.1.toNat false = l.getD e.2.toNat false
   ·have hb2 : (l.getD e.1.toNat false != l.getD e.2.toNat false) = false := by rw [hq]; simp
    rw [hb2, cnd_false, grd_R (by omega) (by omega), succ_cast, relB_eq hq]
    exact ih (i + 1) l ag (by omega) (by omega) h3
   ·have hb2 : (l.getD e.1.toNat false != l.getD e.2.toNat false) = true := by simpa using hq
    obtain ⟨r1, r2⟩ := relB_ne (l := l) (e := e) (by omega) (by omega) hq
    rw [hb2, cnd_true, grd_pos (by rw [List.length_set]; omega), grd_R (by omega) (by omega), succ_cast, ← r1]
    obtain ⟨ag', k1, k2⟩ := ih (i + 1) (relB l e) true (by omega) (by omega) (by omega)
    refine ⟨ag', k1, .inr ?_⟩
    rcases k2 with ⟨k2, k3⟩ | ⟨k2, k3⟩
    ·exact ⟨k2, by rw [k3]; exact r2⟩
    ·exact ⟨k2, by omega⟩
  ·have e : i = g.bars.length := by omega
   rw [cnd_df (by omega), e, List.drop_length]
   exact ⟨ag, rfl, .inl ⟨rfl, rfl⟩⟩
theorem reachI1_s (hN : 4000000 ≤ N) {g : Grf} (hg : isGraph g = true) (kk : List Bool → Option (List Bool)) : ∀ (k fuel : Nat) (l : List Bool), fcB l ≤ k → k + 2 ≤ fuel → (l.length : Int) = g.n →
  M_Graph_reach_l1 N g kk fuel (l, true) = kk (itB g.bars k l) := by
 have hp := isGraph_parts hg
 intro k
 induction k with
 | zero =>
  intro fuel l h1 h2 h3
  obtain ⟨f, rfl⟩ : ∃ f, fuel = f + 2 := ⟨fuel - 2, by omega⟩
  rw [M_Graph_reach_l1, cnd_true]
  obtain ⟨ag', k1, k2⟩ := reachI2_s hN hg (fun x => match x with | (l55, again56) => M_Graph_reach_l1 N g kk (f + 1) (l55, again56)) N 0 l false (by omega) (by omega) h3
  refine k1.trans ?_
  rw [List.drop_zero] at k2 ⊢
  rcases k2 with ⟨k2, k3⟩ | ⟨k2, k3⟩
  ·show M_Graph_reach_l1 N g kk (f + 1) (_, ag') = _
   rw [k2, k3, M_Graph_reach_l1, cnd_false]; rfl
  ·omega
 | succ k ih =>
  intro fuel l h1 h2 h3
  obtain ⟨f, rfl⟩ : ∃ f, fuel = f + 2 := ⟨fuel - 2, by omega⟩
  rw [M_Graph_reach_l1, cnd_true]
  obtain ⟨ag', k1, k2⟩ := reachI2_s hN hg (fun x => match x with | (l55, again56) => M_Graph_reach_l1 N g kk (f + 1) (l55, again56)) N 0 l false (by omega) (by omega) h3
  refine k1.trans ?_
  rw [List.drop_zero] at k2 ⊢
  show M_Graph_reach_l1 N g kk (f + 1) (passB g.bars l, ag') = kk (itB g.bars k (passB g.bars l))
  rcases k2 with ⟨k2, k3⟩ | ⟨k2, k3⟩
  ·have k3 : passB g.bars l = l := k3
   rw [k2, k3, M_Graph_reach_l1, cnd_false, itB_same k3]
  ·have k3 : fcB (passB g.bars l) < fcB l := k3
   rw [k2]
   exact ih (f + 1) (passB g.bars l) (by omega) (by omega) (by rw [passB_len]; exact h3)
theorem coll_x (hN : 4000000 ≤ N) {g : Grf} {l : List Bool} (hl : (l.length : Int) = g.n) (h8 : l.length ≤ 8) : ∃ L : List Int, L.length ≤ 8 ∧ S_ReachOf_l1 N g l (fun (l25 : List Int) => some l25) N (([] : List Int), (0 : Int)) = some L ∧ I_ReachOf_l1 N l (fun (l6 : List Int) => some l6) N (([] : List Int), (0 : Int)) = some L := by
 have key : ∀ (fuel i : Nat) (L : List Int), i ≤ l.length → l.length < fuel + i → L.length ≤ i → ∃ L' : List Int, L'.length ≤ 8 ∧ S_ReachOf_l1 N g l (fun (l25 : List Int) => some l25) fuel (L, (i : Int)) = some L' ∧ I_ReachOf_l1 N l (fun (l6 : List Int) => some l6) fuel (L, (i : Int)) = some L' := by
  intro fuel
  induction fuel with
  | zero => intro i L h1 h2; omega
  | succ fuel ih =>
   intro i L h1 h2 h3
   rw [S_ReachOf_l1, I_ReachOf_l1]
   by_cases hi : i < l.length
   ·rw [cnd_dt (by omega), cnd_dt (by omega), List.length_replicate, show ((i : Int)).toNat = i from by omega, grd_pos (p := 0 ≤ (i : Int) ∧ (i : Int) < ((g.n.toNat : Nat) : Int)) (by omega), grd_pos (p := 0 ≤ (i : Int) ∧ (i : Int) < (l.length : Int)) (by omega), grd_pos (p := 0 ≤ (i : Int) ∧ (i : Int) < (l.length : Int)) (by omega)]
    cases l.getD i false with
    | true =>
     obtain ⟨L', a1, a2, a3⟩ := ih (i + 1) (L ++ [(i : Int)]) (by omega) (by omega) (by simp; omega)
     refine ⟨L', a1, ?_, ?_⟩
     ·rw [cnd_true, grd_pos (by omega), grd_R (by omega) (by omega), succ_cast]; exact a2
     ·rw [cnd_true, grd_pos (by omega), grd_R (by omega) (by omega), succ_cast]; exact a3
    | false =>
     obtain ⟨L', a1, a2, a3⟩ := ih (i + 1) L (by omega) (by omega) (by omega)
     refine ⟨L', a1, ?_, ?_⟩
     ·rw [cnd_false, grd_R (by omega) (by omega), succ_cast]; exact a2
     ·rw [cnd_false, grd_R (by omega) (by omega), succ_cast]; exact a3
   ·rw [cnd_df (by omega), cnd_df (by omega)]
    exact ⟨L, by omega, rfl, rfl⟩
 exact key N 0 [] (by omega) (by omega) (by simp)
theorem reach_x (hN : 4000000 ≤ N) {g : Grf} {v : Int} : ∃ L : List Int, L.length ≤ 8 ∧ S_ReachOf N g v = some L ∧ I_ReachOf N g v = some L := by
 unfold S_ReachOf I_ReachOf
 rw [isGraphS_s N hN, isGraphI_s N hN, Option.bind_some, Option.bind_some]
 cases hg : isGraph g with
 | false => exact ⟨[], by simp, rfl, rfl⟩
 | true =>
  have hp := isGraph_parts hg
  rw [Bool.not_true, cnd_false, cnd_false, ghas_s N (g := g) (by omega) (by omega) v, Option.bind_some]
  by_cases hv : 0 ≤ v ∧ v < g.n
  ·rw [cnd_df (by omega), cnd_df (by omega), inB_true.2 (show 0 ≤ v ∧ v ≤ g.n - 1 by omega), Bool.not_true, cnd_false, grd_pos (by omega), grd_pos (by rw [List.length_replicate]; omega)]
   have hl : ((((List.replicate g.n.toNat false).set v.toNat true).length : Nat) : Int) = g.n := by rw [List.length_set, List.length_replicate]; omega
   have hf : fcB ((List.replicate g.n.toNat false).set v.toNat true) ≤ g.n.toNat := by
    unfold fcB
    refine Nat.le_trans List.countP_le_length ?_
    rw [List.length_set, List.length_replicate]; exact Nat.le_refl _
   have hl2 : (((itB g.bars g.n.toNat ((List.replicate g.n.toNat false).set v.toNat true)).length : Nat) : Int) = g.n := by rw [itB_len]; exact hl
   obtain ⟨L, a1, a2, a3⟩ := coll_x hN (g := g) hl2 (by omega)
   refine ⟨L, a1, (reachS2_s hN hg _ hl).trans a2, ?_⟩
   unfold M_Graph_reach
   rw [grd_pos (by omega), grd_pos (by rw [List.length_replicate]; omega), reachI1_s hN hg _ g.n.toNat N _ hf (by omega) hl]
   rw [grd_pos (by rw [List.length_replicate]; omega), Option.bind_some]
   exact a3
  ·refine ⟨[], by simp, ?_, ?_⟩
   ·by_cases h0 : v < 0
    ·rw [cnd_dt h0]
    ·rw [cnd_df h0, cnd_dt (by omega)]
   ·have : inB v 0 (g.n - 1) = false := by rw [Bool.eq_false_iff]; intro h; have := inB_true.1 h; omega
    rw [this]; rfl
theorem conn_x (hN : 4000000 ≤ N) {g : Grf} : ∃ b : Bool, S_IsConnected N g = some b ∧ I_IsConnected N g = some b := by
 unfold S_IsConnected I_IsConnected
 rw [isGraphS_s N hN, isGraphI_s N hN, Option.bind_some, Option.bind_some]
 cases isGraph g with
 | false => exact ⟨false, rfl, rfl⟩
 | true =>
  obtain ⟨L, a1, a2, a3⟩ := reach_x hN (g := g) (v := 0)
  rw [cnd_true, cnd_true, a2, a3, Option.bind_some]
  exact ⟨_, rfl, rfl⟩
theorem cut_x (hN : 4000000 ≤ N) {g : Grf} (hgb : g.bars.length ≤ 3000000) (hg : isGraph g = true) {k : Int} (hk : 0 ≤ k ∧ k ≤ 8) {kS kI : List (List Int) → Option (List (List Int))} :
  ∀ (fuel i : Nat) (L : List (List Int)), i ≤ 2 ^ g.n.toNat → 2 ^ g.n.toNat < fuel + i → L.length ≤ i →
  ∃ L', L'.length ≤ 256 ∧ S_CutSets_l1 N g k kS fuel (L, (i : Int)) = kS L' ∧ I_CutSets_l1 N g k kI fuel (L, (i : Int)) = kI L' := by
 have hp := isGraph_parts hg
 have h8 : 2 ^ g.n.toNat ≤ 2 ^ 8 := Nat.pow_le_pow_right (by omega) (by omega)
 have h88 : (2 : Nat) ^ 8 = 256 := by decide
 have hpw : (1 : Int) * 2 ^ g.n.toNat = ((2 ^ g.n.toNat : Nat) : Int) := by rw [Int.one_mul]; simp
 intro fuel
 induction fuel with
 | zero => intro i L h1 h2; omega
 | succ fuel ih =>
  intro i L h1 h2 h3
  have hR : Rg64 ((1 : Int) * 2 ^ g.n.toNat) := by rw [hpw]; exact ⟨by omega, by omega⟩
  rw [S_CutSets_l1, I_CutSets_l1, grd_pos (p := 0 ≤ g.n ∧ g.n < 64 ∧ Rg64 ((1 : Int) * 2 ^ g.n.toNat)) ⟨by omega, by omega, hR⟩, hpw]
  by_cases hi : i < 2 ^ g.n.toNat
  ·rw [cnd_dt (by omega), cnd_dt (by omega), setS_s hN (by omega), setI_s hN (by omega), Option.bind_some, Option.bind_some]
   have hsl := setU_len (i : Int) g.n.toNat
   have hso := outN_set (i : Int) g.n.toNat
   generalize setU (i : Int) g.n.toNat = U at hsl hso
   obtain ⟨L1, a1, a2, a3⟩ := ih (i + 1) L (by omega) (by omega) (by omega)
   obtain ⟨L2, b1, b2, b3⟩ := ih (i + 1) (L ++ [U]) (by omega) (by omega) (by simp; omega)
   by_cases hkk : (U.length : Int) = k
   ·have e1 : ((U.length : Int) == k) = true := by rw [beq_iff_eq]; exact hkk
    have e2 : ((U.length : Int) != k) = false := by simp [hkk]
    obtain ⟨h, w1, w2, w3, w4, w5⟩ := without_x hN hgb (set := U) (by omega)
    have hmn : (max (0 : Int) (min (8 : Int) g.n)).toNat = g.n.toNat := by omega
    rw [hmn] at w2
    rw [e1, e2, cnd_true, cnd_false, w5, Option.bind_some]
    obtain ⟨b, c1, c2⟩ := conn_x hN (g := h)
    by_cases h2k : g.n - k ≥ 2
    ·have hS : S_CutSets_l1 N g k kS (fuel + 1) (L, (i : Int)) = S_CutSets_l1 N g k kS (fuel + 1) (L, (i : Int)) := rfl
     rw [cnd_dt h2k, cnd_dt (show h.n ≥ 2 by omega), w4, Option.bind_some, c1, c2, Option.bind_some, Option.bind_some, grd_R (by omega) (by omega)]
     cases b with
     | true =>
      refine ⟨L1, a1, ?_, ?_⟩
      ·rw [Bool.not_true, cnd_false, grd_R (by omega) (by omega), succ_cast]; exact a2
      ·rw [Bool.not_true, cnd_false, grd_R (by omega) (by omega), succ_cast]; exact a3
     | false =>
      refine ⟨L2, b1, ?_, ?_⟩
      ·rw [Bool.not_false, cnd_true, grd_pos (by omega), grd_R (by omega) (by omega), succ_cast]; exact b2
      ·rw [Bool.not_false, cnd_true, grd_pos (by omega), grd_R (by omega) (by omega), succ_cast]; exact b3
    ·refine ⟨L1, a1, ?_, ?_⟩
     ·rw [grd_R (by omega) (by omega), cnd_df h2k, grd_R (by omega) (by omega), succ_cast]; exact a2
     ·rw [cnd_df (show ¬ h.n ≥ 2 by omega), grd_R (by omega) (by omega), succ_cast]; exact a3
   ·have e1 : ((U.length : Int) == k) = false := by rw [beq_eq_false_iff_ne]; exact hkk
    have e2 : ((U.length : Int) != k) = true := by simp [hkk]
    refine ⟨L1, a1, ?_, ?_⟩
    ·rw [e1, cnd_false, grd_R (by omega) (by omega), succ_cast]; exact a2
    ·rw [e2, cnd_true, grd_R (by omega) (by omega), succ_cast]; exact a3
  ·rw [cnd_df (by omega), cnd_df (by omega)]
   exact ⟨L, by omega, rfl, rfl⟩
theorem cutSets_x (hN : 4000000 ≤ N) {g : Grf} (hgb : g.bars.length ≤ 3000000) {k : Int} : ∃ L : List (List Int), L.length ≤ 256 ∧ S_CutSets N g k = some L ∧ I_CutSets N g k = some L := by
 unfold S_CutSets I_CutSets
 rw [isGraphS_s N hN, isGraphI_s N hN, Option.bind_some, Option.bind_some]
 cases hg : isGraph g with
 | false => exact ⟨[], by simp, rfl, rfl⟩
 | true =>
  have hp := isGraph_parts hg
  rw [Bool.not_true, cnd_false, cnd_false, l1In_s N, within_s N, Option.bind_some, Option.bind_some]
  cases hk : inB k 0 3 with
  | false => exact ⟨[], by simp, rfl, rfl⟩
  | true =>
   have hk2 := inB_true.1 hk
   have h8 : 2 ^ g.n.toNat ≤ 2 ^ 8 := Nat.pow_le_pow_right (by omega) (by omega)
   have h88 : (2 : Nat) ^ 8 = 256 := by decide
   have hpw : (1 : Int) * 2 ^ g.n.toNat = ((2 ^ g.n.toNat : Nat) : Int) := by rw [Int.one_mul]; simp
   have hpos : (0 : Int) ≤ ((2 ^ g.n.toNat : Nat) : Int) := Int.natCast_nonneg _
   have hR : Rg64 ((1 : Int) * 2 ^ g.n.toNat) := by rw [hpw]; exact ⟨by omega, by omega⟩
   obtain ⟨L, a1, a2, a3⟩ := cut_x hN hgb hg (k := k) (by omega) (kS := fun l17 => some l17) (kI := fun l17 => some l17) N 0 [] (Nat.zero_le _) (by omega) (by simp)
   refine ⟨L, a1, ?_, ?_⟩
   ·rw [Bool.not_true, cnd_false]; exact a2
   ·rw [Bool.not_true, cnd_false, grd_pos (p := 0 ≤ g.n ∧ g.n < 64 ∧ Rg64 ((1 : Int) * 2 ^ g.n.toNat)) ⟨by omega, by omega, hR⟩]; exact a3
theorem kconn_x (hN : 4000000 ≤ N) {g : Grf} (hgb : g.bars.length ≤ 3000000) {k : Int} : ∃ b : Bool, S_IsKConnected N g k = some b ∧ I_IsKConnected N g k = some b := by
 unfold S_IsKConnected I_IsKConnected
 rw [isGraphS_s N hN, isGraphI_s N hN, Option.bind_some, Option.bind_some]
 cases hg : isGraph g with
 | false => exact ⟨false, rfl, rfl⟩
 | true =>
  have hp := isGraph_parts hg
  rw [Bool.not_true, cnd_false, cnd_false, l1In_s N, within_s N, Option.bind_some, Option.bind_some]
  cases hk : inB k 1 3 with
  | false => exact ⟨false, rfl, rfl⟩
  | true =>
   have hk2 := inB_true.1 hk
   rw [Bool.not_true, cnd_false, cnd_false]
   by_cases hnk : g.n ≤ k
   ·rw [cnd_dt hnk, cnd_dt hnk]; exact ⟨false, rfl, rfl⟩
   ·rw [cnd_df hnk, cnd_df hnk]
    have key : ∀ (fuel i : Nat), (i : Int) ≤ k → k < (fuel : Int) + (i : Int) → ∃ b : Bool, S_IsKConnected_l1 N g k (fun (_ : Unit) => some true) fuel (i : Int) = some b ∧ I_IsKConnected_l1 N g k (fun (_ : Unit) => some true) fuel (i : Int) = some b := by
     intro fuel
     induction fuel with
     | zero => intro i h1 h2; omega
     | succ fuel ih =>
      intro i h1 h2
      rw [S_IsKConnected_l1, I_IsKConnected_l1]
      by_cases hi : (i : Int) < k
      ·obtain ⟨L, a1, a2, a3⟩ := cutSets_x hN hgb (g := g) (k := (i : Int))
       rw [cnd_dt hi, cnd_dt hi, a2, a3, Option.bind_some, Option.bind_some]
       by_cases hL : (L.length : Int) > 0
       ·exact ⟨false, by rw [cnd_dt hL], by rw [cnd_dt hL]⟩
       ·obtain ⟨b, b1, b2⟩ := ih (i + 1) (by omega) (by omega)
        refine ⟨b, ?_, ?_⟩
        ·rw [cnd_df hL, grd_R (by omega) (by omega), succ_cast]; exact b1
        ·rw [cnd_df hL, grd_R (by omega) (by omega), succ_cast]; exact b2
      ·rw [cnd_df hi, cnd_df hi]; exact ⟨true, rfl, rfl⟩
    exact key N 0 (by omega) (by omega)
end Go.Proofs.YtmoamglpocjhgaaGreat
namespace Go.Proofs.YtmoamglpocjhgaaGreat
open Go.RowKit
def I_IsRedundantlyRigid (N : Nat) (g_0 : Grf) : Option (Bool) :=
 (I_IsRigid N g_0).bind fun v1 =>
 cnd v1 (
  (I_FragileBars N g_0).bind fun v2 =>
  some ((v2.length : Int) == (0 : Int))) (
  some false)
set_option maxRecDepth 20000 in
set_option maxHeartbeats 1600000 in
theorem I_IsRedundantlyRigid_w (N : Nat) (g_0 : Grf) (r : Bool) (h : I_IsRedundantlyRigid N g_0 = some r) : PCall Tryz.prog 131 [gD g_0] [] (.bool r) := by
 unfold I_IsRedundantlyRigid at h
 refine pcall_intro (TT := TT) tt Tryz.func131 rfl rfl Tryz.ntmps131 (congrArg Array.toList Tryz.results131) rfl rfl fun w0 => ?_
 refine vSeq ?_
 refine vRegion ?_
 refine oBox rfl rfl rfl rfl rfl rfl rfl rfl rfl ?_
 refine oVal tt rfl rfl rfl rfl rfl trivial ?_
 refine vNil ?_
 change VC _ _ _ _
 refine vSeq ?_
 refine vRegion ?_
 refine oVal tt rfl rfl rfl rfl rfl trivial ?_
 obtain ⟨v1, hc1, h⟩ := bind_inv h
 refine oCall (I_IsRigid_w N g_0 v1 hc1) rfl rfl rfl rfl rfl rfl rfl rfl ⟨⟨rfl, rfl, trivial⟩, trivial⟩ ?_
 refine oVal tt rfl rfl rfl rfl rfl trivial ?_
 refine oSplit rfl rfl rfl (fun hb2 => ?_) (fun hb2 => ?_)
 ·replace h := cnd_t hb2 h
  refine oValG tt rfl rfl rfl rfl rfl hb2 rfl rfl rfl trivial ?_
  obtain ⟨v2, hc3, h⟩ := bind_inv h
  refine oCallG (I_FragileBars_w N g_0 v2 hc3) rfl rfl rfl rfl hb2 rfl rfl rfl rfl rfl rfl rfl ⟨⟨rfl, rfl, trivial⟩, trivial⟩ ?_
  iterate 2 refine oValG tt rfl rfl rfl rfl rfl hb2 rfl rfl rfl trivial ?_
  refine oPick rfl rfl rfl rfl rfl hb2 rfl ?_
  refine oVal tt rfl rfl rfl rfl rfl trivial ?_
  refine vNil ?_
  change VC _ _ _ _
  refine vRet ?_
  change ∃ _, _
  cases h
  exact ⟨[], _, rfl, trivial, rfl, (.eq rfl), rfl⟩
 ·replace h := cnd_f hb2 h
  iterate 4 refine oNoT rfl rfl rfl rfl hb2 rfl rfl ?_
  refine oPickF rfl rfl rfl rfl rfl hb2 rfl ?_
  refine oVal tt rfl rfl rfl rfl rfl trivial ?_
  refine vNil ?_
  change VC _ _ _ _
  refine vRet ?_
  change ∃ _, _
  cases h
  exact ⟨[], _, rfl, trivial, rfl, (.eq rfl), rfl⟩
end Go.Proofs.YtmoamglpocjhgaaGreat
namespace Go.Proofs.YtmoamglpocjhgaaGreat
variable {N : Nat}
theorem rigid_x (hN : 4000000 ≤ N) {g : Grf} : ∃ b : Bool, S_IsRigid N g = some b ∧ I_IsRigid N g = some b := by
 unfold S_IsRigid I_IsRigid S_FreedomOf I_FreedomOf
 rw [isGraphS_s N hN, isGraphI_s N hN, Option.bind_some, Option.bind_some]
 cases hg : isGraph g with
 | false => exact ⟨_, rfl, rfl⟩
 | true =>
  have hp := isGraph_parts hg
  obtain ⟨r, r1, r2, r3, r4⟩ := rank_x hN (g := g)
  have hx : (max (0 : Int) (((2 : Int) * g.n) - (3 : Int))) ≤ 20 ∧ 0 ≤ (max (0 : Int) (((2 : Int) * g.n) - (3 : Int))) := by omega
  generalize hm : (max (0 : Int) (((2 : Int) * g.n) - (3 : Int))) = m at hx
  refine ⟨(m - r) == 0, ?_, ?_⟩
  ·rw [Bool.not_true, cnd_false, grd_R (by omega) (by omega), grd_R (by omega) (by omega), r3, Option.bind_some, grd_R (by omega) (by omega)]; rfl
  ·rw [Bool.not_true, cnd_false, grd_R (by omega) (by omega), grd_R (by omega) (by omega), r4, Option.bind_some, grd_R (by omega) (by omega)]; rfl
theorem remove_x (hN : 4000000 ≤ N) {g : Grf} (hb : g.bars.length ≤ 3000000) {i : Nat} (hi : i < g.bars.length) : ∃ (h : Grf) (b : Bool), S_RemoveBar N g (i : Int) = some (h, b) ∧ I_RemoveBar N g (i : Int) = some (h, b) := by
 unfold S_RemoveBar I_RemoveBar S_l2Copy I_copyGraph
 rw [isGraphS_s N hN, isGraphI_s N hN, grd_pos (by omega), grd_pos (by omega), Option.bind_some, Option.bind_some, Option.bind_some, Option.bind_some]
 cases hg : isGraph g with
 | false => exact ⟨⟨g.n, [] ++ g.bars⟩, false, rfl, rfl⟩
 | true =>
  have hp := isGraph_parts hg
  have e1 : ((i : Int) + 1).toNat = i + 1 := by omega
  have e2 : ((i : Int)).toNat = i := by omega
  have el : (([] : List (Int × Int)) ++ g.bars).length = g.bars.length := by simp
  have hT : (g.bars.take i).length = i := by rw [List.length_take]; omega
  have hD : (g.bars.drop (i + 1)).length = g.bars.length - (i + 1) := List.length_drop
  have e3 : 0 + (i + 1) + (g.bars.length - (i + 1)) = g.bars.length := by omega
  refine ⟨⟨g.n, g.bars.take i ++ g.bars.drop (i + 1)⟩, true, ?_, ?_⟩
  ·rw [Bool.not_true, cnd_false, cnd_df (by omega), cnd_df (by omega), e1, e2, List.drop_zero, List.take_length, List.nil_append, grd_pos (by omega), grd_R (by omega) (by omega), grd_pos (by omega), grd_pos (by omega)]
  ·rw [Bool.not_true, cnd_false, grd_R (by omega) (by omega), within_s N, Option.bind_some, inB_true.2 (show (0 : Int) ≤ (i : Int) ∧ (i : Int) ≤ (g.bars.length : Int) - 1 by omega), Bool.not_true, cnd_false]
   dsimp only
   rw [List.nil_append, e1, e2, e3, List.take_length, Nat.zero_add, grd_pos (by omega), grd_R (by omega) (by omega), grd_pos (by omega), grd_pos (by omega), grd_pos (by omega), grd_pos (by omega)]
theorem bridges_x (hN : 4000000 ≤ N) {g : Grf} (hb : g.bars.length ≤ 3000000) : ∃ L : List Int, S_BridgesOf N g 2 3 = some L ∧ I_BridgesOf N g 2 3 = some L := by
 unfold S_BridgesOf I_BridgesOf
 obtain ⟨r, r1, r2, r3, r4⟩ := rank_x hN (g := g)
 rw [r3, r4, Option.bind_some, Option.bind_some]
 by_cases h0 : r < 0
 ·refine ⟨[], ?_, by rw [cnd_dt h0]⟩
  obtain ⟨M, rfl⟩ : ∃ M, N = M + 1 := ⟨N - 1, by omega⟩
  rw [S_BridgesOf_l1, cnd_df (show ¬ r ≥ 0 by omega)]
  cases decide ((0 : Int) < (g.bars.length : Int)) <;> rfl
 ·rw [cnd_df h0]
  have key : ∀ (fuel i : Nat) (L : List Int), i ≤ g.bars.length → g.bars.length < fuel + i → L.length ≤ i → ∃ L' : List Int, S_BridgesOf_l1 N g 2 3 r (fun (l12 : List Int) => some l12) fuel (L, (i : Int)) = some L' ∧ I_BridgesOf_l1 N g 2 3 r (fun (l12 : List Int) => some l12) fuel (L, (i : Int)) = some L' := by
   intro fuel
   induction fuel with
   | zero => intro i L h1 h2; omega
   | succ fuel ih =>
    intro i L h1 h2 h3
    rw [S_BridgesOf_l1, I_BridgesOf_l1]
    by_cases hi : i < g.bars.length
    ·obtain ⟨h, b, w1, w2⟩ := remove_x hN hb hi
     obtain ⟨s, s1, s2, s3, s4⟩ := rank_x hN (g := h)
     rw [cnd_dt (show (i : Int) < (g.bars.length : Int) by omega), cnd_dt (show r ≥ 0 by omega), cnd_dt (show (i : Int) < (g.bars.length : Int) by omega), w1, w2, Option.bind_some, Option.bind_some]
     dsimp only
     rw [s3, s4, Option.bind_some, Option.bind_some]
     by_cases hs : s < r
     ·obtain ⟨L', k1, k2⟩ := ih (i + 1) (L ++ [(i : Int)]) (by omega) (by omega) (by simp; omega)
      refine ⟨L', ?_, ?_⟩
      ·rw [cnd_dt hs, grd_pos (by omega), grd_R (by omega) (by omega), succ_cast]; exact k1
      ·rw [cnd_dt hs, grd_pos (by omega), grd_R (by omega) (by omega), succ_cast]; exact k2
     ·obtain ⟨L', k1, k2⟩ := ih (i + 1) L (by omega) (by omega) (by omega)
      refine ⟨L', ?_, ?_⟩
      ·rw [cnd_df hs, grd_R (by omega) (by omega), succ_cast]; exact k1
      ·rw [cnd_df hs, grd_R (by omega) (by omega), succ_cast]; exact k2
    ·rw [cnd_df (by omega), cnd_df (by omega)]
     exact ⟨L, rfl, rfl⟩
  exact key N 0 [] (by omega) (by omega) (by simp)
theorem redundant_x (hN : 4000000 ≤ N) {g : Grf} (hb : g.bars.length ≤ 3000000) : ∃ b : Bool, S_IsRedundantlyRigid N g = some b ∧ I_IsRedundantlyRigid N g = some b := by
 unfold S_IsRedundantlyRigid I_IsRedundantlyRigid S_FragileBars I_FragileBars
 obtain ⟨b, h1, h2⟩ := rigid_x hN (g := g)
 rw [h1, h2, Option.bind_some, Option.bind_some]
 cases b with
 | false => exact ⟨false, rfl, rfl⟩
 | true =>
  obtain ⟨L, k1, k2⟩ := bridges_x hN hb
  rw [cnd_true, cnd_true, k1, k2]
  exact ⟨_, rfl, rfl⟩
end Go.Proofs.YtmoamglpocjhgaaGreat
namespace Go.Proofs.YtmoamglpocjhgaaGreat
variable {n : Nat} {N : Nat}
def Srt (L : List (Int × Int)) : Prop := L.Pairwise fun a b => barLeB a b = true
theorem le_total {a b : Int × Int} (h : barLeB a b = false) : barLeB b a = true := by
 simp only [barLeB, Bool.or_eq_false_iff, Bool.and_eq_false_iff, decide_eq_false_iff_not, Bool.or_eq_true, Bool.and_eq_true, decide_eq_true_eq, beq_iff_eq, beq_eq_false_iff_ne] at h ⊢
 omega
theorem le_trans' {a b c : Int × Int} (h1 : barLeB a b = true) (h2 : barLeB b c = true) : barLeB a c = true := by
 simp only [barLeB, Bool.or_eq_true, Bool.and_eq_true, decide_eq_true_eq, beq_iff_eq] at h1 h2 ⊢
 omega
theorem srt_put {A B : List (Int × Int)} {x : Int × Int} (h : Srt (A ++ B)) (hA : ∀ e ∈ A, barLeB e x = true) (hB : ∀ b l, B = b :: l → barLeB b x = false) : Srt (A ++ x :: B) := by
 obtain ⟨h1, h2, h3⟩ := List.pairwise_append.1 h
 have hx : ∀ b ∈ B, barLeB x b = true := by
  cases B with
  | nil => intro b hb; simp at hb
  | cons b0 l =>
   have h0 := le_total (hB b0 l rfl)
   intro b hb
   rcases List.mem_cons.1 hb with rfl | hb
   ·exact h0
   ·exact le_trans' h0 ((List.pairwise_cons.1 h2).1 b hb)
 refine List.pairwise_append.2 ⟨h1, List.pairwise_cons.2 ⟨hx, h2⟩, fun a ha b hb => ?_⟩
 rcases List.mem_cons.1 hb with rfl | hb
 ·exact hA a ha
 ·exact h3 a ha b hb
end Go.Proofs.YtmoamglpocjhgaaGreat
namespace Go.Proofs.YtmoamglpocjhgaaGreat
variable (N : Nat)
theorem isGraph_n {g : Grf} (h : isGraph g = true) : 1 ≤ g.n ∧ g.n ≤ 8 ∧ g.bars.length ≤ 24 := by
 have := isGraph_parts h; omega
def anchOk (g : Grf) (l : List Int) : Bool := isSimple g && asc g.n l
theorem anchS_s (hN : 4000000 ≤ N) {g : Grf} (hb : g.bars.length ≤ 3000000) {l : List Int} (hl : l.length ≤ 3000000) : S_l23Anchors N g l = some (anchOk g l) := by
 unfold S_l23Anchors anchOk
 refine (srch (len := l.length) (ok := ascAt g.n l) (bad := some false) (fin := some (isSimple g)) (by omega) ?_ ?_).trans ?_
 ·intro n i hi _
  rw [S_l23Anchors_l1]
  by_cases h0 : i = 0
  ·subst h0
   simp (disch := omega) only [Int.toNat_natCast, tk0, List.length_cons, List.length_nil, grd_pos, grd_T, grd_R, cnd_dt, cnd_df, cnd_true, cnd_false, Option.bind_some, cnd_or, succ_cast]
   refine cnd_congr' ?_ _ _
   simp only [ascAt, inB]
   rw [Bool.eq_iff_iff]; simp; omega
  ·simp (disch := omega) only [Int.toNat_natCast, tk0, List.length_cons, List.length_nil, grd_pos, grd_T, grd_R, cnd_dt, cnd_df, cnd_true, cnd_false, Option.bind_some, succ_cast, cnd_or, show ((i : Int) - 1).toNat = i - 1 from by omega]
   refine cnd_congr' ?_ _ _
   simp only [ascAt, inB, decide_eq_false h0, Bool.false_or]
   rw [Bool.eq_iff_iff]; simp; omega
 ·intro n _
  rw [S_l23Anchors_l1]
  simp (disch := omega) only [Int.toNat_natCast, tk0, List.length_cons, List.length_nil, grd_pos, grd_T, grd_R, cnd_dt, cnd_df, cnd_true, cnd_false, Option.bind_some, l17Simple_s N hN hb]
 ·rw [cnd_some, show (List.range l.length).all (ascAt g.n l) = asc g.n l from rfl]
  cases asc g.n l <;> cases isSimple g <;> rfl
theorem anchI_s (hN : 4000000 ≤ N) {g : Grf} (hb : g.bars.length ≤ 3000000) {l : List Int} (hl : l.length ≤ 3000000) : I_areAnchors N g l = some (anchOk g l) := by
 unfold I_areAnchors anchOk
 refine (srch (len := l.length) (ok := fun i => inB (l.getD i 0) 0 (w64 (g.n - 1)) && (decide (i = 0) || decide (l.getD (i - 1) 0 < l.getD i 0))) (bad := some false) (fin := some (isSimple g)) (by omega) ?_ ?_).trans ?_
 ·intro n i hi _
  rw [I_areAnchors_l1]
  by_cases h0 : i = 0
  ·subst h0
   simp (disch := omega) only [Int.toNat_natCast, tk0, List.length_cons, List.length_nil, grd_pos, grd_T, grd_R, cnd_dt, cnd_df, cnd_true, cnd_false, Option.bind_some, ghasW_s, cnd_not, succ_cast]
   refine cnd_congr ?_ _ _
   simp
  ·simp (disch := omega) only [Int.toNat_natCast, tk0, List.length_cons, List.length_nil, grd_pos, grd_T, grd_R, cnd_dt, cnd_df, cnd_true, cnd_false, Option.bind_some, ghasW_s, succ_cast, cnd_or, show ((i : Int) - 1).toNat = i - 1 from by omega]
   refine cnd_congr' ?_ _ _
   simp only [decide_eq_false h0, Bool.false_or]
   cases inB (l.getD i 0) 0 (w64 (g.n - 1)) <;> (rw [Bool.eq_iff_iff]; simp)
 ·intro n _
  rw [I_areAnchors_l1]
  simp (disch := omega) only [Int.toNat_natCast, tk0, List.length_cons, List.length_nil, grd_pos, grd_T, grd_R, cnd_dt, cnd_df, cnd_true, cnd_false, Option.bind_some, isGraphI_s N hN, hasDoubles_s N hN hb]
  unfold isSimple
  cases isGraph g <;> rfl
 ·rw [cnd_some]
  cases hg : isGraph g with
  | false =>
   have : isSimple g = false := by unfold isSimple; rw [hg]; rfl
   rw [this, cnd_same]; rfl
  | true =>
   have hn := isGraph_n hg
   rw [w64_id (by omega) (by omega)]
   rw [show ((List.range l.length).all fun i => inB (l.getD i 0) 0 (g.n - 1) && (decide (i = 0) || decide (l.getD (i - 1) 0 < l.getD i 0))) = asc g.n l from rfl]
   cases asc g.n l <;> cases isSimple g <;> rfl
end Go.Proofs.YtmoamglpocjhgaaGreat
