/- Plain texts of functions, and that the program computes them (printed by gen.py). -/
import Derived.Test.YtkpmijmlbpdknaaShb
import Derived.Test.YtkpmijmlbpdknaaG1
import Derived.Test.YtkpmijmlbpdknaaG4
namespace Go.Proofs.Ytkpmijmlbpdknaa
open Go.RowKit
set_option linter.unusedVariables false
set_option linter.unusedSimpArgs false
def S_l2Put_l1 (N : Nat) (g_0 : Grf) (x_1 : Int × Int) (k : ((List (Int × Int)) × Bool) → Option (Grf)) : Nat → ((List (Int × Int)) × Bool × Int) → Option (Grf)
  | 0, _ => none
  | n + 1, (l17, placed18, i19) =>
    cnd (decide (i19 < (g_0.bars.length : Int))) (
      cnd (!placed18) (
        grd (0 ≤ i19 ∧ i19 < (g_0.bars.length : Int)) <|
        (S_l2After N (g_0.bars.getD ((i19).toNat) (0, 0)) x_1).bind fun v21 =>
        cnd (!v21) (
          grd (l17.length + 1 ≤ 4294967296) <|
          grd ((l17 ++ ([(x_1.1, x_1.2)] : List (Int × Int))).length + 1 ≤ 4294967296) <|
          grd (Rg64 (i19 + (1 : Int))) <|
          S_l2Put_l1 N g_0 x_1 k n (((l17 ++ ([(x_1.1, x_1.2)] : List (Int × Int))) ++ ([((g_0.bars.getD ((i19).toNat) (0, 0)).1, (g_0.bars.getD ((i19).toNat) (0, 0)).2)] : List (Int × Int))), true, (i19 + (1 : Int)))) (
          grd (l17.length + 1 ≤ 4294967296) <|
          grd (Rg64 (i19 + (1 : Int))) <|
          S_l2Put_l1 N g_0 x_1 k n ((l17 ++ ([((g_0.bars.getD ((i19).toNat) (0, 0)).1, (g_0.bars.getD ((i19).toNat) (0, 0)).2)] : List (Int × Int))), placed18, (i19 + (1 : Int))))) (
        grd (0 ≤ i19 ∧ i19 < (g_0.bars.length : Int)) <|
        grd (l17.length + 1 ≤ 4294967296) <|
        grd (Rg64 (i19 + (1 : Int))) <|
        S_l2Put_l1 N g_0 x_1 k n ((l17 ++ ([((g_0.bars.getD ((i19).toNat) (0, 0)).1, (g_0.bars.getD ((i19).toNat) (0, 0)).2)] : List (Int × Int))), placed18, (i19 + (1 : Int))))) (
      k (l17, placed18))
def S_l2Put (N : Nat) (g_0 : Grf) (x_1 : Int × Int) : Option (Grf) :=
  S_l2Put_l1 N g_0 x_1 (fun (x : (List (Int × Int)) × Bool) =>
      match x with
      | (l10, placed11) =>
        cnd (!placed11) (
          grd (l10.length + 1 ≤ 4294967296) <|
          some (⟨g_0.n, (l10 ++ ([(x_1.1, x_1.2)] : List (Int × Int)))⟩ : Grf)) (
          some (⟨g_0.n, l10⟩ : Grf))) N (([] : List (Int × Int)), false, (0 : Int))
set_option maxRecDepth 20000 in
set_option maxHeartbeats 1600000 in
theorem S_l2Put_w (N : Nat) (g_0 : Grf) (x_1 : Int × Int) (r : Grf) (h : S_l2Put N g_0 x_1 = some r) : PCall Try.prog 102 [gD g_0, .agg [.int x_1.1, .int x_1.2]] [(71, .pairs r.bars)] (.agg [.int r.n, .row 0 0 r.bars.length]) := by
  unfold S_l2Put at h
  refine pcall_intro (TT := TT) tt Try.func102 rfl rfl Try.ntmps102 (congrArg Array.toList Try.results102) rfl rfl fun w0 => ?_
  refine vSeq ?_
  refine vRegion ?_
  iterate 2 refine oBox rfl rfl rfl rfl rfl rfl rfl rfl rfl ?_
  refine oAlloc tt rfl rfl rfl rfl rfl rfl rfl rfl rfl ?_
  refine vNil ?_
  change VC _ _ _ _
  refine vSeq ?_
  refine vRegion ?_
  iterate 2 refine oVal tt rfl rfl rfl rfl rfl trivial ?_
  refine oEmpty tt (wNone rfl) rfl rfl rfl rfl ?_
  refine oPure (wNone rfl) (pBuild bld_impl_Graph rfl rfl) rfl rfl ?_
  refine oAlloc tt rfl rfl rfl rfl rfl rfl rfl rfl rfl ?_
  refine oStore tt rfl rfl rfl rfl rfl rfl rfl rfl rfl rfl rfl ⟨trivial, trivial, trivial⟩ ?_
  refine vNil ?_
  change VC _ _ _ _
  refine vSeq ?_
  refine vRegion ?_
  refine oVal tt rfl rfl rfl rfl rfl trivial ?_
  refine vNil ?_
  change VC _ _ _ _
  iterate 2 refine vSeq ?_
  refine vRegion ?_
  refine oVal tt rfl rfl rfl rfl rfl trivial ?_
  refine vNil ?_
  change VC _ _ _ _
  refine vJoin (F := fun k => S_l2Put_l1 N g_0 x_1 k) h (α := (List (Int × Int)) × Bool) (J := fun | (l10, placed11) => (⟨[(3, .ptr 3 0), (4, .ptr 4 0), (5, .ptr 5 0), (6, .bool placed11)], [(35, some (71, .pairs l10))], [(3, some [.int x_1.1, .int x_1.2]), (4, some [.int (0 : Int), .nil]), (5, some [.int g_0.n, .row 35 0 l10.length])]⟩ : PS)) ?_ ?_
  · rintro ⟨l10, placed11⟩ h
    show VC _ _ _ (⟨[(3, .ptr 3 0), (4, .ptr 4 0), (5, .ptr 5 0), (6, .bool placed11)], [(35, some (71, .pairs l10))], [(3, some [.int x_1.1, .int x_1.2]), (4, some [.int (0 : Int), .nil]), (5, some [.int g_0.n, .row 35 0 l10.length])]⟩ : PS)
    iterate 2 refine vSeq ?_
    refine vRegion ?_
    iterate 2 refine oVal tt rfl rfl rfl rfl rfl trivial ?_
    refine vNil ?_
    change VC _ _ _ _
    refine vCond rfl (fun hb1 => ?_) (fun hb1 => ?_)
    · replace h := cnd_t hb1 h
      refine vRegion ?_
      iterate 3 refine oVal tt rfl rfl rfl rfl rfl trivial ?_
      refine oBuild tt rfl rfl rfl rfl rfl rfl rfl rfl rfl rfl rfl ?_
      obtain ⟨hg2, h⟩ := grd_inv h
      refine oAppend tt rfl rfl rfl rfl rfl rfl rfl rfl rfl rfl rfl rfl rfl rfl rfl rfl (Nat.le_of_eq (Nat.zero_add _)) hg2 ?_
      refine oVal tt rfl rfl rfl rfl rfl trivial ?_
      refine oStore tt rfl rfl rfl rfl rfl rfl rfl rfl rfl rfl rfl ⟨trivial, trivial⟩ ?_
      refine vNil ?_
      change VC _ _ _ _
      refine vSeq ?_
      refine vRegion ?_
      refine oVal tt rfl rfl rfl rfl rfl trivial ?_
      refine oStore tt rfl rfl rfl rfl rfl rfl rfl rfl rfl rfl rfl ⟨trivial, trivial, trivial⟩ ?_
      refine vNil ?_
      change VC _ _ _ _
      refine vRet ?_
      change ∃ _, _
      cases h
      exact ⟨[35], _, rfl, ⟨rfl, trivial⟩, rfl, (.eq rfl), rfl⟩
    · replace h := cnd_f hb1 h
      refine vSkip ?_
      change VC _ _ _ _
      refine vSeq ?_
      refine vRegion ?_
      refine oVal tt rfl rfl rfl rfl rfl trivial ?_
      refine oStore tt rfl rfl rfl rfl rfl rfl rfl rfl rfl rfl rfl ⟨trivial, trivial, trivial⟩ ?_
      refine vNil ?_
      change VC _ _ _ _
      refine vRet ?_
      change ∃ _, _
      cases h
      exact ⟨[35], _, rfl, ⟨rfl, trivial⟩, rfl, (.eq rfl), rfl⟩
  · intro k h
    refine vBlock ?_
    refine vNilB 5 1 35 71 (.pairs []) rfl rfl rfl rfl rfl ?_
    refine vLoopS (α := (List (Int × Int)) × Bool × Int) (fun | (l17, placed18, i19) => (⟨[(2, .ptr 2 0), (3, .ptr 3 0), (4, .ptr 4 0), (5, .ptr 5 0), (6, .bool placed18), (7, .int i19)], [(35, some (71, .pairs l17))], [(2, some [.int g_0.n, .ro false (.pairs g_0.bars)]), (3, some [.int x_1.1, .int x_1.2]), (4, some [.int (0 : Int), .nil]), (5, some [.int g_0.n, .row 35 0 l17.length])]⟩ : PS)) (S_l2Put_l1 N g_0 x_1 k) h (En.of ⟨rfl, rfl, rfl, rfl, rfl, rfl, trivial⟩ ⟨rfl, trivial⟩ ⟨rfl, rfl, rfl, rfl, trivial⟩) (fun _ => rfl) ?_
    rintro n ⟨l17, placed18, i19⟩ h
    rw [S_l2Put_l1] at h
    show VC _ _ _ (⟨[(2, .ptr 2 0), (3, .ptr 3 0), (4, .ptr 4 0), (5, .ptr 5 0), (6, .bool placed18), (7, .int i19)], [(35, some (71, .pairs l17))], [(2, some [.int g_0.n, .ro false (.pairs g_0.bars)]), (3, some [.int x_1.1, .int x_1.2]), (4, some [.int (0 : Int), .nil]), (5, some [.int g_0.n, .row 35 0 l17.length])]⟩ : PS)
    iterate 2 refine vSeq ?_
    refine vRegion ?_
    iterate 5 refine oVal tt rfl rfl rfl rfl rfl trivial ?_
    refine vNil ?_
    change VC _ _ _ _
    refine vCond rfl (fun hb3 => ?_) (fun hb3 => ?_)
    · replace h := cnd_t hb3 h
      refine vSkip ?_
      change VC _ _ _ _
      refine vSeq ?_
      refine vBlock ?_
      iterate 2 refine vSeq ?_
      refine vRegionD (by kernel_rfl) (by kernel_rfl) ?_
      iterate 3 refine cVal tt rfl (wNone rfl) rfl rfl rfl trivial ?_
      refine cSplit rfl rfl rfl (fun hb4 => ?_) (fun hb4 => ?_)
      · replace h := cnd_t hb4 h
        iterate 3 refine cVal tt rfl (wSome rfl rfl rfl rfl hb4) rfl rfl rfl trivial ?_
        obtain ⟨hg5, h⟩ := grd_inv h
        refine cVal tt rfl (wSome rfl rfl rfl rfl hb4) rfl rfl rfl hg5 ?_
        iterate 2 refine cVal tt rfl (wSome rfl rfl rfl rfl hb4) rfl rfl rfl trivial ?_
        obtain ⟨v21, hc6, h⟩ := bind_inv h
        refine cCall (S_l2After_w N (g_0.bars.getD ((i19).toNat) (0, 0)) x_1 v21 hc6) rfl (wSome rfl rfl rfl rfl hb4) rfl rfl rfl rfl rfl rfl ⟨⟨rfl, rfl, trivial⟩, ⟨rfl, rfl, trivial⟩, trivial⟩ ?_
        refine cVal tt rfl (wSome rfl rfl rfl rfl hb4) rfl rfl rfl trivial ?_
        refine cPickT rfl (wNone rfl) rfl rfl rfl hb4 rfl ?_
        refine cNil ?_
        change VC _ _ _ _
        refine vCond rfl (fun hb7 => ?_) (fun hb7 => ?_)
        · replace h := cnd_t hb7 h
          refine vSeq ?_
          refine vRegion ?_
          iterate 3 refine oVal tt rfl rfl rfl rfl rfl trivial ?_
          refine oBuild tt rfl rfl rfl rfl rfl rfl rfl rfl rfl rfl rfl ?_
          obtain ⟨hg8, h⟩ := grd_inv h
          refine oAppend tt rfl rfl rfl rfl rfl rfl rfl rfl rfl rfl rfl rfl rfl rfl rfl rfl (Nat.le_of_eq (Nat.zero_add _)) hg8 ?_
          refine oVal tt rfl rfl rfl rfl rfl trivial ?_
          refine oStore tt rfl rfl rfl rfl rfl rfl rfl rfl rfl rfl rfl ⟨trivial, trivial⟩ ?_
          refine vNil ?_
          change VC _ _ _ _
          refine vRegion ?_
          refine oVal tt rfl rfl rfl rfl rfl trivial ?_
          refine vNil ?_
          change VC _ _ _ _
          refine vRegionN 8 [7] [0, 1, 0, 4, 0, 28, 60, 124, 255, 511, 1023] (by kernel_rfl) (by kernel_rfl) (by kernel_rfl) (by kernel_rfl) (by kernel_rfl) rfl (by rfl) ?_
          iterate 5 refine nVal tt rfl (wNone rfl) rfl rfl rfl rfl rfl trivial ?_
          refine nVal tt rfl (wNone rfl) rfl rfl rfl rfl rfl hg5 ?_
          refine nVal tt rfl (wNone rfl) rfl rfl rfl rfl rfl trivial ?_
          refine nBuild tt (wNone rfl) rfl rfl rfl rfl rfl rfl rfl rfl rfl rfl rfl rfl ?_
          refine nNil ?_
          change VO _ _ _ _ _
          obtain ⟨hg9, h⟩ := grd_inv h
          refine oAppend tt rfl rfl rfl rfl rfl rfl rfl rfl rfl rfl rfl rfl rfl rfl rfl rfl (Nat.le_of_eq (Nat.zero_add _)) hg9 ?_
          refine oVal tt rfl rfl rfl rfl rfl trivial ?_
          refine oStore tt rfl rfl rfl rfl rfl rfl rfl rfl rfl rfl rfl ⟨trivial, trivial⟩ ?_
          refine vNil ?_
          change VC _ _ _ _
          refine vRegion ?_
          refine oVal tt rfl rfl rfl rfl rfl trivial ?_
          obtain ⟨hg10, h⟩ := grd_inv h
          refine oVal tt rfl rfl rfl rfl rfl hg10 ?_
          refine oVal tt rfl rfl rfl rfl rfl trivial ?_
          refine vNil ?_
          change ∃ _, _
          exact ⟨(((l17 ++ ([(x_1.1, x_1.2)] : List (Int × Int))) ++ ([((g_0.bars.getD ((i19).toNat) (0, 0)).1, (g_0.bars.getD ((i19).toNat) (0, 0)).2)] : List (Int × Int))), true, (i19 + (1 : Int))), (En.of ⟨rfl, rfl, rfl, rfl, rfl, rfl, trivial⟩ ⟨rfl, trivial⟩ ⟨rfl, rfl, rfl, rfl, trivial⟩), h⟩
        · replace h := cnd_f hb7 h
          refine vSkip ?_
          change VC _ _ _ _
          refine vRegionN 8 [7] [0, 1, 0, 4, 0, 28, 60, 124, 255, 511, 1023] (by kernel_rfl) (by kernel_rfl) (by kernel_rfl) (by kernel_rfl) (by kernel_rfl) rfl (by rfl) ?_
          iterate 5 refine nVal tt rfl (wNone rfl) rfl rfl rfl rfl rfl trivial ?_
          refine nVal tt rfl (wNone rfl) rfl rfl rfl rfl rfl hg5 ?_
          refine nVal tt rfl (wNone rfl) rfl rfl rfl rfl rfl trivial ?_
          refine nBuild tt (wNone rfl) rfl rfl rfl rfl rfl rfl rfl rfl rfl rfl rfl rfl ?_
          refine nNil ?_
          change VO _ _ _ _ _
          obtain ⟨hg11, h⟩ := grd_inv h
          refine oAppend tt rfl rfl rfl rfl rfl rfl rfl rfl rfl rfl rfl rfl rfl rfl rfl rfl (Nat.le_of_eq (Nat.zero_add _)) hg11 ?_
          refine oVal tt rfl rfl rfl rfl rfl trivial ?_
          refine oStore tt rfl rfl rfl rfl rfl rfl rfl rfl rfl rfl rfl ⟨trivial, trivial⟩ ?_
          refine vNil ?_
          change VC _ _ _ _
          refine vRegion ?_
          refine oVal tt rfl rfl rfl rfl rfl trivial ?_
          obtain ⟨hg12, h⟩ := grd_inv h
          refine oVal tt rfl rfl rfl rfl rfl hg12 ?_
          refine oVal tt rfl rfl rfl rfl rfl trivial ?_
          refine vNil ?_
          change ∃ _, _
          exact ⟨((l17 ++ ([((g_0.bars.getD ((i19).toNat) (0, 0)).1, (g_0.bars.getD ((i19).toNat) (0, 0)).2)] : List (Int × Int))), placed18, (i19 + (1 : Int))), (En.of ⟨rfl, rfl, rfl, rfl, rfl, rfl, trivial⟩ ⟨rfl, trivial⟩ ⟨rfl, rfl, rfl, rfl, trivial⟩), h⟩
      · replace h := cnd_f hb4 h
        iterate 8 refine cNoT rfl rfl rfl rfl hb4 rfl rfl ?_
        refine cPickF rfl (wNone rfl) rfl rfl rfl hb4 rfl ?_
        refine cNil ?_
        change VC _ _ _ _
        refine vCondF rfl rfl ?_
        refine vSkip ?_
        change VC _ _ _ _
        refine vRegionN 8 [7] [0, 1, 0, 4, 0, 28, 60, 124, 255, 511, 1023] (by kernel_rfl) (by kernel_rfl) (by kernel_rfl) (by kernel_rfl) (by kernel_rfl) rfl (by rfl) ?_
        iterate 5 refine nVal tt rfl (wNone rfl) rfl rfl rfl rfl rfl trivial ?_
        obtain ⟨hg13, h⟩ := grd_inv h
        refine nVal tt rfl (wNone rfl) rfl rfl rfl rfl rfl hg13 ?_
        refine nVal tt rfl (wNone rfl) rfl rfl rfl rfl rfl trivial ?_
        refine nBuild tt (wNone rfl) rfl rfl rfl rfl rfl rfl rfl rfl rfl rfl rfl rfl ?_
        refine nNil ?_
        change VO _ _ _ _ _
        obtain ⟨hg14, h⟩ := grd_inv h
        refine oAppend tt rfl rfl rfl rfl rfl rfl rfl rfl rfl rfl rfl rfl rfl rfl rfl rfl (Nat.le_of_eq (Nat.zero_add _)) hg14 ?_
        refine oVal tt rfl rfl rfl rfl rfl trivial ?_
        refine oStore tt rfl rfl rfl rfl rfl rfl rfl rfl rfl rfl rfl ⟨trivial, trivial⟩ ?_
        refine vNil ?_
        change VC _ _ _ _
        refine vRegion ?_
        refine oVal tt rfl rfl rfl rfl rfl trivial ?_
        obtain ⟨hg15, h⟩ := grd_inv h
        refine oVal tt rfl rfl rfl rfl rfl hg15 ?_
        refine oVal tt rfl rfl rfl rfl rfl trivial ?_
        refine vNil ?_
        change ∃ _, _
        exact ⟨((l17 ++ ([((g_0.bars.getD ((i19).toNat) (0, 0)).1, (g_0.bars.getD ((i19).toNat) (0, 0)).2)] : List (Int × Int))), placed18, (i19 + (1 : Int))), (En.of ⟨rfl, rfl, rfl, rfl, rfl, rfl, trivial⟩ ⟨rfl, trivial⟩ ⟨rfl, rfl, rfl, rfl, trivial⟩), h⟩
    · replace h := cnd_f hb3 h
      refine vExit ?_
      change ∃ _, _
      exact ⟨(l17, placed18), (En.of ⟨rfl, rfl, rfl, rfl, trivial⟩ ⟨rfl, trivial⟩ ⟨rfl, rfl, rfl, trivial⟩), h⟩
def S_l20Held_l1 (N : Nat) (p_0 : Pin) (k : ((List (Int × Int)) × Int) → Option (Grf)) : Nat → ((List (Int × Int)) × Int × Int) → Option (Grf)
  | 0, _ => none
  | n + 1, (l23, i24, c25) =>
    cnd (decide (i24 < (p_0.ground.length : Int))) (
      grd (0 ≤ (0 : Int) ∧ (0 : Int) < (p_0.ground.length : Int)) <|
      grd (0 ≤ i24 ∧ i24 < (p_0.ground.length : Int)) <|
      (S_l2Put N (⟨c25, l23⟩ : Grf) ((p_0.ground.getD ((0 : Int).toNat) 0), (p_0.ground.getD ((i24).toNat) 0))).bind fun v28 =>
      cnd (decide (i24 > (1 : Int))) (
        grd (0 ≤ (1 : Int) ∧ (1 : Int) < (p_0.ground.length : Int)) <|
        (S_l2Put N v28 ((p_0.ground.getD ((1 : Int).toNat) 0), (p_0.ground.getD ((i24).toNat) 0))).bind fun v29 =>
        grd (Rg64 (i24 + (1 : Int))) <|
        S_l20Held_l1 N p_0 k n (v29.bars, (i24 + (1 : Int)), v29.n)) (
        grd (Rg64 (i24 + (1 : Int))) <|
        S_l20Held_l1 N p_0 k n (v28.bars, (i24 + (1 : Int)), v28.n))) (
      k (l23, c25))
def S_l20Held (N : Nat) (p_0 : Pin) : Option (Grf) :=
  S_l20Held_l1 N p_0 (fun (x : (List (Int × Int)) × Int) =>
      match x with
      | (l14, c15) =>
        some (⟨c15, l14⟩ : Grf)) N (([] : List (Int × Int)), (1 : Int), p_0.g.n)
set_option maxRecDepth 20000 in
set_option maxHeartbeats 1600000 in
theorem S_l20Held_w (N : Nat) (p_0 : Pin) (r : Grf) (h : S_l20Held N p_0 = some r) : PCall Try.prog 94 [pD p_0] [(71, .pairs r.bars)] (.agg [.int r.n, .row 0 0 r.bars.length]) := by
  unfold S_l20Held at h
  refine pcall_intro (TT := TT) tt Try.func94 rfl rfl Try.ntmps94 (congrArg Array.toList Try.results94) rfl rfl fun w0 => ?_
  refine vSeq ?_
  refine vRegion ?_
  refine oBox rfl rfl rfl rfl rfl rfl rfl rfl rfl ?_
  refine oAlloc tt rfl rfl rfl rfl rfl rfl rfl rfl rfl ?_
  refine vNil ?_
  change VC _ _ _ _
  refine vSeq ?_
  refine vRegion ?_
  iterate 3 refine oVal tt rfl rfl rfl rfl rfl trivial ?_
  refine oEmpty tt (wNone rfl) rfl rfl rfl rfl ?_
  refine oPure (wNone rfl) (pBuild bld_impl_Graph rfl rfl) rfl rfl ?_
  refine oAlloc tt rfl rfl rfl rfl rfl rfl rfl rfl rfl ?_
  refine oStore tt rfl rfl rfl rfl rfl rfl rfl rfl rfl rfl rfl ⟨trivial, trivial, trivial⟩ ?_
  refine vNil ?_
  change VC _ _ _ _
  iterate 2 refine vSeq ?_
  refine vRegion ?_
  refine oVal tt rfl rfl rfl rfl rfl trivial ?_
  refine vNil ?_
  change VC _ _ _ _
  refine vJoin (F := fun k => S_l20Held_l1 N p_0 k) h (α := (List (Int × Int)) × Int) (J := fun | (l14, c15) => (⟨[(2, .ptr 2 0), (3, .ptr 3 0)], [(9503, some (71, .pairs l14))], [(2, some [.int (0 : Int), .nil]), (3, some [.int c15, .row 9503 0 l14.length])]⟩ : PS)) ?_ ?_
  · rintro ⟨l14, c15⟩ h
    show VC _ _ _ (⟨[(2, .ptr 2 0), (3, .ptr 3 0)], [(9503, some (71, .pairs l14))], [(2, some [.int (0 : Int), .nil]), (3, some [.int c15, .row 9503 0 l14.length])]⟩ : PS)
    refine vSeq ?_
    refine vRegion ?_
    refine oVal tt rfl rfl rfl rfl rfl trivial ?_
    refine oStore tt rfl rfl rfl rfl rfl rfl rfl rfl rfl rfl rfl ⟨trivial, trivial, trivial⟩ ?_
    refine vNil ?_
    change VC _ _ _ _
    refine vRet ?_
    change ∃ _, _
    cases h
    exact ⟨[9503], _, rfl, ⟨rfl, trivial⟩, rfl, (.eq rfl), rfl⟩
  · intro k h
    refine vBlock ?_
    refine vNilB 3 1 9504 71 (.pairs []) rfl rfl rfl rfl rfl ?_
    refine vLoopS (α := (List (Int × Int)) × Int × Int) (fun | (l23, i24, c25) => (⟨[(1, .ptr 1 0), (2, .ptr 2 0), (3, .ptr 3 0), (4, .int i24)], [(9504, some (71, .pairs l23))], [(1, some [.int p_0.g.n, .ro false (.pairs p_0.g.bars), .ro false (.ints p_0.ground)]), (2, some [.int (0 : Int), .nil]), (3, some [.int c25, .row 9504 0 l23.length])]⟩ : PS)) (S_l20Held_l1 N p_0 k) h (En.of ⟨rfl, rfl, rfl, rfl, trivial⟩ ⟨rfl, trivial⟩ ⟨rfl, rfl, rfl, trivial⟩) (fun _ => rfl) ?_
    rintro n ⟨l23, i24, c25⟩ h
    rw [S_l20Held_l1] at h
    show VC _ _ _ (⟨[(1, .ptr 1 0), (2, .ptr 2 0), (3, .ptr 3 0), (4, .int i24)], [(9504, some (71, .pairs l23))], [(1, some [.int p_0.g.n, .ro false (.pairs p_0.g.bars), .ro false (.ints p_0.ground)]), (2, some [.int (0 : Int), .nil]), (3, some [.int c25, .row 9504 0 l23.length])]⟩ : PS)
    iterate 2 refine vSeq ?_
    refine vRegion ?_
    iterate 5 refine oVal tt rfl rfl rfl rfl rfl trivial ?_
    refine vNil ?_
    change VC _ _ _ _
    refine vCond rfl (fun hb1 => ?_) (fun hb1 => ?_)
    · replace h := cnd_t hb1 h
      refine vSkip ?_
      change VC _ _ _ _
      refine vSeq ?_
      refine vBlock ?_
      refine vSeq ?_
      refine vRegionN 11 [] [0, 0, 2, 6, 14, 0, 32, 0, 224, 480, 1022, 2047, 4095] (by kernel_rfl) (by kernel_rfl) (by kernel_rfl) (by kernel_rfl) (by kernel_rfl) rfl (by rfl) ?_
      iterate 3 refine nVal tt rfl (wNone rfl) rfl rfl rfl rfl rfl trivial ?_
      obtain ⟨hg2, h⟩ := grd_inv h
      refine nVal tt rfl (wNone rfl) rfl rfl rfl rfl rfl hg2 ?_
      iterate 4 refine nVal tt rfl (wNone rfl) rfl rfl rfl rfl rfl trivial ?_
      obtain ⟨hg3, h⟩ := grd_inv h
      refine nVal tt rfl (wNone rfl) rfl rfl rfl rfl rfl hg3 ?_
      refine nVal tt rfl (wNone rfl) rfl rfl rfl rfl rfl trivial ?_
      refine nPure (wNone rfl) (pBuild bld_impl_Bar rfl rfl) rfl rfl rfl rfl ?_
      refine nNil ?_
      change VO _ _ _ _ _
      obtain ⟨v28, hc4, h⟩ := bind_inv h
      refine oCall (S_l2Put_w N (⟨c25, l23⟩ : Grf) ((p_0.ground.getD ((0 : Int).toNat) 0), (p_0.ground.getD ((i24).toNat) 0)) v28 hc4) rfl rfl rfl rfl rfl rfl rfl rfl ⟨⟨rfl, (.inl ⟨rfl, rfl⟩), trivial⟩, ⟨rfl, rfl, trivial⟩, trivial⟩ ?_
      refine oStore tt rfl rfl rfl rfl rfl rfl rfl rfl rfl rfl rfl ⟨trivial, trivial, trivial⟩ ?_
      refine vNil ?_
      change VC _ _ _ _
      refine vSeq ?_
      refine vRegion ?_
      iterate 2 refine oVal tt rfl rfl rfl rfl rfl trivial ?_
      refine vNil ?_
      change VC _ _ _ _
      refine vCond rfl (fun hb5 => ?_) (fun hb5 => ?_)
      · replace h := cnd_t hb5 h
        refine vRegionN 11 [] [0, 0, 2, 6, 14, 0, 32, 0, 224, 480, 1022, 2047, 4095] (by kernel_rfl) (by kernel_rfl) (by kernel_rfl) (by kernel_rfl) (by kernel_rfl) rfl (by rfl) ?_
        iterate 3 refine nVal tt rfl (wNone rfl) rfl rfl rfl rfl rfl trivial ?_
        obtain ⟨hg6, h⟩ := grd_inv h
        refine nVal tt rfl (wNone rfl) rfl rfl rfl rfl rfl hg6 ?_
        iterate 4 refine nVal tt rfl (wNone rfl) rfl rfl rfl rfl rfl trivial ?_
        refine nVal tt rfl (wNone rfl) rfl rfl rfl rfl rfl hg3 ?_
        refine nVal tt rfl (wNone rfl) rfl rfl rfl rfl rfl trivial ?_
        refine nPure (wNone rfl) (pBuild bld_impl_Bar rfl rfl) rfl rfl rfl rfl ?_
        refine nNil ?_
        change VO _ _ _ _ _
        obtain ⟨v29, hc7, h⟩ := bind_inv h
        refine oCall (S_l2Put_w N v28 ((p_0.ground.getD ((1 : Int).toNat) 0), (p_0.ground.getD ((i24).toNat) 0)) v29 hc7) rfl rfl rfl rfl rfl rfl rfl rfl ⟨⟨rfl, (.inl ⟨rfl, rfl⟩), trivial⟩, ⟨rfl, rfl, trivial⟩, trivial⟩ ?_
        refine oStore tt rfl rfl rfl rfl rfl rfl rfl rfl rfl rfl rfl ⟨trivial, trivial, trivial⟩ ?_
        refine vNil ?_
        change VC _ _ _ _
        refine vRegion ?_
        refine oVal tt rfl rfl rfl rfl rfl trivial ?_
        obtain ⟨hg8, h⟩ := grd_inv h
        refine oVal tt rfl rfl rfl rfl rfl hg8 ?_
        refine oVal tt rfl rfl rfl rfl rfl trivial ?_
        refine vNil ?_
        change ∃ _, _
        exact ⟨(v29.bars, (i24 + (1 : Int)), v29.n), (En.ren [9504] [1420] rfl ⟨.inr rfl, .inr rfl, .inr rfl, .inr rfl, trivial⟩ ⟨.inr rfl, trivial⟩ ⟨.inr ⟨_, _, rfl, rfl, ⟨.inr rfl, .inr rfl, .inr rfl, trivial⟩⟩, .inr ⟨_, _, rfl, rfl, ⟨.inr rfl, .inr rfl, trivial⟩⟩, .inr ⟨_, _, rfl, rfl, ⟨.inr rfl, .inr rfl, trivial⟩⟩, trivial⟩), h⟩
      · replace h := cnd_f hb5 h
        refine vSkip ?_
        change VC _ _ _ _
        refine vRegion ?_
        refine oVal tt rfl rfl rfl rfl rfl trivial ?_
        obtain ⟨hg9, h⟩ := grd_inv h
        refine oVal tt rfl rfl rfl rfl rfl hg9 ?_
        refine oVal tt rfl rfl rfl rfl rfl trivial ?_
        refine vNil ?_
        change ∃ _, _
        exact ⟨(v28.bars, (i24 + (1 : Int)), v28.n), (En.ren [9504] [1280] rfl ⟨.inr rfl, .inr rfl, .inr rfl, .inr rfl, trivial⟩ ⟨.inr rfl, trivial⟩ ⟨.inr ⟨_, _, rfl, rfl, ⟨.inr rfl, .inr rfl, .inr rfl, trivial⟩⟩, .inr ⟨_, _, rfl, rfl, ⟨.inr rfl, .inr rfl, trivial⟩⟩, .inr ⟨_, _, rfl, rfl, ⟨.inr rfl, .inr rfl, trivial⟩⟩, trivial⟩), h⟩
    · replace h := cnd_f hb1 h
      refine vExit ?_
      change ∃ _, _
      exact ⟨(l23, c25), (En.ren [9503] [9504] rfl ⟨.inr rfl, .inr rfl, trivial⟩ ⟨.inr rfl, trivial⟩ ⟨.inr ⟨_, _, rfl, rfl, ⟨.inr rfl, .inr rfl, trivial⟩⟩, .inr ⟨_, _, rfl, rfl, ⟨.inr rfl, .inr rfl, trivial⟩⟩, trivial⟩), h⟩
def S_l20All_l1 (N : Nat) (p_0 : Pin) (k : ((List (Int × Int)) × Int) → Option (Grf)) : Nat → ((List (Int × Int)) × Int × Int) → Option (Grf)
  | 0, _ => none
  | n + 1, (l12, i13, c14) =>
    cnd (decide (i13 < (p_0.g.bars.length : Int))) (
      grd (0 ≤ i13 ∧ i13 < (p_0.g.bars.length : Int)) <|
      (S_l2Put N (⟨c14, l12⟩ : Grf) (p_0.g.bars.getD ((i13).toNat) (0, 0))).bind fun v16 =>
      grd (Rg64 (i13 + (1 : Int))) <|
      S_l20All_l1 N p_0 k n (v16.bars, (i13 + (1 : Int)), v16.n)) (
      k (l12, c14))
def S_l20All (N : Nat) (p_0 : Pin) : Option (Grf) :=
  (S_l20Held N p_0).bind fun v1 =>
  S_l20All_l1 N p_0 (fun (x : (List (Int × Int)) × Int) =>
      match x with
      | (l8, c9) =>
        some (⟨c9, l8⟩ : Grf)) N (v1.bars, (0 : Int), v1.n)
set_option maxRecDepth 20000 in
set_option maxHeartbeats 1600000 in
theorem S_l20All_w (N : Nat) (p_0 : Pin) (r : Grf) (h : S_l20All N p_0 = some r) : PCall Try.prog 67 [pD p_0] [(71, .pairs r.bars)] (.agg [.int r.n, .row 0 0 r.bars.length]) := by
  unfold S_l20All at h
  refine pcall_intro (TT := TT) tt Try.func67 rfl rfl Try.ntmps67 (congrArg Array.toList Try.results67) rfl rfl fun w0 => ?_
  refine vSeq ?_
  refine vRegion ?_
  refine oBox rfl rfl rfl rfl rfl rfl rfl rfl rfl ?_
  refine oAlloc tt rfl rfl rfl rfl rfl rfl rfl rfl rfl ?_
  refine vNil ?_
  change VC _ _ _ _
  refine vSeq ?_
  refine vRegion ?_
  refine oVal tt rfl rfl rfl rfl rfl trivial ?_
  obtain ⟨v1, hc1, h⟩ := bind_inv h
  refine oCall (S_l20Held_w N p_0 v1 hc1) rfl rfl rfl rfl rfl rfl rfl rfl ⟨⟨rfl, rfl, rfl, trivial⟩, trivial⟩ ?_
  refine oAlloc tt rfl rfl rfl rfl rfl rfl rfl rfl rfl ?_
  refine oStore tt rfl rfl rfl rfl rfl rfl rfl rfl rfl rfl rfl ⟨trivial, trivial, trivial⟩ ?_
  refine vNil ?_
  change VC _ _ _ _
  iterate 2 refine vSeq ?_
  refine vRegion ?_
  refine oVal tt rfl rfl rfl rfl rfl trivial ?_
  refine vNil ?_
  change VC _ _ _ _
  refine vJoin (F := fun k => S_l20All_l1 N p_0 k) h (α := (List (Int × Int)) × Int) (J := fun | (l8, c9) => (⟨[(2, .ptr 2 0), (3, .ptr 3 0)], [(1060, some (71, .pairs l8))], [(2, some [.int (0 : Int), .nil]), (3, some [.int c9, .row 1060 0 l8.length])]⟩ : PS)) ?_ ?_
  · rintro ⟨l8, c9⟩ h
    show VC _ _ _ (⟨[(2, .ptr 2 0), (3, .ptr 3 0)], [(1060, some (71, .pairs l8))], [(2, some [.int (0 : Int), .nil]), (3, some [.int c9, .row 1060 0 l8.length])]⟩ : PS)
    refine vSeq ?_
    refine vRegion ?_
    refine oVal tt rfl rfl rfl rfl rfl trivial ?_
    refine oStore tt rfl rfl rfl rfl rfl rfl rfl rfl rfl rfl rfl ⟨trivial, trivial, trivial⟩ ?_
    refine vNil ?_
    change VC _ _ _ _
    refine vRet ?_
    change ∃ _, _
    cases h
    exact ⟨[1060], _, rfl, ⟨rfl, trivial⟩, rfl, (.eq rfl), rfl⟩
  · intro k h
    refine vBlock ?_
    refine vLoopS (α := (List (Int × Int)) × Int × Int) (fun | (l12, i13, c14) => (⟨[(1, .ptr 1 0), (2, .ptr 2 0), (3, .ptr 3 0), (4, .int i13)], [(1060, some (71, .pairs l12))], [(1, some [.int p_0.g.n, .ro false (.pairs p_0.g.bars), .ro false (.ints p_0.ground)]), (2, some [.int (0 : Int), .nil]), (3, some [.int c14, .row 1060 0 l12.length])]⟩ : PS)) (S_l20All_l1 N p_0 k) h (En.of ⟨rfl, rfl, rfl, rfl, trivial⟩ ⟨rfl, trivial⟩ ⟨rfl, rfl, rfl, trivial⟩) (fun _ => rfl) ?_
    rintro n ⟨l12, i13, c14⟩ h
    rw [S_l20All_l1] at h
    show VC _ _ _ (⟨[(1, .ptr 1 0), (2, .ptr 2 0), (3, .ptr 3 0), (4, .int i13)], [(1060, some (71, .pairs l12))], [(1, some [.int p_0.g.n, .ro false (.pairs p_0.g.bars), .ro false (.ints p_0.ground)]), (2, some [.int (0 : Int), .nil]), (3, some [.int c14, .row 1060 0 l12.length])]⟩ : PS)
    iterate 2 refine vSeq ?_
    refine vRegion ?_
    iterate 6 refine oVal tt rfl rfl rfl rfl rfl trivial ?_
    refine vNil ?_
    change VC _ _ _ _
    refine vCond rfl (fun hb2 => ?_) (fun hb2 => ?_)
    · replace h := cnd_t hb2 h
      refine vSkip ?_
      change VC _ _ _ _
      refine vSeq ?_
      refine vBlock ?_
      refine vRegionN 7 [] [0, 0, 2, 6, 0, 30, 62, 127, 255] (by kernel_rfl) (by kernel_rfl) (by kernel_rfl) (by kernel_rfl) (by kernel_rfl) rfl (by rfl) ?_
      iterate 5 refine nVal tt rfl (wNone rfl) rfl rfl rfl rfl rfl trivial ?_
      obtain ⟨hg3, h⟩ := grd_inv h
      refine nVal tt rfl (wNone rfl) rfl rfl rfl rfl rfl hg3 ?_
      refine nVal tt rfl (wNone rfl) rfl rfl rfl rfl rfl trivial ?_
      refine nNil ?_
      change VO _ _ _ _ _
      obtain ⟨v16, hc4, h⟩ := bind_inv h
      refine oCall (S_l2Put_w N (⟨c14, l12⟩ : Grf) (p_0.g.bars.getD ((i13).toNat) (0, 0)) v16 hc4) rfl rfl rfl rfl rfl rfl rfl rfl ⟨⟨rfl, (.inl ⟨rfl, rfl⟩), trivial⟩, ⟨rfl, rfl, trivial⟩, trivial⟩ ?_
      refine oStore tt rfl rfl rfl rfl rfl rfl rfl rfl rfl rfl rfl ⟨trivial, trivial, trivial⟩ ?_
      refine vNil ?_
      change VC _ _ _ _
      refine vRegion ?_
      refine oVal tt rfl rfl rfl rfl rfl trivial ?_
      obtain ⟨hg5, h⟩ := grd_inv h
      refine oVal tt rfl rfl rfl rfl rfl hg5 ?_
      refine oVal tt rfl rfl rfl rfl rfl trivial ?_
      refine vNil ?_
      change ∃ _, _
      exact ⟨(v16.bars, (i13 + (1 : Int)), v16.n), (En.ren [1060] [1220] rfl ⟨.inr rfl, .inr rfl, .inr rfl, .inr rfl, trivial⟩ ⟨.inr rfl, trivial⟩ ⟨.inr ⟨_, _, rfl, rfl, ⟨.inr rfl, .inr rfl, .inr rfl, trivial⟩⟩, .inr ⟨_, _, rfl, rfl, ⟨.inr rfl, .inr rfl, trivial⟩⟩, .inr ⟨_, _, rfl, rfl, ⟨.inr rfl, .inr rfl, trivial⟩⟩, trivial⟩), h⟩
    · replace h := cnd_f hb2 h
      refine vExit ?_
      change ∃ _, _
      exact ⟨(l12, c14), (En.of ⟨rfl, rfl, trivial⟩ ⟨rfl, trivial⟩ ⟨rfl, rfl, trivial⟩), h⟩
def S_NewPebbles_l1 (N : Nat) (g_0 : Grf) (k_1 : Int) (k : (List Int) → Option (Pbl × Bool)) : Nat → ((List Int) × Int) → Option (Pbl × Bool)
  | 0, _ => none
  | n + 1, (l9, i10) =>
    cnd (decide (i10 < g_0.n)) (
      grd (l9.length + 1 ≤ 4294967296) <|
      grd (Rg64 (i10 + (1 : Int))) <|
      S_NewPebbles_l1 N g_0 k_1 k n ((l9 ++ ([k_1] : List Int)), (i10 + (1 : Int)))) (
      k l9)
def S_NewPebbles (N : Nat) (g_0 : Grf) (k_1 : Int) : Option (Pbl × Bool) :=
  (S_IsGraph N g_0).bind fun v1 =>
  cnd (!v1) (
    some ((⟨([] : List Int), [], []⟩ : Pbl), false)) (
    (S_l1In N k_1 (1 : Int) (3 : Int)).bind fun v2 =>
    cnd (!v2) (
      some ((⟨([] : List Int), [], []⟩ : Pbl), false)) (
      S_NewPebbles_l1 N g_0 k_1 (fun (l6 : List Int) =>
            some ((⟨l6, [], []⟩ : Pbl), true)) N (([] : List Int), (0 : Int))))
set_option maxRecDepth 20000 in
set_option maxHeartbeats 1600000 in
theorem S_NewPebbles_w (N : Nat) (g_0 : Grf) (k_1 : Int) (r : Pbl × Bool) (h : S_NewPebbles N g_0 k_1 = some r) : PCall Try.prog 114 [gD g_0, .int k_1] [(3, .ints r.1.free)] (.tup [.agg [.row 0 0 r.1.free.length, .nil, .nil], .bool r.2]) := by
  unfold S_NewPebbles at h
  refine pcall_intro (TT := TT) tt Try.func114 rfl rfl Try.ntmps114 (congrArg Array.toList Try.results114) rfl rfl fun w0 => ?_
  refine vSeq ?_
  refine vRegion ?_
  refine oBox rfl rfl rfl rfl rfl rfl rfl rfl rfl ?_
  refine oAlloc tt rfl rfl rfl rfl rfl rfl rfl rfl rfl ?_
  refine oVal tt rfl rfl rfl rfl rfl trivial ?_
  refine vNil ?_
  change VC _ _ _ _
  refine vSeq ?_
  refine vRegion ?_
  iterate 3 refine oEmpty tt (wNone rfl) rfl rfl rfl rfl ?_
  refine oPure (wNone rfl) (pBuild bld_impl_Pebbles rfl rfl) rfl rfl ?_
  refine oAlloc tt rfl rfl rfl rfl rfl rfl rfl rfl rfl ?_
  refine oStore tt rfl rfl rfl rfl rfl rfl rfl rfl rfl rfl rfl ⟨trivial, trivial, trivial, trivial⟩ ?_
  refine vNil ?_
  change VC _ _ _ _
  iterate 2 refine vSeq ?_
  refine vRegion ?_
  refine oVal tt rfl rfl rfl rfl rfl trivial ?_
  obtain ⟨v1, hc1, h⟩ := bind_inv h
  refine oCall (S_IsGraph_w N g_0 v1 hc1) rfl rfl rfl rfl rfl rfl rfl rfl ⟨⟨rfl, rfl, trivial⟩, trivial⟩ ?_
  iterate 2 refine oVal tt rfl rfl rfl rfl rfl trivial ?_
  refine oSplit rfl rfl rfl (fun hb2 => ?_) (fun hb2 => ?_)
  · replace h := cnd_t hb2 h
    iterate 3 refine oNoF rfl rfl rfl rfl hb2 rfl rfl ?_
    refine oPick rfl rfl rfl rfl rfl hb2 rfl ?_
    refine vNil ?_
    change VC _ _ _ _
    refine vCondT rfl rfl ?_
    refine vSeq ?_
    refine vRegion ?_
    refine oPure (wNone rfl) (pBuild bld_impl_Pebbles rfl rfl) rfl rfl ?_
    refine oStore tt rfl rfl rfl rfl rfl rfl rfl rfl rfl rfl rfl ⟨trivial, trivial, trivial, trivial⟩ ?_
    refine oVal tt rfl rfl rfl rfl rfl trivial ?_
    refine vNil ?_
    change VC _ _ _ _
    refine vNilB 4 0 9001 3 (.ints []) rfl rfl rfl rfl rfl ?_
    refine vRet ?_
    change ∃ _, _
    cases h
    exact ⟨[9001], _, rfl, ⟨rfl, trivial⟩, rfl, (.eq rfl), rfl⟩
  · replace h := cnd_f hb2 h
    refine oValG tt rfl rfl rfl rfl rfl hb2 rfl rfl rfl trivial ?_
    obtain ⟨v2, hc3, h⟩ := bind_inv h
    refine oCallG (S_l1In_w N k_1 (1 : Int) (3 : Int) v2 hc3) rfl rfl rfl rfl hb2 rfl rfl rfl rfl rfl rfl rfl ⟨rfl, rfl, rfl, trivial⟩ ?_
    refine oValG tt rfl rfl rfl rfl rfl hb2 rfl rfl rfl trivial ?_
    refine oPickF rfl rfl rfl rfl rfl hb2 rfl ?_
    refine vNil ?_
    change VC _ _ _ _
    refine vCond rfl (fun hb4 => ?_) (fun hb4 => ?_)
    · replace h := cnd_t hb4 h
      refine vSeq ?_
      refine vRegion ?_
      refine oPure (wNone rfl) (pBuild bld_impl_Pebbles rfl rfl) rfl rfl ?_
      refine oStore tt rfl rfl rfl rfl rfl rfl rfl rfl rfl rfl rfl ⟨trivial, trivial, trivial, trivial⟩ ?_
      refine oVal tt rfl rfl rfl rfl rfl trivial ?_
      refine vNil ?_
      change VC _ _ _ _
      refine vNilB 4 0 9001 3 (.ints []) rfl rfl rfl rfl rfl ?_
      refine vRet ?_
      change ∃ _, _
      cases h
      exact ⟨[9001], _, rfl, ⟨rfl, trivial⟩, rfl, (.eq rfl), rfl⟩
    · replace h := cnd_f hb4 h
      refine vSkip ?_
      change VC _ _ _ _
      iterate 2 refine vSeq ?_
      refine vRegion ?_
      refine oVal tt rfl rfl rfl rfl rfl trivial ?_
      refine vNil ?_
      change VC _ _ _ _
      refine vJoin (F := fun k => S_NewPebbles_l1 N g_0 k_1 k) h (α := List Int) (J := fun (l6 : List Int) => (⟨[(4, .ptr 4 0), (6, .ptr 6 0)], [(31, some (3, .ints l6))], [(4, some [.nil, .nil, .nil]), (6, some [.row 31 0 l6.length, .nil, .nil])]⟩ : PS)) ?_ ?_
      · rintro l6 h
        show VC _ _ _ (⟨[(4, .ptr 4 0), (6, .ptr 6 0)], [(31, some (3, .ints l6))], [(4, some [.nil, .nil, .nil]), (6, some [.row 31 0 l6.length, .nil, .nil])]⟩ : PS)
        refine vSeq ?_
        refine vRegion ?_
        refine oVal tt rfl rfl rfl rfl rfl trivial ?_
        refine oStore tt rfl rfl rfl rfl rfl rfl rfl rfl rfl rfl rfl ⟨trivial, trivial, trivial, trivial⟩ ?_
        refine oVal tt rfl rfl rfl rfl rfl trivial ?_
        refine vNil ?_
        change VC _ _ _ _
        refine vRet ?_
        change ∃ _, _
        cases h
        exact ⟨[31], _, rfl, ⟨rfl, trivial⟩, rfl, (.eq rfl), rfl⟩
      · intro k h
        refine vBlock ?_
        refine vNilB 6 0 31 3 (.ints []) rfl rfl rfl rfl rfl ?_
        refine vLoopS (α := (List Int) × Int) (fun | (l9, i10) => (⟨[(1, .int k_1), (2, .ptr 2 0), (4, .ptr 4 0), (6, .ptr 6 0), (7, .int i10)], [(31, some (3, .ints l9))], [(2, some [.int g_0.n, .ro false (.pairs g_0.bars)]), (4, some [.nil, .nil, .nil]), (6, some [.row 31 0 l9.length, .nil, .nil])]⟩ : PS)) (S_NewPebbles_l1 N g_0 k_1 k) h (En.of ⟨rfl, rfl, rfl, rfl, rfl, trivial⟩ ⟨rfl, trivial⟩ ⟨rfl, rfl, rfl, trivial⟩) (fun _ => rfl) ?_
        rintro n ⟨l9, i10⟩ h
        rw [S_NewPebbles_l1] at h
        show VC _ _ _ (⟨[(1, .int k_1), (2, .ptr 2 0), (4, .ptr 4 0), (6, .ptr 6 0), (7, .int i10)], [(31, some (3, .ints l9))], [(2, some [.int g_0.n, .ro false (.pairs g_0.bars)]), (4, some [.nil, .nil, .nil]), (6, some [.row 31 0 l9.length, .nil, .nil])]⟩ : PS)
        iterate 2 refine vSeq ?_
        refine vRegion ?_
        iterate 4 refine oVal tt rfl rfl rfl rfl rfl trivial ?_
        refine vNil ?_
        change VC _ _ _ _
        refine vCond rfl (fun hb5 => ?_) (fun hb5 => ?_)
        · replace h := cnd_t hb5 h
          refine vSkip ?_
          change VC _ _ _ _
          refine vSeq ?_
          refine vBlock ?_
          refine vRegion ?_
          iterate 3 refine oVal tt rfl rfl rfl rfl rfl trivial ?_
          refine oBuild tt rfl rfl rfl rfl rfl rfl rfl rfl rfl rfl rfl ?_
          obtain ⟨hg6, h⟩ := grd_inv h
          refine oAppend tt rfl rfl rfl rfl rfl rfl rfl rfl rfl rfl rfl rfl rfl rfl rfl rfl (Nat.le_of_eq (Nat.zero_add _)) hg6 ?_
          refine oVal tt rfl rfl rfl rfl rfl trivial ?_
          refine oStore tt rfl rfl rfl rfl rfl rfl rfl rfl rfl rfl rfl ⟨trivial, trivial⟩ ?_
          refine vNil ?_
          change VC _ _ _ _
          refine vRegion ?_
          refine oVal tt rfl rfl rfl rfl rfl trivial ?_
          obtain ⟨hg7, h⟩ := grd_inv h
          refine oVal tt rfl rfl rfl rfl rfl hg7 ?_
          refine oVal tt rfl rfl rfl rfl rfl trivial ?_
          refine vNil ?_
          change ∃ _, _
          exact ⟨((l9 ++ ([k_1] : List Int)), (i10 + (1 : Int))), (En.of ⟨rfl, rfl, rfl, rfl, rfl, trivial⟩ ⟨rfl, trivial⟩ ⟨rfl, rfl, rfl, trivial⟩), h⟩
        · replace h := cnd_f hb5 h
          refine vExit ?_
          change ∃ _, _
          exact ⟨l9, (En.of ⟨rfl, rfl, trivial⟩ ⟨rfl, trivial⟩ ⟨rfl, rfl, trivial⟩), h⟩
def I_bar (N : Nat) (a_0 : Int) (b_1 : Int) : Option (Int × Int) :=
  some ((min a_0 b_1), (max a_0 b_1))
set_option maxRecDepth 20000 in
set_option maxHeartbeats 1600000 in
theorem I_bar_w (N : Nat) (a_0 : Int) (b_1 : Int) (r : Int × Int) (h : I_bar N a_0 b_1 = some r) : PCall Try.prog 71 [.int a_0, .int b_1] [] (.agg [.int r.1, .int r.2]) := by
  unfold I_bar at h
  refine pcall_intro (TT := TT) tt Try.func71 rfl rfl Try.ntmps71 (congrArg Array.toList Try.results71) rfl rfl fun w0 => ?_
  refine vSeq ?_
  refine vRegion ?_
  refine oAlloc tt rfl rfl rfl rfl rfl rfl rfl rfl rfl ?_
  refine vNil ?_
  change VC _ _ _ _
  refine vSeq ?_
  refine vRegion ?_
  iterate 6 refine oVal tt rfl rfl rfl rfl rfl trivial ?_
  refine oPure (wNone rfl) (pBuild bld_impl_Bar rfl rfl) rfl rfl ?_
  refine oStore tt rfl rfl rfl rfl rfl rfl rfl rfl rfl rfl rfl ⟨trivial, trivial, trivial⟩ ?_
  refine vNil ?_
  change VC _ _ _ _
  refine vRet ?_
  change ∃ _, _
  cases h
  exact ⟨[], _, rfl, trivial, rfl, (.eq rfl), rfl⟩
def M_Pinned_held_l2 (N : Nat) (p_0 : Pin) (x82 : Int) (k : (List (Int × Int)) → Option (List (Int × Int))) : Nat → ((List (Int × Int)) × Int) → Option (List (Int × Int))
  | 0, _ => none
  | n + 1, (l103, x104) =>
    cnd (decide (x104 < (((p_0.ground.take p_0.ground.length).drop (((x82 + (1 : Int))).toNat)).length : Int))) (
      grd (0 ≤ x104 ∧ x104 < (((p_0.ground.take p_0.ground.length).drop (((x82 + (1 : Int))).toNat)).length : Int)) <|
      (I_bar N (p_0.ground.getD ((x82).toNat) 0) (((p_0.ground.take p_0.ground.length).drop (((x82 + (1 : Int))).toNat)).getD ((x104).toNat) 0)).bind fun v106 =>
      grd (l103.length + 1 ≤ 4294967296) <|
      grd (Rg64 (x104 + (1 : Int))) <|
      M_Pinned_held_l2 N p_0 x82 k n ((l103 ++ ([(v106.1, v106.2)] : List (Int × Int))), (x104 + (1 : Int)))) (
      k l103)
def M_Pinned_held_l1 (N : Nat) (p_0 : Pin) (k : (List (Int × Int)) → Option (List (Int × Int))) : Nat → ((List (Int × Int)) × Int) → Option (List (Int × Int))
  | 0, _ => none
  | n + 1, (l81, x82) =>
    cnd (decide (x82 < (p_0.ground.length : Int))) (
      grd (0 ≤ x82 ∧ x82 < (p_0.ground.length : Int)) <|
      grd (Rg64 (x82 + (1 : Int))) <|
      grd (0 ≤ (x82 + (1 : Int)) ∧ (x82 + (1 : Int)) ≤ (p_0.ground.length : Int)) <|
      M_Pinned_held_l2 N p_0 x82 (fun (l100 : List (Int × Int)) =>
            M_Pinned_held_l1 N p_0 k n (l100, (x82 + (1 : Int)))) N (l81, (0 : Int))) (
      k l81)
def M_Pinned_held (N : Nat) (p_0 : Pin) : Option (List (Int × Int)) :=
  M_Pinned_held_l1 N p_0 (fun (l53 : List (Int × Int)) =>
        some l53) N (([] : List (Int × Int)), (0 : Int))
set_option maxRecDepth 20000 in
set_option maxHeartbeats 1600000 in
theorem M_Pinned_held_w (N : Nat) (p_0 : Pin) (r : List (Int × Int)) (h : M_Pinned_held N p_0 = some r) : PCall Try.prog 69 [pD p_0] [(71, .pairs r)] (.row 0 0 r.length) := by
  unfold M_Pinned_held at h
  refine pcall_intro (TT := TT) tt Try.func69 rfl rfl Try.ntmps69 (congrArg Array.toList Try.results69) rfl rfl fun w0 => ?_
  refine vSeq ?_
  refine vRegion ?_
  refine oBox rfl rfl rfl rfl rfl rfl rfl rfl rfl ?_
  refine oVal tt rfl rfl rfl rfl rfl trivial ?_
  refine vNil ?_
  change VC _ _ _ _
  refine vSeq ?_
  refine vRegion ?_
  refine oEmpty tt (wNone rfl) rfl rfl rfl rfl ?_
  refine oVal tt rfl rfl rfl rfl rfl trivial ?_
  refine vNil ?_
  change VC _ _ _ _
  iterate 2 refine vSeq ?_
  refine vRegion ?_
  iterate 4 refine oVal tt rfl rfl rfl rfl rfl trivial ?_
  refine vNil ?_
  change VC _ _ _ _
  refine vJoin (F := fun k => M_Pinned_held_l1 N p_0 k) h (α := List (Int × Int)) (J := fun (l53 : List (Int × Int)) => (⟨[(3, .row 32 0 l53.length)], [(32, some (71, .pairs l53))], []⟩ : PS)) ?_ ?_
  · rintro l53 h
    show VC _ _ _ (⟨[(3, .row 32 0 l53.length)], [(32, some (71, .pairs l53))], []⟩ : PS)
    refine vSeq ?_
    refine vRegion ?_
    iterate 2 refine oVal tt rfl rfl rfl rfl rfl trivial ?_
    refine vNil ?_
    change VC _ _ _ _
    refine vRet ?_
    change ∃ _, _
    cases h
    exact ⟨[32], _, rfl, ⟨rfl, trivial⟩, rfl, (.eq rfl), rfl⟩
  · intro k h
    refine vBlock ?_
    refine vNilT 3 32 71 (.pairs []) rfl rfl rfl rfl ?_
    refine vLoopS (α := (List (Int × Int)) × Int) (fun | (l81, x82) => (⟨[(1, .ptr 1 0), (3, .row 32 0 l81.length), (10, .ro false (.ints p_0.ground)), (11, .int (p_0.ground.length : Int)), (12, .int x82)], [(32, some (71, .pairs l81))], [(1, some [.int p_0.g.n, .ro false (.pairs p_0.g.bars), .ro false (.ints p_0.ground)])]⟩ : PS)) (M_Pinned_held_l1 N p_0 k) h (En.of ⟨rfl, rfl, rfl, rfl, rfl, trivial⟩ ⟨rfl, trivial⟩ ⟨rfl, trivial⟩) (fun _ => rfl) ?_
    rintro n ⟨l81, x82⟩ h
    rw [M_Pinned_held_l1] at h
    show VC _ _ _ (⟨[(1, .ptr 1 0), (3, .row 32 0 l81.length), (10, .ro false (.ints p_0.ground)), (11, .int (p_0.ground.length : Int)), (12, .int x82)], [(32, some (71, .pairs l81))], [(1, some [.int p_0.g.n, .ro false (.pairs p_0.g.bars), .ro false (.ints p_0.ground)])]⟩ : PS)
    refine vSeq ?_
    refine vRegion ?_
    refine oVal tt rfl rfl rfl rfl rfl trivial ?_
    refine vNil ?_
    change VC _ _ _ _
    refine vSeq ?_
    refine vCond rfl (fun hb1 => ?_) (fun hb1 => ?_)
    · replace h := cnd_t hb1 h
      refine vSkip ?_
      change VC _ _ _ _
      refine vSeq ?_
      refine vBlock ?_
      refine vSeq ?_
      refine vRegion ?_
      refine oVal tt rfl rfl rfl rfl rfl trivial ?_
      obtain ⟨hg2, h⟩ := grd_inv h
      refine oVal tt rfl rfl rfl rfl rfl hg2 ?_
      iterate 3 refine oVal tt rfl rfl rfl rfl rfl trivial ?_
      refine vNil ?_
      change VC _ _ _ _
      refine vSeq ?_
      refine vRegion ?_
      iterate 3 refine oVal tt rfl rfl rfl rfl rfl trivial ?_
      obtain ⟨hg3, h⟩ := grd_inv h
      refine oVal tt rfl rfl rfl rfl rfl hg3 ?_
      obtain ⟨hg4, h⟩ := grd_inv h
      refine oVal tt rfl rfl rfl rfl rfl hg4 ?_
      iterate 2 refine oVal tt rfl rfl rfl rfl rfl trivial ?_
      refine vNil ?_
      change VC _ _ _ _
      refine vJoin (F := fun k => M_Pinned_held_l2 N p_0 x82 k) h (α := List (Int × Int)) (J := fun (l100 : List (Int × Int)) => (⟨[(1, .ptr 1 0), (3, .row 32 0 l100.length), (10, .ro false (.ints p_0.ground)), (11, .int (p_0.ground.length : Int)), (12, .int x82)], [(32, some (71, .pairs l100))], [(1, some [.int p_0.g.n, .ro false (.pairs p_0.g.bars), .ro false (.ints p_0.ground)])]⟩ : PS)) ?_ ?_
      · rintro l100 h
        show VC _ _ _ (⟨[(1, .ptr 1 0), (3, .row 32 0 l100.length), (10, .ro false (.ints p_0.ground)), (11, .int (p_0.ground.length : Int)), (12, .int x82)], [(32, some (71, .pairs l100))], [(1, some [.int p_0.g.n, .ro false (.pairs p_0.g.bars), .ro false (.ints p_0.ground)])]⟩ : PS)
        refine vRegion ?_
        refine oVal tt rfl rfl rfl rfl rfl hg3 ?_
        refine oVal tt rfl rfl rfl rfl rfl trivial ?_
        refine vNil ?_
        change ∃ _, _
        exact ⟨(l100, (x82 + (1 : Int))), (En.of ⟨rfl, rfl, rfl, rfl, rfl, trivial⟩ ⟨rfl, trivial⟩ ⟨rfl, trivial⟩), h⟩
      · intro k h
        refine vBlock ?_
        refine vLoopS (α := (List (Int × Int)) × Int) (fun | (l103, x104) => (⟨[(1, .ptr 1 0), (3, .row 32 0 l103.length), (5, .int (p_0.ground.getD ((x82).toNat) 0)), (10, .ro false (.ints p_0.ground)), (11, .int (p_0.ground.length : Int)), (12, .int x82), (21, .ro false (.ints ((p_0.ground.take p_0.ground.length).drop (((x82 + (1 : Int))).toNat)))), (22, .int (((p_0.ground.take p_0.ground.length).drop (((x82 + (1 : Int))).toNat)).length : Int)), (23, .int x104)], [(32, some (71, .pairs l103))], [(1, some [.int p_0.g.n, .ro false (.pairs p_0.g.bars), .ro false (.ints p_0.ground)])]⟩ : PS)) (M_Pinned_held_l2 N p_0 x82 k) h (En.of ⟨rfl, rfl, rfl, rfl, rfl, rfl, rfl, rfl, rfl, trivial⟩ ⟨rfl, trivial⟩ ⟨rfl, trivial⟩) (fun _ => rfl) ?_
        rintro n ⟨l103, x104⟩ h
        rw [M_Pinned_held_l2] at h
        show VC _ _ _ (⟨[(1, .ptr 1 0), (3, .row 32 0 l103.length), (5, .int (p_0.ground.getD ((x82).toNat) 0)), (10, .ro false (.ints p_0.ground)), (11, .int (p_0.ground.length : Int)), (12, .int x82), (21, .ro false (.ints ((p_0.ground.take p_0.ground.length).drop (((x82 + (1 : Int))).toNat)))), (22, .int (((p_0.ground.take p_0.ground.length).drop (((x82 + (1 : Int))).toNat)).length : Int)), (23, .int x104)], [(32, some (71, .pairs l103))], [(1, some [.int p_0.g.n, .ro false (.pairs p_0.g.bars), .ro false (.ints p_0.ground)])]⟩ : PS)
        refine vSeq ?_
        refine vRegion ?_
        refine oVal tt rfl rfl rfl rfl rfl trivial ?_
        refine vNil ?_
        change VC _ _ _ _
        refine vSeq ?_
        refine vCond rfl (fun hb5 => ?_) (fun hb5 => ?_)
        · replace h := cnd_t hb5 h
          refine vSkip ?_
          change VC _ _ _ _
          refine vSeq ?_
          refine vBlock ?_
          refine vSeq ?_
          refine vRegion ?_
          obtain ⟨hg6, h⟩ := grd_inv h
          refine oVal tt rfl rfl rfl rfl rfl hg6 ?_
          iterate 2 refine oVal tt rfl rfl rfl rfl rfl trivial ?_
          refine vNil ?_
          change VC _ _ _ _
          refine vRegion ?_
          iterate 3 refine oVal tt rfl rfl rfl rfl rfl trivial ?_
          obtain ⟨v106, hc7, h⟩ := bind_inv h
          refine oCall (I_bar_w N (p_0.ground.getD ((x82).toNat) 0) (((p_0.ground.take p_0.ground.length).drop (((x82 + (1 : Int))).toNat)).getD ((x104).toNat) 0) v106 hc7) rfl rfl rfl rfl rfl rfl rfl rfl ⟨rfl, rfl, trivial⟩ ?_
          refine oBuild tt rfl rfl rfl rfl rfl rfl rfl rfl rfl rfl rfl ?_
          obtain ⟨hg8, h⟩ := grd_inv h
          refine oAppend tt rfl rfl rfl rfl rfl rfl rfl rfl rfl rfl rfl rfl rfl rfl rfl rfl (Nat.le_of_eq (Nat.zero_add _)) hg8 ?_
          refine oVal tt rfl rfl rfl rfl rfl trivial ?_
          refine vNil ?_
          change VC _ _ _ _
          refine vRegion ?_
          obtain ⟨hg9, h⟩ := grd_inv h
          refine oVal tt rfl rfl rfl rfl rfl hg9 ?_
          refine oVal tt rfl rfl rfl rfl rfl trivial ?_
          refine vNil ?_
          change ∃ _, _
          exact ⟨((l103 ++ ([(v106.1, v106.2)] : List (Int × Int))), (x104 + (1 : Int))), (En.of ⟨rfl, rfl, rfl, rfl, rfl, rfl, rfl, rfl, rfl, trivial⟩ ⟨rfl, trivial⟩ ⟨rfl, trivial⟩), h⟩
        · replace h := cnd_f hb5 h
          refine vExit ?_
          change ∃ _, _
          exact ⟨l103, (En.of ⟨rfl, rfl, rfl, rfl, rfl, trivial⟩ ⟨rfl, trivial⟩ ⟨rfl, trivial⟩), h⟩
    · replace h := cnd_f hb1 h
      refine vExit ?_
      change ∃ _, _
      exact ⟨l81, (En.of ⟨rfl, trivial⟩ ⟨rfl, trivial⟩ trivial), h⟩
end Go.Proofs.Ytkpmijmlbpdknaa
