/- Plain texts of functions, and that the program computes them (printed by gen.py). -/
import Derived.Test.YtlmlfbjcpajinaaShb
import Derived.Test.YtlmlfbjcpajinaaG1
import Derived.Test.YtlmlfbjcpajinaaG2
import Derived.Test.YtlmlfbjcpajinaaG15
namespace Go.Proofs.Ytlmlfbjcpajinaa
open Go.RowKit
set_option linter.unusedVariables false
set_option linter.unusedSimpArgs false
def I_Damaged_l1 (N : Nat) (p_0 : Pin) (l7 : List Bool) (k : (List (Int × Int)) → Option (Pin × Bool)) : Nat → ((List (Int × Int)) × Int) → Option (Pin × Bool)
  | 0, _ => none
  | n + 1, (l15, x16) =>
    cnd (decide (x16 < (p_0.g.bars.length : Int))) (
      grd (0 ≤ x16 ∧ x16 < (p_0.g.bars.length : Int)) <|
      grd (0 ≤ x16 ∧ x16 < ((List.replicate (((p_0.g.bars.length : Int)).toNat) (false : Bool)).length : Int)) <|
      grd (0 ≤ x16 ∧ x16 < (l7.length : Int)) <|
      cnd (!(l7.getD ((x16).toNat) false)) (
        grd (l15.length + 1 ≤ 4294967296) <|
        grd (Rg64 (x16 + (1 : Int))) <|
        I_Damaged_l1 N p_0 l7 k n ((l15 ++ ([((p_0.g.bars.getD ((x16).toNat) (0, 0)).1, (p_0.g.bars.getD ((x16).toNat) (0, 0)).2)] : List (Int × Int))), (x16 + (1 : Int)))) (
        grd (Rg64 (x16 + (1 : Int))) <|
        I_Damaged_l1 N p_0 l7 k n (l15, (x16 + (1 : Int))))) (
      k l15)
def I_Damaged_l2 (N : Nat) (p_0 : Pin) (broken_1 : List Int) (k : (List Bool) → Option (Pin × Bool)) : Nat → ((List Bool) × Int) → Option (Pin × Bool)
  | 0, _ => none
  | n + 1, (l19, x20) =>
    cnd (decide (x20 < (broken_1.length : Int))) (
      grd (0 ≤ x20 ∧ x20 < (broken_1.length : Int)) <|
      grd (Rg64 (((List.replicate (((p_0.g.bars.length : Int)).toNat) (false : Bool)).length : Int) - (1 : Int))) <|
      (I_within N (broken_1.getD ((x20).toNat) 0) (0 : Int) (((List.replicate (((p_0.g.bars.length : Int)).toNat) (false : Bool)).length : Int) - (1 : Int))).bind fun v22 =>
      cnd (!v22) (
        some ((⟨⟨(0 : Int), ([] : List (Int × Int))⟩, ([] : List Int)⟩ : Pin), false)) (
        grd (0 ≤ (broken_1.getD ((x20).toNat) 0) ∧ (broken_1.getD ((x20).toNat) 0) < ((List.replicate (((p_0.g.bars.length : Int)).toNat) (false : Bool)).length : Int)) <|
        grd (0 ≤ (broken_1.getD ((x20).toNat) 0) ∧ (broken_1.getD ((x20).toNat) 0) < (l19.length : Int)) <|
        grd (Rg64 (x20 + (1 : Int))) <|
        I_Damaged_l2 N p_0 broken_1 k n ((l19.set (((broken_1.getD ((x20).toNat) 0)).toNat) true), (x20 + (1 : Int))))) (
      k l19)
def I_Damaged (N : Nat) (p_0 : Pin) (broken_1 : List Int) : Option (Pin × Bool) :=
  (I_IsPinned N p_0).bind fun v1 =>
  cnd (!v1) (
    some ((⟨⟨(0 : Int), ([] : List (Int × Int))⟩, ([] : List Int)⟩ : Pin), false)) (
    grd (0 ≤ (p_0.g.bars.length : Int) ∧ (p_0.g.bars.length : Int) ≤ 4294967296) <|
    I_Damaged_l2 N p_0 broken_1 (fun (l7 : List Bool) =>
          (I_copyInts N p_0.ground).bind fun v8 =>
          I_Damaged_l1 N p_0 l7 (fun (l12 : List (Int × Int)) =>
                some ((⟨⟨p_0.g.n, l12⟩, v8⟩ : Pin), true)) N (([] : List (Int × Int)), (0 : Int))) N ((List.replicate (((p_0.g.bars.length : Int)).toNat) (false : Bool)), (0 : Int)))
set_option maxRecDepth 20000 in
set_option maxHeartbeats 1600000 in
theorem I_Damaged_w (N : Nat) (p_0 : Pin) (broken_1 : List Int) (r : Pin × Bool) (h : I_Damaged N p_0 broken_1 = some r) : PCall Try.prog 52 [pD p_0, .ro false (.ints broken_1)] [(105, .pairs r.1.g.bars), (3, .ints r.1.ground)] (.tup [.agg [.int r.1.g.n, .row 0 0 r.1.g.bars.length, .row 1 0 r.1.ground.length], .bool r.2]) := by
  unfold I_Damaged at h
  refine pcall_intro (TT := TT) tt Try.func52 rfl rfl Try.ntmps52 (congrArg Array.toList Try.results52) rfl rfl fun w0 => ?_
  refine vSeq ?_
  refine vRegion ?_
  refine oBox rfl rfl rfl rfl rfl rfl rfl rfl rfl ?_
  refine oAlloc tt rfl rfl rfl rfl rfl rfl rfl rfl rfl ?_
  refine oVal tt rfl rfl rfl rfl rfl trivial ?_
  refine vNil ?_
  change VC _ _ _ _
  iterate 2 refine vSeq ?_
  refine vRegion ?_
  refine oVal tt rfl rfl rfl rfl rfl trivial ?_
  obtain ⟨v1, hc1, h⟩ := bind_inv h
  refine oCall (I_IsPinned_w N p_0 v1 hc1) rfl rfl rfl rfl rfl rfl rfl rfl ⟨⟨rfl, rfl, rfl, trivial⟩, trivial⟩ ?_
  refine oVal tt rfl rfl rfl rfl rfl trivial ?_
  refine vNil ?_
  change VC _ _ _ _
  refine vCond rfl (fun hb2 => ?_) (fun hb2 => ?_)
  · replace h := cnd_t hb2 h
    refine vSeq ?_
    refine vRegion ?_
    refine oPure (wNone rfl) (pBuild bld_impl_Pinned rfl rfl) rfl rfl ?_
    refine oStore tt rfl rfl rfl rfl rfl rfl rfl rfl rfl rfl rfl ⟨trivial, trivial, trivial, trivial⟩ ?_
    refine oVal tt rfl rfl rfl rfl rfl trivial ?_
    refine vNil ?_
    change VC _ _ _ _
    refine vNilB 4 1 9001 105 (.pairs []) rfl rfl rfl rfl rfl ?_
    refine vNilB 4 2 9002 3 (.ints []) rfl rfl rfl rfl rfl ?_
    refine vRet ?_
    change ∃ _, _
    cases h
    exact ⟨[9001, 9002], _, rfl, ⟨rfl, rfl, trivial⟩, rfl, (.eq rfl), rfl⟩
  · replace h := cnd_f hb2 h
    refine vSkip ?_
    change VC _ _ _ _
    refine vSeq ?_
    refine vRegion ?_
    iterate 4 refine oVal tt rfl rfl rfl rfl rfl trivial ?_
    obtain ⟨hg3, h⟩ := grd_inv h
    refine oMake tt rfl rfl rfl rfl rfl rfl rfl rfl rfl rfl rfl hg3 ?_
    refine oVal tt rfl rfl rfl rfl rfl trivial ?_
    refine vNil ?_
    change VC _ _ _ _
    iterate 2 refine vSeq ?_
    refine vRegion ?_
    iterate 3 refine oVal tt rfl rfl rfl rfl rfl trivial ?_
    refine vNil ?_
    change VC _ _ _ _
    refine vJoin (F := fun k => I_Damaged_l2 N p_0 broken_1 k) h (α := List Bool) (J := fun (l7 : List Bool) => (⟨[(2, .ptr 2 0), (4, .ptr 4 0), (6, .row 20 0 ((List.replicate (((p_0.g.bars.length : Int)).toNat) (false : Bool)).length))], [(20, some (4, .bools l7))], [(2, some [.int p_0.g.n, .ro false (.pairs p_0.g.bars), .ro false (.ints p_0.ground)]), (4, some [.int (0 : Int), .nil, .nil])]⟩ : PS)) ?_ ?_
    · rintro l7 h
      show VC _ _ _ (⟨[(2, .ptr 2 0), (4, .ptr 4 0), (6, .row 20 0 ((List.replicate (((p_0.g.bars.length : Int)).toNat) (false : Bool)).length))], [(20, some (4, .bools l7))], [(2, some [.int p_0.g.n, .ro false (.pairs p_0.g.bars), .ro false (.ints p_0.ground)]), (4, some [.int (0 : Int), .nil, .nil])]⟩ : PS)
      refine vSeq ?_
      refine vRegionN 9 [6, 8] [0, 1, 3, 7, 0, 16, 48, 127, 0, 511] (by kernel_rfl) (by kernel_rfl) (by kernel_rfl) (by kernel_rfl) (by kernel_rfl) rfl (by rfl) ?_
      iterate 3 refine nVal tt rfl (wNone rfl) rfl rfl rfl rfl rfl trivial ?_
      refine nPure (wNone rfl) (pBuild bld_impl_Graph rfl rfl) rfl rfl rfl rfl ?_
      iterate 2 refine nVal tt rfl (wNone rfl) rfl rfl rfl rfl rfl trivial ?_
      obtain ⟨v8, hc4, h⟩ := bind_inv h
      refine nCallR (I_copyInts_w N p_0.ground v8 hc4) rfl (wNone rfl) rfl rfl rfl rfl rfl rfl (by first | rfl | kernel_rfl | (simp [nrL, nm, gdst, nmT, rowB]; done)) rfl (by first | rfl | kernel_rfl | (simp [chkE, nrL, nm, gdst, nmT, rowB, hid, ment, mentA, mentS]; done) | (simp [chkE, nrL, nm, gdst, nmT, rowB, hid, ment, mentA, mentS]; decide)) ⟨rfl, trivial⟩ ?_
      refine nPure (wNone rfl) (pBuild bld_impl_Pinned rfl rfl) rfl rfl rfl rfl ?_
      refine nAlloc tt (wNone rfl) rfl rfl rfl rfl rfl rfl rfl rfl rfl rfl ?_
      refine nNil ?_
      change VO _ _ _ _ _
      refine oStore tt rfl rfl rfl rfl rfl rfl rfl rfl rfl rfl rfl ⟨trivial, trivial, trivial, trivial⟩ ?_
      refine vNil ?_
      change VC _ _ _ _
      iterate 2 refine vSeq ?_
      refine vRegion ?_
      iterate 5 refine oVal tt rfl rfl rfl rfl rfl trivial ?_
      refine vNil ?_
      change VC _ _ _ _
      refine vJoin (F := fun k => I_Damaged_l1 N p_0 l7 k) h (α := List (Int × Int)) (J := fun (l12 : List (Int × Int)) => (⟨[(4, .ptr 4 0), (9, .ptr 9 0)], [(65, some (105, .pairs l12)), (1440, some (3, .ints v8))], [(4, some [.int (0 : Int), .nil, .nil]), (9, some [.int p_0.g.n, .row 65 0 l12.length, .row 1440 0 v8.length])]⟩ : PS)) ?_ ?_
      · rintro l12 h
        show VC _ _ _ (⟨[(4, .ptr 4 0), (9, .ptr 9 0)], [(65, some (105, .pairs l12)), (1440, some (3, .ints v8))], [(4, some [.int (0 : Int), .nil, .nil]), (9, some [.int p_0.g.n, .row 65 0 l12.length, .row 1440 0 v8.length])]⟩ : PS)
        refine vSeq ?_
        refine vRegion ?_
        refine oVal tt rfl rfl rfl rfl rfl trivial ?_
        refine oStore tt rfl rfl rfl rfl rfl rfl rfl rfl rfl rfl rfl ⟨trivial, trivial, trivial, trivial⟩ ?_
        refine oVal tt rfl rfl rfl rfl rfl trivial ?_
        refine vNil ?_
        change VC _ _ _ _
        refine vRet ?_
        change ∃ _, _
        cases h
        exact ⟨[65, 1440], _, rfl, ⟨rfl, rfl, trivial⟩, rfl, (.eq rfl), rfl⟩
      · intro k h
        refine vBlock ?_
        refine vNilB 9 1 65 105 (.pairs []) rfl rfl rfl rfl rfl ?_
        refine vLoopS (α := (List (Int × Int)) × Int) (fun | (l15, x16) => (⟨[(4, .ptr 4 0), (6, .row 20 0 ((List.replicate (((p_0.g.bars.length : Int)).toNat) (false : Bool)).length)), (9, .ptr 9 0), (48, .ro false (.pairs p_0.g.bars)), (49, .int (p_0.g.bars.length : Int)), (50, .int x16)], [(20, some (4, .bools l7)), (65, some (105, .pairs l15)), (1440, some (3, .ints v8))], [(4, some [.int (0 : Int), .nil, .nil]), (9, some [.int p_0.g.n, .row 65 0 l15.length, .row 1440 0 v8.length])]⟩ : PS)) (I_Damaged_l1 N p_0 l7 k) h (En.of ⟨rfl, rfl, rfl, rfl, rfl, rfl, trivial⟩ ⟨rfl, rfl, rfl, trivial⟩ ⟨rfl, rfl, trivial⟩) (fun _ => rfl) ?_
        rintro n ⟨l15, x16⟩ h
        rw [I_Damaged_l1] at h
        show VC _ _ _ (⟨[(4, .ptr 4 0), (6, .row 20 0 ((List.replicate (((p_0.g.bars.length : Int)).toNat) (false : Bool)).length)), (9, .ptr 9 0), (48, .ro false (.pairs p_0.g.bars)), (49, .int (p_0.g.bars.length : Int)), (50, .int x16)], [(20, some (4, .bools l7)), (65, some (105, .pairs l15)), (1440, some (3, .ints v8))], [(4, some [.int (0 : Int), .nil, .nil]), (9, some [.int p_0.g.n, .row 65 0 l15.length, .row 1440 0 v8.length])]⟩ : PS)
        refine vSeq ?_
        refine vRegion ?_
        refine oVal tt rfl rfl rfl rfl rfl trivial ?_
        refine vNil ?_
        change VC _ _ _ _
        refine vSeq ?_
        refine vCond rfl (fun hb5 => ?_) (fun hb5 => ?_)
        · replace h := cnd_t hb5 h
          refine vSkip ?_
          change VC _ _ _ _
          refine vSeq ?_
          refine vBlock ?_
          refine vSeq ?_
          refine vRegion ?_
          refine oVal tt rfl rfl rfl rfl rfl trivial ?_
          obtain ⟨hg6, h⟩ := grd_inv h
          refine oVal tt rfl rfl rfl rfl rfl hg6 ?_
          refine oVal tt rfl rfl rfl rfl rfl trivial ?_
          refine oAlloc tt rfl rfl rfl rfl rfl rfl rfl rfl rfl ?_
          refine oVal tt rfl rfl rfl rfl rfl trivial ?_
          refine oStore tt rfl rfl rfl rfl rfl rfl rfl rfl rfl rfl rfl ⟨trivial, trivial, trivial⟩ ?_
          refine vNil ?_
          change VC _ _ _ _
          refine vSeq ?_
          refine vRegion ?_
          iterate 2 refine oVal tt rfl rfl rfl rfl rfl trivial ?_
          obtain ⟨hg7, h⟩ := grd_inv h
          refine oVal tt rfl rfl rfl rfl rfl hg7 ?_
          obtain ⟨hg8, h⟩ := grd_inv h
          refine oVal tt rfl rfl rfl rfl rfl hg8 ?_
          refine oVal tt rfl rfl rfl rfl rfl trivial ?_
          refine vNil ?_
          change VC _ _ _ _
          refine vCond rfl (fun hb9 => ?_) (fun hb9 => ?_)
          · replace h := cnd_t hb9 h
            refine vRegion ?_
            iterate 4 refine oVal tt rfl rfl rfl rfl rfl trivial ?_
            refine oBuild tt rfl rfl rfl rfl rfl rfl rfl rfl rfl rfl rfl ?_
            obtain ⟨hg10, h⟩ := grd_inv h
            refine oAppend tt rfl rfl rfl rfl rfl rfl rfl rfl rfl rfl rfl rfl rfl rfl rfl rfl (Nat.le_of_eq (Nat.zero_add _)) hg10 ?_
            iterate 2 refine oVal tt rfl rfl rfl rfl rfl trivial ?_
            refine oStore tt rfl rfl rfl rfl rfl rfl rfl rfl rfl rfl rfl ⟨trivial, trivial⟩ ?_
            refine vNil ?_
            change VC _ _ _ _
            refine vRegion ?_
            obtain ⟨hg11, h⟩ := grd_inv h
            refine oVal tt rfl rfl rfl rfl rfl hg11 ?_
            refine oVal tt rfl rfl rfl rfl rfl trivial ?_
            refine vNil ?_
            change ∃ _, _
            exact ⟨((l15 ++ ([((p_0.g.bars.getD ((x16).toNat) (0, 0)).1, (p_0.g.bars.getD ((x16).toNat) (0, 0)).2)] : List (Int × Int))), (x16 + (1 : Int))), (En.of ⟨rfl, rfl, rfl, rfl, rfl, rfl, trivial⟩ ⟨rfl, rfl, rfl, trivial⟩ ⟨rfl, rfl, trivial⟩), h⟩
          · replace h := cnd_f hb9 h
            refine vSkip ?_
            change VC _ _ _ _
            refine vRegion ?_
            obtain ⟨hg12, h⟩ := grd_inv h
            refine oVal tt rfl rfl rfl rfl rfl hg12 ?_
            refine oVal tt rfl rfl rfl rfl rfl trivial ?_
            refine vNil ?_
            change ∃ _, _
            exact ⟨(l15, (x16 + (1 : Int))), (En.of ⟨rfl, rfl, rfl, rfl, rfl, rfl, trivial⟩ ⟨rfl, rfl, rfl, trivial⟩ ⟨rfl, rfl, trivial⟩), h⟩
        · replace h := cnd_f hb5 h
          refine vExit ?_
          change ∃ _, _
          exact ⟨l15, (En.of ⟨rfl, rfl, trivial⟩ ⟨rfl, rfl, trivial⟩ ⟨rfl, rfl, trivial⟩), h⟩
    · intro k h
      refine vBlock ?_
      refine vLoopS (α := (List Bool) × Int) (fun | (l19, x20) => (⟨[(2, .ptr 2 0), (4, .ptr 4 0), (6, .row 20 0 ((List.replicate (((p_0.g.bars.length : Int)).toNat) (false : Bool)).length)), (21, .ro false (.ints broken_1)), (22, .int (broken_1.length : Int)), (23, .int x20)], [(20, some (4, .bools l19))], [(2, some [.int p_0.g.n, .ro false (.pairs p_0.g.bars), .ro false (.ints p_0.ground)]), (4, some [.int (0 : Int), .nil, .nil])]⟩ : PS)) (I_Damaged_l2 N p_0 broken_1 k) h (En.of ⟨rfl, rfl, rfl, rfl, rfl, rfl, trivial⟩ ⟨rfl, trivial⟩ ⟨rfl, rfl, trivial⟩) (fun _ => rfl) ?_
      rintro n ⟨l19, x20⟩ h
      rw [I_Damaged_l2] at h
      show VC _ _ _ (⟨[(2, .ptr 2 0), (4, .ptr 4 0), (6, .row 20 0 ((List.replicate (((p_0.g.bars.length : Int)).toNat) (false : Bool)).length)), (21, .ro false (.ints broken_1)), (22, .int (broken_1.length : Int)), (23, .int x20)], [(20, some (4, .bools l19))], [(2, some [.int p_0.g.n, .ro false (.pairs p_0.g.bars), .ro false (.ints p_0.ground)]), (4, some [.int (0 : Int), .nil, .nil])]⟩ : PS)
      refine vSeq ?_
      refine vRegion ?_
      refine oVal tt rfl rfl rfl rfl rfl trivial ?_
      refine vNil ?_
      change VC _ _ _ _
      refine vSeq ?_
      refine vCond rfl (fun hb13 => ?_) (fun hb13 => ?_)
      · replace h := cnd_t hb13 h
        refine vSkip ?_
        change VC _ _ _ _
        refine vSeq ?_
        refine vBlock ?_
        refine vSeq ?_
        refine vRegion ?_
        obtain ⟨hg14, h⟩ := grd_inv h
        refine oVal tt rfl rfl rfl rfl rfl hg14 ?_
        iterate 2 refine oVal tt rfl rfl rfl rfl rfl trivial ?_
        refine vNil ?_
        change VC _ _ _ _
        iterate 2 refine vSeq ?_
        refine vRegion ?_
        iterate 3 refine oVal tt rfl rfl rfl rfl rfl trivial ?_
        obtain ⟨hg15, h⟩ := grd_inv h
        refine oVal tt rfl rfl rfl rfl rfl hg15 ?_
        obtain ⟨v22, hc16, h⟩ := bind_inv h
        refine oCall (I_within_w N (broken_1.getD ((x20).toNat) 0) (0 : Int) (((List.replicate (((p_0.g.bars.length : Int)).toNat) (false : Bool)).length : Int) - (1 : Int)) v22 hc16) rfl rfl rfl rfl rfl rfl rfl rfl ⟨rfl, rfl, rfl, trivial⟩ ?_
        refine oVal tt rfl rfl rfl rfl rfl trivial ?_
        refine vNil ?_
        change VC _ _ _ _
        refine vCond rfl (fun hb17 => ?_) (fun hb17 => ?_)
        · replace h := cnd_t hb17 h
          refine vSeq ?_
          refine vRegion ?_
          refine oPure (wNone rfl) (pBuild bld_impl_Pinned rfl rfl) rfl rfl ?_
          refine oStore tt rfl rfl rfl rfl rfl rfl rfl rfl rfl rfl rfl ⟨trivial, trivial, trivial, trivial⟩ ?_
          refine oVal tt rfl rfl rfl rfl rfl trivial ?_
          refine vNil ?_
          change VC _ _ _ _
          refine vNilB 4 1 9001 105 (.pairs []) rfl rfl rfl rfl rfl ?_
          refine vNilB 4 2 9002 3 (.ints []) rfl rfl rfl rfl rfl ?_
          refine vRet ?_
          change ∃ _, _
          cases h
          exact ⟨[9001, 9002], _, rfl, ⟨rfl, rfl, trivial⟩, rfl, (.eq rfl), rfl⟩
        · replace h := cnd_f hb17 h
          refine vSkip ?_
          change VC _ _ _ _
          refine vRegion ?_
          iterate 2 refine oVal tt rfl rfl rfl rfl rfl trivial ?_
          obtain ⟨hg18, h⟩ := grd_inv h
          refine oVal tt rfl rfl rfl rfl rfl hg18 ?_
          obtain ⟨hg19, h⟩ := grd_inv h
          refine oStore tt rfl rfl rfl rfl rfl rfl rfl rfl rfl rfl ⟨_, _, rfl, hg19.1, hg19.2⟩ ⟨hg19, trivial⟩ ?_
          refine vNil ?_
          change VC _ _ _ _
          refine vRegion ?_
          obtain ⟨hg20, h⟩ := grd_inv h
          refine oVal tt rfl rfl rfl rfl rfl hg20 ?_
          refine oVal tt rfl rfl rfl rfl rfl trivial ?_
          refine vNil ?_
          change ∃ _, _
          exact ⟨((l19.set (((broken_1.getD ((x20).toNat) 0)).toNat) true), (x20 + (1 : Int))), (En.of ⟨rfl, rfl, rfl, rfl, rfl, rfl, trivial⟩ ⟨rfl, trivial⟩ ⟨rfl, rfl, trivial⟩), h⟩
      · replace h := cnd_f hb13 h
        refine vExit ?_
        change ∃ _, _
        exact ⟨l19, (En.of ⟨rfl, rfl, rfl, trivial⟩ ⟨rfl, trivial⟩ ⟨rfl, rfl, trivial⟩), h⟩
end Go.Proofs.Ytlmlfbjcpajinaa
