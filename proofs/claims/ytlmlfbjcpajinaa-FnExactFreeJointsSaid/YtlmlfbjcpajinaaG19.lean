/- Plain texts of functions, and that the program computes them (printed by gen.py). -/
import Derived.Test.YtlmlfbjcpajinaaShb
import Derived.Test.YtlmlfbjcpajinaaG3
import Derived.Test.YtlmlfbjcpajinaaG5
import Derived.Test.YtlmlfbjcpajinaaG14
namespace Go.Proofs.Ytlmlfbjcpajinaa
open Go.RowKit
set_option linter.unusedVariables false
set_option linter.unusedSimpArgs false
def S_OnlyBars_l1 (N : Nat) (g_0 : Grf) (keep_1 : List Int) (k : (List (Int × Int)) → Option (Grf)) : Nat → ((List (Int × Int)) × Int) → Option (Grf)
  | 0, _ => none
  | n + 1, (l13, i14) =>
    cnd (decide (i14 < (g_0.bars.length : Int))) (
      (S_l2Has N keep_1 i14).bind fun v16 =>
      cnd v16 (
        grd (0 ≤ i14 ∧ i14 < (g_0.bars.length : Int)) <|
        grd (l13.length + 1 ≤ 4294967296) <|
        grd (Rg64 (i14 + (1 : Int))) <|
        S_OnlyBars_l1 N g_0 keep_1 k n ((l13 ++ ([((g_0.bars.getD ((i14).toNat) (0, 0)).1, (g_0.bars.getD ((i14).toNat) (0, 0)).2)] : List (Int × Int))), (i14 + (1 : Int)))) (
        grd (Rg64 (i14 + (1 : Int))) <|
        S_OnlyBars_l1 N g_0 keep_1 k n (l13, (i14 + (1 : Int))))) (
      k l13)
def S_OnlyBars (N : Nat) (g_0 : Grf) (keep_1 : List Int) : Option (Grf) :=
  S_OnlyBars_l1 N g_0 keep_1 (fun (l8 : List (Int × Int)) =>
        some (⟨g_0.n, l8⟩ : Grf)) N (([] : List (Int × Int)), (0 : Int))
set_option maxRecDepth 20000 in
set_option maxHeartbeats 1600000 in
theorem S_OnlyBars_w (N : Nat) (g_0 : Grf) (keep_1 : List Int) (r : Grf) (h : S_OnlyBars N g_0 keep_1 = some r) : PCall Try.prog 102 [gD g_0, .ro false (.ints keep_1)] [(105, .pairs r.bars)] (.agg [.int r.n, .row 0 0 r.bars.length]) := by
  unfold S_OnlyBars at h
  refine pcall_intro (TT := TT) tt Try.func102 rfl rfl Try.ntmps102 (congrArg Array.toList Try.results102) rfl rfl fun w0 => ?_
  refine vSeq ?_
  refine vRegion ?_
  refine oBox rfl rfl rfl rfl rfl rfl rfl rfl rfl ?_
  refine oAlloc tt rfl rfl rfl rfl rfl rfl rfl rfl rfl ?_
  refine vNil ?_
  change VC _ _ _ _
  refine vSeq ?_
  refine vRegion ?_
  iterate 2 refine oVal tt rfl rfl rfl rfl rfl trivial ?_
  refine oEmpty tt (wNone rfl) rfl rfl rfl rfl ?_
  refine oPure (wNone rfl) (pBuild bld_impl_Graph rfl rfl) rfl rfl ?_
  refine oAlloc tt rfl rfl rfl rfl rfl rfl rfl rfl rfl ?_
  refine oStore tt rfl rfl rfl rfl rfl rfl rfl rfl rfl rfl rfl ⟨trivial, trivial, trivial⟩ ?_
  refine vNil ?_
  change VC _ _ _ _
  iterate 2 refine vSeq ?_
  refine vRegion ?_
  refine oVal tt rfl rfl rfl rfl rfl trivial ?_
  refine vNil ?_
  change VC _ _ _ _
  refine vJoin (F := fun k => S_OnlyBars_l1 N g_0 keep_1 k) h (α := List (Int × Int)) (J := fun (l8 : List (Int × Int)) => (⟨[(4, .ptr 4 0), (5, .ptr 5 0)], [(29, some (105, .pairs l8))], [(4, some [.int (0 : Int), .nil]), (5, some [.int g_0.n, .row 29 0 l8.length])]⟩ : PS)) ?_ ?_
  · rintro l8 h
    show VC _ _ _ (⟨[(4, .ptr 4 0), (5, .ptr 5 0)], [(29, some (105, .pairs l8))], [(4, some [.int (0 : Int), .nil]), (5, some [.int g_0.n, .row 29 0 l8.length])]⟩ : PS)
    refine vSeq ?_
    refine vRegion ?_
    refine oVal tt rfl rfl rfl rfl rfl trivial ?_
    refine oStore tt rfl rfl rfl rfl rfl rfl rfl rfl rfl rfl rfl ⟨trivial, trivial, trivial⟩ ?_
    refine vNil ?_
    change VC _ _ _ _
    refine vRet ?_
    change ∃ _, _
    cases h
    exact ⟨[29], _, rfl, ⟨rfl, trivial⟩, rfl, (.eq rfl), rfl⟩
  · intro k h
    refine vBlock ?_
    refine vNilB 5 1 29 105 (.pairs []) rfl rfl rfl rfl rfl ?_
    refine vLoopS (α := (List (Int × Int)) × Int) (fun | (l13, i14) => (⟨[(1, .ro false (.ints keep_1)), (2, .ptr 2 0), (4, .ptr 4 0), (5, .ptr 5 0), (6, .int i14)], [(29, some (105, .pairs l13))], [(2, some [.int g_0.n, .ro false (.pairs g_0.bars)]), (4, some [.int (0 : Int), .nil]), (5, some [.int g_0.n, .row 29 0 l13.length])]⟩ : PS)) (S_OnlyBars_l1 N g_0 keep_1 k) h (En.of ⟨rfl, rfl, rfl, rfl, rfl, trivial⟩ ⟨rfl, trivial⟩ ⟨rfl, rfl, rfl, trivial⟩) (fun _ => rfl) ?_
    rintro n ⟨l13, i14⟩ h
    rw [S_OnlyBars_l1] at h
    show VC _ _ _ (⟨[(1, .ro false (.ints keep_1)), (2, .ptr 2 0), (4, .ptr 4 0), (5, .ptr 5 0), (6, .int i14)], [(29, some (105, .pairs l13))], [(2, some [.int g_0.n, .ro false (.pairs g_0.bars)]), (4, some [.int (0 : Int), .nil]), (5, some [.int g_0.n, .row 29 0 l13.length])]⟩ : PS)
    iterate 2 refine vSeq ?_
    refine vRegion ?_
    iterate 5 refine oVal tt rfl rfl rfl rfl rfl trivial ?_
    refine vNil ?_
    change VC _ _ _ _
    refine vCond rfl (fun hb1 => ?_) (fun hb1 => ?_)
    · replace h := cnd_t hb1 h
      refine vSkip ?_
      change VC _ _ _ _
      refine vSeq ?_
      refine vBlock ?_
      refine vSeq ?_
      refine vRegion ?_
      iterate 2 refine oVal tt rfl rfl rfl rfl rfl trivial ?_
      obtain ⟨v16, hc2, h⟩ := bind_inv h
      refine oCall (S_l2Has_w N keep_1 i14 v16 hc2) rfl rfl rfl rfl rfl rfl rfl rfl ⟨rfl, rfl, trivial⟩ ?_
      refine vNil ?_
      change VC _ _ _ _
      refine vCond rfl (fun hb3 => ?_) (fun hb3 => ?_)
      · replace h := cnd_t hb3 h
        refine vRegionN 8 [7] [0, 1, 0, 4, 0, 28, 60, 124, 255, 511, 1023] (by kernel_rfl) (by kernel_rfl) (by kernel_rfl) (by kernel_rfl) (by kernel_rfl) rfl (by rfl) ?_
        iterate 5 refine nVal tt rfl (wNone rfl) rfl rfl rfl rfl rfl trivial ?_
        obtain ⟨hg4, h⟩ := grd_inv h
        refine nVal tt rfl (wNone rfl) rfl rfl rfl rfl rfl hg4 ?_
        refine nVal tt rfl (wNone rfl) rfl rfl rfl rfl rfl trivial ?_
        refine nBuild tt (wNone rfl) rfl rfl rfl rfl rfl rfl rfl rfl rfl rfl rfl rfl ?_
        refine nNil ?_
        change VO _ _ _ _ _
        obtain ⟨hg5, h⟩ := grd_inv h
        refine oAppend tt rfl rfl rfl rfl rfl rfl rfl rfl rfl rfl rfl rfl rfl rfl rfl rfl (Nat.le_of_eq (Nat.zero_add _)) hg5 ?_
        refine oVal tt rfl rfl rfl rfl rfl trivial ?_
        refine oStore tt rfl rfl rfl rfl rfl rfl rfl rfl rfl rfl rfl ⟨trivial, trivial⟩ ?_
        refine vNil ?_
        change VC _ _ _ _
        refine vRegion ?_
        refine oVal tt rfl rfl rfl rfl rfl trivial ?_
        obtain ⟨hg6, h⟩ := grd_inv h
        refine oVal tt rfl rfl rfl rfl rfl hg6 ?_
        refine oVal tt rfl rfl rfl rfl rfl trivial ?_
        refine vNil ?_
        change ∃ _, _
        exact ⟨((l13 ++ ([((g_0.bars.getD ((i14).toNat) (0, 0)).1, (g_0.bars.getD ((i14).toNat) (0, 0)).2)] : List (Int × Int))), (i14 + (1 : Int))), (En.of ⟨rfl, rfl, rfl, rfl, rfl, trivial⟩ ⟨rfl, trivial⟩ ⟨rfl, rfl, rfl, trivial⟩), h⟩
      · replace h := cnd_f hb3 h
        refine vSkip ?_
        change VC _ _ _ _
        refine vRegion ?_
        refine oVal tt rfl rfl rfl rfl rfl trivial ?_
        obtain ⟨hg7, h⟩ := grd_inv h
        refine oVal tt rfl rfl rfl rfl rfl hg7 ?_
        refine oVal tt rfl rfl rfl rfl rfl trivial ?_
        refine vNil ?_
        change ∃ _, _
        exact ⟨(l13, (i14 + (1 : Int))), (En.of ⟨rfl, rfl, rfl, rfl, rfl, trivial⟩ ⟨rfl, trivial⟩ ⟨rfl, rfl, rfl, trivial⟩), h⟩
    · replace h := cnd_f hb1 h
      refine vExit ?_
      change ∃ _, _
      exact ⟨l13, (En.of ⟨rfl, rfl, trivial⟩ ⟨rfl, trivial⟩ ⟨rfl, rfl, trivial⟩), h⟩
def S_Damaged_l1 (N : Nat) (p_0 : Pin) (broken_1 : List Int) (k : (List Int) → Option (Pin × Bool)) : Nat → ((List Int) × Int) → Option (Pin × Bool)
  | 0, _ => none
  | n + 1, (l14, i15) =>
    cnd (decide (i15 < (p_0.g.bars.length : Int))) (
      (S_l2Has N broken_1 i15).bind fun v17 =>
      cnd (!v17) (
        grd (l14.length + 1 ≤ 4294967296) <|
        grd (Rg64 (i15 + (1 : Int))) <|
        S_Damaged_l1 N p_0 broken_1 k n ((l14 ++ ([i15] : List Int)), (i15 + (1 : Int)))) (
        grd (Rg64 (i15 + (1 : Int))) <|
        S_Damaged_l1 N p_0 broken_1 k n (l14, (i15 + (1 : Int))))) (
      k l14)
def S_Damaged_l2 (N : Nat) (p_0 : Pin) (broken_1 : List Int) (k : Unit → Option (Pin × Bool)) : Nat → Int → Option (Pin × Bool)
  | 0, _ => none
  | n + 1, i19 =>
    cnd (decide (i19 < (broken_1.length : Int))) (
      grd (0 ≤ i19 ∧ i19 < (broken_1.length : Int)) <|
      cnd (decide ((broken_1.getD ((i19).toNat) 0) < (0 : Int))) (
        some ((⟨⟨(0 : Int), ([] : List (Int × Int))⟩, ([] : List Int)⟩ : Pin), false)) (
        cnd (decide ((broken_1.getD ((i19).toNat) 0) ≥ (p_0.g.bars.length : Int))) (
          some ((⟨⟨(0 : Int), ([] : List (Int × Int))⟩, ([] : List Int)⟩ : Pin), false)) (
          grd (Rg64 (i19 + (1 : Int))) <|
          S_Damaged_l2 N p_0 broken_1 k n (i19 + (1 : Int))))) (
      k ())
def S_Damaged (N : Nat) (p_0 : Pin) (broken_1 : List Int) : Option (Pin × Bool) :=
  S_Damaged_l2 N p_0 broken_1 (fun (_ : Unit) =>
        S_Damaged_l1 N p_0 broken_1 (fun (l8 : List Int) =>
              (S_IsPinned N p_0).bind fun v9 =>
              cnd (!v9) (
                some ((⟨⟨(0 : Int), ([] : List (Int × Int))⟩, ([] : List Int)⟩ : Pin), false)) (
                (S_OnlyBars N p_0.g l8).bind fun v10 =>
                grd (p_0.ground.length ≤ 4294967296) <|
                some ((⟨⟨v10.n, v10.bars⟩, (([] : List Int) ++ p_0.ground)⟩ : Pin), true))) N (([] : List Int), (0 : Int))) N (0 : Int)
set_option maxRecDepth 20000 in
set_option maxHeartbeats 1600000 in
theorem S_Damaged_w (N : Nat) (p_0 : Pin) (broken_1 : List Int) (r : Pin × Bool) (h : S_Damaged N p_0 broken_1 = some r) : PCall Try.prog 51 [pD p_0, .ro false (.ints broken_1)] [(105, .pairs r.1.g.bars), (3, .ints r.1.ground)] (.tup [.agg [.int r.1.g.n, .row 0 0 r.1.g.bars.length, .row 1 0 r.1.ground.length], .bool r.2]) := by
  unfold S_Damaged at h
  refine pcall_intro (TT := TT) tt Try.func51 rfl rfl Try.ntmps51 (congrArg Array.toList Try.results51) rfl rfl fun w0 => ?_
  refine vSeq ?_
  refine vRegion ?_
  refine oBox rfl rfl rfl rfl rfl rfl rfl rfl rfl ?_
  refine oAlloc tt rfl rfl rfl rfl rfl rfl rfl rfl rfl ?_
  refine oVal tt rfl rfl rfl rfl rfl trivial ?_
  refine vNil ?_
  change VC _ _ _ _
  refine vSeq ?_
  refine vRegion ?_
  refine oEmpty tt (wNone rfl) rfl rfl rfl rfl ?_
  refine oVal tt rfl rfl rfl rfl rfl trivial ?_
  refine vNil ?_
  change VC _ _ _ _
  iterate 2 refine vSeq ?_
  refine vRegion ?_
  refine oVal tt rfl rfl rfl rfl rfl trivial ?_
  refine vNil ?_
  change VC _ _ _ _
  refine vJoin (F := fun k => S_Damaged_l2 N p_0 broken_1 k) h (α := Unit) (J := fun (_ : Unit) => (⟨[(1, .ro false (.ints broken_1)), (2, .ptr 2 0), (4, .ptr 4 0), (6, .nil)], [], [(2, some [.int p_0.g.n, .ro false (.pairs p_0.g.bars), .ro false (.ints p_0.ground)]), (4, some [.int (0 : Int), .nil, .nil])]⟩ : PS)) ?_ ?_
  · rintro ⟨⟩ h
    show VC _ _ _ (⟨[(1, .ro false (.ints broken_1)), (2, .ptr 2 0), (4, .ptr 4 0), (6, .nil)], [], [(2, some [.int p_0.g.n, .ro false (.pairs p_0.g.bars), .ro false (.ints p_0.ground)]), (4, some [.int (0 : Int), .nil, .nil])]⟩ : PS)
    iterate 2 refine vSeq ?_
    refine vRegion ?_
    refine oVal tt rfl rfl rfl rfl rfl trivial ?_
    refine vNil ?_
    change VC _ _ _ _
    refine vJoin (F := fun k => S_Damaged_l1 N p_0 broken_1 k) h (α := List Int) (J := fun (l8 : List Int) => (⟨[(2, .ptr 2 0), (4, .ptr 4 0), (6, .row 48 0 l8.length)], [(48, some (3, .ints l8))], [(2, some [.int p_0.g.n, .ro false (.pairs p_0.g.bars), .ro false (.ints p_0.ground)]), (4, some [.int (0 : Int), .nil, .nil])]⟩ : PS)) ?_ ?_
    · rintro l8 h
      show VC _ _ _ (⟨[(2, .ptr 2 0), (4, .ptr 4 0), (6, .row 48 0 l8.length)], [(48, some (3, .ints l8))], [(2, some [.int p_0.g.n, .ro false (.pairs p_0.g.bars), .ro false (.ints p_0.ground)]), (4, some [.int (0 : Int), .nil, .nil])]⟩ : PS)
      iterate 2 refine vSeq ?_
      refine vRegion ?_
      refine oVal tt rfl rfl rfl rfl rfl trivial ?_
      obtain ⟨v9, hc1, h⟩ := bind_inv h
      refine oCall (S_IsPinned_w N p_0 v9 hc1) rfl rfl rfl rfl rfl rfl rfl rfl ⟨⟨rfl, rfl, rfl, trivial⟩, trivial⟩ ?_
      refine oVal tt rfl rfl rfl rfl rfl trivial ?_
      refine vNil ?_
      change VC _ _ _ _
      refine vCond rfl (fun hb2 => ?_) (fun hb2 => ?_)
      · replace h := cnd_t hb2 h
        refine vSeq ?_
        refine vRegion ?_
        refine oPure (wNone rfl) (pBuild bld_impl_Pinned rfl rfl) rfl rfl ?_
        refine oStore tt rfl rfl rfl rfl rfl rfl rfl rfl rfl rfl rfl ⟨trivial, trivial, trivial, trivial⟩ ?_
        refine oVal tt rfl rfl rfl rfl rfl trivial ?_
        refine vNil ?_
        change VC _ _ _ _
        refine vNilB 4 1 9001 105 (.pairs []) rfl rfl rfl rfl rfl ?_
        refine vNilB 4 2 9002 3 (.ints []) rfl rfl rfl rfl rfl ?_
        refine vRet ?_
        change ∃ _, _
        cases h
        exact ⟨[9001, 9002], _, rfl, ⟨rfl, rfl, trivial⟩, rfl, (.eq rfl), rfl⟩
      · replace h := cnd_f hb2 h
        refine vSkip ?_
        change VC _ _ _ _
        refine vSeq ?_
        refine vRegionN 7 [3] [0, 1, 0, 7, 0, 0, 32, 127, 255, 511, 1023] (by kernel_rfl) (by kernel_rfl) (by kernel_rfl) (by kernel_rfl) (by kernel_rfl) rfl (by rfl) ?_
        iterate 3 refine nVal tt rfl (wNone rfl) rfl rfl rfl rfl rfl trivial ?_
        obtain ⟨v10, hc3, h⟩ := bind_inv h
        refine nCallR (S_OnlyBars_w N p_0.g l8 v10 hc3) rfl (wNone rfl) rfl rfl rfl rfl rfl rfl (by first | rfl | kernel_rfl | (simp [nrL, nm, gdst, nmT, rowB]; done)) rfl (by first | rfl | kernel_rfl | (simp [chkE, nrL, nm, gdst, nmT, rowB, hid, ment, mentA, mentS]; done) | (simp [chkE, nrL, nm, gdst, nmT, rowB, hid, ment, mentA, mentS]; decide)) ⟨⟨rfl, rfl, trivial⟩, (.inl ⟨rfl, rfl⟩), trivial⟩ ?_
        refine nEmpty tt (wNone rfl) rfl rfl rfl rfl rfl ?_
        iterate 2 refine nVal tt rfl (wNone rfl) rfl rfl rfl rfl rfl trivial ?_
        refine nNil ?_
        change VO _ _ _ _ _
        obtain ⟨hg4, h⟩ := grd_inv h
        refine oAppNil tt (wNone rfl) rfl rfl rfl rfl rfl rfl rfl (fun _ => rfl) rfl rfl rfl rfl rfl hg4 ?_
        refine oPure (wNone rfl) (pBuild bld_impl_Pinned rfl rfl) rfl rfl ?_
        refine oStore tt rfl rfl rfl rfl rfl rfl rfl rfl rfl rfl rfl ⟨trivial, trivial, trivial, trivial⟩ ?_
        refine oVal tt rfl rfl rfl rfl rfl trivial ?_
        refine vNil ?_
        change VC _ _ _ _
        refine vRet ?_
        change ∃ _, _
        cases h
        exact ⟨[1560, 60], _, rfl, ⟨rfl, rfl, trivial⟩, rfl, (.eq rfl), rfl⟩
    · intro k h
      refine vBlock ?_
      refine vNilT 6 48 3 (.ints []) rfl rfl rfl rfl ?_
      refine vLoopS (α := (List Int) × Int) (fun | (l14, i15) => (⟨[(1, .ro false (.ints broken_1)), (2, .ptr 2 0), (4, .ptr 4 0), (6, .row 48 0 l14.length), (8, .int i15)], [(48, some (3, .ints l14))], [(2, some [.int p_0.g.n, .ro false (.pairs p_0.g.bars), .ro false (.ints p_0.ground)]), (4, some [.int (0 : Int), .nil, .nil])]⟩ : PS)) (S_Damaged_l1 N p_0 broken_1 k) h (En.of ⟨rfl, rfl, rfl, rfl, rfl, trivial⟩ ⟨rfl, trivial⟩ ⟨rfl, rfl, trivial⟩) (fun _ => rfl) ?_
      rintro n ⟨l14, i15⟩ h
      rw [S_Damaged_l1] at h
      show VC _ _ _ (⟨[(1, .ro false (.ints broken_1)), (2, .ptr 2 0), (4, .ptr 4 0), (6, .row 48 0 l14.length), (8, .int i15)], [(48, some (3, .ints l14))], [(2, some [.int p_0.g.n, .ro false (.pairs p_0.g.bars), .ro false (.ints p_0.ground)]), (4, some [.int (0 : Int), .nil, .nil])]⟩ : PS)
      iterate 2 refine vSeq ?_
      refine vRegion ?_
      iterate 6 refine oVal tt rfl rfl rfl rfl rfl trivial ?_
      refine vNil ?_
      change VC _ _ _ _
      refine vCond rfl (fun hb5 => ?_) (fun hb5 => ?_)
      · replace h := cnd_t hb5 h
        refine vSkip ?_
        change VC _ _ _ _
        refine vSeq ?_
        refine vBlock ?_
        refine vSeq ?_
        refine vRegion ?_
        iterate 2 refine oVal tt rfl rfl rfl rfl rfl trivial ?_
        obtain ⟨v17, hc6, h⟩ := bind_inv h
        refine oCall (S_l2Has_w N broken_1 i15 v17 hc6) rfl rfl rfl rfl rfl rfl rfl rfl ⟨rfl, rfl, trivial⟩ ?_
        refine oVal tt rfl rfl rfl rfl rfl trivial ?_
        refine vNil ?_
        change VC _ _ _ _
        refine vCond rfl (fun hb7 => ?_) (fun hb7 => ?_)
        · replace h := cnd_t hb7 h
          refine vRegion ?_
          iterate 2 refine oVal tt rfl rfl rfl rfl rfl trivial ?_
          refine oBuild tt rfl rfl rfl rfl rfl rfl rfl rfl rfl rfl rfl ?_
          obtain ⟨hg8, h⟩ := grd_inv h
          refine oAppend tt rfl rfl rfl rfl rfl rfl rfl rfl rfl rfl rfl rfl rfl rfl rfl rfl (Nat.le_of_eq (Nat.zero_add _)) hg8 ?_
          refine oVal tt rfl rfl rfl rfl rfl trivial ?_
          refine vNil ?_
          change VC _ _ _ _
          refine vRegion ?_
          refine oVal tt rfl rfl rfl rfl rfl trivial ?_
          obtain ⟨hg9, h⟩ := grd_inv h
          refine oVal tt rfl rfl rfl rfl rfl hg9 ?_
          refine oVal tt rfl rfl rfl rfl rfl trivial ?_
          refine vNil ?_
          change ∃ _, _
          exact ⟨((l14 ++ ([i15] : List Int)), (i15 + (1 : Int))), (En.of ⟨rfl, rfl, rfl, rfl, rfl, trivial⟩ ⟨rfl, trivial⟩ ⟨rfl, rfl, trivial⟩), h⟩
        · replace h := cnd_f hb7 h
          refine vSkip ?_
          change VC _ _ _ _
          refine vRegion ?_
          refine oVal tt rfl rfl rfl rfl rfl trivial ?_
          obtain ⟨hg10, h⟩ := grd_inv h
          refine oVal tt rfl rfl rfl rfl rfl hg10 ?_
          refine oVal tt rfl rfl rfl rfl rfl trivial ?_
          refine vNil ?_
          change ∃ _, _
          exact ⟨(l14, (i15 + (1 : Int))), (En.of ⟨rfl, rfl, rfl, rfl, rfl, trivial⟩ ⟨rfl, trivial⟩ ⟨rfl, rfl, trivial⟩), h⟩
      · replace h := cnd_f hb5 h
        refine vExit ?_
        change ∃ _, _
        exact ⟨l14, (En.of ⟨rfl, rfl, rfl, trivial⟩ ⟨rfl, trivial⟩ ⟨rfl, rfl, trivial⟩), h⟩
  · intro k h
    refine vBlock ?_
    refine vLoopS (α := Int) (fun (i19 : Int) => (⟨[(1, .ro false (.ints broken_1)), (2, .ptr 2 0), (4, .ptr 4 0), (6, .nil), (7, .int i19)], [], [(2, some [.int p_0.g.n, .ro false (.pairs p_0.g.bars), .ro false (.ints p_0.ground)]), (4, some [.int (0 : Int), .nil, .nil])]⟩ : PS)) (S_Damaged_l2 N p_0 broken_1 k) h (En.of ⟨rfl, rfl, rfl, rfl, rfl, trivial⟩ trivial ⟨rfl, rfl, trivial⟩) (fun _ => rfl) ?_
    rintro n i19 h
    rw [S_Damaged_l2] at h
    show VC _ _ _ (⟨[(1, .ro false (.ints broken_1)), (2, .ptr 2 0), (4, .ptr 4 0), (6, .nil), (7, .int i19)], [], [(2, some [.int p_0.g.n, .ro false (.pairs p_0.g.bars), .ro false (.ints p_0.ground)]), (4, some [.int (0 : Int), .nil, .nil])]⟩ : PS)
    iterate 2 refine vSeq ?_
    refine vRegion ?_
    iterate 4 refine oVal tt rfl rfl rfl rfl rfl trivial ?_
    refine vNil ?_
    change VC _ _ _ _
    refine vCond rfl (fun hb11 => ?_) (fun hb11 => ?_)
    · replace h := cnd_t hb11 h
      refine vSkip ?_
      change VC _ _ _ _
      refine vSeq ?_
      refine vBlock ?_
      refine vSeq ?_
      refine vRegionD (by kernel_rfl) (by kernel_rfl) ?_
      iterate 2 refine cVal tt rfl (wNone rfl) rfl rfl rfl trivial ?_
      obtain ⟨hg12, h⟩ := grd_inv h
      refine cVal tt rfl (wNone rfl) rfl rfl rfl hg12 ?_
      iterate 3 refine cVal tt rfl (wNone rfl) rfl rfl rfl trivial ?_
      refine cSplit rfl rfl rfl (fun hb13 => ?_) (fun hb13 => ?_)
      · replace h := cnd_t hb13 h
        iterate 9 refine cNoF rfl rfl rfl rfl hb13 rfl rfl ?_
        refine cPickT rfl (wNone rfl) rfl rfl rfl hb13 rfl ?_
        refine cNil ?_
        change VC _ _ _ _
        refine vCondT rfl rfl ?_
        refine vSeq ?_
        refine vRegion ?_
        refine oPure (wNone rfl) (pBuild bld_impl_Pinned rfl rfl) rfl rfl ?_
        refine oStore tt rfl rfl rfl rfl rfl rfl rfl rfl rfl rfl rfl ⟨trivial, trivial, trivial, trivial⟩ ?_
        refine oVal tt rfl rfl rfl rfl rfl trivial ?_
        refine vNil ?_
        change VC _ _ _ _
        refine vNilB 4 1 9001 105 (.pairs []) rfl rfl rfl rfl rfl ?_
        refine vNilB 4 2 9002 3 (.ints []) rfl rfl rfl rfl rfl ?_
        refine vRet ?_
        change ∃ _, _
        cases h
        exact ⟨[9001, 9002], _, rfl, ⟨rfl, rfl, trivial⟩, rfl, (.eq rfl), rfl⟩
      · replace h := cnd_f hb13 h
        iterate 2 refine cVal tt rfl (wSome rfl rfl rfl rfl hb13) rfl rfl rfl trivial ?_
        refine cVal tt rfl (wSome rfl rfl rfl rfl hb13) rfl rfl rfl hg12 ?_
        iterate 6 refine cVal tt rfl (wSome rfl rfl rfl rfl hb13) rfl rfl rfl trivial ?_
        refine cPickF rfl (wNone rfl) rfl rfl rfl hb13 rfl ?_
        refine cNil ?_
        change VC _ _ _ _
        refine vCond rfl (fun hb14 => ?_) (fun hb14 => ?_)
        · replace h := cnd_t hb14 h
          refine vSeq ?_
          refine vRegion ?_
          refine oPure (wNone rfl) (pBuild bld_impl_Pinned rfl rfl) rfl rfl ?_
          refine oStore tt rfl rfl rfl rfl rfl rfl rfl rfl rfl rfl rfl ⟨trivial, trivial, trivial, trivial⟩ ?_
          refine oVal tt rfl rfl rfl rfl rfl trivial ?_
          refine vNil ?_
          change VC _ _ _ _
          refine vNilB 4 1 9001 105 (.pairs []) rfl rfl rfl rfl rfl ?_
          refine vNilB 4 2 9002 3 (.ints []) rfl rfl rfl rfl rfl ?_
          refine vRet ?_
          change ∃ _, _
          cases h
          exact ⟨[9001, 9002], _, rfl, ⟨rfl, rfl, trivial⟩, rfl, (.eq rfl), rfl⟩
        · replace h := cnd_f hb14 h
          refine vSkip ?_
          change VC _ _ _ _
          refine vRegion ?_
          refine oVal tt rfl rfl rfl rfl rfl trivial ?_
          obtain ⟨hg15, h⟩ := grd_inv h
          refine oVal tt rfl rfl rfl rfl rfl hg15 ?_
          refine oVal tt rfl rfl rfl rfl rfl trivial ?_
          refine vNil ?_
          change ∃ _, _
          exact ⟨(i19 + (1 : Int)), (En.of ⟨rfl, rfl, rfl, rfl, rfl, trivial⟩ trivial ⟨rfl, rfl, trivial⟩), h⟩
    · replace h := cnd_f hb11 h
      refine vExit ?_
      change ∃ _, _
      exact ⟨(), (En.of ⟨rfl, rfl, rfl, rfl, trivial⟩ trivial ⟨rfl, rfl, trivial⟩), h⟩
def L_heldBarS_l1 (N : Nat) (a_0 : List (Int × Int)) (k : Int → Option (Int)) : Nat → (Int × Int) → Option (Int)
  | 0, _ => none
  | n + 1, (k5, i6) =>
    cnd (decide (i6 < (a_0.length : Int))) (
      grd (0 ≤ i6 ∧ i6 < (a_0.length : Int)) <|
      cnd (((a_0.getD ((i6).toNat) (0, 0)).1) != k5) (
        some (-1 : Int)) (
        grd (Rg64 (k5 + (1 : Int))) <|
        cnd (((a_0.getD ((i6).toNat) (0, 0)).2) != (k5 + (1 : Int))) (
          some (-1 : Int)) (
          grd (Rg64 ((k5 + (1 : Int)) + (1 : Int))) <|
          grd (Rg64 (i6 + (1 : Int))) <|
          L_heldBarS_l1 N a_0 k n (((k5 + (1 : Int)) + (1 : Int)), (i6 + (1 : Int)))))) (
      k k5)
def L_heldBarS (N : Nat) (a_0 : List (Int × Int)) (k_1 : Int) : Option (Int) :=
  L_heldBarS_l1 N a_0 (fun (k3 : Int) =>
        some k3) N (k_1, (0 : Int))
set_option maxRecDepth 20000 in
set_option maxHeartbeats 1600000 in
theorem L_heldBarS_w (N : Nat) (a_0 : List (Int × Int)) (k_1 : Int) (r : Int) (h : L_heldBarS N a_0 k_1 = some r) : PCall Try.prog 126 [.ro false (.pairs a_0), .int k_1] [] (.int r) := by
  unfold L_heldBarS at h
  refine pcall_intro (TT := TT) tt Try.func126 rfl rfl Try.ntmps126 (congrArg Array.toList Try.results126) rfl rfl fun w0 => ?_
  refine vSeq ?_
  refine vRegion ?_
  refine oVal tt rfl rfl rfl rfl rfl trivial ?_
  refine vNil ?_
  change VC _ _ _ _
  iterate 2 refine vSeq ?_
  refine vRegion ?_
  refine oVal tt rfl rfl rfl rfl rfl trivial ?_
  refine vNil ?_
  change VC _ _ _ _
  refine vJoin (F := fun k => L_heldBarS_l1 N a_0 k) h (α := Int) (J := fun (k3 : Int) => (⟨[(1, .int k3)], [], []⟩ : PS)) ?_ ?_
  · rintro k3 h
    show VC _ _ _ (⟨[(1, .int k3)], [], []⟩ : PS)
    refine vSeq ?_
    refine vRegion ?_
    iterate 2 refine oVal tt rfl rfl rfl rfl rfl trivial ?_
    refine vNil ?_
    change VC _ _ _ _
    refine vRet ?_
    change ∃ _, _
    cases h
    exact ⟨[], _, rfl, trivial, rfl, (.eq rfl), rfl⟩
  · intro k h
    refine vBlock ?_
    refine vLoopS (α := Int × Int) (fun | (k5, i6) => (⟨[(0, .ro false (.pairs a_0)), (1, .int k5), (5, .int i6)], [], []⟩ : PS)) (L_heldBarS_l1 N a_0 k) h (En.of ⟨rfl, rfl, rfl, trivial⟩ trivial trivial) (fun _ => rfl) ?_
    rintro n ⟨k5, i6⟩ h
    rw [L_heldBarS_l1] at h
    show VC _ _ _ (⟨[(0, .ro false (.pairs a_0)), (1, .int k5), (5, .int i6)], [], []⟩ : PS)
    iterate 2 refine vSeq ?_
    refine vRegion ?_
    iterate 4 refine oVal tt rfl rfl rfl rfl rfl trivial ?_
    refine vNil ?_
    change VC _ _ _ _
    refine vCond rfl (fun hb1 => ?_) (fun hb1 => ?_)
    · replace h := cnd_t hb1 h
      refine vSkip ?_
      change VC _ _ _ _
      refine vSeq ?_
      refine vBlock ?_
      iterate 2 refine vSeq ?_
      refine vRegion ?_
      iterate 2 refine oVal tt rfl rfl rfl rfl rfl trivial ?_
      obtain ⟨hg2, h⟩ := grd_inv h
      refine oVal tt rfl rfl rfl rfl rfl hg2 ?_
      iterate 4 refine oVal tt rfl rfl rfl rfl rfl trivial ?_
      refine vNil ?_
      change VC _ _ _ _
      refine vCond rfl (fun hb3 => ?_) (fun hb3 => ?_)
      · replace h := cnd_t hb3 h
        refine vSeq ?_
        refine vRegion ?_
        refine oVal tt rfl rfl rfl rfl rfl trivial ?_
        refine vNil ?_
        change VC _ _ _ _
        refine vRet ?_
        change ∃ _, _
        cases h
        exact ⟨[], _, rfl, trivial, rfl, (.eq rfl), rfl⟩
      · replace h := cnd_f hb3 h
        refine vSkip ?_
        change VC _ _ _ _
        refine vSeq ?_
        refine vRegion ?_
        refine oVal tt rfl rfl rfl rfl rfl trivial ?_
        obtain ⟨hg4, h⟩ := grd_inv h
        refine oVal tt rfl rfl rfl rfl rfl hg4 ?_
        refine oVal tt rfl rfl rfl rfl rfl trivial ?_
        refine vNil ?_
        change VC _ _ _ _
        iterate 2 refine vSeq ?_
        refine vRegion ?_
        iterate 2 refine oVal tt rfl rfl rfl rfl rfl trivial ?_
        refine oVal tt rfl rfl rfl rfl rfl hg2 ?_
        iterate 4 refine oVal tt rfl rfl rfl rfl rfl trivial ?_
        refine vNil ?_
        change VC _ _ _ _
        refine vCond rfl (fun hb5 => ?_) (fun hb5 => ?_)
        · replace h := cnd_t hb5 h
          refine vSeq ?_
          refine vRegion ?_
          refine oVal tt rfl rfl rfl rfl rfl trivial ?_
          refine vNil ?_
          change VC _ _ _ _
          refine vRet ?_
          change ∃ _, _
          cases h
          exact ⟨[], _, rfl, trivial, rfl, (.eq rfl), rfl⟩
        · replace h := cnd_f hb5 h
          refine vSkip ?_
          change VC _ _ _ _
          refine vRegion ?_
          refine oVal tt rfl rfl rfl rfl rfl trivial ?_
          obtain ⟨hg6, h⟩ := grd_inv h
          refine oVal tt rfl rfl rfl rfl rfl hg6 ?_
          refine oVal tt rfl rfl rfl rfl rfl trivial ?_
          refine vNil ?_
          change VC _ _ _ _
          refine vRegion ?_
          refine oVal tt rfl rfl rfl rfl rfl trivial ?_
          obtain ⟨hg7, h⟩ := grd_inv h
          refine oVal tt rfl rfl rfl rfl rfl hg7 ?_
          refine oVal tt rfl rfl rfl rfl rfl trivial ?_
          refine vNil ?_
          change ∃ _, _
          exact ⟨(((k5 + (1 : Int)) + (1 : Int)), (i6 + (1 : Int))), (En.of ⟨rfl, rfl, rfl, trivial⟩ trivial trivial), h⟩
    · replace h := cnd_f hb1 h
      refine vExit ?_
      change ∃ _, _
      exact ⟨k5, (En.of ⟨rfl, trivial⟩ trivial trivial), h⟩
def L_heldGraph (N : Nat) (a_0 : Grf) (k_1 : Int) : Option (Int) :=
  (L_heldBarS N a_0.bars k_1).bind fun v1 =>
  cnd (decide (v1 < (0 : Int))) (
    some (-1 : Int)) (
    some v1)
set_option maxRecDepth 20000 in
set_option maxHeartbeats 1600000 in
theorem L_heldGraph_w (N : Nat) (a_0 : Grf) (k_1 : Int) (r : Int) (h : L_heldGraph N a_0 k_1 = some r) : PCall Try.prog 104 [gD a_0, .int k_1] [] (.int r) := by
  unfold L_heldGraph at h
  refine pcall_intro (TT := TT) tt Try.func104 rfl rfl Try.ntmps104 (congrArg Array.toList Try.results104) rfl rfl fun w0 => ?_
  refine vSeq ?_
  refine vRegion ?_
  refine oBox rfl rfl rfl rfl rfl rfl rfl rfl rfl ?_
  refine oVal tt rfl rfl rfl rfl rfl trivial ?_
  refine vNil ?_
  change VC _ _ _ _
  refine vSeq ?_
  refine vRegion ?_
  iterate 3 refine oVal tt rfl rfl rfl rfl rfl trivial ?_
  obtain ⟨v1, hc1, h⟩ := bind_inv h
  refine oCall (L_heldBarS_w N a_0.bars k_1 v1 hc1) rfl rfl rfl rfl rfl rfl rfl rfl ⟨rfl, rfl, trivial⟩ ?_
  refine oVal tt rfl rfl rfl rfl rfl trivial ?_
  refine vNil ?_
  change VC _ _ _ _
  iterate 2 refine vSeq ?_
  refine vRegion ?_
  iterate 2 refine oVal tt rfl rfl rfl rfl rfl trivial ?_
  refine vNil ?_
  change VC _ _ _ _
  refine vCond rfl (fun hb2 => ?_) (fun hb2 => ?_)
  · replace h := cnd_t hb2 h
    refine vSeq ?_
    refine vRegion ?_
    refine oVal tt rfl rfl rfl rfl rfl trivial ?_
    refine vNil ?_
    change VC _ _ _ _
    refine vRet ?_
    change ∃ _, _
    cases h
    exact ⟨[], _, rfl, trivial, rfl, (.eq rfl), rfl⟩
  · replace h := cnd_f hb2 h
    refine vSkip ?_
    change VC _ _ _ _
    refine vSeq ?_
    refine vRegion ?_
    iterate 2 refine oVal tt rfl rfl rfl rfl rfl trivial ?_
    refine vNil ?_
    change VC _ _ _ _
    refine vRet ?_
    change ∃ _, _
    cases h
    exact ⟨[], _, rfl, trivial, rfl, (.eq rfl), rfl⟩
def L_heldPinned (N : Nat) (a_0 : Pin) (k_1 : Int) : Option (Int) :=
  (L_heldGraph N a_0.g k_1).bind fun v1 =>
  cnd (decide (v1 < (0 : Int))) (
    some (-1 : Int)) (
    (L_heldIntS N a_0.ground v1).bind fun v2 =>
    cnd (decide (v2 < (0 : Int))) (
      some (-1 : Int)) (
      some v2))
set_option maxRecDepth 20000 in
set_option maxHeartbeats 1600000 in
theorem L_heldPinned_w (N : Nat) (a_0 : Pin) (k_1 : Int) (r : Int) (h : L_heldPinned N a_0 k_1 = some r) : PCall Try.prog 54 [pD a_0, .int k_1] [] (.int r) := by
  unfold L_heldPinned at h
  refine pcall_intro (TT := TT) tt Try.func54 rfl rfl Try.ntmps54 (congrArg Array.toList Try.results54) rfl rfl fun w0 => ?_
  refine vSeq ?_
  refine vRegion ?_
  refine oBox rfl rfl rfl rfl rfl rfl rfl rfl rfl ?_
  refine oVal tt rfl rfl rfl rfl rfl trivial ?_
  refine vNil ?_
  change VC _ _ _ _
  refine vSeq ?_
  refine vRegion ?_
  iterate 3 refine oVal tt rfl rfl rfl rfl rfl trivial ?_
  obtain ⟨v1, hc1, h⟩ := bind_inv h
  refine oCall (L_heldGraph_w N a_0.g k_1 v1 hc1) rfl rfl rfl rfl rfl rfl rfl rfl ⟨⟨rfl, rfl, trivial⟩, rfl, trivial⟩ ?_
  refine oVal tt rfl rfl rfl rfl rfl trivial ?_
  refine vNil ?_
  change VC _ _ _ _
  iterate 2 refine vSeq ?_
  refine vRegion ?_
  iterate 2 refine oVal tt rfl rfl rfl rfl rfl trivial ?_
  refine vNil ?_
  change VC _ _ _ _
  refine vCond rfl (fun hb2 => ?_) (fun hb2 => ?_)
  · replace h := cnd_t hb2 h
    refine vSeq ?_
    refine vRegion ?_
    refine oVal tt rfl rfl rfl rfl rfl trivial ?_
    refine vNil ?_
    change VC _ _ _ _
    refine vRet ?_
    change ∃ _, _
    cases h
    exact ⟨[], _, rfl, trivial, rfl, (.eq rfl), rfl⟩
  · replace h := cnd_f hb2 h
    refine vSkip ?_
    change VC _ _ _ _
    refine vSeq ?_
    refine vRegion ?_
    iterate 3 refine oVal tt rfl rfl rfl rfl rfl trivial ?_
    obtain ⟨v2, hc3, h⟩ := bind_inv h
    refine oCall (L_heldIntS_w N a_0.ground v1 v2 hc3) rfl rfl rfl rfl rfl rfl rfl rfl ⟨rfl, rfl, trivial⟩ ?_
    refine oVal tt rfl rfl rfl rfl rfl trivial ?_
    refine vNil ?_
    change VC _ _ _ _
    iterate 2 refine vSeq ?_
    refine vRegion ?_
    iterate 2 refine oVal tt rfl rfl rfl rfl rfl trivial ?_
    refine vNil ?_
    change VC _ _ _ _
    refine vCond rfl (fun hb4 => ?_) (fun hb4 => ?_)
    · replace h := cnd_t hb4 h
      refine vSeq ?_
      refine vRegion ?_
      refine oVal tt rfl rfl rfl rfl rfl trivial ?_
      refine vNil ?_
      change VC _ _ _ _
      refine vRet ?_
      change ∃ _, _
      cases h
      exact ⟨[], _, rfl, trivial, rfl, (.eq rfl), rfl⟩
    · replace h := cnd_f hb4 h
      refine vSkip ?_
      change VC _ _ _ _
      refine vSeq ?_
      refine vRegion ?_
      iterate 2 refine oVal tt rfl rfl rfl rfl rfl trivial ?_
      refine vNil ?_
      change VC _ _ _ _
      refine vRet ?_
      change ∃ _, _
      cases h
      exact ⟨[], _, rfl, trivial, rfl, (.eq rfl), rfl⟩
def S_EqualGraphs_l1 (N : Nat) (a_0 : Grf) (b_1 : Grf) (k : Unit → Option (Bool)) : Nat → Int → Option (Bool)
  | 0, _ => none
  | n + 1, i3 =>
    cnd (decide (i3 < (a_0.bars.length : Int))) (
      grd (0 ≤ i3 ∧ i3 < (a_0.bars.length : Int)) <|
      grd (0 ≤ i3 ∧ i3 < (b_1.bars.length : Int)) <|
      cnd (!(((a_0.bars.getD ((i3).toNat) (0, 0)).1 == (b_1.bars.getD ((i3).toNat) (0, 0)).1) && ((a_0.bars.getD ((i3).toNat) (0, 0)).2 == (b_1.bars.getD ((i3).toNat) (0, 0)).2))) (
        some false) (
        grd (Rg64 (i3 + (1 : Int))) <|
        S_EqualGraphs_l1 N a_0 b_1 k n (i3 + (1 : Int)))) (
      k ())
def S_EqualGraphs (N : Nat) (a_0 : Grf) (b_1 : Grf) : Option (Bool) :=
  cnd (a_0.n != b_1.n) (
    some false) (
    cnd ((a_0.bars.length : Int) != (b_1.bars.length : Int)) (
      some false) (
      S_EqualGraphs_l1 N a_0 b_1 (fun (_ : Unit) =>
            some true) N (0 : Int)))
set_option maxRecDepth 20000 in
set_option maxHeartbeats 1600000 in
theorem S_EqualGraphs_w (N : Nat) (a_0 : Grf) (b_1 : Grf) (r : Bool) (h : S_EqualGraphs N a_0 b_1 = some r) : PCall Try.prog 127 [gD a_0, gD b_1] [] (.bool r) := by
  unfold S_EqualGraphs at h
  refine pcall_intro (TT := TT) tt Try.func127 rfl rfl Try.ntmps127 (congrArg Array.toList Try.results127) rfl rfl fun w0 => ?_
  refine vSeq ?_
  refine vRegion ?_
  iterate 2 refine oBox rfl rfl rfl rfl rfl rfl rfl rfl rfl ?_
  refine oVal tt rfl rfl rfl rfl rfl trivial ?_
  refine vNil ?_
  change VC _ _ _ _
  iterate 2 refine vSeq ?_
  refine vRegion ?_
  iterate 6 refine oVal tt rfl rfl rfl rfl rfl trivial ?_
  refine oSplit rfl rfl rfl (fun hb1 => ?_) (fun hb1 => ?_)
  · replace h := cnd_t hb1 h
    iterate 7 refine oNoF rfl rfl rfl rfl hb1 rfl rfl ?_
    refine oPick rfl rfl rfl rfl rfl hb1 rfl ?_
    refine vNil ?_
    change VC _ _ _ _
    refine vCondT rfl rfl ?_
    refine vSeq ?_
    refine vRegion ?_
    refine oVal tt rfl rfl rfl rfl rfl trivial ?_
    refine vNil ?_
    change VC _ _ _ _
    refine vRet ?_
    change ∃ _, _
    cases h
    exact ⟨[], _, rfl, trivial, rfl, (.eq rfl), rfl⟩
  · replace h := cnd_f hb1 h
    iterate 7 refine oValG tt rfl rfl rfl rfl rfl hb1 rfl rfl rfl trivial ?_
    refine oPickF rfl rfl rfl rfl rfl hb1 rfl ?_
    refine vNil ?_
    change VC _ _ _ _
    refine vCond rfl (fun hb2 => ?_) (fun hb2 => ?_)
    · replace h := cnd_t hb2 h
      refine vSeq ?_
      refine vRegion ?_
      refine oVal tt rfl rfl rfl rfl rfl trivial ?_
      refine vNil ?_
      change VC _ _ _ _
      refine vRet ?_
      change ∃ _, _
      cases h
      exact ⟨[], _, rfl, trivial, rfl, (.eq rfl), rfl⟩
    · replace h := cnd_f hb2 h
      refine vSkip ?_
      change VC _ _ _ _
      iterate 2 refine vSeq ?_
      refine vRegion ?_
      refine oVal tt rfl rfl rfl rfl rfl trivial ?_
      refine vNil ?_
      change VC _ _ _ _
      refine vJoin (F := fun k => S_EqualGraphs_l1 N a_0 b_1 k) h (α := Unit) (J := fun (_ : Unit) => (⟨[], [], []⟩ : PS)) ?_ ?_
      · rintro ⟨⟩ h
        show VC _ _ _ (⟨[], [], []⟩ : PS)
        refine vSeq ?_
        refine vRegion ?_
        refine oVal tt rfl rfl rfl rfl rfl trivial ?_
        refine vNil ?_
        change VC _ _ _ _
        refine vRet ?_
        change ∃ _, _
        cases h
        exact ⟨[], _, rfl, trivial, rfl, (.eq rfl), rfl⟩
      · intro k h
        refine vBlock ?_
        refine vLoopS (α := Int) (fun (i3 : Int) => (⟨[(2, .ptr 2 0), (3, .ptr 3 0), (5, .int i3)], [], [(2, some [.int a_0.n, .ro false (.pairs a_0.bars)]), (3, some [.int b_1.n, .ro false (.pairs b_1.bars)])]⟩ : PS)) (S_EqualGraphs_l1 N a_0 b_1 k) h (En.of ⟨rfl, rfl, rfl, trivial⟩ trivial ⟨rfl, rfl, trivial⟩) (fun _ => rfl) ?_
        rintro n i3 h
        rw [S_EqualGraphs_l1] at h
        show VC _ _ _ (⟨[(2, .ptr 2 0), (3, .ptr 3 0), (5, .int i3)], [], [(2, some [.int a_0.n, .ro false (.pairs a_0.bars)]), (3, some [.int b_1.n, .ro false (.pairs b_1.bars)])]⟩ : PS)
        iterate 2 refine vSeq ?_
        refine vRegion ?_
        iterate 5 refine oVal tt rfl rfl rfl rfl rfl trivial ?_
        refine vNil ?_
        change VC _ _ _ _
        refine vCond rfl (fun hb3 => ?_) (fun hb3 => ?_)
        · replace h := cnd_t hb3 h
          refine vSkip ?_
          change VC _ _ _ _
          refine vSeq ?_
          refine vBlock ?_
          refine vSeq ?_
          refine vRegionD (by kernel_rfl) (by kernel_rfl) ?_
          iterate 3 refine cVal tt rfl (wNone rfl) rfl rfl rfl trivial ?_
          obtain ⟨hg4, h⟩ := grd_inv h
          refine cVal tt rfl (wNone rfl) rfl rfl rfl hg4 ?_
          iterate 4 refine cVal tt rfl (wNone rfl) rfl rfl rfl trivial ?_
          obtain ⟨hg5, h⟩ := grd_inv h
          refine cVal tt rfl (wNone rfl) rfl rfl rfl hg5 ?_
          refine cVal tt rfl (wNone rfl) rfl rfl rfl trivial ?_
          refine cPure (wNone rfl) (pNeP eqP_impl_Bar rfl rfl rfl) rfl rfl ?_
          refine cNil ?_
          change VC _ _ _ _
          refine vCond rfl (fun hb6 => ?_) (fun hb6 => ?_)
          · replace h := cnd_t hb6 h
            refine vSeq ?_
            refine vRegion ?_
            refine oVal tt rfl rfl rfl rfl rfl trivial ?_
            refine vNil ?_
            change VC _ _ _ _
            refine vRet ?_
            change ∃ _, _
            cases h
            exact ⟨[], _, rfl, trivial, rfl, (.eq rfl), rfl⟩
          · replace h := cnd_f hb6 h
            refine vSkip ?_
            change VC _ _ _ _
            refine vRegion ?_
            refine oVal tt rfl rfl rfl rfl rfl trivial ?_
            obtain ⟨hg7, h⟩ := grd_inv h
            refine oVal tt rfl rfl rfl rfl rfl hg7 ?_
            refine oVal tt rfl rfl rfl rfl rfl trivial ?_
            refine vNil ?_
            change ∃ _, _
            exact ⟨(i3 + (1 : Int)), (En.of ⟨rfl, rfl, rfl, trivial⟩ trivial ⟨rfl, rfl, trivial⟩), h⟩
        · replace h := cnd_f hb3 h
          refine vExit ?_
          change ∃ _, _
          exact ⟨(), (En.of trivial trivial trivial), h⟩
end Go.Proofs.Ytlmlfbjcpajinaa
