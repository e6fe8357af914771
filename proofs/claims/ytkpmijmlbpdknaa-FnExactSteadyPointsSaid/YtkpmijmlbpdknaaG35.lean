/- Plain texts of functions, and that the program computes them (printed by gen.py). -/
import Derived.Test.YtkpmijmlbpdknaaShb
import Derived.Test.YtkpmijmlbpdknaaG14
import Derived.Test.YtkpmijmlbpdknaaG15
import Derived.Test.YtkpmijmlbpdknaaG30
import Derived.Test.YtkpmijmlbpdknaaG34
namespace Go.Proofs.Ytkpmijmlbpdknaa
open Go.RowKit
set_option linter.unusedVariables false
set_option linter.unusedSimpArgs false
def S_l6Rank_l1 (N : Nat) (g_0 : Grf) (k : Int → Option (Int)) : Nat → ((List Int) × (List Int) × (List Int) × Int × Int × Nat) → Option (Int)
  | 0, _ => none
  | n + 1, (l36, l37, l38, n39, i40, n41) =>
    cnd (decide (i40 < (g_0.bars.length : Int))) (
      grd (0 ≤ i40 ∧ i40 < (g_0.bars.length : Int)) <|
      grd (n41 = l36.length) <|
      (S_l4Gather N g_0 (⟨l36, l37, l38⟩ : Pbl) ((g_0.bars.getD ((i40).toNat) (0, 0)).1) ((g_0.bars.getD ((i40).toNat) (0, 0)).2) (4 : Int)).bind fun v43 =>
      cnd (!v43.2) (
        grd (Rg64 (i40 + (1 : Int))) <|
        S_l6Rank_l1 N g_0 k n (l36, l37, l38, n39, (i40 + (1 : Int)), n41)) (
        grd (0 ≤ ((g_0.bars.getD ((i40).toNat) (0, 0)).1) ∧ ((g_0.bars.getD ((i40).toNat) (0, 0)).1) < (v43.1.free.length : Int)) <|
        grd (Rg64 ((v43.1.free.getD (((g_0.bars.getD ((i40).toNat) (0, 0)).1).toNat) 0) - (1 : Int))) <|
        grd (v43.1.tails.length + 1 ≤ 4294967296) <|
        grd (v43.1.placed.length + 1 ≤ 4294967296) <|
        grd (Rg64 (n39 + (1 : Int))) <|
        grd (Rg64 (i40 + (1 : Int))) <|
        S_l6Rank_l1 N g_0 k n ((v43.1.free.set (((g_0.bars.getD ((i40).toNat) (0, 0)).1).toNat) ((v43.1.free.getD (((g_0.bars.getD ((i40).toNat) (0, 0)).1).toNat) 0) - (1 : Int))), (v43.1.tails ++ ([(g_0.bars.getD ((i40).toNat) (0, 0)).1] : List Int)), (v43.1.placed ++ ([i40] : List Int)), (n39 + (1 : Int)), (i40 + (1 : Int)), v43.1.free.length))) (
      k n39)
def S_l6Rank (N : Nat) (g_0 : Grf) : Option (Int) :=
  (S_NewPebbles N (⟨g_0.n, ([] : List (Int × Int))⟩ : Grf) (2 : Int)).bind fun v1 =>
  S_l6Rank_l1 N g_0 (fun (n22 : Int) =>
        some n22) N (v1.1.free, ([] : List Int), ([] : List Int), (0 : Int), (0 : Int), v1.1.free.length)
set_option maxRecDepth 20000 in
set_option maxHeartbeats 1600000 in
theorem S_l6Rank_w (N : Nat) (g_0 : Grf) (r : Int) (h : S_l6Rank N g_0 = some r) : PCall Try.prog 93 [gD g_0] [] (.int r) := by
  unfold S_l6Rank at h
  refine pcall_intro (TT := TT) tt Try.func93 rfl rfl Try.ntmps93 (congrArg Array.toList Try.results93) rfl rfl fun w0 => ?_
  refine vSeq ?_
  refine vRegion ?_
  refine oBox rfl rfl rfl rfl rfl rfl rfl rfl rfl ?_
  refine oVal tt rfl rfl rfl rfl rfl trivial ?_
  refine vNil ?_
  change VC _ _ _ _
  refine vSeq ?_
  refine vRegion ?_
  iterate 2 refine oVal tt rfl rfl rfl rfl rfl trivial ?_
  refine oPure (wNone rfl) (pBuild bld_impl_Graph rfl rfl) rfl rfl ?_
  obtain ⟨v1, hc1, h⟩ := bind_inv h
  refine oCall (S_NewPebbles_w N (⟨g_0.n, ([] : List (Int × Int))⟩ : Grf) (2 : Int) v1 hc1) rfl rfl rfl rfl rfl rfl rfl rfl ⟨⟨rfl, rfl, trivial⟩, rfl, trivial⟩ ?_
  iterate 3 refine oVal tt rfl rfl rfl rfl rfl trivial ?_
  refine oAlloc tt rfl rfl rfl rfl rfl rfl rfl rfl rfl ?_
  refine oStore tt rfl rfl rfl rfl rfl rfl rfl rfl rfl rfl rfl ⟨trivial, trivial, trivial, trivial⟩ ?_
  refine oVal tt rfl rfl rfl rfl rfl trivial ?_
  refine vNil ?_
  change VC _ _ _ _
  refine vSeq ?_
  refine vRegion ?_
  refine oVal tt rfl rfl rfl rfl rfl trivial ?_
  refine vNil ?_
  change VC _ _ _ _
  iterate 2 refine vSeq ?_
  refine vRegion ?_
  refine oVal tt rfl rfl rfl rfl rfl trivial ?_
  refine vNil ?_
  change VC _ _ _ _
  refine vJoin (F := fun k => S_l6Rank_l1 N g_0 k) h (α := Int) (J := fun (n22 : Int) => (⟨[(5, .int n22)], [], []⟩ : PS)) ?_ ?_
  · rintro n22 h
    show VC _ _ _ (⟨[(5, .int n22)], [], []⟩ : PS)
    refine vSeq ?_
    refine vRegion ?_
    iterate 2 refine oVal tt rfl rfl rfl rfl rfl trivial ?_
    refine vNil ?_
    change VC _ _ _ _
    refine vRet ?_
    change ∃ _, _
    cases h
    exact ⟨[], _, rfl, trivial, rfl, (.eq rfl), rfl⟩
  · intro k h
    refine vBlock ?_
    refine vNilB 3 1 9507 3 (.ints []) rfl rfl rfl rfl rfl ?_
    refine vNilB 3 2 9508 3 (.ints []) rfl rfl rfl rfl rfl ?_
    refine vLoopS (α := (List Int) × (List Int) × (List Int) × Int × Int × Nat) (fun | (l36, l37, l38, n39, i40, n41) => (⟨[(1, .ptr 1 0), (3, .ptr 3 0), (5, .int n39), (6, .int i40)], [(1130, some (3, .ints l36)), (9507, some (3, .ints l37)), (9508, some (3, .ints l38))], [(1, some [.int g_0.n, .ro false (.pairs g_0.bars)]), (3, some [.row 1130 0 n41, .row 9507 0 l37.length, .row 9508 0 l38.length])]⟩ : PS)) (S_l6Rank_l1 N g_0 k) h (En.of ⟨rfl, rfl, rfl, rfl, trivial⟩ ⟨rfl, rfl, rfl, trivial⟩ ⟨rfl, rfl, trivial⟩) (fun _ => rfl) ?_
    rintro n ⟨l36, l37, l38, n39, i40, n41⟩ h
    rw [S_l6Rank_l1] at h
    show VC _ _ _ (⟨[(1, .ptr 1 0), (3, .ptr 3 0), (5, .int n39), (6, .int i40)], [(1130, some (3, .ints l36)), (9507, some (3, .ints l37)), (9508, some (3, .ints l38))], [(1, some [.int g_0.n, .ro false (.pairs g_0.bars)]), (3, some [.row 1130 0 n41, .row 9507 0 l37.length, .row 9508 0 l38.length])]⟩ : PS)
    iterate 2 refine vSeq ?_
    refine vRegion ?_
    iterate 5 refine oVal tt rfl rfl rfl rfl rfl trivial ?_
    refine vNil ?_
    change VC _ _ _ _
    refine vCond rfl (fun hb2 => ?_) (fun hb2 => ?_)
    · replace h := cnd_t hb2 h
      refine vSkip ?_
      change VC _ _ _ _
      refine vSeq ?_
      refine vBlock ?_
      refine vSeq ?_
      refine vRegionN 20 [14, 18, 1190000007] [0, 0, 0, 4, 0, 28, 60, 124, 0, 256, 0, 1792, 3840, 7936, 16383, 32767, 65535, 65535, 0, 393215, 1048575] (by kernel_rfl) (by kernel_rfl) (by kernel_rfl) (by kernel_rfl) (by kernel_rfl) rfl (by rfl) ?_
      iterate 5 refine nVal tt rfl (wNone rfl) rfl rfl rfl rfl rfl trivial ?_
      obtain ⟨hg3, h⟩ := grd_inv h
      refine nVal tt rfl (wNone rfl) rfl rfl rfl rfl rfl hg3 ?_
      iterate 5 refine nVal tt rfl (wNone rfl) rfl rfl rfl rfl rfl trivial ?_
      refine nVal tt rfl (wNone rfl) rfl rfl rfl rfl rfl hg3 ?_
      iterate 2 refine nVal tt rfl (wNone rfl) rfl rfl rfl rfl rfl trivial ?_
      obtain ⟨hg4, h⟩ := grd_inv h
      obtain ⟨v43, hc5, h⟩ := bind_inv h
      refine nCallR (S_l4Gather_w N g_0 (⟨l36, l37, l38⟩ : Pbl) ((g_0.bars.getD ((i40).toNat) (0, 0)).1) ((g_0.bars.getD ((i40).toNat) (0, 0)).2) (4 : Int) v43 hc5) rfl (wNone rfl) rfl rfl rfl rfl rfl rfl (by first | rfl | kernel_rfl | (simp [nrL, nm, gdst, nmT, rowB]; done)) rfl (by first | rfl | kernel_rfl | (simp [chkE, nrL, nm, gdst, nmT, rowB, hid, ment, mentA, mentS]; done) | (simp [chkE, nrL, nm, gdst, nmT, rowB, hid, ment, mentA, mentS]; decide)) ⟨⟨rfl, rfl, trivial⟩, ⟨(.inl ⟨hg4, rfl⟩), (.inl ⟨rfl, rfl⟩), (.inl ⟨rfl, rfl⟩), trivial⟩, rfl, rfl, rfl, trivial⟩ ?_
      iterate 3 refine nVal tt rfl (wNone rfl) rfl rfl rfl rfl rfl trivial ?_
      refine nAlloc tt (wNone rfl) rfl rfl rfl rfl rfl rfl rfl rfl rfl rfl ?_
      refine nStoreB tt (wNone rfl) rfl rfl rfl rfl rfl rfl rfl rfl rfl rfl rfl rfl ?_
      refine nNil ?_
      change VO _ _ _ _ _
      refine oVal tt rfl rfl rfl rfl rfl trivial ?_
      refine vNil ?_
      change VC _ _ _ _
      iterate 2 refine vSeq ?_
      refine vRegion ?_
      iterate 2 refine oVal tt rfl rfl rfl rfl rfl trivial ?_
      refine vNil ?_
      change VC _ _ _ _
      refine vCond rfl (fun hb6 => ?_) (fun hb6 => ?_)
      · replace h := cnd_t hb6 h
        refine vExit ?_
        change VC _ _ _ _
        refine vRegion ?_
        refine oVal tt rfl rfl rfl rfl rfl trivial ?_
        obtain ⟨hg7, h⟩ := grd_inv h
        refine oVal tt rfl rfl rfl rfl rfl hg7 ?_
        refine oVal tt rfl rfl rfl rfl rfl trivial ?_
        refine vNil ?_
        change ∃ _, _
        exact ⟨(l36, l37, l38, n39, (i40 + (1 : Int)), n41), (En.of ⟨rfl, rfl, rfl, rfl, trivial⟩ ⟨rfl, rfl, rfl, trivial⟩ ⟨rfl, rfl, trivial⟩), h⟩
      · replace h := cnd_f hb6 h
        refine vSkip ?_
        change VC _ _ _ _
        refine vSeq ?_
        refine vRegionN 19 [] [0, 1, 0, 4, 0, 28, 60, 124, 0, 256, 0, 1024, 0, 7168, 15360, 31744, 65280, 130816, 261888, 524287, 1048575] (by kernel_rfl) (by kernel_rfl) (by kernel_rfl) (by kernel_rfl) (by kernel_rfl) rfl (by rfl) ?_
        iterate 5 refine nVal tt rfl (wNone rfl) rfl rfl rfl rfl rfl trivial ?_
        refine nVal tt rfl (wNone rfl) rfl rfl rfl rfl rfl hg3 ?_
        iterate 7 refine nVal tt rfl (wNone rfl) rfl rfl rfl rfl rfl trivial ?_
        refine nVal tt rfl (wNone rfl) rfl rfl rfl rfl rfl hg3 ?_
        iterate 2 refine nVal tt rfl (wNone rfl) rfl rfl rfl rfl rfl trivial ?_
        obtain ⟨hg8, h⟩ := grd_inv h
        iterate 2 refine nVal tt rfl (wNone rfl) rfl rfl rfl rfl rfl hg8 ?_
        obtain ⟨hg9, h⟩ := grd_inv h
        refine nVal tt rfl (wNone rfl) rfl rfl rfl rfl rfl hg9 ?_
        refine nNil ?_
        change VO _ _ _ _ _
        refine oVal tt rfl rfl rfl rfl rfl hg8 ?_
        refine oStore tt rfl rfl rfl rfl rfl rfl rfl rfl rfl rfl ⟨_, _, rfl, hg8.1, hg8.2⟩ ⟨hg8, trivial⟩ ?_
        refine vNil ?_
        change VC _ _ _ _
        refine vSeq ?_
        refine vRegionN 9 [8] [0, 1, 0, 4, 0, 28, 60, 124, 252, 511, 1023, 2047] (by kernel_rfl) (by kernel_rfl) (by kernel_rfl) (by kernel_rfl) (by kernel_rfl) rfl (by rfl) ?_
        iterate 5 refine nVal tt rfl (wNone rfl) rfl rfl rfl rfl rfl trivial ?_
        refine nVal tt rfl (wNone rfl) rfl rfl rfl rfl rfl hg3 ?_
        iterate 2 refine nVal tt rfl (wNone rfl) rfl rfl rfl rfl rfl trivial ?_
        refine nBuild tt (wNone rfl) rfl rfl rfl rfl rfl rfl rfl rfl rfl rfl rfl rfl ?_
        refine nNil ?_
        change VO _ _ _ _ _
        obtain ⟨hg10, h⟩ := grd_inv h
        refine oAppend tt rfl rfl rfl rfl rfl rfl rfl rfl rfl rfl rfl rfl rfl rfl rfl rfl (Nat.le_of_eq (Nat.zero_add _)) hg10 ?_
        refine oVal tt rfl rfl rfl rfl rfl trivial ?_
        refine oStore tt rfl rfl rfl rfl rfl rfl rfl rfl rfl rfl rfl ⟨trivial, trivial⟩ ?_
        refine vNil ?_
        change VC _ _ _ _
        refine vSeq ?_
        refine vRegion ?_
        iterate 3 refine oVal tt rfl rfl rfl rfl rfl trivial ?_
        refine oBuild tt rfl rfl rfl rfl rfl rfl rfl rfl rfl rfl rfl ?_
        obtain ⟨hg11, h⟩ := grd_inv h
        refine oAppend tt rfl rfl rfl rfl rfl rfl rfl rfl rfl rfl rfl rfl rfl rfl rfl rfl (Nat.le_of_eq (Nat.zero_add _)) hg11 ?_
        refine oVal tt rfl rfl rfl rfl rfl trivial ?_
        refine oStore tt rfl rfl rfl rfl rfl rfl rfl rfl rfl rfl rfl ⟨trivial, trivial⟩ ?_
        refine vNil ?_
        change VC _ _ _ _
        refine vSeq ?_
        refine vRegion ?_
        refine oVal tt rfl rfl rfl rfl rfl trivial ?_
        refine oStore tt rfl rfl rfl rfl rfl rfl rfl rfl rfl rfl rfl ⟨trivial, trivial, trivial, trivial⟩ ?_
        refine vNil ?_
        change VC _ _ _ _
        refine vRegion ?_
        refine oVal tt rfl rfl rfl rfl rfl trivial ?_
        obtain ⟨hg12, h⟩ := grd_inv h
        refine oVal tt rfl rfl rfl rfl rfl hg12 ?_
        refine oVal tt rfl rfl rfl rfl rfl trivial ?_
        refine vNil ?_
        change VC _ _ _ _
        refine vRegion ?_
        refine oVal tt rfl rfl rfl rfl rfl trivial ?_
        obtain ⟨hg13, h⟩ := grd_inv h
        refine oVal tt rfl rfl rfl rfl rfl hg13 ?_
        refine oVal tt rfl rfl rfl rfl rfl trivial ?_
        refine vNil ?_
        change ∃ _, _
        exact ⟨((v43.1.free.set (((g_0.bars.getD ((i40).toNat) (0, 0)).1).toNat) ((v43.1.free.getD (((g_0.bars.getD ((i40).toNat) (0, 0)).1).toNat) 0) - (1 : Int))), (v43.1.tails ++ ([(g_0.bars.getD ((i40).toNat) (0, 0)).1] : List Int)), (v43.1.placed ++ ([i40] : List Int)), (n39 + (1 : Int)), (i40 + (1 : Int)), v43.1.free.length), (En.ren [1130, 9507, 9508] [1380, 1381, 1382] rfl ⟨.inr rfl, .inr rfl, .inr rfl, .inr rfl, trivial⟩ ⟨.inr rfl, .inr rfl, .inr rfl, trivial⟩ ⟨.inr ⟨_, _, rfl, rfl, ⟨.inr rfl, .inr rfl, trivial⟩⟩, .inr ⟨_, _, rfl, rfl, ⟨.inr rfl, .inr rfl, .inr rfl, trivial⟩⟩, trivial⟩), h⟩
    · replace h := cnd_f hb2 h
      refine vExit ?_
      change ∃ _, _
      exact ⟨n39, (En.of ⟨rfl, trivial⟩ trivial trivial), h⟩
def S_PinnedRank (N : Nat) (p_0 : Pin) : Option (Int) :=
  (S_IsPinned N p_0).bind fun v1 =>
  cnd (!v1) (
    some (-1 : Int)) (
    (S_l20All N p_0).bind fun v2 =>
    (S_l6Rank N v2).bind fun v3 =>
    (S_l20Held N p_0).bind fun v4 =>
    (S_l6Rank N v4).bind fun v5 =>
    grd (Rg64 (v3 - v5)) <|
    some (v3 - v5))
set_option maxRecDepth 20000 in
set_option maxHeartbeats 1600000 in
theorem S_PinnedRank_w (N : Nat) (p_0 : Pin) (r : Int) (h : S_PinnedRank N p_0 = some r) : PCall Try.prog 59 [pD p_0] [] (.int r) := by
  unfold S_PinnedRank at h
  refine pcall_intro (TT := TT) tt Try.func59 rfl rfl Try.ntmps59 (congrArg Array.toList Try.results59) rfl rfl fun w0 => ?_
  refine vSeq ?_
  refine vRegion ?_
  refine oBox rfl rfl rfl rfl rfl rfl rfl rfl rfl ?_
  refine oVal tt rfl rfl rfl rfl rfl trivial ?_
  refine vNil ?_
  change VC _ _ _ _
  iterate 2 refine vSeq ?_
  refine vRegion ?_
  refine oVal tt rfl rfl rfl rfl rfl trivial ?_
  obtain ⟨v1, hc1, h⟩ := bind_inv h
  refine oCall (S_IsPinned_w N p_0 v1 hc1) rfl rfl rfl rfl rfl rfl rfl rfl ⟨⟨rfl, rfl, rfl, trivial⟩, trivial⟩ ?_
  refine oVal tt rfl rfl rfl rfl rfl trivial ?_
  refine vNil ?_
  change VC _ _ _ _
  refine vCond rfl (fun hb2 => ?_) (fun hb2 => ?_)
  · replace h := cnd_t hb2 h
    refine vSeq ?_
    refine vRegion ?_
    refine oVal tt rfl rfl rfl rfl rfl trivial ?_
    refine vNil ?_
    change VC _ _ _ _
    refine vRet ?_
    change ∃ _, _
    cases h
    exact ⟨[], _, rfl, trivial, rfl, (.eq rfl), rfl⟩
  · replace h := cnd_f hb2 h
    refine vSkip ?_
    change VC _ _ _ _
    refine vSeq ?_
    refine vRegionN 4 [1] [0, 1, 3, 0, 15, 31, 63, 127] (by kernel_rfl) (by kernel_rfl) (by kernel_rfl) (by kernel_rfl) (by kernel_rfl) rfl (by rfl) ?_
    refine nVal tt rfl (wNone rfl) rfl rfl rfl rfl rfl trivial ?_
    obtain ⟨v2, hc3, h⟩ := bind_inv h
    refine nCallR (S_l20All_w N p_0 v2 hc3) rfl (wNone rfl) rfl rfl rfl rfl rfl rfl (by first | rfl | kernel_rfl | (simp [nrL, nm, gdst, nmT, rowB]; done)) rfl (by first | rfl | kernel_rfl | (simp [chkE, nrL, nm, gdst, nmT, rowB, hid, ment, mentA, mentS]; done) | (simp [chkE, nrL, nm, gdst, nmT, rowB, hid, ment, mentA, mentS]; decide)) ⟨⟨rfl, rfl, rfl, trivial⟩, trivial⟩ ?_
    obtain ⟨v3, hc4, h⟩ := bind_inv h
    refine nCall (S_l6Rank_w N v2 v3 hc4) rfl (wNone rfl) rfl rfl rfl rfl rfl rfl rfl rfl ⟨⟨rfl, (.inl ⟨rfl, rfl⟩), trivial⟩, trivial⟩ ?_
    refine nVal tt rfl (wNone rfl) rfl rfl rfl rfl rfl trivial ?_
    refine nNil ?_
    change VO _ _ _ _ _
    obtain ⟨v4, hc5, h⟩ := bind_inv h
    refine oCall (S_l20Held_w N p_0 v4 hc5) rfl rfl rfl rfl rfl rfl rfl rfl ⟨⟨rfl, rfl, rfl, trivial⟩, trivial⟩ ?_
    obtain ⟨v5, hc6, h⟩ := bind_inv h
    refine oCall (S_l6Rank_w N v4 v5 hc6) rfl rfl rfl rfl rfl rfl rfl rfl ⟨⟨rfl, (.inl ⟨rfl, rfl⟩), trivial⟩, trivial⟩ ?_
    obtain ⟨hg7, h⟩ := grd_inv h
    refine oVal tt rfl rfl rfl rfl rfl hg7 ?_
    refine oVal tt rfl rfl rfl rfl rfl trivial ?_
    refine vNil ?_
    change VC _ _ _ _
    refine vRet ?_
    change ∃ _, _
    cases h
    exact ⟨[], _, rfl, trivial, rfl, (.eq rfl), rfl⟩
def S_PinnedFreedom (N : Nat) (p_0 : Pin) : Option (Int) :=
  (S_IsPinned N p_0).bind fun v1 =>
  cnd (!v1) (
    some (-1 : Int)) (
    (S_InnerPoints N p_0).bind fun v2 =>
    grd (Rg64 ((2 : Int) * (v2.length : Int))) <|
    (S_PinnedRank N p_0).bind fun v3 =>
    grd (Rg64 (((2 : Int) * (v2.length : Int)) - v3)) <|
    some (((2 : Int) * (v2.length : Int)) - v3))
set_option maxRecDepth 20000 in
set_option maxHeartbeats 1600000 in
theorem S_PinnedFreedom_w (N : Nat) (p_0 : Pin) (r : Int) (h : S_PinnedFreedom N p_0 = some r) : PCall Try.prog 53 [pD p_0] [] (.int r) := by
  unfold S_PinnedFreedom at h
  refine pcall_intro (TT := TT) tt Try.func53 rfl rfl Try.ntmps53 (congrArg Array.toList Try.results53) rfl rfl fun w0 => ?_
  refine vSeq ?_
  refine vRegion ?_
  refine oBox rfl rfl rfl rfl rfl rfl rfl rfl rfl ?_
  refine oVal tt rfl rfl rfl rfl rfl trivial ?_
  refine vNil ?_
  change VC _ _ _ _
  iterate 2 refine vSeq ?_
  refine vRegion ?_
  refine oVal tt rfl rfl rfl rfl rfl trivial ?_
  obtain ⟨v1, hc1, h⟩ := bind_inv h
  refine oCall (S_IsPinned_w N p_0 v1 hc1) rfl rfl rfl rfl rfl rfl rfl rfl ⟨⟨rfl, rfl, rfl, trivial⟩, trivial⟩ ?_
  refine oVal tt rfl rfl rfl rfl rfl trivial ?_
  refine vNil ?_
  change VC _ _ _ _
  refine vCond rfl (fun hb2 => ?_) (fun hb2 => ?_)
  · replace h := cnd_t hb2 h
    refine vSeq ?_
    refine vRegion ?_
    refine oVal tt rfl rfl rfl rfl rfl trivial ?_
    refine vNil ?_
    change VC _ _ _ _
    refine vRet ?_
    change ∃ _, _
    cases h
    exact ⟨[], _, rfl, trivial, rfl, (.eq rfl), rfl⟩
  · replace h := cnd_f hb2 h
    refine vSkip ?_
    change VC _ _ _ _
    refine vSeq ?_
    refine vRegionN 6 [1] [0, 1, 3, 7, 0, 19, 63, 127] (by kernel_rfl) (by kernel_rfl) (by kernel_rfl) (by kernel_rfl) (by kernel_rfl) rfl (by rfl) ?_
    refine nVal tt rfl (wNone rfl) rfl rfl rfl rfl rfl trivial ?_
    obtain ⟨v2, hc3, h⟩ := bind_inv h
    refine nCallR (S_InnerPoints_w N p_0 v2 hc3) rfl (wNone rfl) rfl rfl rfl rfl rfl rfl (by first | rfl | kernel_rfl | (simp [nrL, nm, gdst, nmT, rowB]; done)) rfl (by first | rfl | kernel_rfl | (simp [chkE, nrL, nm, gdst, nmT, rowB, hid, ment, mentA, mentS]; done) | (simp [chkE, nrL, nm, gdst, nmT, rowB, hid, ment, mentA, mentS]; decide)) ⟨⟨rfl, rfl, rfl, trivial⟩, trivial⟩ ?_
    refine nVal tt rfl (wNone rfl) rfl rfl rfl rfl rfl trivial ?_
    obtain ⟨hg4, h⟩ := grd_inv h
    refine nVal tt rfl (wNone rfl) rfl rfl rfl rfl rfl hg4 ?_
    refine nVal tt rfl (wNone rfl) rfl rfl rfl rfl rfl trivial ?_
    obtain ⟨v3, hc5, h⟩ := bind_inv h
    refine nCall (S_PinnedRank_w N p_0 v3 hc5) rfl (wNone rfl) rfl rfl rfl rfl rfl rfl rfl rfl ⟨⟨rfl, rfl, rfl, trivial⟩, trivial⟩ ?_
    refine nNil ?_
    change VO _ _ _ _ _
    obtain ⟨hg6, h⟩ := grd_inv h
    refine oVal tt rfl rfl rfl rfl rfl hg6 ?_
    refine oVal tt rfl rfl rfl rfl rfl trivial ?_
    refine vNil ?_
    change VC _ _ _ _
    refine vRet ?_
    change ∃ _, _
    cases h
    exact ⟨[], _, rfl, trivial, rfl, (.eq rfl), rfl⟩
def S_RepairCost (N : Nat) (p_0 : Pin) : Option (Int) :=
  (S_PinnedFreedom N p_0).bind fun v1 =>
  some v1
set_option maxRecDepth 20000 in
set_option maxHeartbeats 1600000 in
theorem S_RepairCost_w (N : Nat) (p_0 : Pin) (r : Int) (h : S_RepairCost N p_0 = some r) : PCall Try.prog 16 [pD p_0] [] (.int r) := by
  unfold S_RepairCost at h
  refine pcall_intro (TT := TT) tt Try.func16 rfl rfl Try.ntmps16 (congrArg Array.toList Try.results16) rfl rfl fun w0 => ?_
  refine vSeq ?_
  refine vRegion ?_
  refine oBox rfl rfl rfl rfl rfl rfl rfl rfl rfl ?_
  refine oVal tt rfl rfl rfl rfl rfl trivial ?_
  refine vNil ?_
  change VC _ _ _ _
  refine vSeq ?_
  refine vRegion ?_
  refine oVal tt rfl rfl rfl rfl rfl trivial ?_
  obtain ⟨v1, hc1, h⟩ := bind_inv h
  refine oCall (S_PinnedFreedom_w N p_0 v1 hc1) rfl rfl rfl rfl rfl rfl rfl rfl ⟨⟨rfl, rfl, rfl, trivial⟩, trivial⟩ ?_
  refine oVal tt rfl rfl rfl rfl rfl trivial ?_
  refine vNil ?_
  change VC _ _ _ _
  refine vRet ?_
  change ∃ _, _
  cases h
  exact ⟨[], _, rfl, trivial, rfl, (.eq rfl), rfl⟩
def I_PinnedRank (N : Nat) (p_0 : Pin) : Option (Int) :=
  (I_IsPinned N p_0).bind fun v1 =>
  cnd (!v1) (
    some (-1 : Int)) (
    (M_Pinned_held N p_0).bind fun v2 =>
    grd (v2.length + p_0.g.bars.length ≤ 4294967296) <|
    (I_planeRank N p_0.g.n (v2 ++ p_0.g.bars)).bind fun v3 =>
    (M_Pinned_held N p_0).bind fun v4 =>
    (I_planeRank N p_0.g.n v4).bind fun v5 =>
    grd (Rg64 (v3 - v5)) <|
    some (v3 - v5))
set_option maxRecDepth 20000 in
set_option maxHeartbeats 1600000 in
theorem I_PinnedRank_w (N : Nat) (p_0 : Pin) (r : Int) (h : I_PinnedRank N p_0 = some r) : PCall Try.prog 61 [pD p_0] [] (.int r) := by
  unfold I_PinnedRank at h
  refine pcall_intro (TT := TT) tt Try.func61 rfl rfl Try.ntmps61 (congrArg Array.toList Try.results61) rfl rfl fun w0 => ?_
  refine vSeq ?_
  refine vRegion ?_
  refine oBox rfl rfl rfl rfl rfl rfl rfl rfl rfl ?_
  refine oVal tt rfl rfl rfl rfl rfl trivial ?_
  refine vNil ?_
  change VC _ _ _ _
  iterate 2 refine vSeq ?_
  refine vRegion ?_
  refine oVal tt rfl rfl rfl rfl rfl trivial ?_
  obtain ⟨v1, hc1, h⟩ := bind_inv h
  refine oCall (I_IsPinned_w N p_0 v1 hc1) rfl rfl rfl rfl rfl rfl rfl rfl ⟨⟨rfl, rfl, rfl, trivial⟩, trivial⟩ ?_
  refine oVal tt rfl rfl rfl rfl rfl trivial ?_
  refine vNil ?_
  change VC _ _ _ _
  refine vCond rfl (fun hb2 => ?_) (fun hb2 => ?_)
  · replace h := cnd_t hb2 h
    refine vSeq ?_
    refine vRegion ?_
    refine oVal tt rfl rfl rfl rfl rfl trivial ?_
    refine vNil ?_
    change VC _ _ _ _
    refine vRet ?_
    change ∃ _, _
    cases h
    exact ⟨[], _, rfl, trivial, rfl, (.eq rfl), rfl⟩
  · replace h := cnd_f hb2 h
    refine vSkip ?_
    change VC _ _ _ _
    refine vSeq ?_
    refine vRegion ?_
    iterate 4 refine oVal tt rfl rfl rfl rfl rfl trivial ?_
    refine vNil ?_
    change VC _ _ _ _
    refine vSeq ?_
    refine vRegionN 11 [2, 6, 10, 1060001120] [0, 0, 2, 0, 8, 24, 62, 127, 0, 0, 767, 2047, 4095, 8191] (by kernel_rfl) (by kernel_rfl) (by kernel_rfl) (by kernel_rfl) (by kernel_rfl) rfl (by rfl) ?_
    iterate 2 refine nVal tt rfl (wNone rfl) rfl rfl rfl rfl rfl trivial ?_
    obtain ⟨v2, hc3, h⟩ := bind_inv h
    refine nCallR (M_Pinned_held_w N p_0 v2 hc3) rfl (wNone rfl) rfl rfl rfl rfl rfl rfl (by first | rfl | kernel_rfl | (simp [nrL, nm, gdst, nmT, rowB]; done)) rfl (by first | rfl | kernel_rfl | (simp [chkE, nrL, nm, gdst, nmT, rowB, hid, ment, mentA, mentS]; done) | (simp [chkE, nrL, nm, gdst, nmT, rowB, hid, ment, mentA, mentS]; decide)) ⟨⟨rfl, rfl, rfl, trivial⟩, trivial⟩ ?_
    iterate 3 refine nVal tt rfl (wNone rfl) rfl rfl rfl rfl rfl trivial ?_
    obtain ⟨hg4, h⟩ := grd_inv h
    refine nAppMove tt (wNone rfl) rfl rfl rfl rfl rfl rfl rfl rfl rfl rfl rfl rfl rfl rfl rfl rfl rfl rfl rfl rfl trivial hg4 ?_
    obtain ⟨v3, hc5, h⟩ := bind_inv h
    refine nCall (I_planeRank_w N p_0.g.n (v2 ++ p_0.g.bars) v3 hc5) rfl (wNone rfl) rfl rfl rfl rfl rfl rfl rfl rfl ⟨rfl, (.inl ⟨rfl, rfl⟩), trivial⟩ ?_
    iterate 2 refine nVal tt rfl (wNone rfl) rfl rfl rfl rfl rfl trivial ?_
    obtain ⟨v4, hc6, h⟩ := bind_inv h
    refine nCallR (M_Pinned_held_w N p_0 v4 hc6) rfl (wNone rfl) rfl rfl rfl rfl rfl rfl (by first | rfl | kernel_rfl | (simp [nrL, nm, gdst, nmT, rowB]; done)) rfl (by first | rfl | kernel_rfl | (simp [chkE, nrL, nm, gdst, nmT, rowB, hid, ment, mentA, mentS]; done) | (simp [chkE, nrL, nm, gdst, nmT, rowB, hid, ment, mentA, mentS]; decide)) ⟨⟨rfl, rfl, rfl, trivial⟩, trivial⟩ ?_
    refine nNil ?_
    change VO _ _ _ _ _
    obtain ⟨v5, hc7, h⟩ := bind_inv h
    refine oCall (I_planeRank_w N p_0.g.n v4 v5 hc7) rfl rfl rfl rfl rfl rfl rfl rfl ⟨rfl, (.inl ⟨rfl, rfl⟩), trivial⟩ ?_
    obtain ⟨hg8, h⟩ := grd_inv h
    refine oVal tt rfl rfl rfl rfl rfl hg8 ?_
    refine oVal tt rfl rfl rfl rfl rfl trivial ?_
    refine vNil ?_
    change VC _ _ _ _
    refine vRet ?_
    change ∃ _, _
    cases h
    exact ⟨[], _, rfl, trivial, rfl, (.eq rfl), rfl⟩
def I_PinnedFreedom (N : Nat) (p_0 : Pin) : Option (Int) :=
  (I_IsPinned N p_0).bind fun v1 =>
  cnd (!v1) (
    some (-1 : Int)) (
    (I_InnerPoints N p_0).bind fun v2 =>
    grd (Rg64 ((2 : Int) * (v2.length : Int))) <|
    (I_PinnedRank N p_0).bind fun v3 =>
    grd (Rg64 (((2 : Int) * (v2.length : Int)) - v3)) <|
    some (((2 : Int) * (v2.length : Int)) - v3))
set_option maxRecDepth 20000 in
set_option maxHeartbeats 1600000 in
theorem I_PinnedFreedom_w (N : Nat) (p_0 : Pin) (r : Int) (h : I_PinnedFreedom N p_0 = some r) : PCall Try.prog 56 [pD p_0] [] (.int r) := by
  unfold I_PinnedFreedom at h
  refine pcall_intro (TT := TT) tt Try.func56 rfl rfl Try.ntmps56 (congrArg Array.toList Try.results56) rfl rfl fun w0 => ?_
  refine vSeq ?_
  refine vRegion ?_
  refine oBox rfl rfl rfl rfl rfl rfl rfl rfl rfl ?_
  refine oVal tt rfl rfl rfl rfl rfl trivial ?_
  refine vNil ?_
  change VC _ _ _ _
  iterate 2 refine vSeq ?_
  refine vRegion ?_
  refine oVal tt rfl rfl rfl rfl rfl trivial ?_
  obtain ⟨v1, hc1, h⟩ := bind_inv h
  refine oCall (I_IsPinned_w N p_0 v1 hc1) rfl rfl rfl rfl rfl rfl rfl rfl ⟨⟨rfl, rfl, rfl, trivial⟩, trivial⟩ ?_
  refine oVal tt rfl rfl rfl rfl rfl trivial ?_
  refine vNil ?_
  change VC _ _ _ _
  refine vCond rfl (fun hb2 => ?_) (fun hb2 => ?_)
  · replace h := cnd_t hb2 h
    refine vSeq ?_
    refine vRegion ?_
    refine oVal tt rfl rfl rfl rfl rfl trivial ?_
    refine vNil ?_
    change VC _ _ _ _
    refine vRet ?_
    change ∃ _, _
    cases h
    exact ⟨[], _, rfl, trivial, rfl, (.eq rfl), rfl⟩
  · replace h := cnd_f hb2 h
    refine vSkip ?_
    change VC _ _ _ _
    refine vSeq ?_
    refine vRegionN 6 [1] [0, 1, 3, 7, 0, 19, 63, 127] (by kernel_rfl) (by kernel_rfl) (by kernel_rfl) (by kernel_rfl) (by kernel_rfl) rfl (by rfl) ?_
    refine nVal tt rfl (wNone rfl) rfl rfl rfl rfl rfl trivial ?_
    obtain ⟨v2, hc3, h⟩ := bind_inv h
    refine nCallR (I_InnerPoints_w N p_0 v2 hc3) rfl (wNone rfl) rfl rfl rfl rfl rfl rfl (by first | rfl | kernel_rfl | (simp [nrL, nm, gdst, nmT, rowB]; done)) rfl (by first | rfl | kernel_rfl | (simp [chkE, nrL, nm, gdst, nmT, rowB, hid, ment, mentA, mentS]; done) | (simp [chkE, nrL, nm, gdst, nmT, rowB, hid, ment, mentA, mentS]; decide)) ⟨⟨rfl, rfl, rfl, trivial⟩, trivial⟩ ?_
    refine nVal tt rfl (wNone rfl) rfl rfl rfl rfl rfl trivial ?_
    obtain ⟨hg4, h⟩ := grd_inv h
    refine nVal tt rfl (wNone rfl) rfl rfl rfl rfl rfl hg4 ?_
    refine nVal tt rfl (wNone rfl) rfl rfl rfl rfl rfl trivial ?_
    obtain ⟨v3, hc5, h⟩ := bind_inv h
    refine nCall (I_PinnedRank_w N p_0 v3 hc5) rfl (wNone rfl) rfl rfl rfl rfl rfl rfl rfl rfl ⟨⟨rfl, rfl, rfl, trivial⟩, trivial⟩ ?_
    refine nNil ?_
    change VO _ _ _ _ _
    obtain ⟨hg6, h⟩ := grd_inv h
    refine oVal tt rfl rfl rfl rfl rfl hg6 ?_
    refine oVal tt rfl rfl rfl rfl rfl trivial ?_
    refine vNil ?_
    change VC _ _ _ _
    refine vRet ?_
    change ∃ _, _
    cases h
    exact ⟨[], _, rfl, trivial, rfl, (.eq rfl), rfl⟩
end Go.Proofs.Ytkpmijmlbpdknaa
