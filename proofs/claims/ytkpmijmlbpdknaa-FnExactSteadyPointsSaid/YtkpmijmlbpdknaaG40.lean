/- Plain texts of functions, and that the program computes them (printed by gen.py). -/
import Derived.Test.YtkpmijmlbpdknaaShb
import Derived.Test.YtkpmijmlbpdknaaG4
import Derived.Test.YtkpmijmlbpdknaaG14
import Derived.Test.YtkpmijmlbpdknaaG30
import Derived.Test.YtkpmijmlbpdknaaG32
import Derived.Test.YtkpmijmlbpdknaaG34
import Derived.Test.YtkpmijmlbpdknaaG35
namespace Go.Proofs.Ytkpmijmlbpdknaa
open Go.RowKit
set_option linter.unusedVariables false
set_option linter.unusedSimpArgs false
def S_RemoveBar (N : Nat) (g_0 : Grf) (k_1 : Int) : Option (Grf × Bool) :=
  (S_IsGraph N g_0).bind fun v1 =>
  cnd (!v1) (
    (S_l2Copy N g_0).bind fun v2 =>
    some ((⟨v2.n, v2.bars⟩ : Grf), false)) (
    cnd (decide (k_1 < (0 : Int))) (
      (S_l2Copy N g_0).bind fun v3 =>
      some ((⟨v3.n, v3.bars⟩ : Grf), false)) (
      cnd (decide (k_1 ≥ (g_0.bars.length : Int))) (
        (S_l2Copy N g_0).bind fun v4 =>
        some ((⟨v4.n, v4.bars⟩ : Grf), false)) (
        grd (0 ≤ k_1 ∧ k_1 ≤ (g_0.bars.length : Int)) <|
        grd (((g_0.bars.take ((k_1).toNat)).drop 0).length ≤ 4294967296) <|
        grd (Rg64 (k_1 + (1 : Int))) <|
        grd (0 ≤ (k_1 + (1 : Int)) ∧ (k_1 + (1 : Int)) ≤ (g_0.bars.length : Int)) <|
        grd ((([] : List (Int × Int)) ++ ((g_0.bars.take ((k_1).toNat)).drop 0)).length + ((g_0.bars.take g_0.bars.length).drop (((k_1 + (1 : Int))).toNat)).length ≤ 4294967296) <|
        some ((⟨g_0.n, ((([] : List (Int × Int)) ++ ((g_0.bars.take ((k_1).toNat)).drop 0)) ++ ((g_0.bars.take g_0.bars.length).drop (((k_1 + (1 : Int))).toNat)))⟩ : Grf), true))))
set_option maxRecDepth 20000 in
set_option maxHeartbeats 1600000 in
theorem S_RemoveBar_w (N : Nat) (g_0 : Grf) (k_1 : Int) (r : Grf × Bool) (h : S_RemoveBar N g_0 k_1 = some r) : PCall Try.prog 97 [gD g_0, .int k_1] [(71, .pairs r.1.bars)] (.tup [.agg [.int r.1.n, .row 0 0 r.1.bars.length], .bool r.2]) := by
  unfold S_RemoveBar at h
  refine pcall_intro (TT := TT) tt Try.func97 rfl rfl Try.ntmps97 (congrArg Array.toList Try.results97) rfl rfl fun w0 => ?_
  refine vSeq ?_
  refine vRegion ?_
  refine oBox rfl rfl rfl rfl rfl rfl rfl rfl rfl ?_
  refine oAlloc tt rfl rfl rfl rfl rfl rfl rfl rfl rfl ?_
  refine oVal tt rfl rfl rfl rfl rfl trivial ?_
  refine vNil ?_
  change VC _ _ _ _
  iterate 2 refine vSeq ?_
  refine vRegion ?_
  refine oVal tt rfl rfl rfl rfl rfl trivial ?_
  obtain ⟨v1, hc1, h⟩ := bind_inv h
  refine oCall (S_IsGraph_w N g_0 v1 hc1) rfl rfl rfl rfl rfl rfl rfl rfl ⟨⟨rfl, rfl, trivial⟩, trivial⟩ ?_
  iterate 2 refine oVal tt rfl rfl rfl rfl rfl trivial ?_
  refine oSplit rfl rfl rfl (fun hb2 => ?_) (fun hb2 => ?_)
  · replace h := cnd_t hb2 h
    iterate 2 refine oNoF rfl rfl rfl rfl hb2 rfl rfl ?_
    refine oPick rfl rfl rfl rfl rfl hb2 rfl ?_
    refine oVal tt rfl rfl rfl rfl rfl trivial ?_
    iterate 5 refine oNoF rfl rfl rfl rfl rfl rfl rfl ?_
    refine oPick rfl rfl rfl rfl rfl rfl rfl ?_
    refine vNil ?_
    change VC _ _ _ _
    refine vCondT rfl rfl ?_
    refine vSeq ?_
    refine vRegion ?_
    refine oVal tt rfl rfl rfl rfl rfl trivial ?_
    obtain ⟨v2, hc3, h⟩ := bind_inv h
    refine oCall (S_l2Copy_w N g_0 v2 hc3) rfl rfl rfl rfl rfl rfl rfl rfl ⟨⟨rfl, rfl, trivial⟩, trivial⟩ ?_
    refine oStore tt rfl rfl rfl rfl rfl rfl rfl rfl rfl rfl rfl ⟨trivial, trivial, trivial⟩ ?_
    refine oVal tt rfl rfl rfl rfl rfl trivial ?_
    refine vNil ?_
    change VC _ _ _ _
    refine vRet ?_
    change ∃ _, _
    cases h
    exact ⟨[1210], _, rfl, ⟨rfl, trivial⟩, rfl, (.eq rfl), rfl⟩
  · replace h := cnd_f hb2 h
    iterate 2 refine oValG tt rfl rfl rfl rfl rfl hb2 rfl rfl rfl trivial ?_
    refine oPickF rfl rfl rfl rfl rfl hb2 rfl ?_
    refine oVal tt rfl rfl rfl rfl rfl trivial ?_
    refine oSplit rfl rfl rfl (fun hb4 => ?_) (fun hb4 => ?_)
    · replace h := cnd_t hb4 h
      iterate 5 refine oNoF rfl rfl rfl rfl hb4 rfl rfl ?_
      refine oPick rfl rfl rfl rfl rfl hb4 rfl ?_
      refine vNil ?_
      change VC _ _ _ _
      refine vCondT rfl rfl ?_
      refine vSeq ?_
      refine vRegion ?_
      refine oVal tt rfl rfl rfl rfl rfl trivial ?_
      obtain ⟨v3, hc5, h⟩ := bind_inv h
      refine oCall (S_l2Copy_w N g_0 v3 hc5) rfl rfl rfl rfl rfl rfl rfl rfl ⟨⟨rfl, rfl, trivial⟩, trivial⟩ ?_
      refine oStore tt rfl rfl rfl rfl rfl rfl rfl rfl rfl rfl rfl ⟨trivial, trivial, trivial⟩ ?_
      refine oVal tt rfl rfl rfl rfl rfl trivial ?_
      refine vNil ?_
      change VC _ _ _ _
      refine vRet ?_
      change ∃ _, _
      cases h
      exact ⟨[1210], _, rfl, ⟨rfl, trivial⟩, rfl, (.eq rfl), rfl⟩
    · replace h := cnd_f hb4 h
      iterate 5 refine oValG tt rfl rfl rfl rfl rfl hb4 rfl rfl rfl trivial ?_
      refine oPickF rfl rfl rfl rfl rfl hb4 rfl ?_
      refine vNil ?_
      change VC _ _ _ _
      refine vCond rfl (fun hb6 => ?_) (fun hb6 => ?_)
      · replace h := cnd_t hb6 h
        refine vSeq ?_
        refine vRegion ?_
        refine oVal tt rfl rfl rfl rfl rfl trivial ?_
        obtain ⟨v4, hc7, h⟩ := bind_inv h
        refine oCall (S_l2Copy_w N g_0 v4 hc7) rfl rfl rfl rfl rfl rfl rfl rfl ⟨⟨rfl, rfl, trivial⟩, trivial⟩ ?_
        refine oStore tt rfl rfl rfl rfl rfl rfl rfl rfl rfl rfl rfl ⟨trivial, trivial, trivial⟩ ?_
        refine oVal tt rfl rfl rfl rfl rfl trivial ?_
        refine vNil ?_
        change VC _ _ _ _
        refine vRet ?_
        change ∃ _, _
        cases h
        exact ⟨[1210], _, rfl, ⟨rfl, trivial⟩, rfl, (.eq rfl), rfl⟩
      · replace h := cnd_f hb6 h
        refine vSkip ?_
        change VC _ _ _ _
        refine vSeq ?_
        refine vRegionN 14 [7, 13, 1130000029] [0, 1, 0, 0, 8, 0, 56, 124, 0, 256, 0, 1024, 3840, 8188, 16383, 32767, 65535] (by kernel_rfl) (by kernel_rfl) (by kernel_rfl) (by kernel_rfl) (by kernel_rfl) rfl (by rfl) ?_
        iterate 2 refine nVal tt rfl (wNone rfl) rfl rfl rfl rfl rfl trivial ?_
        refine nEmpty tt (wNone rfl) rfl rfl rfl rfl rfl ?_
        iterate 3 refine nVal tt rfl (wNone rfl) rfl rfl rfl rfl rfl trivial ?_
        obtain ⟨hg8, h⟩ := grd_inv h
        refine nVal tt rfl (wNone rfl) rfl rfl rfl rfl rfl hg8 ?_
        obtain ⟨hg9, h⟩ := grd_inv h
        refine nAppNil tt (wNone rfl) rfl rfl rfl rfl rfl rfl rfl rfl (fun _ => rfl) rfl rfl rfl rfl rfl rfl hg9 ?_
        iterate 3 refine nVal tt rfl (wNone rfl) rfl rfl rfl rfl rfl trivial ?_
        obtain ⟨hg10, h⟩ := grd_inv h
        refine nVal tt rfl (wNone rfl) rfl rfl rfl rfl rfl hg10 ?_
        obtain ⟨hg11, h⟩ := grd_inv h
        refine nVal tt rfl (wNone rfl) rfl rfl rfl rfl rfl hg11 ?_
        obtain ⟨hg12, h⟩ := grd_inv h
        refine nAppMove tt (wNone rfl) rfl rfl rfl rfl rfl rfl rfl rfl rfl rfl rfl rfl rfl rfl rfl rfl rfl rfl rfl rfl trivial hg12 ?_
        refine nNil ?_
        change VO _ _ _ _ _
        refine oPure (wNone rfl) (pBuild bld_impl_Graph rfl rfl) rfl rfl ?_
        refine oStore tt rfl rfl rfl rfl rfl rfl rfl rfl rfl rfl rfl ⟨trivial, trivial, trivial⟩ ?_
        refine oVal tt rfl rfl rfl rfl rfl trivial ?_
        refine vNil ?_
        change VC _ _ _ _
        refine vRet ?_
        change ∃ _, _
        cases h
        exact ⟨[35], _, rfl, ⟨rfl, trivial⟩, rfl, (.eq rfl), rfl⟩
def S_l27Less (N : Nat) (p_0 : Pin) (bar_1 : Int) : Option (Pin) :=
  (S_RemoveBar N p_0.g bar_1).bind fun v1 =>
  grd (p_0.ground.length ≤ 4294967296) <|
  some (⟨⟨v1.1.n, v1.1.bars⟩, (([] : List Int) ++ p_0.ground)⟩ : Pin)
set_option maxRecDepth 20000 in
set_option maxHeartbeats 1600000 in
theorem S_l27Less_w (N : Nat) (p_0 : Pin) (bar_1 : Int) (r : Pin) (h : S_l27Less N p_0 bar_1 = some r) : PCall Try.prog 63 [pD p_0, .int bar_1] [(71, .pairs r.g.bars), (3, .ints r.ground)] (.agg [.int r.g.n, .row 0 0 r.g.bars.length, .row 1 0 r.ground.length]) := by
  unfold S_l27Less at h
  refine pcall_intro (TT := TT) tt Try.func63 rfl rfl Try.ntmps63 (congrArg Array.toList Try.results63) rfl rfl fun w0 => ?_
  refine vSeq ?_
  refine vRegion ?_
  refine oBox rfl rfl rfl rfl rfl rfl rfl rfl rfl ?_
  refine oAlloc tt rfl rfl rfl rfl rfl rfl rfl rfl rfl ?_
  refine vNil ?_
  change VC _ _ _ _
  refine vSeq ?_
  refine vRegion ?_
  iterate 3 refine oVal tt rfl rfl rfl rfl rfl trivial ?_
  obtain ⟨v1, hc1, h⟩ := bind_inv h
  refine oCall (S_RemoveBar_w N p_0.g bar_1 v1 hc1) rfl rfl rfl rfl rfl rfl rfl rfl ⟨⟨rfl, rfl, trivial⟩, rfl, trivial⟩ ?_
  iterate 3 refine oVal tt rfl rfl rfl rfl rfl trivial ?_
  refine oAlloc tt rfl rfl rfl rfl rfl rfl rfl rfl rfl ?_
  refine oStore tt rfl rfl rfl rfl rfl rfl rfl rfl rfl rfl rfl ⟨trivial, trivial, trivial⟩ ?_
  refine oVal tt rfl rfl rfl rfl rfl trivial ?_
  refine vNil ?_
  change VC _ _ _ _
  refine vSeq ?_
  refine vRegionN 5 [4] [0, 0, 0, 4, 14, 31, 63] (by kernel_rfl) (by kernel_rfl) (by kernel_rfl) (by kernel_rfl) (by kernel_rfl) rfl (by rfl) ?_
  refine nVal tt rfl (wNone rfl) rfl rfl rfl rfl rfl trivial ?_
  refine nEmpty tt (wNone rfl) rfl rfl rfl rfl rfl ?_
  iterate 2 refine nVal tt rfl (wNone rfl) rfl rfl rfl rfl rfl trivial ?_
  obtain ⟨hg2, h⟩ := grd_inv h
  refine nAppNil tt (wNone rfl) rfl rfl rfl rfl rfl rfl rfl rfl (fun _ => rfl) rfl rfl rfl rfl rfl rfl hg2 ?_
  refine nNil ?_
  change VO _ _ _ _ _
  refine oPure (wNone rfl) (pBuild bld_impl_Pinned rfl rfl) rfl rfl ?_
  refine oStore tt rfl rfl rfl rfl rfl rfl rfl rfl rfl rfl rfl ⟨trivial, trivial, trivial, trivial⟩ ?_
  refine vNil ?_
  change VC _ _ _ _
  refine vRet ?_
  change ∃ _, _
  cases h
  exact ⟨[1110, 18], _, rfl, ⟨rfl, rfl, trivial⟩, rfl, (.eq rfl), rfl⟩
def S_SafeToRemove (N : Nat) (p_0 : Pin) (bar_1 : Int) : Option (Bool) :=
  (S_IsPinned N p_0).bind fun v1 =>
  cnd v1 (
    cnd (decide (bar_1 ≥ (0 : Int))) (
      cnd (decide (bar_1 < (p_0.g.bars.length : Int))) (
        (S_l27Less N p_0 bar_1).bind fun v2 =>
        (S_PinnedRank N v2).bind fun v3 =>
        (S_PinnedRank N p_0).bind fun v4 =>
        some (v3 == v4)) (
        some false)) (
      some false)) (
    some false)
set_option maxRecDepth 20000 in
set_option maxHeartbeats 1600000 in
theorem S_SafeToRemove_w (N : Nat) (p_0 : Pin) (bar_1 : Int) (r : Bool) (h : S_SafeToRemove N p_0 bar_1 = some r) : PCall Try.prog 22 [pD p_0, .int bar_1] [] (.bool r) := by
  unfold S_SafeToRemove at h
  refine pcall_intro (TT := TT) tt Try.func22 rfl rfl Try.ntmps22 (congrArg Array.toList Try.results22) rfl rfl fun w0 => ?_
  refine vSeq ?_
  refine vRegion ?_
  refine oBox rfl rfl rfl rfl rfl rfl rfl rfl rfl ?_
  refine oVal tt rfl rfl rfl rfl rfl trivial ?_
  refine vNil ?_
  change VC _ _ _ _
  refine vSeq ?_
  refine vRegionN 20 [17] [0, 1, 3, 7, 15, 31, 63, 127, 127, 383, 895, 1919, 4095, 8191, 16383, 32767, 32767, 131071, 262143, 32767, 1048575, 2097151, 4194303, 8388607] (by kernel_rfl) (by kernel_rfl) (by kernel_rfl) (by kernel_rfl) (by kernel_rfl) rfl (by rfl) ?_
  refine nVal tt rfl (wNone rfl) rfl rfl rfl rfl rfl trivial ?_
  obtain ⟨v1, hc1, h⟩ := bind_inv h
  refine nCall (S_IsPinned_w N p_0 v1 hc1) rfl (wNone rfl) rfl rfl rfl rfl rfl rfl rfl rfl ⟨⟨rfl, rfl, rfl, trivial⟩, trivial⟩ ?_
  refine nVal tt rfl (wNone rfl) rfl rfl rfl rfl rfl trivial ?_
  refine nSplit rfl rfl rfl (fun hb2 => ?_) (fun hb2 => ?_)
  · replace h := cnd_t hb2 h
    iterate 2 refine nVal tt rfl (wSome rfl rfl rfl rfl hb2) rfl rfl rfl rfl rfl trivial ?_
    refine nPickT rfl (wNone rfl) rfl rfl rfl hb2 rfl rfl ?_
    refine nVal tt rfl (wNone rfl) rfl rfl rfl rfl rfl trivial ?_
    refine nSplit rfl rfl rfl (fun hb3 => ?_) (fun hb3 => ?_)
    · replace h := cnd_t hb3 h
      iterate 6 refine nVal tt rfl (wSome rfl rfl rfl rfl hb3) rfl rfl rfl rfl rfl trivial ?_
      refine nPickT rfl (wNone rfl) rfl rfl rfl hb3 rfl rfl ?_
      refine nVal tt rfl (wNone rfl) rfl rfl rfl rfl rfl trivial ?_
      refine nSplit rfl rfl rfl (fun hb4 => ?_) (fun hb4 => ?_)
      · replace h := cnd_t hb4 h
        iterate 2 refine nVal tt rfl (wSome rfl rfl rfl rfl hb4) rfl rfl rfl rfl rfl trivial ?_
        obtain ⟨v2, hc5, h⟩ := bind_inv h
        refine nCallR (S_l27Less_w N p_0 bar_1 v2 hc5) rfl (wSome rfl rfl rfl rfl hb4) rfl rfl rfl rfl rfl rfl (by first | rfl | kernel_rfl | (simp [nrL, nm, gdst, nmT, rowB]; done)) rfl (by first | rfl | kernel_rfl | (simp [chkE, nrL, nm, gdst, nmT, rowB, hid, ment, mentA, mentS]; done) | (simp [chkE, nrL, nm, gdst, nmT, rowB, hid, ment, mentA, mentS]; decide)) ⟨⟨rfl, rfl, rfl, trivial⟩, rfl, trivial⟩ ?_
        obtain ⟨v3, hc6, h⟩ := bind_inv h
        refine nCall (S_PinnedRank_w N v2 v3 hc6) rfl (wSome rfl rfl rfl rfl hb4) rfl rfl rfl rfl rfl rfl rfl rfl ⟨⟨rfl, (.inl ⟨rfl, rfl⟩), (.inl ⟨rfl, rfl⟩), trivial⟩, trivial⟩ ?_
        refine nVal tt rfl (wSome rfl rfl rfl rfl hb4) rfl rfl rfl rfl rfl trivial ?_
        refine nNil ?_
        change VO _ _ _ _ _
        obtain ⟨v4, hc7, h⟩ := bind_inv h
        refine oCallG (S_PinnedRank_w N p_0 v4 hc7) rfl rfl rfl rfl hb4 rfl rfl rfl rfl rfl rfl rfl ⟨⟨rfl, rfl, rfl, trivial⟩, trivial⟩ ?_
        refine oValG tt rfl rfl rfl rfl rfl hb4 rfl rfl rfl trivial ?_
        refine oPick rfl rfl rfl rfl rfl hb4 rfl ?_
        refine oVal tt rfl rfl rfl rfl rfl trivial ?_
        refine vNil ?_
        change VC _ _ _ _
        refine vRet ?_
        change ∃ _, _
        cases h
        exact ⟨[], _, rfl, trivial, rfl, (.eq rfl), rfl⟩
      · replace h := cnd_f hb4 h
        iterate 5 refine nNoT rfl rfl rfl rfl hb4 rfl rfl ?_
        refine nNil ?_
        change VO _ _ _ _ _
        iterate 2 refine oNoT rfl rfl rfl rfl hb4 rfl rfl ?_
        refine oPickF rfl rfl rfl rfl rfl hb4 rfl ?_
        refine oVal tt rfl rfl rfl rfl rfl trivial ?_
        refine vNil ?_
        change VC _ _ _ _
        refine vRet ?_
        change ∃ _, _
        cases h
        exact ⟨[], _, rfl, trivial, rfl, (.eq rfl), rfl⟩
    · replace h := cnd_f hb3 h
      iterate 6 refine nNoT rfl rfl rfl rfl hb3 rfl rfl ?_
      refine nPickF rfl (wNone rfl) rfl rfl rfl hb3 rfl rfl ?_
      refine nVal tt rfl (wNone rfl) rfl rfl rfl rfl rfl trivial ?_
      iterate 5 refine nNoT rfl rfl rfl rfl rfl rfl rfl ?_
      refine nNil ?_
      change VO _ _ _ _ _
      iterate 2 refine oNoT rfl rfl rfl rfl rfl rfl rfl ?_
      refine oPickF rfl rfl rfl rfl rfl rfl rfl ?_
      refine oVal tt rfl rfl rfl rfl rfl trivial ?_
      refine vNil ?_
      change VC _ _ _ _
      refine vRet ?_
      change ∃ _, _
      cases h
      exact ⟨[], _, rfl, trivial, rfl, (.eq rfl), rfl⟩
  · replace h := cnd_f hb2 h
    iterate 2 refine nNoT rfl rfl rfl rfl hb2 rfl rfl ?_
    refine nPickF rfl (wNone rfl) rfl rfl rfl hb2 rfl rfl ?_
    refine nVal tt rfl (wNone rfl) rfl rfl rfl rfl rfl trivial ?_
    iterate 6 refine nNoT rfl rfl rfl rfl rfl rfl rfl ?_
    refine nPickF rfl (wNone rfl) rfl rfl rfl rfl rfl rfl ?_
    refine nVal tt rfl (wNone rfl) rfl rfl rfl rfl rfl trivial ?_
    iterate 5 refine nNoT rfl rfl rfl rfl rfl rfl rfl ?_
    refine nNil ?_
    change VO _ _ _ _ _
    iterate 2 refine oNoT rfl rfl rfl rfl rfl rfl rfl ?_
    refine oPickF rfl rfl rfl rfl rfl rfl rfl ?_
    refine oVal tt rfl rfl rfl rfl rfl trivial ?_
    refine vNil ?_
    change VC _ _ _ _
    refine vRet ?_
    change ∃ _, _
    cases h
    exact ⟨[], _, rfl, trivial, rfl, (.eq rfl), rfl⟩
def S_IsImplied (N : Nat) (g_0 : Grf) (a_1 : Int) (b_2 : Int) : Option (Bool) :=
  (S_IsGraph N g_0).bind fun v1 =>
  cnd (!v1) (
    some false) (
    cnd (decide (a_1 < (0 : Int))) (
      some false) (
      cnd (decide (b_2 < (0 : Int))) (
        some false) (
        cnd (decide (a_1 ≥ g_0.n)) (
          some false) (
          cnd (decide (b_2 ≥ g_0.n)) (
            some false) (
            (S_l2Put N g_0 ((min a_1 b_2), (max a_1 b_2))).bind fun v2 =>
            cnd (a_1 == b_2) (
              some true) (
              (S_l6Rank N v2).bind fun v3 =>
              (S_l6Rank N g_0).bind fun v4 =>
              some (v3 == v4)))))))
set_option maxRecDepth 20000 in
set_option maxHeartbeats 1600000 in
theorem S_IsImplied_w (N : Nat) (g_0 : Grf) (a_1 : Int) (b_2 : Int) (r : Bool) (h : S_IsImplied N g_0 a_1 b_2 = some r) : PCall Try.prog 68 [gD g_0, .int a_1, .int b_2] [] (.bool r) := by
  unfold S_IsImplied at h
  refine pcall_intro (TT := TT) tt Try.func68 rfl rfl Try.ntmps68 (congrArg Array.toList Try.results68) rfl rfl fun w0 => ?_
  refine vSeq ?_
  refine vRegion ?_
  refine oBox rfl rfl rfl rfl rfl rfl rfl rfl rfl ?_
  refine oVal tt rfl rfl rfl rfl rfl trivial ?_
  refine vNil ?_
  change VC _ _ _ _
  iterate 2 refine vSeq ?_
  refine vRegion ?_
  refine oVal tt rfl rfl rfl rfl rfl trivial ?_
  obtain ⟨v1, hc1, h⟩ := bind_inv h
  refine oCall (S_IsGraph_w N g_0 v1 hc1) rfl rfl rfl rfl rfl rfl rfl rfl ⟨⟨rfl, rfl, trivial⟩, trivial⟩ ?_
  iterate 2 refine oVal tt rfl rfl rfl rfl rfl trivial ?_
  refine oSplit rfl rfl rfl (fun hb2 => ?_) (fun hb2 => ?_)
  · replace h := cnd_t hb2 h
    iterate 2 refine oNoF rfl rfl rfl rfl hb2 rfl rfl ?_
    refine oPick rfl rfl rfl rfl rfl hb2 rfl ?_
    refine oVal tt rfl rfl rfl rfl rfl trivial ?_
    iterate 2 refine oNoF rfl rfl rfl rfl rfl rfl rfl ?_
    refine oPick rfl rfl rfl rfl rfl rfl rfl ?_
    refine oVal tt rfl rfl rfl rfl rfl trivial ?_
    iterate 4 refine oNoF rfl rfl rfl rfl rfl rfl rfl ?_
    refine oPick rfl rfl rfl rfl rfl rfl rfl ?_
    refine oVal tt rfl rfl rfl rfl rfl trivial ?_
    iterate 4 refine oNoF rfl rfl rfl rfl rfl rfl rfl ?_
    refine oPick rfl rfl rfl rfl rfl rfl rfl ?_
    refine vNil ?_
    change VC _ _ _ _
    refine vCondT rfl rfl ?_
    refine vSeq ?_
    refine vRegion ?_
    refine oVal tt rfl rfl rfl rfl rfl trivial ?_
    refine vNil ?_
    change VC _ _ _ _
    refine vRet ?_
    change ∃ _, _
    cases h
    exact ⟨[], _, rfl, trivial, rfl, (.eq rfl), rfl⟩
  · replace h := cnd_f hb2 h
    iterate 2 refine oValG tt rfl rfl rfl rfl rfl hb2 rfl rfl rfl trivial ?_
    refine oPickF rfl rfl rfl rfl rfl hb2 rfl ?_
    refine oVal tt rfl rfl rfl rfl rfl trivial ?_
    refine oSplit rfl rfl rfl (fun hb3 => ?_) (fun hb3 => ?_)
    · replace h := cnd_t hb3 h
      iterate 2 refine oNoF rfl rfl rfl rfl hb3 rfl rfl ?_
      refine oPick rfl rfl rfl rfl rfl hb3 rfl ?_
      refine oVal tt rfl rfl rfl rfl rfl trivial ?_
      iterate 4 refine oNoF rfl rfl rfl rfl rfl rfl rfl ?_
      refine oPick rfl rfl rfl rfl rfl rfl rfl ?_
      refine oVal tt rfl rfl rfl rfl rfl trivial ?_
      iterate 4 refine oNoF rfl rfl rfl rfl rfl rfl rfl ?_
      refine oPick rfl rfl rfl rfl rfl rfl rfl ?_
      refine vNil ?_
      change VC _ _ _ _
      refine vCondT rfl rfl ?_
      refine vSeq ?_
      refine vRegion ?_
      refine oVal tt rfl rfl rfl rfl rfl trivial ?_
      refine vNil ?_
      change VC _ _ _ _
      refine vRet ?_
      change ∃ _, _
      cases h
      exact ⟨[], _, rfl, trivial, rfl, (.eq rfl), rfl⟩
    · replace h := cnd_f hb3 h
      iterate 2 refine oValG tt rfl rfl rfl rfl rfl hb3 rfl rfl rfl trivial ?_
      refine oPickF rfl rfl rfl rfl rfl hb3 rfl ?_
      refine oVal tt rfl rfl rfl rfl rfl trivial ?_
      refine oSplit rfl rfl rfl (fun hb4 => ?_) (fun hb4 => ?_)
      · replace h := cnd_t hb4 h
        iterate 4 refine oNoF rfl rfl rfl rfl hb4 rfl rfl ?_
        refine oPick rfl rfl rfl rfl rfl hb4 rfl ?_
        refine oVal tt rfl rfl rfl rfl rfl trivial ?_
        iterate 4 refine oNoF rfl rfl rfl rfl rfl rfl rfl ?_
        refine oPick rfl rfl rfl rfl rfl rfl rfl ?_
        refine vNil ?_
        change VC _ _ _ _
        refine vCondT rfl rfl ?_
        refine vSeq ?_
        refine vRegion ?_
        refine oVal tt rfl rfl rfl rfl rfl trivial ?_
        refine vNil ?_
        change VC _ _ _ _
        refine vRet ?_
        change ∃ _, _
        cases h
        exact ⟨[], _, rfl, trivial, rfl, (.eq rfl), rfl⟩
      · replace h := cnd_f hb4 h
        iterate 4 refine oValG tt rfl rfl rfl rfl rfl hb4 rfl rfl rfl trivial ?_
        refine oPickF rfl rfl rfl rfl rfl hb4 rfl ?_
        refine oVal tt rfl rfl rfl rfl rfl trivial ?_
        refine oSplit rfl rfl rfl (fun hb5 => ?_) (fun hb5 => ?_)
        · replace h := cnd_t hb5 h
          iterate 4 refine oNoF rfl rfl rfl rfl hb5 rfl rfl ?_
          refine oPick rfl rfl rfl rfl rfl hb5 rfl ?_
          refine vNil ?_
          change VC _ _ _ _
          refine vCondT rfl rfl ?_
          refine vSeq ?_
          refine vRegion ?_
          refine oVal tt rfl rfl rfl rfl rfl trivial ?_
          refine vNil ?_
          change VC _ _ _ _
          refine vRet ?_
          change ∃ _, _
          cases h
          exact ⟨[], _, rfl, trivial, rfl, (.eq rfl), rfl⟩
        · replace h := cnd_f hb5 h
          iterate 4 refine oValG tt rfl rfl rfl rfl rfl hb5 rfl rfl rfl trivial ?_
          refine oPickF rfl rfl rfl rfl rfl hb5 rfl ?_
          refine vNil ?_
          change VC _ _ _ _
          refine vCond rfl (fun hb6 => ?_) (fun hb6 => ?_)
          · replace h := cnd_t hb6 h
            refine vSeq ?_
            refine vRegion ?_
            refine oVal tt rfl rfl rfl rfl rfl trivial ?_
            refine vNil ?_
            change VC _ _ _ _
            refine vRet ?_
            change ∃ _, _
            cases h
            exact ⟨[], _, rfl, trivial, rfl, (.eq rfl), rfl⟩
          · replace h := cnd_f hb6 h
            refine vSkip ?_
            change VC _ _ _ _
            refine vSeq ?_
            refine vRegion ?_
            iterate 7 refine oVal tt rfl rfl rfl rfl rfl trivial ?_
            refine oPure (wNone rfl) (pBuild bld_impl_Bar rfl rfl) rfl rfl ?_
            obtain ⟨v2, hc7, h⟩ := bind_inv h
            refine oCall (S_l2Put_w N g_0 ((min a_1 b_2), (max a_1 b_2)) v2 hc7) rfl rfl rfl rfl rfl rfl rfl rfl ⟨⟨rfl, rfl, trivial⟩, ⟨rfl, rfl, trivial⟩, trivial⟩ ?_
            refine oAlloc tt rfl rfl rfl rfl rfl rfl rfl rfl rfl ?_
            refine oStore tt rfl rfl rfl rfl rfl rfl rfl rfl rfl rfl rfl ⟨trivial, trivial, trivial⟩ ?_
            refine vNil ?_
            change VC _ _ _ _
            refine vSeq ?_
            refine vRegionD (by kernel_rfl) (by kernel_rfl) ?_
            iterate 4 refine cVal tt rfl (wNone rfl) rfl rfl rfl trivial ?_
            refine cSplit rfl rfl rfl (fun hb8 => ?_) (fun hb8 => ?_)
            · replace h := cnd_t hb8 h
              iterate 5 refine cNoF rfl rfl rfl rfl hb8 rfl rfl ?_
              refine cPickT rfl (wNone rfl) rfl rfl rfl hb8 rfl ?_
              refine cVal tt rfl (wNone rfl) rfl rfl rfl trivial ?_
              refine cNil ?_
              change VC _ _ _ _
              refine vRet ?_
              change ∃ _, _
              cases h
              exact ⟨[], _, rfl, trivial, rfl, (.eq rfl), rfl⟩
            · replace h := cnd_f hb8 h
              refine cVal tt rfl (wSome rfl rfl rfl rfl hb8) rfl rfl rfl trivial ?_
              obtain ⟨v3, hc9, h⟩ := bind_inv h
              refine cCall (S_l6Rank_w N v2 v3 hc9) rfl (wSome rfl rfl rfl rfl hb8) rfl rfl rfl rfl rfl rfl ⟨⟨rfl, (.inl ⟨rfl, rfl⟩), trivial⟩, trivial⟩ ?_
              refine cVal tt rfl (wSome rfl rfl rfl rfl hb8) rfl rfl rfl trivial ?_
              obtain ⟨v4, hc10, h⟩ := bind_inv h
              refine cCall (S_l6Rank_w N g_0 v4 hc10) rfl (wSome rfl rfl rfl rfl hb8) rfl rfl rfl rfl rfl rfl ⟨⟨rfl, rfl, trivial⟩, trivial⟩ ?_
              refine cVal tt rfl (wSome rfl rfl rfl rfl hb8) rfl rfl rfl trivial ?_
              refine cPickF rfl (wNone rfl) rfl rfl rfl hb8 rfl ?_
              refine cVal tt rfl (wNone rfl) rfl rfl rfl trivial ?_
              refine cNil ?_
              change VC _ _ _ _
              refine vRet ?_
              change ∃ _, _
              cases h
              exact ⟨[], _, rfl, trivial, rfl, (.eq rfl), rfl⟩
def S_SteadyPoints_l1 (N : Nat) (p_0 : Pin) (k : (List Int) → Option (List Int)) : Nat → ((List Int) × Int) → Option (List Int)
  | 0, _ => none
  | n + 1, (l29, v30) =>
    cnd (decide (v30 < p_0.g.n)) (
      (S_IsPinned N p_0).bind fun v35 =>
      cnd v35 (
        (S_l20All N p_0).bind fun v36 =>
        grd (0 ≤ (0 : Int) ∧ (0 : Int) < (p_0.ground.length : Int)) <|
        (S_IsImplied N v36 (p_0.ground.getD ((0 : Int).toNat) 0) v30).bind fun v37 =>
        cnd v37 (
          grd (0 ≤ (1 : Int) ∧ (1 : Int) < (p_0.ground.length : Int)) <|
          (S_IsImplied N v36 (p_0.ground.getD ((1 : Int).toNat) 0) v30).bind fun v38 =>
          cnd v38 (
            grd (l29.length + 1 ≤ 4294967296) <|
            grd (Rg64 (v30 + (1 : Int))) <|
            S_SteadyPoints_l1 N p_0 k n ((l29 ++ ([v30] : List Int)), (v30 + (1 : Int)))) (
            grd (Rg64 (v30 + (1 : Int))) <|
            S_SteadyPoints_l1 N p_0 k n (l29, (v30 + (1 : Int))))) (
          grd (Rg64 (v30 + (1 : Int))) <|
          S_SteadyPoints_l1 N p_0 k n (l29, (v30 + (1 : Int))))) (
        k l29)) (
      k l29)
def S_SteadyPoints (N : Nat) (p_0 : Pin) : Option (List Int) :=
  S_SteadyPoints_l1 N p_0 (fun (l19 : List Int) =>
        some l19) N (([] : List Int), (0 : Int))
set_option maxRecDepth 20000 in
set_option maxHeartbeats 1600000 in
theorem S_SteadyPoints_w (N : Nat) (p_0 : Pin) (r : List Int) (h : S_SteadyPoints N p_0 = some r) : PCall Try.prog 24 [pD p_0] [(3, .ints r)] (.row 0 0 r.length) := by
  unfold S_SteadyPoints at h
  refine pcall_intro (TT := TT) tt Try.func24 rfl rfl Try.ntmps24 (congrArg Array.toList Try.results24) rfl rfl fun w0 => ?_
  refine vSeq ?_
  refine vRegion ?_
  refine oBox rfl rfl rfl rfl rfl rfl rfl rfl rfl ?_
  refine oVal tt rfl rfl rfl rfl rfl trivial ?_
  refine vNil ?_
  change VC _ _ _ _
  refine vSeq ?_
  refine vRegion ?_
  refine oEmpty tt (wNone rfl) rfl rfl rfl rfl ?_
  refine oVal tt rfl rfl rfl rfl rfl trivial ?_
  refine vNil ?_
  change VC _ _ _ _
  iterate 2 refine vSeq ?_
  refine vRegion ?_
  refine oVal tt rfl rfl rfl rfl rfl trivial ?_
  refine vNil ?_
  change VC _ _ _ _
  refine vJoin (F := fun k => S_SteadyPoints_l1 N p_0 k) h (α := List Int) (J := fun (l19 : List Int) => (⟨[(3, .row 39 0 l19.length)], [(39, some (3, .ints l19))], []⟩ : PS)) ?_ ?_
  · rintro l19 h
    show VC _ _ _ (⟨[(3, .row 39 0 l19.length)], [(39, some (3, .ints l19))], []⟩ : PS)
    refine vSeq ?_
    refine vRegion ?_
    iterate 2 refine oVal tt rfl rfl rfl rfl rfl trivial ?_
    refine vNil ?_
    change VC _ _ _ _
    refine vRet ?_
    change ∃ _, _
    cases h
    exact ⟨[39], _, rfl, ⟨rfl, trivial⟩, rfl, (.eq rfl), rfl⟩
  · intro k h
    refine vBlock ?_
    refine vNilT 3 39 3 (.ints []) rfl rfl rfl rfl ?_
    refine vLoopS (α := (List Int) × Int) (fun | (l29, v30) => (⟨[(1, .ptr 1 0), (3, .row 39 0 l29.length), (4, .int v30)], [(39, some (3, .ints l29))], [(1, some [.int p_0.g.n, .ro false (.pairs p_0.g.bars), .ro false (.ints p_0.ground)])]⟩ : PS)) (S_SteadyPoints_l1 N p_0 k) h (En.of ⟨rfl, rfl, rfl, trivial⟩ ⟨rfl, trivial⟩ ⟨rfl, trivial⟩) (fun _ => rfl) ?_
    rintro n ⟨l29, v30⟩ h
    rw [S_SteadyPoints_l1] at h
    show VC _ _ _ (⟨[(1, .ptr 1 0), (3, .row 39 0 l29.length), (4, .int v30)], [(39, some (3, .ints l29))], [(1, some [.int p_0.g.n, .ro false (.pairs p_0.g.bars), .ro false (.ints p_0.ground)])]⟩ : PS)
    iterate 2 refine vSeq ?_
    refine vRegion ?_
    iterate 6 refine oVal tt rfl rfl rfl rfl rfl trivial ?_
    refine oSplit rfl rfl rfl (fun hb1 => ?_) (fun hb1 => ?_)
    · replace h := cnd_t hb1 h
      refine oValG tt rfl rfl rfl rfl rfl hb1 rfl rfl rfl trivial ?_
      obtain ⟨v35, hc2, h⟩ := bind_inv h
      refine oCallG (S_IsPinned_w N p_0 v35 hc2) rfl rfl rfl rfl hb1 rfl rfl rfl rfl rfl rfl rfl ⟨⟨rfl, rfl, rfl, trivial⟩, trivial⟩ ?_
      refine oPick rfl rfl rfl rfl rfl hb1 rfl ?_
      refine vNil ?_
      change VC _ _ _ _
      refine vCond rfl (fun hb3 => ?_) (fun hb3 => ?_)
      · replace h := cnd_t hb3 h
        refine vSkip ?_
        change VC _ _ _ _
        refine vSeq ?_
        refine vBlock ?_
        refine vSeq ?_
        refine vRegion ?_
        refine oVal tt rfl rfl rfl rfl rfl trivial ?_
        obtain ⟨v36, hc4, h⟩ := bind_inv h
        refine oCall (S_l20All_w N p_0 v36 hc4) rfl rfl rfl rfl rfl rfl rfl rfl ⟨⟨rfl, rfl, rfl, trivial⟩, trivial⟩ ?_
        refine oAlloc tt rfl rfl rfl rfl rfl rfl rfl rfl rfl ?_
        refine oStore tt rfl rfl rfl rfl rfl rfl rfl rfl rfl rfl rfl ⟨trivial, trivial, trivial⟩ ?_
        refine vNil ?_
        change VC _ _ _ _
        refine vSeq ?_
        refine vRegionD (by kernel_rfl) (by kernel_rfl) ?_
        iterate 3 refine cVal tt rfl (wNone rfl) rfl rfl rfl trivial ?_
        obtain ⟨hg5, h⟩ := grd_inv h
        refine cVal tt rfl (wNone rfl) rfl rfl rfl hg5 ?_
        iterate 2 refine cVal tt rfl (wNone rfl) rfl rfl rfl trivial ?_
        obtain ⟨v37, hc6, h⟩ := bind_inv h
        refine cCall (S_IsImplied_w N v36 (p_0.ground.getD ((0 : Int).toNat) 0) v30 v37 hc6) rfl (wNone rfl) rfl rfl rfl rfl rfl rfl ⟨⟨rfl, (.inl ⟨rfl, rfl⟩), trivial⟩, rfl, rfl, trivial⟩ ?_
        refine cVal tt rfl (wNone rfl) rfl rfl rfl trivial ?_
        refine cSplit rfl rfl rfl (fun hb7 => ?_) (fun hb7 => ?_)
        · replace h := cnd_t hb7 h
          iterate 3 refine cVal tt rfl (wSome rfl rfl rfl rfl hb7) rfl rfl rfl trivial ?_
          obtain ⟨hg8, h⟩ := grd_inv h
          refine cVal tt rfl (wSome rfl rfl rfl rfl hb7) rfl rfl rfl hg8 ?_
          iterate 2 refine cVal tt rfl (wSome rfl rfl rfl rfl hb7) rfl rfl rfl trivial ?_
          obtain ⟨v38, hc9, h⟩ := bind_inv h
          refine cCall (S_IsImplied_w N v36 (p_0.ground.getD ((1 : Int).toNat) 0) v30 v38 hc9) rfl (wSome rfl rfl rfl rfl hb7) rfl rfl rfl rfl rfl rfl ⟨⟨rfl, (.inl ⟨rfl, rfl⟩), trivial⟩, rfl, rfl, trivial⟩ ?_
          refine cPickT rfl (wNone rfl) rfl rfl rfl hb7 rfl ?_
          refine cNil ?_
          change VC _ _ _ _
          refine vCond rfl (fun hb10 => ?_) (fun hb10 => ?_)
          · replace h := cnd_t hb10 h
            refine vRegion ?_
            iterate 2 refine oVal tt rfl rfl rfl rfl rfl trivial ?_
            refine oBuild tt rfl rfl rfl rfl rfl rfl rfl rfl rfl rfl rfl ?_
            obtain ⟨hg11, h⟩ := grd_inv h
            refine oAppend tt rfl rfl rfl rfl rfl rfl rfl rfl rfl rfl rfl rfl rfl rfl rfl rfl (Nat.le_of_eq (Nat.zero_add _)) hg11 ?_
            refine oVal tt rfl rfl rfl rfl rfl trivial ?_
            refine vNil ?_
            change VC _ _ _ _
            refine vRegion ?_
            refine oVal tt rfl rfl rfl rfl rfl trivial ?_
            obtain ⟨hg12, h⟩ := grd_inv h
            refine oVal tt rfl rfl rfl rfl rfl hg12 ?_
            refine oVal tt rfl rfl rfl rfl rfl trivial ?_
            refine vNil ?_
            change ∃ _, _
            exact ⟨((l29 ++ ([v30] : List Int)), (v30 + (1 : Int))), (En.of ⟨rfl, rfl, rfl, trivial⟩ ⟨rfl, trivial⟩ ⟨rfl, trivial⟩), h⟩
          · replace h := cnd_f hb10 h
            refine vSkip ?_
            change VC _ _ _ _
            refine vRegion ?_
            refine oVal tt rfl rfl rfl rfl rfl trivial ?_
            obtain ⟨hg13, h⟩ := grd_inv h
            refine oVal tt rfl rfl rfl rfl rfl hg13 ?_
            refine oVal tt rfl rfl rfl rfl rfl trivial ?_
            refine vNil ?_
            change ∃ _, _
            exact ⟨(l29, (v30 + (1 : Int))), (En.of ⟨rfl, rfl, rfl, trivial⟩ ⟨rfl, trivial⟩ ⟨rfl, trivial⟩), h⟩
        · replace h := cnd_f hb7 h
          iterate 7 refine cNoT rfl rfl rfl rfl hb7 rfl rfl ?_
          refine cPickF rfl (wNone rfl) rfl rfl rfl hb7 rfl ?_
          refine cNil ?_
          change VC _ _ _ _
          refine vCondF rfl rfl ?_
          refine vSkip ?_
          change VC _ _ _ _
          refine vRegion ?_
          refine oVal tt rfl rfl rfl rfl rfl trivial ?_
          obtain ⟨hg14, h⟩ := grd_inv h
          refine oVal tt rfl rfl rfl rfl rfl hg14 ?_
          refine oVal tt rfl rfl rfl rfl rfl trivial ?_
          refine vNil ?_
          change ∃ _, _
          exact ⟨(l29, (v30 + (1 : Int))), (En.of ⟨rfl, rfl, rfl, trivial⟩ ⟨rfl, trivial⟩ ⟨rfl, trivial⟩), h⟩
      · replace h := cnd_f hb3 h
        refine vExit ?_
        change ∃ _, _
        exact ⟨l29, (En.of ⟨rfl, trivial⟩ ⟨rfl, trivial⟩ trivial), h⟩
    · replace h := cnd_f hb1 h
      iterate 2 refine oNoT rfl rfl rfl rfl hb1 rfl rfl ?_
      refine oPickF rfl rfl rfl rfl rfl hb1 rfl ?_
      refine vNil ?_
      change VC _ _ _ _
      refine vCondF rfl rfl ?_
      refine vExit ?_
      change ∃ _, _
      exact ⟨l29, (En.of ⟨rfl, trivial⟩ ⟨rfl, trivial⟩ trivial), h⟩
def I_raises (N : Nat) (points_0 : Int) (bars_1 : List (Int × Int)) (x_2 : Int × Int) : Option (Bool) :=
  grd (bars_1.length ≤ 4294967296) <|
  grd ((([] : List (Int × Int)) ++ bars_1).length + 1 ≤ 4294967296) <|
  (I_planeRank N points_0 ((([] : List (Int × Int)) ++ bars_1) ++ ([(x_2.1, x_2.2)] : List (Int × Int)))).bind fun v1 =>
  (I_planeRank N points_0 bars_1).bind fun v2 =>
  some (decide (v1 > v2))
set_option maxRecDepth 20000 in
set_option maxHeartbeats 1600000 in
theorem I_raises_w (N : Nat) (points_0 : Int) (bars_1 : List (Int × Int)) (x_2 : Int × Int) (r : Bool) (h : I_raises N points_0 bars_1 x_2 = some r) : PCall Try.prog 70 [.int points_0, .ro false (.pairs bars_1), .agg [.int x_2.1, .int x_2.2]] [] (.bool r) := by
  unfold I_raises at h
  refine pcall_intro (TT := TT) tt Try.func70 rfl rfl Try.ntmps70 (congrArg Array.toList Try.results70) rfl rfl fun w0 => ?_
  refine vSeq ?_
  refine vRegion ?_
  refine oBox rfl rfl rfl rfl rfl rfl rfl rfl rfl ?_
  refine oVal tt rfl rfl rfl rfl rfl trivial ?_
  refine vNil ?_
  change VC _ _ _ _
  refine vSeq ?_
  refine vRegionN 10 [3, 5, 6, 1060000010] [0, 0, 0, 6, 0, 16, 62, 127, 0, 0, 1023, 2047, 4095] (by kernel_rfl) (by kernel_rfl) (by kernel_rfl) (by kernel_rfl) (by kernel_rfl) rfl (by rfl) ?_
  refine nVal tt rfl (wNone rfl) rfl rfl rfl rfl rfl trivial ?_
  refine nEmpty tt (wNone rfl) rfl rfl rfl rfl rfl ?_
  refine nVal tt rfl (wNone rfl) rfl rfl rfl rfl rfl trivial ?_
  obtain ⟨hg1, h⟩ := grd_inv h
  refine nAppNil tt (wNone rfl) rfl rfl rfl rfl rfl rfl rfl rfl (fun _ => rfl) rfl rfl rfl rfl rfl rfl hg1 ?_
  refine nVal tt rfl (wNone rfl) rfl rfl rfl rfl rfl trivial ?_
  refine nBuild tt (wNone rfl) rfl rfl rfl rfl rfl rfl rfl rfl rfl rfl rfl rfl ?_
  obtain ⟨hg2, h⟩ := grd_inv h
  refine nAppMove tt (wNone rfl) rfl rfl rfl rfl rfl rfl rfl rfl rfl rfl rfl rfl rfl rfl rfl rfl rfl rfl rfl rfl (Nat.le_of_eq (Nat.zero_add _)) hg2 ?_
  obtain ⟨v1, hc3, h⟩ := bind_inv h
  refine nCall (I_planeRank_w N points_0 ((([] : List (Int × Int)) ++ bars_1) ++ ([(x_2.1, x_2.2)] : List (Int × Int))) v1 hc3) rfl (wNone rfl) rfl rfl rfl rfl rfl rfl rfl rfl ⟨rfl, (.inl ⟨rfl, rfl⟩), trivial⟩ ?_
  iterate 2 refine nVal tt rfl (wNone rfl) rfl rfl rfl rfl rfl trivial ?_
  refine nNil ?_
  change VO _ _ _ _ _
  obtain ⟨v2, hc4, h⟩ := bind_inv h
  refine oCall (I_planeRank_w N points_0 bars_1 v2 hc4) rfl rfl rfl rfl rfl rfl rfl rfl ⟨rfl, rfl, trivial⟩ ?_
  iterate 2 refine oVal tt rfl rfl rfl rfl rfl trivial ?_
  refine vNil ?_
  change VC _ _ _ _
  refine vRet ?_
  change ∃ _, _
  cases h
  exact ⟨[], _, rfl, trivial, rfl, (.eq rfl), rfl⟩
end Go.Proofs.Ytkpmijmlbpdknaa
