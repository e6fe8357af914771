/- Plain texts of functions, and that the program computes them (printed by gen.py). -/
import Derived.Test.YtkpmijmlbpdknaaShb
import Derived.Test.YtkpmijmlbpdknaaG2
import Derived.Test.YtkpmijmlbpdknaaG5
namespace Go.Proofs.Ytkpmijmlbpdknaa
open Go.RowKit
set_option linter.unusedVariables false
set_option linter.unusedSimpArgs false
def I_copyPebbles (N : Nat) (p_0 : Pbl) : Option (Pbl) :=
  (I_copyInts N p_0.free).bind fun v1 =>
  (I_copyInts N p_0.tails).bind fun v2 =>
  (I_copyInts N p_0.placed).bind fun v3 =>
  some (⟨v1, v2, v3⟩ : Pbl)
set_option maxRecDepth 20000 in
set_option maxHeartbeats 1600000 in
theorem I_copyPebbles_w (N : Nat) (p_0 : Pbl) (r : Pbl) (h : I_copyPebbles N p_0 = some r) : PCall Try.prog 125 [bD p_0] [(3, .ints r.free), (3, .ints r.tails), (3, .ints r.placed)] (.agg [.row 0 0 r.free.length, .row 1 0 r.tails.length, .row 2 0 r.placed.length]) := by
  unfold I_copyPebbles at h
  refine pcall_intro (TT := TT) tt Try.func125 rfl rfl Try.ntmps125 (congrArg Array.toList Try.results125) rfl rfl fun w0 => ?_
  refine vSeq ?_
  refine vRegion ?_
  refine oBox rfl rfl rfl rfl rfl rfl rfl rfl rfl ?_
  refine oAlloc tt rfl rfl rfl rfl rfl rfl rfl rfl rfl ?_
  refine vNil ?_
  change VC _ _ _ _
  refine vSeq ?_
  refine vRegionN 8 [2, 5] [0, 1, 3, 0, 8, 31, 0, 64, 255, 511, 1023] (by kernel_rfl) (by kernel_rfl) (by kernel_rfl) (by kernel_rfl) (by kernel_rfl) rfl (by rfl) ?_
  iterate 2 refine nVal tt rfl (wNone rfl) rfl rfl rfl rfl rfl trivial ?_
  obtain ⟨v1, hc1, h⟩ := bind_inv h
  refine nCallR (I_copyInts_w N p_0.free v1 hc1) rfl (wNone rfl) rfl rfl rfl rfl rfl rfl (by first | rfl | kernel_rfl | (simp [nrL, nm, gdst, nmT, rowB]; done)) rfl (by first | rfl | kernel_rfl | (simp [chkE, nrL, nm, gdst, nmT, rowB, hid, ment, mentA, mentS]; done) | (simp [chkE, nrL, nm, gdst, nmT, rowB, hid, ment, mentA, mentS]; decide)) ⟨rfl, trivial⟩ ?_
  iterate 2 refine nVal tt rfl (wNone rfl) rfl rfl rfl rfl rfl trivial ?_
  obtain ⟨v2, hc2, h⟩ := bind_inv h
  refine nCallR (I_copyInts_w N p_0.tails v2 hc2) rfl (wNone rfl) rfl rfl rfl rfl rfl rfl (by first | rfl | kernel_rfl | (simp [nrL, nm, gdst, nmT, rowB]; done)) rfl (by first | rfl | kernel_rfl | (simp [chkE, nrL, nm, gdst, nmT, rowB, hid, ment, mentA, mentS]; done) | (simp [chkE, nrL, nm, gdst, nmT, rowB, hid, ment, mentA, mentS]; decide)) ⟨rfl, trivial⟩ ?_
  iterate 2 refine nVal tt rfl (wNone rfl) rfl rfl rfl rfl rfl trivial ?_
  refine nNil ?_
  change VO _ _ _ _ _
  obtain ⟨v3, hc3, h⟩ := bind_inv h
  refine oCall (I_copyInts_w N p_0.placed v3 hc3) rfl rfl rfl rfl rfl rfl rfl rfl ⟨rfl, trivial⟩ ?_
  refine oPure (wNone rfl) (pBuild bld_impl_Pebbles rfl rfl) rfl rfl ?_
  refine oStore tt rfl rfl rfl rfl rfl rfl rfl rfl rfl rfl rfl ⟨trivial, trivial, trivial, trivial⟩ ?_
  refine vNil ?_
  change VC _ _ _ _
  refine vRet ?_
  change ∃ _, _
  cases h
  exact ⟨[1050, 1080, 1110], _, rfl, ⟨rfl, rfl, rfl, trivial⟩, rfl, (.eq rfl), rfl⟩
def S_l26Bars_l1 (N : Nat) (p_0 : Pin) (done_1 : List Int) (v_2 : Int) (k : (List Int) → Option (List Int)) : Nat → ((List Int) × Int) → Option (List Int)
  | 0, _ => none
  | n + 1, (l41, i42) =>
    cnd (decide (i42 < (p_0.g.bars.length : Int))) (
      grd (0 ≤ i42 ∧ i42 < (p_0.g.bars.length : Int)) <|
      cnd (((p_0.g.bars.getD ((i42).toNat) (0, 0)).1) == v_2) (
        (S_l4Other N (p_0.g.bars.getD ((i42).toNat) (0, 0)) v_2).bind fun v49 =>
        (S_l2Has N p_0.ground v49).bind fun v50 =>
        cnd v50 (
          grd (l41.length + 1 ≤ 4294967296) <|
          grd (Rg64 (i42 + (1 : Int))) <|
          S_l26Bars_l1 N p_0 done_1 v_2 k n ((l41 ++ ([i42] : List Int)), (i42 + (1 : Int)))) (
          (S_l2Has N done_1 v49).bind fun v51 =>
          cnd v51 (
            grd (l41.length + 1 ≤ 4294967296) <|
            grd (Rg64 (i42 + (1 : Int))) <|
            S_l26Bars_l1 N p_0 done_1 v_2 k n ((l41 ++ ([i42] : List Int)), (i42 + (1 : Int)))) (
            grd (Rg64 (i42 + (1 : Int))) <|
            S_l26Bars_l1 N p_0 done_1 v_2 k n (l41, (i42 + (1 : Int)))))) (
        cnd (((p_0.g.bars.getD ((i42).toNat) (0, 0)).2) == v_2) (
          (S_l4Other N (p_0.g.bars.getD ((i42).toNat) (0, 0)) v_2).bind fun v52 =>
          (S_l2Has N p_0.ground v52).bind fun v53 =>
          cnd v53 (
            grd (l41.length + 1 ≤ 4294967296) <|
            grd (Rg64 (i42 + (1 : Int))) <|
            S_l26Bars_l1 N p_0 done_1 v_2 k n ((l41 ++ ([i42] : List Int)), (i42 + (1 : Int)))) (
            (S_l2Has N done_1 v52).bind fun v54 =>
            cnd v54 (
              grd (l41.length + 1 ≤ 4294967296) <|
              grd (Rg64 (i42 + (1 : Int))) <|
              S_l26Bars_l1 N p_0 done_1 v_2 k n ((l41 ++ ([i42] : List Int)), (i42 + (1 : Int)))) (
              grd (Rg64 (i42 + (1 : Int))) <|
              S_l26Bars_l1 N p_0 done_1 v_2 k n (l41, (i42 + (1 : Int)))))) (
          grd (Rg64 (i42 + (1 : Int))) <|
          S_l26Bars_l1 N p_0 done_1 v_2 k n (l41, (i42 + (1 : Int)))))) (
      k l41)
def S_l26Bars (N : Nat) (p_0 : Pin) (done_1 : List Int) (v_2 : Int) : Option (List Int) :=
  S_l26Bars_l1 N p_0 done_1 v_2 (fun (l27 : List Int) =>
        some l27) N (([] : List Int), (0 : Int))
set_option maxRecDepth 20000 in
set_option maxHeartbeats 1600000 in
theorem S_l26Bars_w (N : Nat) (p_0 : Pin) (done_1 : List Int) (v_2 : Int) (r : List Int) (h : S_l26Bars N p_0 done_1 v_2 = some r) : PCall Try.prog 105 [pD p_0, .ro false (.ints done_1), .int v_2] [(3, .ints r)] (.row 0 0 r.length) := by
  unfold S_l26Bars at h
  refine pcall_intro (TT := TT) tt Try.func105 rfl rfl Try.ntmps105 (congrArg Array.toList Try.results105) rfl rfl fun w0 => ?_
  refine vSeq ?_
  refine vRegion ?_
  refine oBox rfl rfl rfl rfl rfl rfl rfl rfl rfl ?_
  refine oVal tt rfl rfl rfl rfl rfl trivial ?_
  refine vNil ?_
  change VC _ _ _ _
  refine vSeq ?_
  refine vRegion ?_
  refine oEmpty tt (wNone rfl) rfl rfl rfl rfl ?_
  refine oVal tt rfl rfl rfl rfl rfl trivial ?_
  refine vNil ?_
  change VC _ _ _ _
  iterate 2 refine vSeq ?_
  refine vRegion ?_
  refine oVal tt rfl rfl rfl rfl rfl trivial ?_
  refine vNil ?_
  change VC _ _ _ _
  refine vJoin (F := fun k => S_l26Bars_l1 N p_0 done_1 v_2 k) h (α := List Int) (J := fun (l27 : List Int) => (⟨[(7, .row 51 0 l27.length)], [(51, some (3, .ints l27))], []⟩ : PS)) ?_ ?_
  · rintro l27 h
    show VC _ _ _ (⟨[(7, .row 51 0 l27.length)], [(51, some (3, .ints l27))], []⟩ : PS)
    refine vSeq ?_
    refine vRegion ?_
    iterate 2 refine oVal tt rfl rfl rfl rfl rfl trivial ?_
    refine vNil ?_
    change VC _ _ _ _
    refine vRet ?_
    change ∃ _, _
    cases h
    exact ⟨[51], _, rfl, ⟨rfl, trivial⟩, rfl, (.eq rfl), rfl⟩
  · intro k h
    refine vBlock ?_
    refine vNilT 7 51 3 (.ints []) rfl rfl rfl rfl ?_
    refine vLoopS (α := (List Int) × Int) (fun | (l41, i42) => (⟨[(1, .ro false (.ints done_1)), (2, .int v_2), (3, .ptr 3 0), (7, .row 51 0 l41.length), (8, .int i42)], [(51, some (3, .ints l41))], [(3, some [.int p_0.g.n, .ro false (.pairs p_0.g.bars), .ro false (.ints p_0.ground)])]⟩ : PS)) (S_l26Bars_l1 N p_0 done_1 v_2 k) h (En.of ⟨rfl, rfl, rfl, rfl, rfl, trivial⟩ ⟨rfl, trivial⟩ ⟨rfl, trivial⟩) (fun _ => rfl) ?_
    rintro n ⟨l41, i42⟩ h
    rw [S_l26Bars_l1] at h
    show VC _ _ _ (⟨[(1, .ro false (.ints done_1)), (2, .int v_2), (3, .ptr 3 0), (7, .row 51 0 l41.length), (8, .int i42)], [(51, some (3, .ints l41))], [(3, some [.int p_0.g.n, .ro false (.pairs p_0.g.bars), .ro false (.ints p_0.ground)])]⟩ : PS)
    iterate 2 refine vSeq ?_
    refine vRegion ?_
    iterate 6 refine oVal tt rfl rfl rfl rfl rfl trivial ?_
    refine vNil ?_
    change VC _ _ _ _
    refine vCond rfl (fun hb1 => ?_) (fun hb1 => ?_)
    · replace h := cnd_t hb1 h
      refine vSkip ?_
      change VC _ _ _ _
      refine vSeq ?_
      refine vBlock ?_
      refine vSeq ?_
      refine vRegion ?_
      iterate 4 refine oVal tt rfl rfl rfl rfl rfl trivial ?_
      obtain ⟨hg2, h⟩ := grd_inv h
      refine oVal tt rfl rfl rfl rfl rfl hg2 ?_
      refine oVal tt rfl rfl rfl rfl rfl trivial ?_
      refine oAlloc tt rfl rfl rfl rfl rfl rfl rfl rfl rfl ?_
      refine oStore tt rfl rfl rfl rfl rfl rfl rfl rfl rfl rfl rfl ⟨trivial, trivial, trivial⟩ ?_
      refine vNil ?_
      change VC _ _ _ _
      refine vSeq ?_
      refine vRegion ?_
      iterate 5 refine oVal tt rfl rfl rfl rfl rfl trivial ?_
      refine oSplit rfl rfl rfl (fun hb3 => ?_) (fun hb3 => ?_)
      · replace h := cnd_t hb3 h
        iterate 4 refine oNoF rfl rfl rfl rfl hb3 rfl rfl ?_
        refine oPick rfl rfl rfl rfl rfl hb3 rfl ?_
        refine vNil ?_
        change VC _ _ _ _
        refine vCondT rfl rfl ?_
        refine vSeq ?_
        refine vRegion ?_
        iterate 2 refine oVal tt rfl rfl rfl rfl rfl trivial ?_
        obtain ⟨v49, hc4, h⟩ := bind_inv h
        refine oCall (S_l4Other_w N (p_0.g.bars.getD ((i42).toNat) (0, 0)) v_2 v49 hc4) rfl rfl rfl rfl rfl rfl rfl rfl ⟨⟨rfl, rfl, trivial⟩, rfl, trivial⟩ ?_
        refine oVal tt rfl rfl rfl rfl rfl trivial ?_
        refine vNil ?_
        change VC _ _ _ _
        refine vSeq ?_
        refine vRegion ?_
        iterate 3 refine oVal tt rfl rfl rfl rfl rfl trivial ?_
        obtain ⟨v50, hc5, h⟩ := bind_inv h
        refine oCall (S_l2Has_w N p_0.ground v49 v50 hc5) rfl rfl rfl rfl rfl rfl rfl rfl ⟨rfl, rfl, trivial⟩ ?_
        refine oVal tt rfl rfl rfl rfl rfl trivial ?_
        refine oSplit rfl rfl rfl (fun hb6 => ?_) (fun hb6 => ?_)
        · replace h := cnd_t hb6 h
          iterate 3 refine oNoF rfl rfl rfl rfl hb6 rfl rfl ?_
          refine oPick rfl rfl rfl rfl rfl hb6 rfl ?_
          refine vNil ?_
          change VC _ _ _ _
          refine vCondT rfl rfl ?_
          refine vRegion ?_
          iterate 2 refine oVal tt rfl rfl rfl rfl rfl trivial ?_
          refine oBuild tt rfl rfl rfl rfl rfl rfl rfl rfl rfl rfl rfl ?_
          obtain ⟨hg7, h⟩ := grd_inv h
          refine oAppend tt rfl rfl rfl rfl rfl rfl rfl rfl rfl rfl rfl rfl rfl rfl rfl rfl (Nat.le_of_eq (Nat.zero_add _)) hg7 ?_
          refine oVal tt rfl rfl rfl rfl rfl trivial ?_
          refine vNil ?_
          change VC _ _ _ _
          refine vRegion ?_
          refine oVal tt rfl rfl rfl rfl rfl trivial ?_
          obtain ⟨hg8, h⟩ := grd_inv h
          refine oVal tt rfl rfl rfl rfl rfl hg8 ?_
          refine oVal tt rfl rfl rfl rfl rfl trivial ?_
          refine vNil ?_
          change ∃ _, _
          exact ⟨((l41 ++ ([i42] : List Int)), (i42 + (1 : Int))), (En.of ⟨rfl, rfl, rfl, rfl, rfl, trivial⟩ ⟨rfl, trivial⟩ ⟨rfl, trivial⟩), h⟩
        · replace h := cnd_f hb6 h
          iterate 2 refine oValG tt rfl rfl rfl rfl rfl hb6 rfl rfl rfl trivial ?_
          obtain ⟨v51, hc9, h⟩ := bind_inv h
          refine oCallG (S_l2Has_w N done_1 v49 v51 hc9) rfl rfl rfl rfl hb6 rfl rfl rfl rfl rfl rfl rfl ⟨rfl, rfl, trivial⟩ ?_
          refine oPickF rfl rfl rfl rfl rfl hb6 rfl ?_
          refine vNil ?_
          change VC _ _ _ _
          refine vCond rfl (fun hb10 => ?_) (fun hb10 => ?_)
          · replace h := cnd_t hb10 h
            refine vRegion ?_
            iterate 2 refine oVal tt rfl rfl rfl rfl rfl trivial ?_
            refine oBuild tt rfl rfl rfl rfl rfl rfl rfl rfl rfl rfl rfl ?_
            obtain ⟨hg11, h⟩ := grd_inv h
            refine oAppend tt rfl rfl rfl rfl rfl rfl rfl rfl rfl rfl rfl rfl rfl rfl rfl rfl (Nat.le_of_eq (Nat.zero_add _)) hg11 ?_
            refine oVal tt rfl rfl rfl rfl rfl trivial ?_
            refine vNil ?_
            change VC _ _ _ _
            refine vRegion ?_
            refine oVal tt rfl rfl rfl rfl rfl trivial ?_
            obtain ⟨hg12, h⟩ := grd_inv h
            refine oVal tt rfl rfl rfl rfl rfl hg12 ?_
            refine oVal tt rfl rfl rfl rfl rfl trivial ?_
            refine vNil ?_
            change ∃ _, _
            exact ⟨((l41 ++ ([i42] : List Int)), (i42 + (1 : Int))), (En.of ⟨rfl, rfl, rfl, rfl, rfl, trivial⟩ ⟨rfl, trivial⟩ ⟨rfl, trivial⟩), h⟩
          · replace h := cnd_f hb10 h
            refine vSkip ?_
            change VC _ _ _ _
            refine vRegion ?_
            refine oVal tt rfl rfl rfl rfl rfl trivial ?_
            obtain ⟨hg13, h⟩ := grd_inv h
            refine oVal tt rfl rfl rfl rfl rfl hg13 ?_
            refine oVal tt rfl rfl rfl rfl rfl trivial ?_
            refine vNil ?_
            change ∃ _, _
            exact ⟨(l41, (i42 + (1 : Int))), (En.of ⟨rfl, rfl, rfl, rfl, rfl, trivial⟩ ⟨rfl, trivial⟩ ⟨rfl, trivial⟩), h⟩
      · replace h := cnd_f hb3 h
        iterate 4 refine oValG tt rfl rfl rfl rfl rfl hb3 rfl rfl rfl trivial ?_
        refine oPickF rfl rfl rfl rfl rfl hb3 rfl ?_
        refine vNil ?_
        change VC _ _ _ _
        refine vCond rfl (fun hb14 => ?_) (fun hb14 => ?_)
        · replace h := cnd_t hb14 h
          refine vSeq ?_
          refine vRegion ?_
          iterate 2 refine oVal tt rfl rfl rfl rfl rfl trivial ?_
          obtain ⟨v52, hc15, h⟩ := bind_inv h
          refine oCall (S_l4Other_w N (p_0.g.bars.getD ((i42).toNat) (0, 0)) v_2 v52 hc15) rfl rfl rfl rfl rfl rfl rfl rfl ⟨⟨rfl, rfl, trivial⟩, rfl, trivial⟩ ?_
          refine oVal tt rfl rfl rfl rfl rfl trivial ?_
          refine vNil ?_
          change VC _ _ _ _
          refine vSeq ?_
          refine vRegion ?_
          iterate 3 refine oVal tt rfl rfl rfl rfl rfl trivial ?_
          obtain ⟨v53, hc16, h⟩ := bind_inv h
          refine oCall (S_l2Has_w N p_0.ground v52 v53 hc16) rfl rfl rfl rfl rfl rfl rfl rfl ⟨rfl, rfl, trivial⟩ ?_
          refine oVal tt rfl rfl rfl rfl rfl trivial ?_
          refine oSplit rfl rfl rfl (fun hb17 => ?_) (fun hb17 => ?_)
          · replace h := cnd_t hb17 h
            iterate 3 refine oNoF rfl rfl rfl rfl hb17 rfl rfl ?_
            refine oPick rfl rfl rfl rfl rfl hb17 rfl ?_
            refine vNil ?_
            change VC _ _ _ _
            refine vCondT rfl rfl ?_
            refine vRegion ?_
            iterate 2 refine oVal tt rfl rfl rfl rfl rfl trivial ?_
            refine oBuild tt rfl rfl rfl rfl rfl rfl rfl rfl rfl rfl rfl ?_
            obtain ⟨hg18, h⟩ := grd_inv h
            refine oAppend tt rfl rfl rfl rfl rfl rfl rfl rfl rfl rfl rfl rfl rfl rfl rfl rfl (Nat.le_of_eq (Nat.zero_add _)) hg18 ?_
            refine oVal tt rfl rfl rfl rfl rfl trivial ?_
            refine vNil ?_
            change VC _ _ _ _
            refine vRegion ?_
            refine oVal tt rfl rfl rfl rfl rfl trivial ?_
            obtain ⟨hg19, h⟩ := grd_inv h
            refine oVal tt rfl rfl rfl rfl rfl hg19 ?_
            refine oVal tt rfl rfl rfl rfl rfl trivial ?_
            refine vNil ?_
            change ∃ _, _
            exact ⟨((l41 ++ ([i42] : List Int)), (i42 + (1 : Int))), (En.of ⟨rfl, rfl, rfl, rfl, rfl, trivial⟩ ⟨rfl, trivial⟩ ⟨rfl, trivial⟩), h⟩
          · replace h := cnd_f hb17 h
            iterate 2 refine oValG tt rfl rfl rfl rfl rfl hb17 rfl rfl rfl trivial ?_
            obtain ⟨v54, hc20, h⟩ := bind_inv h
            refine oCallG (S_l2Has_w N done_1 v52 v54 hc20) rfl rfl rfl rfl hb17 rfl rfl rfl rfl rfl rfl rfl ⟨rfl, rfl, trivial⟩ ?_
            refine oPickF rfl rfl rfl rfl rfl hb17 rfl ?_
            refine vNil ?_
            change VC _ _ _ _
            refine vCond rfl (fun hb21 => ?_) (fun hb21 => ?_)
            · replace h := cnd_t hb21 h
              refine vRegion ?_
              iterate 2 refine oVal tt rfl rfl rfl rfl rfl trivial ?_
              refine oBuild tt rfl rfl rfl rfl rfl rfl rfl rfl rfl rfl rfl ?_
              obtain ⟨hg22, h⟩ := grd_inv h
              refine oAppend tt rfl rfl rfl rfl rfl rfl rfl rfl rfl rfl rfl rfl rfl rfl rfl rfl (Nat.le_of_eq (Nat.zero_add _)) hg22 ?_
              refine oVal tt rfl rfl rfl rfl rfl trivial ?_
              refine vNil ?_
              change VC _ _ _ _
              refine vRegion ?_
              refine oVal tt rfl rfl rfl rfl rfl trivial ?_
              obtain ⟨hg23, h⟩ := grd_inv h
              refine oVal tt rfl rfl rfl rfl rfl hg23 ?_
              refine oVal tt rfl rfl rfl rfl rfl trivial ?_
              refine vNil ?_
              change ∃ _, _
              exact ⟨((l41 ++ ([i42] : List Int)), (i42 + (1 : Int))), (En.of ⟨rfl, rfl, rfl, rfl, rfl, trivial⟩ ⟨rfl, trivial⟩ ⟨rfl, trivial⟩), h⟩
            · replace h := cnd_f hb21 h
              refine vSkip ?_
              change VC _ _ _ _
              refine vRegion ?_
              refine oVal tt rfl rfl rfl rfl rfl trivial ?_
              obtain ⟨hg24, h⟩ := grd_inv h
              refine oVal tt rfl rfl rfl rfl rfl hg24 ?_
              refine oVal tt rfl rfl rfl rfl rfl trivial ?_
              refine vNil ?_
              change ∃ _, _
              exact ⟨(l41, (i42 + (1 : Int))), (En.of ⟨rfl, rfl, rfl, rfl, rfl, trivial⟩ ⟨rfl, trivial⟩ ⟨rfl, trivial⟩), h⟩
        · replace h := cnd_f hb14 h
          refine vSkip ?_
          change VC _ _ _ _
          refine vRegion ?_
          refine oVal tt rfl rfl rfl rfl rfl trivial ?_
          obtain ⟨hg25, h⟩ := grd_inv h
          refine oVal tt rfl rfl rfl rfl rfl hg25 ?_
          refine oVal tt rfl rfl rfl rfl rfl trivial ?_
          refine vNil ?_
          change ∃ _, _
          exact ⟨(l41, (i42 + (1 : Int))), (En.of ⟨rfl, rfl, rfl, rfl, rfl, trivial⟩ ⟨rfl, trivial⟩ ⟨rfl, trivial⟩), h⟩
    · replace h := cnd_f hb1 h
      refine vExit ?_
      change ∃ _, _
      exact ⟨l41, (En.of ⟨rfl, trivial⟩ ⟨rfl, trivial⟩ trivial), h⟩
end Go.Proofs.Ytkpmijmlbpdknaa
