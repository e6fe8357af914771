/- Plain texts of functions, and that the program computes them (printed by gen.py). -/
import Derived.Test.YtkpmijmlbpdknaaShb
import Derived.Test.YtkpmijmlbpdknaaG1
import Derived.Test.YtkpmijmlbpdknaaG5
import Derived.Test.YtkpmijmlbpdknaaG7
import Derived.Test.YtkpmijmlbpdknaaG14
import Derived.Test.YtkpmijmlbpdknaaG15
namespace Go.Proofs.Ytkpmijmlbpdknaa
open Go.RowKit
set_option linter.unusedVariables false
set_option linter.unusedSimpArgs false
def S_l26Ends_l1 (N : Nat) (p_0 : Pin) (done_1 : List Int) (r_2 : Rse) (k : Unit → Option (Bool)) : Nat → Int → Option (Bool)
  | 0, _ => none
  | n + 1, i51 =>
    cnd (decide (i51 < (r_2.bars.length : Int))) (
      grd (0 ≤ i51 ∧ i51 < (r_2.bars.length : Int)) <|
      cnd (decide ((r_2.bars.getD ((i51).toNat) 0) < (0 : Int))) (
        some false) (
        cnd (decide ((r_2.bars.getD ((i51).toNat) 0) ≥ (p_0.g.bars.length : Int))) (
          some false) (
          cnd (decide (i51 > (0 : Int))) (
            grd (Rg64 (i51 - (1 : Int))) <|
            grd (0 ≤ (i51 - (1 : Int)) ∧ (i51 - (1 : Int)) < (r_2.bars.length : Int)) <|
            cnd (decide ((r_2.bars.getD (((i51 - (1 : Int))).toNat) 0) ≥ (r_2.bars.getD ((i51).toNat) 0))) (
              some false) (
              grd (0 ≤ (r_2.bars.getD ((i51).toNat) 0) ∧ (r_2.bars.getD ((i51).toNat) 0) < (p_0.g.bars.length : Int)) <|
              cnd (((p_0.g.bars.getD (((r_2.bars.getD ((i51).toNat) 0)).toNat) (0, 0)).1) != r_2.p) (
                cnd (((p_0.g.bars.getD (((r_2.bars.getD ((i51).toNat) 0)).toNat) (0, 0)).2) != r_2.p) (
                  some false) (
                  (S_l4Other N (p_0.g.bars.getD (((r_2.bars.getD ((i51).toNat) 0)).toNat) (0, 0)) r_2.p).bind fun v64 =>
                  (S_l2Has N p_0.ground v64).bind fun v65 =>
                  cnd (!v65) (
                    (S_l2Has N done_1 v64).bind fun v66 =>
                    cnd (!v66) (
                      some false) (
                      grd (Rg64 (i51 + (1 : Int))) <|
                      S_l26Ends_l1 N p_0 done_1 r_2 k n (i51 + (1 : Int)))) (
                    grd (Rg64 (i51 + (1 : Int))) <|
                    S_l26Ends_l1 N p_0 done_1 r_2 k n (i51 + (1 : Int))))) (
                (S_l4Other N (p_0.g.bars.getD (((r_2.bars.getD ((i51).toNat) 0)).toNat) (0, 0)) r_2.p).bind fun v67 =>
                (S_l2Has N p_0.ground v67).bind fun v68 =>
                cnd (!v68) (
                  (S_l2Has N done_1 v67).bind fun v69 =>
                  cnd (!v69) (
                    some false) (
                    grd (Rg64 (i51 + (1 : Int))) <|
                    S_l26Ends_l1 N p_0 done_1 r_2 k n (i51 + (1 : Int)))) (
                  grd (Rg64 (i51 + (1 : Int))) <|
                  S_l26Ends_l1 N p_0 done_1 r_2 k n (i51 + (1 : Int)))))) (
            grd (0 ≤ (r_2.bars.getD ((i51).toNat) 0) ∧ (r_2.bars.getD ((i51).toNat) 0) < (p_0.g.bars.length : Int)) <|
            cnd (((p_0.g.bars.getD (((r_2.bars.getD ((i51).toNat) 0)).toNat) (0, 0)).1) != r_2.p) (
              cnd (((p_0.g.bars.getD (((r_2.bars.getD ((i51).toNat) 0)).toNat) (0, 0)).2) != r_2.p) (
                some false) (
                (S_l4Other N (p_0.g.bars.getD (((r_2.bars.getD ((i51).toNat) 0)).toNat) (0, 0)) r_2.p).bind fun v70 =>
                (S_l2Has N p_0.ground v70).bind fun v71 =>
                cnd (!v71) (
                  (S_l2Has N done_1 v70).bind fun v72 =>
                  cnd (!v72) (
                    some false) (
                    grd (Rg64 (i51 + (1 : Int))) <|
                    S_l26Ends_l1 N p_0 done_1 r_2 k n (i51 + (1 : Int)))) (
                  grd (Rg64 (i51 + (1 : Int))) <|
                  S_l26Ends_l1 N p_0 done_1 r_2 k n (i51 + (1 : Int))))) (
              (S_l4Other N (p_0.g.bars.getD (((r_2.bars.getD ((i51).toNat) 0)).toNat) (0, 0)) r_2.p).bind fun v73 =>
              (S_l2Has N p_0.ground v73).bind fun v74 =>
              cnd (!v74) (
                (S_l2Has N done_1 v73).bind fun v75 =>
                cnd (!v75) (
                  some false) (
                  grd (Rg64 (i51 + (1 : Int))) <|
                  S_l26Ends_l1 N p_0 done_1 r_2 k n (i51 + (1 : Int)))) (
                grd (Rg64 (i51 + (1 : Int))) <|
                S_l26Ends_l1 N p_0 done_1 r_2 k n (i51 + (1 : Int)))))))) (
      k ())
def S_l26Ends (N : Nat) (p_0 : Pin) (done_1 : List Int) (r_2 : Rse) : Option (Bool) :=
  S_l26Ends_l1 N p_0 done_1 r_2 (fun (_ : Unit) =>
        some true) N (0 : Int)
set_option maxRecDepth 20000 in
set_option maxHeartbeats 1600000 in
theorem S_l26Ends_w (N : Nat) (p_0 : Pin) (done_1 : List Int) (r_2 : Rse) (r : Bool) (h : S_l26Ends N p_0 done_1 r_2 = some r) : PCall Try.prog 111 [pD p_0, .ro false (.ints done_1), rD r_2] [] (.bool r) := by
  unfold S_l26Ends at h
  refine pcall_intro (TT := TT) tt Try.func111 rfl rfl Try.ntmps111 (congrArg Array.toList Try.results111) rfl rfl fun w0 => ?_
  refine vSeq ?_
  refine vRegion ?_
  iterate 2 refine oBox rfl rfl rfl rfl rfl rfl rfl rfl rfl ?_
  refine oVal tt rfl rfl rfl rfl rfl trivial ?_
  refine vNil ?_
  change VC _ _ _ _
  iterate 2 refine vSeq ?_
  refine vRegion ?_
  refine oVal tt rfl rfl rfl rfl rfl trivial ?_
  refine vNil ?_
  change VC _ _ _ _
  refine vJoin (F := fun k => S_l26Ends_l1 N p_0 done_1 r_2 k) h (α := Unit) (J := fun (_ : Unit) => (⟨[], [], []⟩ : PS)) ?_ ?_
  · rintro ⟨⟩ h
    show VC _ _ _ (⟨[], [], []⟩ : PS)
    refine vSeq ?_
    refine vRegion ?_
    refine oVal tt rfl rfl rfl rfl rfl trivial ?_
    refine vNil ?_
    change VC _ _ _ _
    refine vRet ?_
    change ∃ _, _
    cases h
    exact ⟨[], _, rfl, trivial, rfl, (.eq rfl), rfl⟩
  · intro k h
    refine vBlock ?_
    refine vLoopS (α := Int) (fun (i51 : Int) => (⟨[(1, .ro false (.ints done_1)), (3, .ptr 3 0), (5, .ptr 5 0), (7, .int i51)], [], [(3, some [.int p_0.g.n, .ro false (.pairs p_0.g.bars), .ro false (.ints p_0.ground)]), (5, some [.int r_2.p, .ro false (.ints r_2.bars)])]⟩ : PS)) (S_l26Ends_l1 N p_0 done_1 r_2 k) h (En.of ⟨rfl, rfl, rfl, rfl, trivial⟩ trivial ⟨rfl, rfl, trivial⟩) (fun _ => rfl) ?_
    rintro n i51 h
    rw [S_l26Ends_l1] at h
    show VC _ _ _ (⟨[(1, .ro false (.ints done_1)), (3, .ptr 3 0), (5, .ptr 5 0), (7, .int i51)], [], [(3, some [.int p_0.g.n, .ro false (.pairs p_0.g.bars), .ro false (.ints p_0.ground)]), (5, some [.int r_2.p, .ro false (.ints r_2.bars)])]⟩ : PS)
    iterate 2 refine vSeq ?_
    refine vRegion ?_
    iterate 5 refine oVal tt rfl rfl rfl rfl rfl trivial ?_
    refine vNil ?_
    change VC _ _ _ _
    refine vCond rfl (fun hb1 => ?_) (fun hb1 => ?_)
    · replace h := cnd_t hb1 h
      refine vSkip ?_
      change VC _ _ _ _
      refine vSeq ?_
      refine vBlock ?_
      iterate 2 refine vSeq ?_
      refine vRegionD (by kernel_rfl) (by kernel_rfl) ?_
      iterate 3 refine cVal tt rfl (wNone rfl) rfl rfl rfl trivial ?_
      obtain ⟨hg2, h⟩ := grd_inv h
      refine cVal tt rfl (wNone rfl) rfl rfl rfl hg2 ?_
      iterate 3 refine cVal tt rfl (wNone rfl) rfl rfl rfl trivial ?_
      refine cSplit rfl rfl rfl (fun hb3 => ?_) (fun hb3 => ?_)
      · replace h := cnd_t hb3 h
        iterate 10 refine cNoF rfl rfl rfl rfl hb3 rfl rfl ?_
        refine cPickT rfl (wNone rfl) rfl rfl rfl hb3 rfl ?_
        refine cVal tt rfl (wNone rfl) rfl rfl rfl trivial ?_
        iterate 3 refine cNoF rfl rfl rfl rfl rfl rfl rfl ?_
        iterate 12 refine cNoU rfl rfl rfl rfl rfl ?_
        refine cNoF rfl rfl rfl rfl rfl rfl rfl ?_
        refine cPickT rfl (wNone rfl) rfl rfl rfl rfl rfl ?_
        refine cNil ?_
        change VC _ _ _ _
        refine vCondT rfl rfl ?_
        refine vSeq ?_
        refine vRegion ?_
        refine oVal tt rfl rfl rfl rfl rfl trivial ?_
        refine vNil ?_
        change VC _ _ _ _
        refine vRet ?_
        change ∃ _, _
        cases h
        exact ⟨[], _, rfl, trivial, rfl, (.eq rfl), rfl⟩
      · replace h := cnd_f hb3 h
        iterate 3 refine cVal tt rfl (wSome rfl rfl rfl rfl hb3) rfl rfl rfl trivial ?_
        refine cVal tt rfl (wSome rfl rfl rfl rfl hb3) rfl rfl rfl hg2 ?_
        iterate 6 refine cVal tt rfl (wSome rfl rfl rfl rfl hb3) rfl rfl rfl trivial ?_
        refine cPickF rfl (wNone rfl) rfl rfl rfl hb3 rfl ?_
        refine cVal tt rfl (wNone rfl) rfl rfl rfl trivial ?_
        refine cSplit rfl rfl rfl (fun hb4 => ?_) (fun hb4 => ?_)
        · replace h := cnd_t hb4 h
          iterate 3 refine cNoF rfl rfl rfl rfl hb4 rfl rfl ?_
          iterate 12 refine cNoU rfl rfl rfl rfl rfl ?_
          refine cNoF rfl rfl rfl rfl hb4 rfl rfl ?_
          refine cPickT rfl (wNone rfl) rfl rfl rfl hb4 rfl ?_
          refine cNil ?_
          change VC _ _ _ _
          refine vCondT rfl rfl ?_
          refine vSeq ?_
          refine vRegion ?_
          refine oVal tt rfl rfl rfl rfl rfl trivial ?_
          refine vNil ?_
          change VC _ _ _ _
          refine vRet ?_
          change ∃ _, _
          cases h
          exact ⟨[], _, rfl, trivial, rfl, (.eq rfl), rfl⟩
        · replace h := cnd_f hb4 h
          iterate 3 refine cVal tt rfl (wSome rfl rfl rfl rfl hb4) rfl rfl rfl trivial ?_
          refine cSplit rfl rfl rfl (fun hb5 => ?_) (fun hb5 => ?_)
          · replace h := cnd_t hb5 h
            iterate 3 refine cVal tt rfl (wSome rfl rfl rfl rfl hb5) rfl rfl rfl trivial ?_
            obtain ⟨hg6, h⟩ := grd_inv h
            refine cVal tt rfl (wSome rfl rfl rfl rfl hb5) rfl rfl rfl hg6 ?_
            obtain ⟨hg7, h⟩ := grd_inv h
            refine cVal tt rfl (wSome rfl rfl rfl rfl hb5) rfl rfl rfl hg7 ?_
            iterate 4 refine cVal tt rfl (wSome rfl rfl rfl rfl hb5) rfl rfl rfl trivial ?_
            refine cVal tt rfl (wSome rfl rfl rfl rfl hb5) rfl rfl rfl hg2 ?_
            iterate 2 refine cVal tt rfl (wSome rfl rfl rfl rfl hb5) rfl rfl rfl trivial ?_
            refine cPickT rfl (wSome rfl rfl rfl rfl hb4) rfl rfl rfl hb5 rfl ?_
            refine cPickF rfl (wNone rfl) rfl rfl rfl hb4 rfl ?_
            refine cNil ?_
            change VC _ _ _ _
            refine vCond rfl (fun hb8 => ?_) (fun hb8 => ?_)
            · replace h := cnd_t hb8 h
              refine vSeq ?_
              refine vRegion ?_
              refine oVal tt rfl rfl rfl rfl rfl trivial ?_
              refine vNil ?_
              change VC _ _ _ _
              refine vRet ?_
              change ∃ _, _
              cases h
              exact ⟨[], _, rfl, trivial, rfl, (.eq rfl), rfl⟩
            · replace h := cnd_f hb8 h
              refine vSkip ?_
              change VC _ _ _ _
              refine vSeq ?_
              refine vRegionN 11 [10] [0, 1, 3, 0, 8, 0, 56, 120, 255, 511, 0, 2047] (by kernel_rfl) (by kernel_rfl) (by kernel_rfl) (by kernel_rfl) (by kernel_rfl) rfl (by rfl) ?_
              iterate 6 refine nVal tt rfl (wNone rfl) rfl rfl rfl rfl rfl trivial ?_
              refine nVal tt rfl (wNone rfl) rfl rfl rfl rfl rfl hg2 ?_
              refine nVal tt rfl (wNone rfl) rfl rfl rfl rfl rfl trivial ?_
              obtain ⟨hg9, h⟩ := grd_inv h
              refine nVal tt rfl (wNone rfl) rfl rfl rfl rfl rfl hg9 ?_
              refine nVal tt rfl (wNone rfl) rfl rfl rfl rfl rfl trivial ?_
              refine nAlloc tt (wNone rfl) rfl rfl rfl rfl rfl rfl rfl rfl rfl rfl ?_
              refine nNil ?_
              change VO _ _ _ _ _
              refine oStore tt rfl rfl rfl rfl rfl rfl rfl rfl rfl rfl rfl ⟨trivial, trivial, trivial⟩ ?_
              refine vNil ?_
              change VC _ _ _ _
              iterate 2 refine vSeq ?_
              refine vRegion ?_
              iterate 6 refine oVal tt rfl rfl rfl rfl rfl trivial ?_
              refine oSplit rfl rfl rfl (fun hb10 => ?_) (fun hb10 => ?_)
              · replace h := cnd_t hb10 h
                iterate 5 refine oValG tt rfl rfl rfl rfl rfl hb10 rfl rfl rfl trivial ?_
                refine oPick rfl rfl rfl rfl rfl hb10 rfl ?_
                refine vNil ?_
                change VC _ _ _ _
                refine vCond rfl (fun hb11 => ?_) (fun hb11 => ?_)
                · replace h := cnd_t hb11 h
                  refine vSeq ?_
                  refine vRegion ?_
                  refine oVal tt rfl rfl rfl rfl rfl trivial ?_
                  refine vNil ?_
                  change VC _ _ _ _
                  refine vRet ?_
                  change ∃ _, _
                  cases h
                  exact ⟨[], _, rfl, trivial, rfl, (.eq rfl), rfl⟩
                · replace h := cnd_f hb11 h
                  refine vSkip ?_
                  change VC _ _ _ _
                  refine vSeq ?_
                  refine vRegion ?_
                  iterate 3 refine oVal tt rfl rfl rfl rfl rfl trivial ?_
                  obtain ⟨v64, hc12, h⟩ := bind_inv h
                  refine oCall (S_l4Other_w N (p_0.g.bars.getD (((r_2.bars.getD ((i51).toNat) 0)).toNat) (0, 0)) r_2.p v64 hc12) rfl rfl rfl rfl rfl rfl rfl rfl ⟨⟨rfl, rfl, trivial⟩, rfl, trivial⟩ ?_
                  refine oVal tt rfl rfl rfl rfl rfl trivial ?_
                  refine vNil ?_
                  change VC _ _ _ _
                  refine vSeq ?_
                  refine vRegion ?_
                  iterate 3 refine oVal tt rfl rfl rfl rfl rfl trivial ?_
                  obtain ⟨v65, hc13, h⟩ := bind_inv h
                  refine oCall (S_l2Has_w N p_0.ground v64 v65 hc13) rfl rfl rfl rfl rfl rfl rfl rfl ⟨rfl, rfl, trivial⟩ ?_
                  iterate 2 refine oVal tt rfl rfl rfl rfl rfl trivial ?_
                  refine oSplit rfl rfl rfl (fun hb14 => ?_) (fun hb14 => ?_)
                  · replace h := cnd_t hb14 h
                    iterate 2 refine oValG tt rfl rfl rfl rfl rfl hb14 rfl rfl rfl trivial ?_
                    obtain ⟨v66, hc15, h⟩ := bind_inv h
                    refine oCallG (S_l2Has_w N done_1 v64 v66 hc15) rfl rfl rfl rfl hb14 rfl rfl rfl rfl rfl rfl rfl ⟨rfl, rfl, trivial⟩ ?_
                    refine oValG tt rfl rfl rfl rfl rfl hb14 rfl rfl rfl trivial ?_
                    refine oPick rfl rfl rfl rfl rfl hb14 rfl ?_
                    refine vNil ?_
                    change VC _ _ _ _
                    refine vCond rfl (fun hb16 => ?_) (fun hb16 => ?_)
                    · replace h := cnd_t hb16 h
                      refine vSeq ?_
                      refine vRegion ?_
                      refine oVal tt rfl rfl rfl rfl rfl trivial ?_
                      refine vNil ?_
                      change VC _ _ _ _
                      refine vRet ?_
                      change ∃ _, _
                      cases h
                      exact ⟨[], _, rfl, trivial, rfl, (.eq rfl), rfl⟩
                    · replace h := cnd_f hb16 h
                      refine vSkip ?_
                      change VC _ _ _ _
                      refine vRegion ?_
                      refine oVal tt rfl rfl rfl rfl rfl trivial ?_
                      obtain ⟨hg17, h⟩ := grd_inv h
                      refine oVal tt rfl rfl rfl rfl rfl hg17 ?_
                      refine oVal tt rfl rfl rfl rfl rfl trivial ?_
                      refine vNil ?_
                      change ∃ _, _
                      exact ⟨(i51 + (1 : Int)), (En.of ⟨rfl, rfl, rfl, rfl, trivial⟩ trivial ⟨rfl, rfl, trivial⟩), h⟩
                  · replace h := cnd_f hb14 h
                    iterate 4 refine oNoT rfl rfl rfl rfl hb14 rfl rfl ?_
                    refine oPickF rfl rfl rfl rfl rfl hb14 rfl ?_
                    refine vNil ?_
                    change VC _ _ _ _
                    refine vCondF rfl rfl ?_
                    refine vSkip ?_
                    change VC _ _ _ _
                    refine vRegion ?_
                    refine oVal tt rfl rfl rfl rfl rfl trivial ?_
                    obtain ⟨hg18, h⟩ := grd_inv h
                    refine oVal tt rfl rfl rfl rfl rfl hg18 ?_
                    refine oVal tt rfl rfl rfl rfl rfl trivial ?_
                    refine vNil ?_
                    change ∃ _, _
                    exact ⟨(i51 + (1 : Int)), (En.of ⟨rfl, rfl, rfl, rfl, trivial⟩ trivial ⟨rfl, rfl, trivial⟩), h⟩
              · replace h := cnd_f hb10 h
                iterate 5 refine oNoT rfl rfl rfl rfl hb10 rfl rfl ?_
                refine oPickF rfl rfl rfl rfl rfl hb10 rfl ?_
                refine vNil ?_
                change VC _ _ _ _
                refine vCondF rfl rfl ?_
                refine vSkip ?_
                change VC _ _ _ _
                refine vSeq ?_
                refine vRegion ?_
                iterate 3 refine oVal tt rfl rfl rfl rfl rfl trivial ?_
                obtain ⟨v67, hc19, h⟩ := bind_inv h
                refine oCall (S_l4Other_w N (p_0.g.bars.getD (((r_2.bars.getD ((i51).toNat) 0)).toNat) (0, 0)) r_2.p v67 hc19) rfl rfl rfl rfl rfl rfl rfl rfl ⟨⟨rfl, rfl, trivial⟩, rfl, trivial⟩ ?_
                refine oVal tt rfl rfl rfl rfl rfl trivial ?_
                refine vNil ?_
                change VC _ _ _ _
                refine vSeq ?_
                refine vRegion ?_
                iterate 3 refine oVal tt rfl rfl rfl rfl rfl trivial ?_
                obtain ⟨v68, hc20, h⟩ := bind_inv h
                refine oCall (S_l2Has_w N p_0.ground v67 v68 hc20) rfl rfl rfl rfl rfl rfl rfl rfl ⟨rfl, rfl, trivial⟩ ?_
                iterate 2 refine oVal tt rfl rfl rfl rfl rfl trivial ?_
                refine oSplit rfl rfl rfl (fun hb21 => ?_) (fun hb21 => ?_)
                · replace h := cnd_t hb21 h
                  iterate 2 refine oValG tt rfl rfl rfl rfl rfl hb21 rfl rfl rfl trivial ?_
                  obtain ⟨v69, hc22, h⟩ := bind_inv h
                  refine oCallG (S_l2Has_w N done_1 v67 v69 hc22) rfl rfl rfl rfl hb21 rfl rfl rfl rfl rfl rfl rfl ⟨rfl, rfl, trivial⟩ ?_
                  refine oValG tt rfl rfl rfl rfl rfl hb21 rfl rfl rfl trivial ?_
                  refine oPick rfl rfl rfl rfl rfl hb21 rfl ?_
                  refine vNil ?_
                  change VC _ _ _ _
                  refine vCond rfl (fun hb23 => ?_) (fun hb23 => ?_)
                  · replace h := cnd_t hb23 h
                    refine vSeq ?_
                    refine vRegion ?_
                    refine oVal tt rfl rfl rfl rfl rfl trivial ?_
                    refine vNil ?_
                    change VC _ _ _ _
                    refine vRet ?_
                    change ∃ _, _
                    cases h
                    exact ⟨[], _, rfl, trivial, rfl, (.eq rfl), rfl⟩
                  · replace h := cnd_f hb23 h
                    refine vSkip ?_
                    change VC _ _ _ _
                    refine vRegion ?_
                    refine oVal tt rfl rfl rfl rfl rfl trivial ?_
                    obtain ⟨hg24, h⟩ := grd_inv h
                    refine oVal tt rfl rfl rfl rfl rfl hg24 ?_
                    refine oVal tt rfl rfl rfl rfl rfl trivial ?_
                    refine vNil ?_
                    change ∃ _, _
                    exact ⟨(i51 + (1 : Int)), (En.of ⟨rfl, rfl, rfl, rfl, trivial⟩ trivial ⟨rfl, rfl, trivial⟩), h⟩
                · replace h := cnd_f hb21 h
                  iterate 4 refine oNoT rfl rfl rfl rfl hb21 rfl rfl ?_
                  refine oPickF rfl rfl rfl rfl rfl hb21 rfl ?_
                  refine vNil ?_
                  change VC _ _ _ _
                  refine vCondF rfl rfl ?_
                  refine vSkip ?_
                  change VC _ _ _ _
                  refine vRegion ?_
                  refine oVal tt rfl rfl rfl rfl rfl trivial ?_
                  obtain ⟨hg25, h⟩ := grd_inv h
                  refine oVal tt rfl rfl rfl rfl rfl hg25 ?_
                  refine oVal tt rfl rfl rfl rfl rfl trivial ?_
                  refine vNil ?_
                  change ∃ _, _
                  exact ⟨(i51 + (1 : Int)), (En.of ⟨rfl, rfl, rfl, rfl, trivial⟩ trivial ⟨rfl, rfl, trivial⟩), h⟩
          · replace h := cnd_f hb5 h
            iterate 12 refine cNoT rfl rfl rfl rfl hb5 rfl rfl ?_
            refine cPickF rfl (wSome rfl rfl rfl rfl hb4) rfl rfl rfl hb5 rfl ?_
            refine cPickF rfl (wNone rfl) rfl rfl rfl hb4 rfl ?_
            refine cNil ?_
            change VC _ _ _ _
            refine vCondF rfl rfl ?_
            refine vSkip ?_
            change VC _ _ _ _
            refine vSeq ?_
            refine vRegionN 11 [10] [0, 1, 3, 0, 8, 0, 56, 120, 255, 511, 0, 2047] (by kernel_rfl) (by kernel_rfl) (by kernel_rfl) (by kernel_rfl) (by kernel_rfl) rfl (by rfl) ?_
            iterate 6 refine nVal tt rfl (wNone rfl) rfl rfl rfl rfl rfl trivial ?_
            refine nVal tt rfl (wNone rfl) rfl rfl rfl rfl rfl hg2 ?_
            refine nVal tt rfl (wNone rfl) rfl rfl rfl rfl rfl trivial ?_
            obtain ⟨hg26, h⟩ := grd_inv h
            refine nVal tt rfl (wNone rfl) rfl rfl rfl rfl rfl hg26 ?_
            refine nVal tt rfl (wNone rfl) rfl rfl rfl rfl rfl trivial ?_
            refine nAlloc tt (wNone rfl) rfl rfl rfl rfl rfl rfl rfl rfl rfl rfl ?_
            refine nNil ?_
            change VO _ _ _ _ _
            refine oStore tt rfl rfl rfl rfl rfl rfl rfl rfl rfl rfl rfl ⟨trivial, trivial, trivial⟩ ?_
            refine vNil ?_
            change VC _ _ _ _
            iterate 2 refine vSeq ?_
            refine vRegion ?_
            iterate 6 refine oVal tt rfl rfl rfl rfl rfl trivial ?_
            refine oSplit rfl rfl rfl (fun hb27 => ?_) (fun hb27 => ?_)
            · replace h := cnd_t hb27 h
              iterate 5 refine oValG tt rfl rfl rfl rfl rfl hb27 rfl rfl rfl trivial ?_
              refine oPick rfl rfl rfl rfl rfl hb27 rfl ?_
              refine vNil ?_
              change VC _ _ _ _
              refine vCond rfl (fun hb28 => ?_) (fun hb28 => ?_)
              · replace h := cnd_t hb28 h
                refine vSeq ?_
                refine vRegion ?_
                refine oVal tt rfl rfl rfl rfl rfl trivial ?_
                refine vNil ?_
                change VC _ _ _ _
                refine vRet ?_
                change ∃ _, _
                cases h
                exact ⟨[], _, rfl, trivial, rfl, (.eq rfl), rfl⟩
              · replace h := cnd_f hb28 h
                refine vSkip ?_
                change VC _ _ _ _
                refine vSeq ?_
                refine vRegion ?_
                iterate 3 refine oVal tt rfl rfl rfl rfl rfl trivial ?_
                obtain ⟨v70, hc29, h⟩ := bind_inv h
                refine oCall (S_l4Other_w N (p_0.g.bars.getD (((r_2.bars.getD ((i51).toNat) 0)).toNat) (0, 0)) r_2.p v70 hc29) rfl rfl rfl rfl rfl rfl rfl rfl ⟨⟨rfl, rfl, trivial⟩, rfl, trivial⟩ ?_
                refine oVal tt rfl rfl rfl rfl rfl trivial ?_
                refine vNil ?_
                change VC _ _ _ _
                refine vSeq ?_
                refine vRegion ?_
                iterate 3 refine oVal tt rfl rfl rfl rfl rfl trivial ?_
                obtain ⟨v71, hc30, h⟩ := bind_inv h
                refine oCall (S_l2Has_w N p_0.ground v70 v71 hc30) rfl rfl rfl rfl rfl rfl rfl rfl ⟨rfl, rfl, trivial⟩ ?_
                iterate 2 refine oVal tt rfl rfl rfl rfl rfl trivial ?_
                refine oSplit rfl rfl rfl (fun hb31 => ?_) (fun hb31 => ?_)
                · replace h := cnd_t hb31 h
                  iterate 2 refine oValG tt rfl rfl rfl rfl rfl hb31 rfl rfl rfl trivial ?_
                  obtain ⟨v72, hc32, h⟩ := bind_inv h
                  refine oCallG (S_l2Has_w N done_1 v70 v72 hc32) rfl rfl rfl rfl hb31 rfl rfl rfl rfl rfl rfl rfl ⟨rfl, rfl, trivial⟩ ?_
                  refine oValG tt rfl rfl rfl rfl rfl hb31 rfl rfl rfl trivial ?_
                  refine oPick rfl rfl rfl rfl rfl hb31 rfl ?_
                  refine vNil ?_
                  change VC _ _ _ _
                  refine vCond rfl (fun hb33 => ?_) (fun hb33 => ?_)
                  · replace h := cnd_t hb33 h
                    refine vSeq ?_
                    refine vRegion ?_
                    refine oVal tt rfl rfl rfl rfl rfl trivial ?_
                    refine vNil ?_
                    change VC _ _ _ _
                    refine vRet ?_
                    change ∃ _, _
                    cases h
                    exact ⟨[], _, rfl, trivial, rfl, (.eq rfl), rfl⟩
                  · replace h := cnd_f hb33 h
                    refine vSkip ?_
                    change VC _ _ _ _
                    refine vRegion ?_
                    refine oVal tt rfl rfl rfl rfl rfl trivial ?_
                    obtain ⟨hg34, h⟩ := grd_inv h
                    refine oVal tt rfl rfl rfl rfl rfl hg34 ?_
                    refine oVal tt rfl rfl rfl rfl rfl trivial ?_
                    refine vNil ?_
                    change ∃ _, _
                    exact ⟨(i51 + (1 : Int)), (En.of ⟨rfl, rfl, rfl, rfl, trivial⟩ trivial ⟨rfl, rfl, trivial⟩), h⟩
                · replace h := cnd_f hb31 h
                  iterate 4 refine oNoT rfl rfl rfl rfl hb31 rfl rfl ?_
                  refine oPickF rfl rfl rfl rfl rfl hb31 rfl ?_
                  refine vNil ?_
                  change VC _ _ _ _
                  refine vCondF rfl rfl ?_
                  refine vSkip ?_
                  change VC _ _ _ _
                  refine vRegion ?_
                  refine oVal tt rfl rfl rfl rfl rfl trivial ?_
                  obtain ⟨hg35, h⟩ := grd_inv h
                  refine oVal tt rfl rfl rfl rfl rfl hg35 ?_
                  refine oVal tt rfl rfl rfl rfl rfl trivial ?_
                  refine vNil ?_
                  change ∃ _, _
                  exact ⟨(i51 + (1 : Int)), (En.of ⟨rfl, rfl, rfl, rfl, trivial⟩ trivial ⟨rfl, rfl, trivial⟩), h⟩
            · replace h := cnd_f hb27 h
              iterate 5 refine oNoT rfl rfl rfl rfl hb27 rfl rfl ?_
              refine oPickF rfl rfl rfl rfl rfl hb27 rfl ?_
              refine vNil ?_
              change VC _ _ _ _
              refine vCondF rfl rfl ?_
              refine vSkip ?_
              change VC _ _ _ _
              refine vSeq ?_
              refine vRegion ?_
              iterate 3 refine oVal tt rfl rfl rfl rfl rfl trivial ?_
              obtain ⟨v73, hc36, h⟩ := bind_inv h
              refine oCall (S_l4Other_w N (p_0.g.bars.getD (((r_2.bars.getD ((i51).toNat) 0)).toNat) (0, 0)) r_2.p v73 hc36) rfl rfl rfl rfl rfl rfl rfl rfl ⟨⟨rfl, rfl, trivial⟩, rfl, trivial⟩ ?_
              refine oVal tt rfl rfl rfl rfl rfl trivial ?_
              refine vNil ?_
              change VC _ _ _ _
              refine vSeq ?_
              refine vRegion ?_
              iterate 3 refine oVal tt rfl rfl rfl rfl rfl trivial ?_
              obtain ⟨v74, hc37, h⟩ := bind_inv h
              refine oCall (S_l2Has_w N p_0.ground v73 v74 hc37) rfl rfl rfl rfl rfl rfl rfl rfl ⟨rfl, rfl, trivial⟩ ?_
              iterate 2 refine oVal tt rfl rfl rfl rfl rfl trivial ?_
              refine oSplit rfl rfl rfl (fun hb38 => ?_) (fun hb38 => ?_)
              · replace h := cnd_t hb38 h
                iterate 2 refine oValG tt rfl rfl rfl rfl rfl hb38 rfl rfl rfl trivial ?_
                obtain ⟨v75, hc39, h⟩ := bind_inv h
                refine oCallG (S_l2Has_w N done_1 v73 v75 hc39) rfl rfl rfl rfl hb38 rfl rfl rfl rfl rfl rfl rfl ⟨rfl, rfl, trivial⟩ ?_
                refine oValG tt rfl rfl rfl rfl rfl hb38 rfl rfl rfl trivial ?_
                refine oPick rfl rfl rfl rfl rfl hb38 rfl ?_
                refine vNil ?_
                change VC _ _ _ _
                refine vCond rfl (fun hb40 => ?_) (fun hb40 => ?_)
                · replace h := cnd_t hb40 h
                  refine vSeq ?_
                  refine vRegion ?_
                  refine oVal tt rfl rfl rfl rfl rfl trivial ?_
                  refine vNil ?_
                  change VC _ _ _ _
                  refine vRet ?_
                  change ∃ _, _
                  cases h
                  exact ⟨[], _, rfl, trivial, rfl, (.eq rfl), rfl⟩
                · replace h := cnd_f hb40 h
                  refine vSkip ?_
                  change VC _ _ _ _
                  refine vRegion ?_
                  refine oVal tt rfl rfl rfl rfl rfl trivial ?_
                  obtain ⟨hg41, h⟩ := grd_inv h
                  refine oVal tt rfl rfl rfl rfl rfl hg41 ?_
                  refine oVal tt rfl rfl rfl rfl rfl trivial ?_
                  refine vNil ?_
                  change ∃ _, _
                  exact ⟨(i51 + (1 : Int)), (En.of ⟨rfl, rfl, rfl, rfl, trivial⟩ trivial ⟨rfl, rfl, trivial⟩), h⟩
              · replace h := cnd_f hb38 h
                iterate 4 refine oNoT rfl rfl rfl rfl hb38 rfl rfl ?_
                refine oPickF rfl rfl rfl rfl rfl hb38 rfl ?_
                refine vNil ?_
                change VC _ _ _ _
                refine vCondF rfl rfl ?_
                refine vSkip ?_
                change VC _ _ _ _
                refine vRegion ?_
                refine oVal tt rfl rfl rfl rfl rfl trivial ?_
                obtain ⟨hg42, h⟩ := grd_inv h
                refine oVal tt rfl rfl rfl rfl rfl hg42 ?_
                refine oVal tt rfl rfl rfl rfl rfl trivial ?_
                refine vNil ?_
                change ∃ _, _
                exact ⟨(i51 + (1 : Int)), (En.of ⟨rfl, rfl, rfl, rfl, trivial⟩ trivial ⟨rfl, rfl, trivial⟩), h⟩
    · replace h := cnd_f hb1 h
      refine vExit ?_
      change ∃ _, _
      exact ⟨(), (En.of trivial trivial trivial), h⟩
def S_IsRaise (N : Nat) (p_0 : Pin) (done_1 : List Int) (r_2 : Rse) : Option (Bool) :=
  (S_IsPinned N p_0).bind fun v1 =>
  cnd v1 (
    (S_InnerPoints N p_0).bind fun v2 =>
    (S_l2Has N v2 r_2.p).bind fun v3 =>
    cnd v3 (
      (S_l2Has N done_1 r_2.p).bind fun v4 =>
      cnd (!v4) (
        cnd (decide ((r_2.bars.length : Int) ≥ (2 : Int))) (
          (S_l26Ends N p_0 done_1 r_2).bind fun v5 =>
          some v5) (
          some false)) (
        some false)) (
      some false)) (
    some false)
set_option maxRecDepth 20000 in
set_option maxHeartbeats 1600000 in
theorem S_IsRaise_w (N : Nat) (p_0 : Pin) (done_1 : List Int) (r_2 : Rse) (r : Bool) (h : S_IsRaise N p_0 done_1 r_2 = some r) : PCall Try.prog 84 [pD p_0, .ro false (.ints done_1), rD r_2] [] (.bool r) := by
  unfold S_IsRaise at h
  refine pcall_intro (TT := TT) tt Try.func84 rfl rfl Try.ntmps84 (congrArg Array.toList Try.results84) rfl rfl fun w0 => ?_
  refine vSeq ?_
  refine vRegion ?_
  iterate 2 refine oBox rfl rfl rfl rfl rfl rfl rfl rfl rfl ?_
  refine oVal tt rfl rfl rfl rfl rfl trivial ?_
  refine vNil ?_
  change VC _ _ _ _
  refine vSeq ?_
  refine vRegionN 26 [4] [0, 1, 3, 7, 15, 7, 39, 127, 255, 511, 1023, 1023, 3071, 8191, 16383, 32767, 65535, 131071, 262143, 524287, 1048575, 2097151, 4194303, 8388607, 8388607, 8388607, 67108863, 134217727, 268435455] (by kernel_rfl) (by kernel_rfl) (by kernel_rfl) (by kernel_rfl) (by kernel_rfl) rfl (by rfl) ?_
  refine nVal tt rfl (wNone rfl) rfl rfl rfl rfl rfl trivial ?_
  obtain ⟨v1, hc1, h⟩ := bind_inv h
  refine nCall (S_IsPinned_w N p_0 v1 hc1) rfl (wNone rfl) rfl rfl rfl rfl rfl rfl rfl rfl ⟨⟨rfl, rfl, rfl, trivial⟩, trivial⟩ ?_
  refine nVal tt rfl (wNone rfl) rfl rfl rfl rfl rfl trivial ?_
  refine nSplit rfl rfl rfl (fun hb2 => ?_) (fun hb2 => ?_)
  · replace h := cnd_t hb2 h
    refine nVal tt rfl (wSome rfl rfl rfl rfl hb2) rfl rfl rfl rfl rfl trivial ?_
    obtain ⟨v2, hc3, h⟩ := bind_inv h
    refine nCallR (S_InnerPoints_w N p_0 v2 hc3) rfl (wSome rfl rfl rfl rfl hb2) rfl rfl rfl rfl rfl rfl (by first | rfl | kernel_rfl | (simp [nrL, nm, gdst, nmT, rowB]; done)) rfl (by first | rfl | kernel_rfl | (simp [chkE, nrL, nm, gdst, nmT, rowB, hid, ment, mentA, mentS]; done) | (simp [chkE, nrL, nm, gdst, nmT, rowB, hid, ment, mentA, mentS]; decide)) ⟨⟨rfl, rfl, rfl, trivial⟩, trivial⟩ ?_
    iterate 2 refine nVal tt rfl (wSome rfl rfl rfl rfl hb2) rfl rfl rfl rfl rfl trivial ?_
    obtain ⟨v3, hc4, h⟩ := bind_inv h
    refine nCall (S_l2Has_w N v2 r_2.p v3 hc4) rfl (wSome rfl rfl rfl rfl hb2) rfl rfl rfl rfl rfl rfl rfl rfl ⟨(.inl ⟨rfl, rfl⟩), rfl, trivial⟩ ?_
    refine nPickT rfl (wNone rfl) rfl rfl rfl hb2 rfl rfl ?_
    refine nVal tt rfl (wNone rfl) rfl rfl rfl rfl rfl trivial ?_
    refine nSplit rfl rfl rfl (fun hb5 => ?_) (fun hb5 => ?_)
    · replace h := cnd_t hb5 h
      iterate 3 refine nVal tt rfl (wSome rfl rfl rfl rfl hb5) rfl rfl rfl rfl rfl trivial ?_
      obtain ⟨v4, hc6, h⟩ := bind_inv h
      refine nCall (S_l2Has_w N done_1 r_2.p v4 hc6) rfl (wSome rfl rfl rfl rfl hb5) rfl rfl rfl rfl rfl rfl rfl rfl ⟨rfl, rfl, trivial⟩ ?_
      refine nVal tt rfl (wSome rfl rfl rfl rfl hb5) rfl rfl rfl rfl rfl trivial ?_
      refine nPickT rfl (wNone rfl) rfl rfl rfl hb5 rfl rfl ?_
      refine nVal tt rfl (wNone rfl) rfl rfl rfl rfl rfl trivial ?_
      refine nSplit rfl rfl rfl (fun hb7 => ?_) (fun hb7 => ?_)
      · replace h := cnd_t hb7 h
        iterate 4 refine nVal tt rfl (wSome rfl rfl rfl rfl hb7) rfl rfl rfl rfl rfl trivial ?_
        refine nPickT rfl (wNone rfl) rfl rfl rfl hb7 rfl rfl ?_
        refine nVal tt rfl (wNone rfl) rfl rfl rfl rfl rfl trivial ?_
        refine nSplit rfl rfl rfl (fun hb8 => ?_) (fun hb8 => ?_)
        · replace h := cnd_t hb8 h
          iterate 3 refine nVal tt rfl (wSome rfl rfl rfl rfl hb8) rfl rfl rfl rfl rfl trivial ?_
          refine nNil ?_
          change VO _ _ _ _ _
          obtain ⟨v5, hc9, h⟩ := bind_inv h
          refine oCallG (S_l26Ends_w N p_0 done_1 r_2 v5 hc9) rfl rfl rfl rfl hb8 rfl rfl rfl rfl rfl rfl rfl ⟨⟨rfl, rfl, rfl, trivial⟩, rfl, ⟨rfl, rfl, trivial⟩, trivial⟩ ?_
          refine oPick rfl rfl rfl rfl rfl hb8 rfl ?_
          refine oVal tt rfl rfl rfl rfl rfl trivial ?_
          refine vNil ?_
          change VC _ _ _ _
          refine vRet ?_
          change ∃ _, _
          cases h
          exact ⟨[], _, rfl, trivial, rfl, (.eq rfl), rfl⟩
        · replace h := cnd_f hb8 h
          iterate 3 refine nNoT rfl rfl rfl rfl hb8 rfl rfl ?_
          refine nNil ?_
          change VO _ _ _ _ _
          refine oNoT rfl rfl rfl rfl hb8 rfl rfl ?_
          refine oPickF rfl rfl rfl rfl rfl hb8 rfl ?_
          refine oVal tt rfl rfl rfl rfl rfl trivial ?_
          refine vNil ?_
          change VC _ _ _ _
          refine vRet ?_
          change ∃ _, _
          cases h
          exact ⟨[], _, rfl, trivial, rfl, (.eq rfl), rfl⟩
      · replace h := cnd_f hb7 h
        iterate 4 refine nNoT rfl rfl rfl rfl hb7 rfl rfl ?_
        refine nPickF rfl (wNone rfl) rfl rfl rfl hb7 rfl rfl ?_
        refine nVal tt rfl (wNone rfl) rfl rfl rfl rfl rfl trivial ?_
        iterate 3 refine nNoT rfl rfl rfl rfl rfl rfl rfl ?_
        refine nNil ?_
        change VO _ _ _ _ _
        refine oNoT rfl rfl rfl rfl rfl rfl rfl ?_
        refine oPickF rfl rfl rfl rfl rfl rfl rfl ?_
        refine oVal tt rfl rfl rfl rfl rfl trivial ?_
        refine vNil ?_
        change VC _ _ _ _
        refine vRet ?_
        change ∃ _, _
        cases h
        exact ⟨[], _, rfl, trivial, rfl, (.eq rfl), rfl⟩
    · replace h := cnd_f hb5 h
      iterate 5 refine nNoT rfl rfl rfl rfl hb5 rfl rfl ?_
      refine nPickF rfl (wNone rfl) rfl rfl rfl hb5 rfl rfl ?_
      refine nVal tt rfl (wNone rfl) rfl rfl rfl rfl rfl trivial ?_
      iterate 4 refine nNoT rfl rfl rfl rfl rfl rfl rfl ?_
      refine nPickF rfl (wNone rfl) rfl rfl rfl rfl rfl rfl ?_
      refine nVal tt rfl (wNone rfl) rfl rfl rfl rfl rfl trivial ?_
      iterate 3 refine nNoT rfl rfl rfl rfl rfl rfl rfl ?_
      refine nNil ?_
      change VO _ _ _ _ _
      refine oNoT rfl rfl rfl rfl rfl rfl rfl ?_
      refine oPickF rfl rfl rfl rfl rfl rfl rfl ?_
      refine oVal tt rfl rfl rfl rfl rfl trivial ?_
      refine vNil ?_
      change VC _ _ _ _
      refine vRet ?_
      change ∃ _, _
      cases h
      exact ⟨[], _, rfl, trivial, rfl, (.eq rfl), rfl⟩
  · replace h := cnd_f hb2 h
    iterate 5 refine nNoT rfl rfl rfl rfl hb2 rfl rfl ?_
    refine nPickF rfl (wNone rfl) rfl rfl rfl hb2 rfl rfl ?_
    refine nVal tt rfl (wNone rfl) rfl rfl rfl rfl rfl trivial ?_
    iterate 5 refine nNoT rfl rfl rfl rfl rfl rfl rfl ?_
    refine nPickF rfl (wNone rfl) rfl rfl rfl rfl rfl rfl ?_
    refine nVal tt rfl (wNone rfl) rfl rfl rfl rfl rfl trivial ?_
    iterate 4 refine nNoT rfl rfl rfl rfl rfl rfl rfl ?_
    refine nPickF rfl (wNone rfl) rfl rfl rfl rfl rfl rfl ?_
    refine nVal tt rfl (wNone rfl) rfl rfl rfl rfl rfl trivial ?_
    iterate 3 refine nNoT rfl rfl rfl rfl rfl rfl rfl ?_
    refine nNil ?_
    change VO _ _ _ _ _
    refine oNoT rfl rfl rfl rfl rfl rfl rfl ?_
    refine oPickF rfl rfl rfl rfl rfl rfl rfl ?_
    refine oVal tt rfl rfl rfl rfl rfl trivial ?_
    refine vNil ?_
    change VC _ _ _ _
    refine vRet ?_
    change ∃ _, _
    cases h
    exact ⟨[], _, rfl, trivial, rfl, (.eq rfl), rfl⟩
def M_Pinned_holds (N : Nat) (p_0 : Pin) (done_1 : List Int) (v_2 : Int) (e_3 : Int) : Option (Bool) :=
  grd (Rg64 ((p_0.g.bars.length : Int) - (1 : Int))) <|
  (I_within N e_3 (0 : Int) ((p_0.g.bars.length : Int) - (1 : Int))).bind fun v1 =>
  cnd (!v1) (
    some false) (
    grd (0 ≤ e_3 ∧ e_3 < (p_0.g.bars.length : Int)) <|
    (M_Bar_has N (p_0.g.bars.getD ((e_3).toNat) (0, 0)) v_2).bind fun v2 =>
    cnd (!v2) (
      some false) (
      (M_Bar_other N (p_0.g.bars.getD ((e_3).toNat) (0, 0)) v_2).bind fun v3 =>
      (G_Contains_int N p_0.ground v3).bind fun v4 =>
      cnd v4 (
        some true) (
        (G_Contains_int N done_1 v3).bind fun v5 =>
        some v5)))
set_option maxRecDepth 20000 in
set_option maxHeartbeats 1600000 in
theorem M_Pinned_holds_w (N : Nat) (p_0 : Pin) (done_1 : List Int) (v_2 : Int) (e_3 : Int) (r : Bool) (h : M_Pinned_holds N p_0 done_1 v_2 e_3 = some r) : PCall Try.prog 106 [pD p_0, .ro false (.ints done_1), .int v_2, .int e_3] [] (.bool r) := by
  unfold M_Pinned_holds at h
  refine pcall_intro (TT := TT) tt Try.func106 rfl rfl Try.ntmps106 (congrArg Array.toList Try.results106) rfl rfl fun w0 => ?_
  refine vSeq ?_
  refine vRegion ?_
  refine oBox rfl rfl rfl rfl rfl rfl rfl rfl rfl ?_
  refine oVal tt rfl rfl rfl rfl rfl trivial ?_
  refine vNil ?_
  change VC _ _ _ _
  iterate 2 refine vSeq ?_
  refine vRegion ?_
  iterate 5 refine oVal tt rfl rfl rfl rfl rfl trivial ?_
  obtain ⟨hg1, h⟩ := grd_inv h
  refine oVal tt rfl rfl rfl rfl rfl hg1 ?_
  obtain ⟨v1, hc2, h⟩ := bind_inv h
  refine oCall (I_within_w N e_3 (0 : Int) ((p_0.g.bars.length : Int) - (1 : Int)) v1 hc2) rfl rfl rfl rfl rfl rfl rfl rfl ⟨rfl, rfl, rfl, trivial⟩ ?_
  iterate 2 refine oVal tt rfl rfl rfl rfl rfl trivial ?_
  refine oSplit rfl rfl rfl (fun hb3 => ?_) (fun hb3 => ?_)
  · replace h := cnd_t hb3 h
    iterate 9 refine oNoF rfl rfl rfl rfl hb3 rfl rfl ?_
    refine oPick rfl rfl rfl rfl rfl hb3 rfl ?_
    refine vNil ?_
    change VC _ _ _ _
    refine vCondT rfl rfl ?_
    refine vSeq ?_
    refine vRegion ?_
    refine oVal tt rfl rfl rfl rfl rfl trivial ?_
    refine vNil ?_
    change VC _ _ _ _
    refine vRet ?_
    change ∃ _, _
    cases h
    exact ⟨[], _, rfl, trivial, rfl, (.eq rfl), rfl⟩
  · replace h := cnd_f hb3 h
    iterate 4 refine oValG tt rfl rfl rfl rfl rfl hb3 rfl rfl rfl trivial ?_
    obtain ⟨hg4, h⟩ := grd_inv h
    refine oValG tt rfl rfl rfl rfl rfl hb3 rfl rfl rfl hg4 ?_
    iterate 2 refine oValG tt rfl rfl rfl rfl rfl hb3 rfl rfl rfl trivial ?_
    obtain ⟨v2, hc5, h⟩ := bind_inv h
    refine oCallG (M_Bar_has_w N (p_0.g.bars.getD ((e_3).toNat) (0, 0)) v_2 v2 hc5) rfl rfl rfl rfl hb3 rfl rfl rfl rfl rfl rfl rfl ⟨⟨rfl, rfl, trivial⟩, rfl, trivial⟩ ?_
    refine oValG tt rfl rfl rfl rfl rfl hb3 rfl rfl rfl trivial ?_
    refine oPickF rfl rfl rfl rfl rfl hb3 rfl ?_
    refine vNil ?_
    change VC _ _ _ _
    refine vCond rfl (fun hb6 => ?_) (fun hb6 => ?_)
    · replace h := cnd_t hb6 h
      refine vSeq ?_
      refine vRegion ?_
      refine oVal tt rfl rfl rfl rfl rfl trivial ?_
      refine vNil ?_
      change VC _ _ _ _
      refine vRet ?_
      change ∃ _, _
      cases h
      exact ⟨[], _, rfl, trivial, rfl, (.eq rfl), rfl⟩
    · replace h := cnd_f hb6 h
      refine vSkip ?_
      change VC _ _ _ _
      refine vSeq ?_
      refine vRegion ?_
      iterate 4 refine oVal tt rfl rfl rfl rfl rfl trivial ?_
      refine oVal tt rfl rfl rfl rfl rfl hg4 ?_
      iterate 2 refine oVal tt rfl rfl rfl rfl rfl trivial ?_
      obtain ⟨v3, hc7, h⟩ := bind_inv h
      refine oCall (M_Bar_other_w N (p_0.g.bars.getD ((e_3).toNat) (0, 0)) v_2 v3 hc7) rfl rfl rfl rfl rfl rfl rfl rfl ⟨⟨rfl, rfl, trivial⟩, rfl, trivial⟩ ?_
      refine oVal tt rfl rfl rfl rfl rfl trivial ?_
      refine vNil ?_
      change VC _ _ _ _
      refine vSeq ?_
      refine vRegion ?_
      iterate 3 refine oVal tt rfl rfl rfl rfl rfl trivial ?_
      obtain ⟨v4, hc8, h⟩ := bind_inv h
      refine oCall (G_Contains_int_w N p_0.ground v3 v4 hc8) rfl rfl rfl rfl rfl rfl rfl rfl ⟨rfl, rfl, trivial⟩ ?_
      refine oVal tt rfl rfl rfl rfl rfl trivial ?_
      refine oSplit rfl rfl rfl (fun hb9 => ?_) (fun hb9 => ?_)
      · replace h := cnd_t hb9 h
        iterate 3 refine oNoF rfl rfl rfl rfl hb9 rfl rfl ?_
        refine oPick rfl rfl rfl rfl rfl hb9 rfl ?_
        refine oVal tt rfl rfl rfl rfl rfl trivial ?_
        refine vNil ?_
        change VC _ _ _ _
        refine vRet ?_
        change ∃ _, _
        cases h
        exact ⟨[], _, rfl, trivial, rfl, (.eq rfl), rfl⟩
      · replace h := cnd_f hb9 h
        iterate 2 refine oValG tt rfl rfl rfl rfl rfl hb9 rfl rfl rfl trivial ?_
        obtain ⟨v5, hc10, h⟩ := bind_inv h
        refine oCallG (G_Contains_int_w N done_1 v3 v5 hc10) rfl rfl rfl rfl hb9 rfl rfl rfl rfl rfl rfl rfl ⟨rfl, rfl, trivial⟩ ?_
        refine oPickF rfl rfl rfl rfl rfl hb9 rfl ?_
        refine oVal tt rfl rfl rfl rfl rfl trivial ?_
        refine vNil ?_
        change VC _ _ _ _
        refine vRet ?_
        change ∃ _, _
        cases h
        exact ⟨[], _, rfl, trivial, rfl, (.eq rfl), rfl⟩
def I_IsRaise_l1 (N : Nat) (p_0 : Pin) (done_1 : List Int) (r_2 : Rse) (k : Unit → Option (Bool)) : Nat → Int → Option (Bool)
  | 0, _ => none
  | n + 1, x10 =>
    cnd (decide (x10 < (r_2.bars.length : Int))) (
      grd (0 ≤ x10 ∧ x10 < (r_2.bars.length : Int)) <|
      (M_Pinned_holds N p_0 done_1 r_2.p (r_2.bars.getD ((x10).toNat) 0)).bind fun v12 =>
      cnd (!v12) (
        some false) (
        cnd (decide (x10 > (0 : Int))) (
          grd (Rg64 (x10 - (1 : Int))) <|
          grd (0 ≤ (x10 - (1 : Int)) ∧ (x10 - (1 : Int)) < (r_2.bars.length : Int)) <|
          cnd (decide ((r_2.bars.getD (((x10 - (1 : Int))).toNat) 0) ≥ (r_2.bars.getD ((x10).toNat) 0))) (
            some false) (
            grd (Rg64 (x10 + (1 : Int))) <|
            I_IsRaise_l1 N p_0 done_1 r_2 k n (x10 + (1 : Int)))) (
          grd (Rg64 (x10 + (1 : Int))) <|
          I_IsRaise_l1 N p_0 done_1 r_2 k n (x10 + (1 : Int))))) (
      k ())
def I_IsRaise (N : Nat) (p_0 : Pin) (done_1 : List Int) (r_2 : Rse) : Option (Bool) :=
  (I_IsPinned N p_0).bind fun v1 =>
  cnd (!v1) (
    some false) (
    (M_Pinned_isInner N p_0 r_2.p).bind fun v2 =>
    cnd (!v2) (
      some false) (
      (G_Contains_int N done_1 r_2.p).bind fun v3 =>
      cnd v3 (
        some false) (
        cnd (decide ((r_2.bars.length : Int) < (2 : Int))) (
          some false) (
          I_IsRaise_l1 N p_0 done_1 r_2 (fun (_ : Unit) =>
                some true) N (0 : Int)))))
set_option maxRecDepth 20000 in
set_option maxHeartbeats 1600000 in
theorem I_IsRaise_w (N : Nat) (p_0 : Pin) (done_1 : List Int) (r_2 : Rse) (r : Bool) (h : I_IsRaise N p_0 done_1 r_2 = some r) : PCall Try.prog 86 [pD p_0, .ro false (.ints done_1), rD r_2] [] (.bool r) := by
  unfold I_IsRaise at h
  refine pcall_intro (TT := TT) tt Try.func86 rfl rfl Try.ntmps86 (congrArg Array.toList Try.results86) rfl rfl fun w0 => ?_
  refine vSeq ?_
  refine vRegion ?_
  iterate 2 refine oBox rfl rfl rfl rfl rfl rfl rfl rfl rfl ?_
  refine oVal tt rfl rfl rfl rfl rfl trivial ?_
  refine vNil ?_
  change VC _ _ _ _
  iterate 2 refine vSeq ?_
  refine vRegion ?_
  refine oVal tt rfl rfl rfl rfl rfl trivial ?_
  obtain ⟨v1, hc1, h⟩ := bind_inv h
  refine oCall (I_IsPinned_w N p_0 v1 hc1) rfl rfl rfl rfl rfl rfl rfl rfl ⟨⟨rfl, rfl, rfl, trivial⟩, trivial⟩ ?_
  iterate 2 refine oVal tt rfl rfl rfl rfl rfl trivial ?_
  refine oSplit rfl rfl rfl (fun hb2 => ?_) (fun hb2 => ?_)
  · replace h := cnd_t hb2 h
    iterate 5 refine oNoF rfl rfl rfl rfl hb2 rfl rfl ?_
    refine oPick rfl rfl rfl rfl rfl hb2 rfl ?_
    refine oVal tt rfl rfl rfl rfl rfl trivial ?_
    iterate 4 refine oNoF rfl rfl rfl rfl rfl rfl rfl ?_
    refine oPick rfl rfl rfl rfl rfl rfl rfl ?_
    refine oVal tt rfl rfl rfl rfl rfl trivial ?_
    iterate 4 refine oNoF rfl rfl rfl rfl rfl rfl rfl ?_
    refine oPick rfl rfl rfl rfl rfl rfl rfl ?_
    refine vNil ?_
    change VC _ _ _ _
    refine vCondT rfl rfl ?_
    refine vSeq ?_
    refine vRegion ?_
    refine oVal tt rfl rfl rfl rfl rfl trivial ?_
    refine vNil ?_
    change VC _ _ _ _
    refine vRet ?_
    change ∃ _, _
    cases h
    exact ⟨[], _, rfl, trivial, rfl, (.eq rfl), rfl⟩
  · replace h := cnd_f hb2 h
    iterate 3 refine oValG tt rfl rfl rfl rfl rfl hb2 rfl rfl rfl trivial ?_
    obtain ⟨v2, hc3, h⟩ := bind_inv h
    refine oCallG (M_Pinned_isInner_w N p_0 r_2.p v2 hc3) rfl rfl rfl rfl hb2 rfl rfl rfl rfl rfl rfl rfl ⟨⟨rfl, rfl, rfl, trivial⟩, rfl, trivial⟩ ?_
    refine oValG tt rfl rfl rfl rfl rfl hb2 rfl rfl rfl trivial ?_
    refine oPickF rfl rfl rfl rfl rfl hb2 rfl ?_
    refine oVal tt rfl rfl rfl rfl rfl trivial ?_
    refine oSplit rfl rfl rfl (fun hb4 => ?_) (fun hb4 => ?_)
    · replace h := cnd_t hb4 h
      iterate 4 refine oNoF rfl rfl rfl rfl hb4 rfl rfl ?_
      refine oPick rfl rfl rfl rfl rfl hb4 rfl ?_
      refine oVal tt rfl rfl rfl rfl rfl trivial ?_
      iterate 4 refine oNoF rfl rfl rfl rfl rfl rfl rfl ?_
      refine oPick rfl rfl rfl rfl rfl rfl rfl ?_
      refine vNil ?_
      change VC _ _ _ _
      refine vCondT rfl rfl ?_
      refine vSeq ?_
      refine vRegion ?_
      refine oVal tt rfl rfl rfl rfl rfl trivial ?_
      refine vNil ?_
      change VC _ _ _ _
      refine vRet ?_
      change ∃ _, _
      cases h
      exact ⟨[], _, rfl, trivial, rfl, (.eq rfl), rfl⟩
    · replace h := cnd_f hb4 h
      iterate 3 refine oValG tt rfl rfl rfl rfl rfl hb4 rfl rfl rfl trivial ?_
      obtain ⟨v3, hc5, h⟩ := bind_inv h
      refine oCallG (G_Contains_int_w N done_1 r_2.p v3 hc5) rfl rfl rfl rfl hb4 rfl rfl rfl rfl rfl rfl rfl ⟨rfl, rfl, trivial⟩ ?_
      refine oPickF rfl rfl rfl rfl rfl hb4 rfl ?_
      refine oVal tt rfl rfl rfl rfl rfl trivial ?_
      refine oSplit rfl rfl rfl (fun hb6 => ?_) (fun hb6 => ?_)
      · replace h := cnd_t hb6 h
        iterate 4 refine oNoF rfl rfl rfl rfl hb6 rfl rfl ?_
        refine oPick rfl rfl rfl rfl rfl hb6 rfl ?_
        refine vNil ?_
        change VC _ _ _ _
        refine vCondT rfl rfl ?_
        refine vSeq ?_
        refine vRegion ?_
        refine oVal tt rfl rfl rfl rfl rfl trivial ?_
        refine vNil ?_
        change VC _ _ _ _
        refine vRet ?_
        change ∃ _, _
        cases h
        exact ⟨[], _, rfl, trivial, rfl, (.eq rfl), rfl⟩
      · replace h := cnd_f hb6 h
        iterate 4 refine oValG tt rfl rfl rfl rfl rfl hb6 rfl rfl rfl trivial ?_
        refine oPickF rfl rfl rfl rfl rfl hb6 rfl ?_
        refine vNil ?_
        change VC _ _ _ _
        refine vCond rfl (fun hb7 => ?_) (fun hb7 => ?_)
        · replace h := cnd_t hb7 h
          refine vSeq ?_
          refine vRegion ?_
          refine oVal tt rfl rfl rfl rfl rfl trivial ?_
          refine vNil ?_
          change VC _ _ _ _
          refine vRet ?_
          change ∃ _, _
          cases h
          exact ⟨[], _, rfl, trivial, rfl, (.eq rfl), rfl⟩
        · replace h := cnd_f hb7 h
          refine vSkip ?_
          change VC _ _ _ _
          iterate 2 refine vSeq ?_
          refine vRegion ?_
          iterate 4 refine oVal tt rfl rfl rfl rfl rfl trivial ?_
          refine vNil ?_
          change VC _ _ _ _
          refine vJoin (F := fun k => I_IsRaise_l1 N p_0 done_1 r_2 k) h (α := Unit) (J := fun (_ : Unit) => (⟨[], [], []⟩ : PS)) ?_ ?_
          · rintro ⟨⟩ h
            show VC _ _ _ (⟨[], [], []⟩ : PS)
            refine vSeq ?_
            refine vRegion ?_
            refine oVal tt rfl rfl rfl rfl rfl trivial ?_
            refine vNil ?_
            change VC _ _ _ _
            refine vRet ?_
            change ∃ _, _
            cases h
            exact ⟨[], _, rfl, trivial, rfl, (.eq rfl), rfl⟩
          · intro k h
            refine vBlock ?_
            refine vLoopS (α := Int) (fun (x10 : Int) => (⟨[(1, .ro false (.ints done_1)), (3, .ptr 3 0), (5, .ptr 5 0), (32, .ro false (.ints r_2.bars)), (33, .int (r_2.bars.length : Int)), (34, .int x10)], [], [(3, some [.int p_0.g.n, .ro false (.pairs p_0.g.bars), .ro false (.ints p_0.ground)]), (5, some [.int r_2.p, .ro false (.ints r_2.bars)])]⟩ : PS)) (I_IsRaise_l1 N p_0 done_1 r_2 k) h (En.of ⟨rfl, rfl, rfl, rfl, rfl, rfl, trivial⟩ trivial ⟨rfl, rfl, trivial⟩) (fun _ => rfl) ?_
            rintro n x10 h
            rw [I_IsRaise_l1] at h
            show VC _ _ _ (⟨[(1, .ro false (.ints done_1)), (3, .ptr 3 0), (5, .ptr 5 0), (32, .ro false (.ints r_2.bars)), (33, .int (r_2.bars.length : Int)), (34, .int x10)], [], [(3, some [.int p_0.g.n, .ro false (.pairs p_0.g.bars), .ro false (.ints p_0.ground)]), (5, some [.int r_2.p, .ro false (.ints r_2.bars)])]⟩ : PS)
            refine vSeq ?_
            refine vRegion ?_
            refine oVal tt rfl rfl rfl rfl rfl trivial ?_
            refine vNil ?_
            change VC _ _ _ _
            refine vSeq ?_
            refine vCond rfl (fun hb8 => ?_) (fun hb8 => ?_)
            · replace h := cnd_t hb8 h
              refine vSkip ?_
              change VC _ _ _ _
              refine vSeq ?_
              refine vBlock ?_
              refine vSeq ?_
              refine vRegion ?_
              refine oVal tt rfl rfl rfl rfl rfl trivial ?_
              obtain ⟨hg9, h⟩ := grd_inv h
              refine oVal tt rfl rfl rfl rfl rfl hg9 ?_
              iterate 3 refine oVal tt rfl rfl rfl rfl rfl trivial ?_
              refine vNil ?_
              change VC _ _ _ _
              refine vSeq ?_
              refine vRegion ?_
              iterate 5 refine oVal tt rfl rfl rfl rfl rfl trivial ?_
              obtain ⟨v12, hc10, h⟩ := bind_inv h
              refine oCall (M_Pinned_holds_w N p_0 done_1 r_2.p (r_2.bars.getD ((x10).toNat) 0) v12 hc10) rfl rfl rfl rfl rfl rfl rfl rfl ⟨⟨rfl, rfl, rfl, trivial⟩, rfl, rfl, rfl, trivial⟩ ?_
              iterate 2 refine oVal tt rfl rfl rfl rfl rfl trivial ?_
              refine oSplit rfl rfl rfl (fun hb11 => ?_) (fun hb11 => ?_)
              · replace h := cnd_t hb11 h
                iterate 3 refine oNoF rfl rfl rfl rfl hb11 rfl rfl ?_
                iterate 8 refine oNoU rfl rfl rfl rfl rfl ?_
                refine oNoF rfl rfl rfl rfl hb11 rfl rfl ?_
                refine oPick rfl rfl rfl rfl rfl hb11 rfl ?_
                refine vNil ?_
                change VC _ _ _ _
                refine vCondT rfl rfl ?_
                refine vSeq ?_
                refine vRegion ?_
                refine oVal tt rfl rfl rfl rfl rfl trivial ?_
                refine vNil ?_
                change VC _ _ _ _
                refine vRet ?_
                change ∃ _, _
                cases h
                exact ⟨[], _, rfl, trivial, rfl, (.eq rfl), rfl⟩
              · replace h := cnd_f hb11 h
                iterate 3 refine oValG tt rfl rfl rfl rfl rfl hb11 rfl rfl rfl trivial ?_
                refine oSplit rfl rfl rfl (fun hb12 => ?_) (fun hb12 => ?_)
                · replace h := cnd_t hb12 h
                  iterate 3 refine oValG tt rfl rfl rfl rfl rfl hb12 rfl rfl rfl trivial ?_
                  obtain ⟨hg13, h⟩ := grd_inv h
                  refine oValG tt rfl rfl rfl rfl rfl hb12 rfl rfl rfl hg13 ?_
                  obtain ⟨hg14, h⟩ := grd_inv h
                  refine oValG tt rfl rfl rfl rfl rfl hb12 rfl rfl rfl hg14 ?_
                  iterate 3 refine oValG tt rfl rfl rfl rfl rfl hb12 rfl rfl rfl trivial ?_
                  refine oPickGT rfl rfl rfl rfl hb11 rfl rfl rfl rfl hb12 rfl ?_
                  refine oPickF rfl rfl rfl rfl rfl hb11 rfl ?_
                  refine vNil ?_
                  change VC _ _ _ _
                  refine vCond rfl (fun hb15 => ?_) (fun hb15 => ?_)
                  · replace h := cnd_t hb15 h
                    refine vSeq ?_
                    refine vRegion ?_
                    refine oVal tt rfl rfl rfl rfl rfl trivial ?_
                    refine vNil ?_
                    change VC _ _ _ _
                    refine vRet ?_
                    change ∃ _, _
                    cases h
                    exact ⟨[], _, rfl, trivial, rfl, (.eq rfl), rfl⟩
                  · replace h := cnd_f hb15 h
                    refine vSkip ?_
                    change VC _ _ _ _
                    refine vRegion ?_
                    obtain ⟨hg16, h⟩ := grd_inv h
                    refine oVal tt rfl rfl rfl rfl rfl hg16 ?_
                    refine oVal tt rfl rfl rfl rfl rfl trivial ?_
                    refine vNil ?_
                    change ∃ _, _
                    exact ⟨(x10 + (1 : Int)), (En.of ⟨rfl, rfl, rfl, rfl, rfl, rfl, trivial⟩ trivial ⟨rfl, rfl, trivial⟩), h⟩
                · replace h := cnd_f hb12 h
                  iterate 8 refine oNoT rfl rfl rfl rfl hb12 rfl rfl ?_
                  refine oPickGF rfl rfl rfl rfl hb11 rfl rfl rfl rfl hb12 rfl ?_
                  refine oPickF rfl rfl rfl rfl rfl hb11 rfl ?_
                  refine vNil ?_
                  change VC _ _ _ _
                  refine vCondF rfl rfl ?_
                  refine vSkip ?_
                  change VC _ _ _ _
                  refine vRegion ?_
                  obtain ⟨hg17, h⟩ := grd_inv h
                  refine oVal tt rfl rfl rfl rfl rfl hg17 ?_
                  refine oVal tt rfl rfl rfl rfl rfl trivial ?_
                  refine vNil ?_
                  change ∃ _, _
                  exact ⟨(x10 + (1 : Int)), (En.of ⟨rfl, rfl, rfl, rfl, rfl, rfl, trivial⟩ trivial ⟨rfl, rfl, trivial⟩), h⟩
            · replace h := cnd_f hb8 h
              refine vExit ?_
              change ∃ _, _
              exact ⟨(), (En.of trivial trivial trivial), h⟩
end Go.Proofs.Ytkpmijmlbpdknaa
