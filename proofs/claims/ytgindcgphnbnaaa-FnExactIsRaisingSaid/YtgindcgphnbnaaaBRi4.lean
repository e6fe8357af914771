/- Texts that the proof needs, put together: G17 Pf M7 G69 Pbr G22 Qr G70. -/
import Derived.Test.YtgindcgphnbnaaaBRi2
import Derived.Test.YtgindcgphnbnaaaBRi3
namespace Go.Proofs.Ytgindcgphnbnaaa
open Go.RowKit
set_option linter.unusedVariables false
set_option linter.unusedSimpArgs false
def S_l26Ends_l1 (N : Nat) (p_0 : Pin) (done_1 : List Int) (r_2 : Rse) (k : Unit → Option (Bool)) : Nat → Int → Option (Bool)
  | 0, _ => none
  | n + 1, i51 =>
    cnd (decide (i51 < (r_2.bars.length : Int))) (
      grd (0 ≤ i51 ∧ i51 < (r_2.bars.length : Int)) <|
      cnd (decide ((r_2.bars.getD ((i51).toNat) 0) < (0 : Int))) (
        some false) (
        cnd (decide ((r_2.bars.getD ((i51).toNat) 0) ≥ (p_0.g.bars.length : Int))) (
          some false) (
          cnd (decide (i51 > (0 : Int))) (
            grd (Rg64 (i51 - (1 : Int))) <|
            grd (0 ≤ (i51 - (1 : Int)) ∧ (i51 - (1 : Int)) < (r_2.bars.length : Int)) <|
            cnd (decide ((r_2.bars.getD (((i51 - (1 : Int))).toNat) 0) ≥ (r_2.bars.getD ((i51).toNat) 0))) (
              some false) (
              grd (0 ≤ (r_2.bars.getD ((i51).toNat) 0) ∧ (r_2.bars.getD ((i51).toNat) 0) < (p_0.g.bars.length : Int)) <|
              cnd (((p_0.g.bars.getD (((r_2.bars.getD ((i51).toNat) 0)).toNat) (0, 0)).1) != r_2.p) (
                cnd (((p_0.g.bars.getD (((r_2.bars.getD ((i51).toNat) 0)).toNat) (0, 0)).2) != r_2.p) (
                  some false) (
                  (S_l4Other N (p_0.g.bars.getD (((r_2.bars.getD ((i51).toNat) 0)).toNat) (0, 0)) r_2.p).bind fun v64 =>
                  (S_l2Has N p_0.ground v64).bind fun v65 =>
                  cnd (!v65) (
                    (S_l2Has N done_1 v64).bind fun v66 =>
                    cnd (!v66) (
                      some false) (
                      grd (Rg64 (i51 + (1 : Int))) <|
                      S_l26Ends_l1 N p_0 done_1 r_2 k n (i51 + (1 : Int)))) (
                    grd (Rg64 (i51 + (1 : Int))) <|
                    S_l26Ends_l1 N p_0 done_1 r_2 k n (i51 + (1 : Int))))) (
                (S_l4Other N (p_0.g.bars.getD (((r_2.bars.getD ((i51).toNat) 0)).toNat) (0, 0)) r_2.p).bind fun v67 =>
                (S_l2Has N p_0.ground v67).bind fun v68 =>
                cnd (!v68) (
                  (S_l2Has N done_1 v67).bind fun v69 =>
                  cnd (!v69) (
                    some false) (
                    grd (Rg64 (i51 + (1 : Int))) <|
                    S_l26Ends_l1 N p_0 done_1 r_2 k n (i51 + (1 : Int)))) (
                  grd (Rg64 (i51 + (1 : Int))) <|
                  S_l26Ends_l1 N p_0 done_1 r_2 k n (i51 + (1 : Int)))))) (
            grd (0 ≤ (r_2.bars.getD ((i51).toNat) 0) ∧ (r_2.bars.getD ((i51).toNat) 0) < (p_0.g.bars.length : Int)) <|
            cnd (((p_0.g.bars.getD (((r_2.bars.getD ((i51).toNat) 0)).toNat) (0, 0)).1) != r_2.p) (
              cnd (((p_0.g.bars.getD (((r_2.bars.getD ((i51).toNat) 0)).toNat) (0, 0)).2) != r_2.p) (
                some false) (
                (S_l4Other N (p_0.g.bars.getD (((r_2.bars.getD ((i51).toNat) 0)).toNat) (0, 0)) r_2.p).bind fun v70 =>
                (S_l2Has N p_0.ground v70).bind fun v71 =>
                cnd (!v71) (
                  (S_l2Has N done_1 v70).bind fun v72 =>
                  cnd (!v72) (
                    some false) (
                    grd (Rg64 (i51 + (1 : Int))) <|
                    S_l26Ends_l1 N p_0 done_1 r_2 k n (i51 + (1 : Int)))) (
                  grd (Rg64 (i51 + (1 : Int))) <|
                  S_l26Ends_l1 N p_0 done_1 r_2 k n (i51 + (1 : Int))))) (
              (S_l4Other N (p_0.g.bars.getD (((r_2.bars.getD ((i51).toNat) 0)).toNat) (0, 0)) r_2.p).bind fun v73 =>
              (S_l2Has N p_0.ground v73).bind fun v74 =>
              cnd (!v74) (
                (S_l2Has N done_1 v73).bind fun v75 =>
                cnd (!v75) (
                  some false) (
                  grd (Rg64 (i51 + (1 : Int))) <|
                  S_l26Ends_l1 N p_0 done_1 r_2 k n (i51 + (1 : Int)))) (
                grd (Rg64 (i51 + (1 : Int))) <|
                S_l26Ends_l1 N p_0 done_1 r_2 k n (i51 + (1 : Int)))))))) (
      k ())
def S_l26Ends (N : Nat) (p_0 : Pin) (done_1 : List Int) (r_2 : Rse) : Option (Bool) :=
  S_l26Ends_l1 N p_0 done_1 r_2 (fun (_ : Unit) =>
        some true) N (0 : Int)
set_option maxRecDepth 20000 in
set_option maxHeartbeats 1600000 in
theorem S_l26Ends_w (N : Nat) (p_0 : Pin) (done_1 : List Int) (r_2 : Rse) (r : Bool) (h : S_l26Ends N p_0 done_1 r_2 = some r) : PCall Try.prog 153 [pD p_0, .ro false (.ints done_1), rD r_2] [] (.bool r) := by
  unfold S_l26Ends at h
  refine pcall_intro (TT := TT) tt Try.func153 rfl rfl Try.ntmps153 (congrArg Array.toList Try.results153) rfl rfl fun w0 => ?_
  refine vSeq ?_
  refine vRegion ?_
  iterate 2 refine oBox rfl rfl rfl rfl rfl rfl rfl rfl rfl ?_
  refine oVal tt rfl rfl rfl rfl rfl trivial ?_
  refine vNil ?_
  change VC _ _ _ _
  iterate 2 refine vSeq ?_
  refine vRegion ?_
  refine oVal tt rfl rfl rfl rfl rfl trivial ?_
  refine vNil ?_
  change VC _ _ _ _
  refine vJoin (F := fun k => S_l26Ends_l1 N p_0 done_1 r_2 k) h (α := Unit) (J := fun (_ : Unit) => (⟨[], [], []⟩ : PS)) ?_ ?_
  · rintro ⟨⟩ h
    show VC _ _ _ (⟨[], [], []⟩ : PS)
    refine vSeq ?_
    refine vRegion ?_
    refine oVal tt rfl rfl rfl rfl rfl trivial ?_
    refine vNil ?_
    change VC _ _ _ _
    refine vRet ?_
    change ∃ _, _
    cases h
    exact ⟨[], _, rfl, trivial, rfl, (.eq rfl), rfl⟩
  · intro k h
    refine vBlock ?_
    refine vLoopS (α := Int) (fun (i51 : Int) => (⟨[(1, .ro false (.ints done_1)), (3, .ptr 3 0), (5, .ptr 5 0), (7, .int i51)], [], [(3, some [.int p_0.g.n, .ro false (.pairs p_0.g.bars), .ro false (.ints p_0.ground)]), (5, some [.int r_2.p, .ro false (.ints r_2.bars)])]⟩ : PS)) (S_l26Ends_l1 N p_0 done_1 r_2 k) h (En.of ⟨rfl, rfl, rfl, rfl, trivial⟩ trivial ⟨rfl, rfl, trivial⟩) (fun _ => rfl) ?_
    rintro n i51 h
    rw [S_l26Ends_l1] at h
    show VC _ _ _ (⟨[(1, .ro false (.ints done_1)), (3, .ptr 3 0), (5, .ptr 5 0), (7, .int i51)], [], [(3, some [.int p_0.g.n, .ro false (.pairs p_0.g.bars), .ro false (.ints p_0.ground)]), (5, some [.int r_2.p, .ro false (.ints r_2.bars)])]⟩ : PS)
    iterate 2 refine vSeq ?_
    refine vRegion ?_
    iterate 5 refine oVal tt rfl rfl rfl rfl rfl trivial ?_
    refine vNil ?_
    change VC _ _ _ _
    refine vCond rfl (fun hb1 => ?_) (fun hb1 => ?_)
    · replace h := cnd_t hb1 h
      refine vSkip ?_
      change VC _ _ _ _
      refine vSeq ?_
      refine vBlock ?_
      iterate 2 refine vSeq ?_
      refine vRegionD (by kernel_rfl) (by kernel_rfl) ?_
      iterate 3 refine cVal tt rfl (wNone rfl) rfl rfl rfl trivial ?_
      obtain ⟨hg2, h⟩ := grd_inv h
      refine cVal tt rfl (wNone rfl) rfl rfl rfl hg2 ?_
      iterate 3 refine cVal tt rfl (wNone rfl) rfl rfl rfl trivial ?_
      refine cSplit rfl rfl rfl (fun hb3 => ?_) (fun hb3 => ?_)
      · replace h := cnd_t hb3 h
        iterate 10 refine cNoF rfl rfl rfl rfl hb3 rfl rfl ?_
        refine cPickT rfl (wNone rfl) rfl rfl rfl hb3 rfl ?_
        refine cVal tt rfl (wNone rfl) rfl rfl rfl trivial ?_
        iterate 3 refine cNoF rfl rfl rfl rfl rfl rfl rfl ?_
        iterate 12 refine cNoU rfl rfl rfl rfl rfl ?_
        refine cNoF rfl rfl rfl rfl rfl rfl rfl ?_
        refine cPickT rfl (wNone rfl) rfl rfl rfl rfl rfl ?_
        refine cNil ?_
        change VC _ _ _ _
        refine vCondT rfl rfl ?_
        refine vSeq ?_
        refine vRegion ?_
        refine oVal tt rfl rfl rfl rfl rfl trivial ?_
        refine vNil ?_
        change VC _ _ _ _
        refine vRet ?_
        change ∃ _, _
        cases h
        exact ⟨[], _, rfl, trivial, rfl, (.eq rfl), rfl⟩
      · replace h := cnd_f hb3 h
        iterate 3 refine cVal tt rfl (wSome rfl rfl rfl rfl hb3) rfl rfl rfl trivial ?_
        refine cVal tt rfl (wSome rfl rfl rfl rfl hb3) rfl rfl rfl hg2 ?_
        iterate 6 refine cVal tt rfl (wSome rfl rfl rfl rfl hb3) rfl rfl rfl trivial ?_
        refine cPickF rfl (wNone rfl) rfl rfl rfl hb3 rfl ?_
        refine cVal tt rfl (wNone rfl) rfl rfl rfl trivial ?_
        refine cSplit rfl rfl rfl (fun hb4 => ?_) (fun hb4 => ?_)
        · replace h := cnd_t hb4 h
          iterate 3 refine cNoF rfl rfl rfl rfl hb4 rfl rfl ?_
          iterate 12 refine cNoU rfl rfl rfl rfl rfl ?_
          refine cNoF rfl rfl rfl rfl hb4 rfl rfl ?_
          refine cPickT rfl (wNone rfl) rfl rfl rfl hb4 rfl ?_
          refine cNil ?_
          change VC _ _ _ _
          refine vCondT rfl rfl ?_
          refine vSeq ?_
          refine vRegion ?_
          refine oVal tt rfl rfl rfl rfl rfl trivial ?_
          refine vNil ?_
          change VC _ _ _ _
          refine vRet ?_
          change ∃ _, _
          cases h
          exact ⟨[], _, rfl, trivial, rfl, (.eq rfl), rfl⟩
        · replace h := cnd_f hb4 h
          iterate 3 refine cVal tt rfl (wSome rfl rfl rfl rfl hb4) rfl rfl rfl trivial ?_
          refine cSplit rfl rfl rfl (fun hb5 => ?_) (fun hb5 => ?_)
          · replace h := cnd_t hb5 h
            iterate 3 refine cVal tt rfl (wSome rfl rfl rfl rfl hb5) rfl rfl rfl trivial ?_
            obtain ⟨hg6, h⟩ := grd_inv h
            refine cVal tt rfl (wSome rfl rfl rfl rfl hb5) rfl rfl rfl hg6 ?_
            obtain ⟨hg7, h⟩ := grd_inv h
            refine cVal tt rfl (wSome rfl rfl rfl rfl hb5) rfl rfl rfl hg7 ?_
            iterate 4 refine cVal tt rfl (wSome rfl rfl rfl rfl hb5) rfl rfl rfl trivial ?_
            refine cVal tt rfl (wSome rfl rfl rfl rfl hb5) rfl rfl rfl hg2 ?_
            iterate 2 refine cVal tt rfl (wSome rfl rfl rfl rfl hb5) rfl rfl rfl trivial ?_
            refine cPickT rfl (wSome rfl rfl rfl rfl hb4) rfl rfl rfl hb5 rfl ?_
            refine cPickF rfl (wNone rfl) rfl rfl rfl hb4 rfl ?_
            refine cNil ?_
            change VC _ _ _ _
            refine vCond rfl (fun hb8 => ?_) (fun hb8 => ?_)
            · replace h := cnd_t hb8 h
              refine vSeq ?_
              refine vRegion ?_
              refine oVal tt rfl rfl rfl rfl rfl trivial ?_
              refine vNil ?_
              change VC _ _ _ _
              refine vRet ?_
              change ∃ _, _
              cases h
              exact ⟨[], _, rfl, trivial, rfl, (.eq rfl), rfl⟩
            · replace h := cnd_f hb8 h
              refine vSkip ?_
              change VC _ _ _ _
              refine vSeq ?_
              refine vRegionN 11 [10] [0, 1, 3, 0, 8, 0, 56, 120, 255, 511, 0, 2047] (by kernel_rfl) (by kernel_rfl) (by kernel_rfl) (by kernel_rfl) (by kernel_rfl) rfl (by rfl) ?_
              iterate 6 refine nVal tt rfl (wNone rfl) rfl rfl rfl rfl rfl trivial ?_
              refine nVal tt rfl (wNone rfl) rfl rfl rfl rfl rfl hg2 ?_
              refine nVal tt rfl (wNone rfl) rfl rfl rfl rfl rfl trivial ?_
              obtain ⟨hg9, h⟩ := grd_inv h
              refine nVal tt rfl (wNone rfl) rfl rfl rfl rfl rfl hg9 ?_
              refine nVal tt rfl (wNone rfl) rfl rfl rfl rfl rfl trivial ?_
              refine nAlloc tt (wNone rfl) rfl rfl rfl rfl rfl rfl rfl rfl rfl rfl ?_
              refine nNil ?_
              change VO _ _ _ _ _
              refine oStore tt rfl rfl rfl rfl rfl rfl rfl rfl rfl rfl rfl ⟨trivial, trivial, trivial⟩ ?_
              refine vNil ?_
              change VC _ _ _ _
              iterate 2 refine vSeq ?_
              refine vRegion ?_
              iterate 6 refine oVal tt rfl rfl rfl rfl rfl trivial ?_
              refine oSplit rfl rfl rfl (fun hb10 => ?_) (fun hb10 => ?_)
              · replace h := cnd_t hb10 h
                iterate 5 refine oValG tt rfl rfl rfl rfl rfl hb10 rfl rfl rfl trivial ?_
                refine oPick rfl rfl rfl rfl rfl hb10 rfl ?_
                refine vNil ?_
                change VC _ _ _ _
                refine vCond rfl (fun hb11 => ?_) (fun hb11 => ?_)
                · replace h := cnd_t hb11 h
                  refine vSeq ?_
                  refine vRegion ?_
                  refine oVal tt rfl rfl rfl rfl rfl trivial ?_
                  refine vNil ?_
                  change VC _ _ _ _
                  refine vRet ?_
                  change ∃ _, _
                  cases h
                  exact ⟨[], _, rfl, trivial, rfl, (.eq rfl), rfl⟩
                · replace h := cnd_f hb11 h
                  refine vSkip ?_
                  change VC _ _ _ _
                  refine vSeq ?_
                  refine vRegion ?_
                  iterate 3 refine oVal tt rfl rfl rfl rfl rfl trivial ?_
                  obtain ⟨v64, hc12, h⟩ := bind_inv h
                  refine oCall (S_l4Other_w N (p_0.g.bars.getD (((r_2.bars.getD ((i51).toNat) 0)).toNat) (0, 0)) r_2.p v64 hc12) rfl rfl rfl rfl rfl rfl rfl rfl ⟨⟨rfl, rfl, trivial⟩, rfl, trivial⟩ ?_
                  refine oVal tt rfl rfl rfl rfl rfl trivial ?_
                  refine vNil ?_
                  change VC _ _ _ _
                  refine vSeq ?_
                  refine vRegion ?_
                  iterate 3 refine oVal tt rfl rfl rfl rfl rfl trivial ?_
                  obtain ⟨v65, hc13, h⟩ := bind_inv h
                  refine oCall (S_l2Has_w N p_0.ground v64 v65 hc13) rfl rfl rfl rfl rfl rfl rfl rfl ⟨rfl, rfl, trivial⟩ ?_
                  iterate 2 refine oVal tt rfl rfl rfl rfl rfl trivial ?_
                  refine oSplit rfl rfl rfl (fun hb14 => ?_) (fun hb14 => ?_)
                  · replace h := cnd_t hb14 h
                    iterate 2 refine oValG tt rfl rfl rfl rfl rfl hb14 rfl rfl rfl trivial ?_
                    obtain ⟨v66, hc15, h⟩ := bind_inv h
                    refine oCallG (S_l2Has_w N done_1 v64 v66 hc15) rfl rfl rfl rfl hb14 rfl rfl rfl rfl rfl rfl rfl ⟨rfl, rfl, trivial⟩ ?_
                    refine oValG tt rfl rfl rfl rfl rfl hb14 rfl rfl rfl trivial ?_
                    refine oPick rfl rfl rfl rfl rfl hb14 rfl ?_
                    refine vNil ?_
                    change VC _ _ _ _
                    refine vCond rfl (fun hb16 => ?_) (fun hb16 => ?_)
                    · replace h := cnd_t hb16 h
                      refine vSeq ?_
                      refine vRegion ?_
                      refine oVal tt rfl rfl rfl rfl rfl trivial ?_
                      refine vNil ?_
                      change VC _ _ _ _
                      refine vRet ?_
                      change ∃ _, _
                      cases h
                      exact ⟨[], _, rfl, trivial, rfl, (.eq rfl), rfl⟩
                    · replace h := cnd_f hb16 h
                      refine vSkip ?_
                      change VC _ _ _ _
                      refine vRegion ?_
                      refine oVal tt rfl rfl rfl rfl rfl trivial ?_
                      obtain ⟨hg17, h⟩ := grd_inv h
                      refine oVal tt rfl rfl rfl rfl rfl hg17 ?_
                      refine oVal tt rfl rfl rfl rfl rfl trivial ?_
                      refine vNil ?_
                      change ∃ _, _
                      exact ⟨(i51 + (1 : Int)), (En.of ⟨rfl, rfl, rfl, rfl, trivial⟩ trivial ⟨rfl, rfl, trivial⟩), h⟩
                  · replace h := cnd_f hb14 h
                    iterate 4 refine oNoT rfl rfl rfl rfl hb14 rfl rfl ?_
                    refine oPickF rfl rfl rfl rfl rfl hb14 rfl ?_
                    refine vNil ?_
                    change VC _ _ _ _
                    refine vCondF rfl rfl ?_
                    refine vSkip ?_
                    change VC _ _ _ _
                    refine vRegion ?_
                    refine oVal tt rfl rfl rfl rfl rfl trivial ?_
                    obtain ⟨hg18, h⟩ := grd_inv h
                    refine oVal tt rfl rfl rfl rfl rfl hg18 ?_
                    refine oVal tt rfl rfl rfl rfl rfl trivial ?_
                    refine vNil ?_
                    change ∃ _, _
                    exact ⟨(i51 + (1 : Int)), (En.of ⟨rfl, rfl, rfl, rfl, trivial⟩ trivial ⟨rfl, rfl, trivial⟩), h⟩
              · replace h := cnd_f hb10 h
                iterate 5 refine oNoT rfl rfl rfl rfl hb10 rfl rfl ?_
                refine oPickF rfl rfl rfl rfl rfl hb10 rfl ?_
                refine vNil ?_
                change VC _ _ _ _
                refine vCondF rfl rfl ?_
                refine vSkip ?_
                change VC _ _ _ _
                refine vSeq ?_
                refine vRegion ?_
                iterate 3 refine oVal tt rfl rfl rfl rfl rfl trivial ?_
                obtain ⟨v67, hc19, h⟩ := bind_inv h
                refine oCall (S_l4Other_w N (p_0.g.bars.getD (((r_2.bars.getD ((i51).toNat) 0)).toNat) (0, 0)) r_2.p v67 hc19) rfl rfl rfl rfl rfl rfl rfl rfl ⟨⟨rfl, rfl, trivial⟩, rfl, trivial⟩ ?_
                refine oVal tt rfl rfl rfl rfl rfl trivial ?_
                refine vNil ?_
                change VC _ _ _ _
                refine vSeq ?_
                refine vRegion ?_
                iterate 3 refine oVal tt rfl rfl rfl rfl rfl trivial ?_
                obtain ⟨v68, hc20, h⟩ := bind_inv h
                refine oCall (S_l2Has_w N p_0.ground v67 v68 hc20) rfl rfl rfl rfl rfl rfl rfl rfl ⟨rfl, rfl, trivial⟩ ?_
                iterate 2 refine oVal tt rfl rfl rfl rfl rfl trivial ?_
                refine oSplit rfl rfl rfl (fun hb21 => ?_) (fun hb21 => ?_)
                · replace h := cnd_t hb21 h
                  iterate 2 refine oValG tt rfl rfl rfl rfl rfl hb21 rfl rfl rfl trivial ?_
                  obtain ⟨v69, hc22, h⟩ := bind_inv h
                  refine oCallG (S_l2Has_w N done_1 v67 v69 hc22) rfl rfl rfl rfl hb21 rfl rfl rfl rfl rfl rfl rfl ⟨rfl, rfl, trivial⟩ ?_
                  refine oValG tt rfl rfl rfl rfl rfl hb21 rfl rfl rfl trivial ?_
                  refine oPick rfl rfl rfl rfl rfl hb21 rfl ?_
                  refine vNil ?_
                  change VC _ _ _ _
                  refine vCond rfl (fun hb23 => ?_) (fun hb23 => ?_)
                  · replace h := cnd_t hb23 h
                    refine vSeq ?_
                    refine vRegion ?_
                    refine oVal tt rfl rfl rfl rfl rfl trivial ?_
                    refine vNil ?_
                    change VC _ _ _ _
                    refine vRet ?_
                    change ∃ _, _
                    cases h
                    exact ⟨[], _, rfl, trivial, rfl, (.eq rfl), rfl⟩
                  · replace h := cnd_f hb23 h
                    refine vSkip ?_
                    change VC _ _ _ _
                    refine vRegion ?_
                    refine oVal tt rfl rfl rfl rfl rfl trivial ?_
                    obtain ⟨hg24, h⟩ := grd_inv h
                    refine oVal tt rfl rfl rfl rfl rfl hg24 ?_
                    refine oVal tt rfl rfl rfl rfl rfl trivial ?_
                    refine vNil ?_
                    change ∃ _, _
                    exact ⟨(i51 + (1 : Int)), (En.of ⟨rfl, rfl, rfl, rfl, trivial⟩ trivial ⟨rfl, rfl, trivial⟩), h⟩
                · replace h := cnd_f hb21 h
                  iterate 4 refine oNoT rfl rfl rfl rfl hb21 rfl rfl ?_
                  refine oPickF rfl rfl rfl rfl rfl hb21 rfl ?_
                  refine vNil ?_
                  change VC _ _ _ _
                  refine vCondF rfl rfl ?_
                  refine vSkip ?_
                  change VC _ _ _ _
                  refine vRegion ?_
                  refine oVal tt rfl rfl rfl rfl rfl trivial ?_
                  obtain ⟨hg25, h⟩ := grd_inv h
                  refine oVal tt rfl rfl rfl rfl rfl hg25 ?_
                  refine oVal tt rfl rfl rfl rfl rfl trivial ?_
                  refine vNil ?_
                  change ∃ _, _
                  exact ⟨(i51 + (1 : Int)), (En.of ⟨rfl, rfl, rfl, rfl, trivial⟩ trivial ⟨rfl, rfl, trivial⟩), h⟩
          · replace h := cnd_f hb5 h
            iterate 12 refine cNoT rfl rfl rfl rfl hb5 rfl rfl ?_
            refine cPickF rfl (wSome rfl rfl rfl rfl hb4) rfl rfl rfl hb5 rfl ?_
            refine cPickF rfl (wNone rfl) rfl rfl rfl hb4 rfl ?_
            refine cNil ?_
            change VC _ _ _ _
            refine vCondF rfl rfl ?_
            refine vSkip ?_
            change VC _ _ _ _
            refine vSeq ?_
            refine vRegionN 11 [10] [0, 1, 3, 0, 8, 0, 56, 120, 255, 511, 0, 2047] (by kernel_rfl) (by kernel_rfl) (by kernel_rfl) (by kernel_rfl) (by kernel_rfl) rfl (by rfl) ?_
            iterate 6 refine nVal tt rfl (wNone rfl) rfl rfl rfl rfl rfl trivial ?_
            refine nVal tt rfl (wNone rfl) rfl rfl rfl rfl rfl hg2 ?_
            refine nVal tt rfl (wNone rfl) rfl rfl rfl rfl rfl trivial ?_
            obtain ⟨hg26, h⟩ := grd_inv h
            refine nVal tt rfl (wNone rfl) rfl rfl rfl rfl rfl hg26 ?_
            refine nVal tt rfl (wNone rfl) rfl rfl rfl rfl rfl trivial ?_
            refine nAlloc tt (wNone rfl) rfl rfl rfl rfl rfl rfl rfl rfl rfl rfl ?_
            refine nNil ?_
            change VO _ _ _ _ _
            refine oStore tt rfl rfl rfl rfl rfl rfl rfl rfl rfl rfl rfl ⟨trivial, trivial, trivial⟩ ?_
            refine vNil ?_
            change VC _ _ _ _
            iterate 2 refine vSeq ?_
            refine vRegion ?_
            iterate 6 refine oVal tt rfl rfl rfl rfl rfl trivial ?_
            refine oSplit rfl rfl rfl (fun hb27 => ?_) (fun hb27 => ?_)
            · replace h := cnd_t hb27 h
              iterate 5 refine oValG tt rfl rfl rfl rfl rfl hb27 rfl rfl rfl trivial ?_
              refine oPick rfl rfl rfl rfl rfl hb27 rfl ?_
              refine vNil ?_
              change VC _ _ _ _
              refine vCond rfl (fun hb28 => ?_) (fun hb28 => ?_)
              · replace h := cnd_t hb28 h
                refine vSeq ?_
                refine vRegion ?_
                refine oVal tt rfl rfl rfl rfl rfl trivial ?_
                refine vNil ?_
                change VC _ _ _ _
                refine vRet ?_
                change ∃ _, _
                cases h
                exact ⟨[], _, rfl, trivial, rfl, (.eq rfl), rfl⟩
              · replace h := cnd_f hb28 h
                refine vSkip ?_
                change VC _ _ _ _
                refine vSeq ?_
                refine vRegion ?_
                iterate 3 refine oVal tt rfl rfl rfl rfl rfl trivial ?_
                obtain ⟨v70, hc29, h⟩ := bind_inv h
                refine oCall (S_l4Other_w N (p_0.g.bars.getD (((r_2.bars.getD ((i51).toNat) 0)).toNat) (0, 0)) r_2.p v70 hc29) rfl rfl rfl rfl rfl rfl rfl rfl ⟨⟨rfl, rfl, trivial⟩, rfl, trivial⟩ ?_
                refine oVal tt rfl rfl rfl rfl rfl trivial ?_
                refine vNil ?_
                change VC _ _ _ _
                refine vSeq ?_
                refine vRegion ?_
                iterate 3 refine oVal tt rfl rfl rfl rfl rfl trivial ?_
                obtain ⟨v71, hc30, h⟩ := bind_inv h
                refine oCall (S_l2Has_w N p_0.ground v70 v71 hc30) rfl rfl rfl rfl rfl rfl rfl rfl ⟨rfl, rfl, trivial⟩ ?_
                iterate 2 refine oVal tt rfl rfl rfl rfl rfl trivial ?_
                refine oSplit rfl rfl rfl (fun hb31 => ?_) (fun hb31 => ?_)
                · replace h := cnd_t hb31 h
                  iterate 2 refine oValG tt rfl rfl rfl rfl rfl hb31 rfl rfl rfl trivial ?_
                  obtain ⟨v72, hc32, h⟩ := bind_inv h
                  refine oCallG (S_l2Has_w N done_1 v70 v72 hc32) rfl rfl rfl rfl hb31 rfl rfl rfl rfl rfl rfl rfl ⟨rfl, rfl, trivial⟩ ?_
                  refine oValG tt rfl rfl rfl rfl rfl hb31 rfl rfl rfl trivial ?_
                  refine oPick rfl rfl rfl rfl rfl hb31 rfl ?_
                  refine vNil ?_
                  change VC _ _ _ _
                  refine vCond rfl (fun hb33 => ?_) (fun hb33 => ?_)
                  · replace h := cnd_t hb33 h
                    refine vSeq ?_
                    refine vRegion ?_
                    refine oVal tt rfl rfl rfl rfl rfl trivial ?_
                    refine vNil ?_
                    change VC _ _ _ _
                    refine vRet ?_
                    change ∃ _, _
                    cases h
                    exact ⟨[], _, rfl, trivial, rfl, (.eq rfl), rfl⟩
                  · replace h := cnd_f hb33 h
                    refine vSkip ?_
                    change VC _ _ _ _
                    refine vRegion ?_
                    refine oVal tt rfl rfl rfl rfl rfl trivial ?_
                    obtain ⟨hg34, h⟩ := grd_inv h
                    refine oVal tt rfl rfl rfl rfl rfl hg34 ?_
                    refine oVal tt rfl rfl rfl rfl rfl trivial ?_
                    refine vNil ?_
                    change ∃ _, _
                    exact ⟨(i51 + (1 : Int)), (En.of ⟨rfl, rfl, rfl, rfl, trivial⟩ trivial ⟨rfl, rfl, trivial⟩), h⟩
                · replace h := cnd_f hb31 h
                  iterate 4 refine oNoT rfl rfl rfl rfl hb31 rfl rfl ?_
                  refine oPickF rfl rfl rfl rfl rfl hb31 rfl ?_
                  refine vNil ?_
                  change VC _ _ _ _
                  refine vCondF rfl rfl ?_
                  refine vSkip ?_
                  change VC _ _ _ _
                  refine vRegion ?_
                  refine oVal tt rfl rfl rfl rfl rfl trivial ?_
                  obtain ⟨hg35, h⟩ := grd_inv h
                  refine oVal tt rfl rfl rfl rfl rfl hg35 ?_
                  refine oVal tt rfl rfl rfl rfl rfl trivial ?_
                  refine vNil ?_
                  change ∃ _, _
                  exact ⟨(i51 + (1 : Int)), (En.of ⟨rfl, rfl, rfl, rfl, trivial⟩ trivial ⟨rfl, rfl, trivial⟩), h⟩
            · replace h := cnd_f hb27 h
              iterate 5 refine oNoT rfl rfl rfl rfl hb27 rfl rfl ?_
              refine oPickF rfl rfl rfl rfl rfl hb27 rfl ?_
              refine vNil ?_
              change VC _ _ _ _
              refine vCondF rfl rfl ?_
              refine vSkip ?_
              change VC _ _ _ _
              refine vSeq ?_
              refine vRegion ?_
              iterate 3 refine oVal tt rfl rfl rfl rfl rfl trivial ?_
              obtain ⟨v73, hc36, h⟩ := bind_inv h
              refine oCall (S_l4Other_w N (p_0.g.bars.getD (((r_2.bars.getD ((i51).toNat) 0)).toNat) (0, 0)) r_2.p v73 hc36) rfl rfl rfl rfl rfl rfl rfl rfl ⟨⟨rfl, rfl, trivial⟩, rfl, trivial⟩ ?_
              refine oVal tt rfl rfl rfl rfl rfl trivial ?_
              refine vNil ?_
              change VC _ _ _ _
              refine vSeq ?_
              refine vRegion ?_
              iterate 3 refine oVal tt rfl rfl rfl rfl rfl trivial ?_
              obtain ⟨v74, hc37, h⟩ := bind_inv h
              refine oCall (S_l2Has_w N p_0.ground v73 v74 hc37) rfl rfl rfl rfl rfl rfl rfl rfl ⟨rfl, rfl, trivial⟩ ?_
              iterate 2 refine oVal tt rfl rfl rfl rfl rfl trivial ?_
              refine oSplit rfl rfl rfl (fun hb38 => ?_) (fun hb38 => ?_)
              · replace h := cnd_t hb38 h
                iterate 2 refine oValG tt rfl rfl rfl rfl rfl hb38 rfl rfl rfl trivial ?_
                obtain ⟨v75, hc39, h⟩ := bind_inv h
                refine oCallG (S_l2Has_w N done_1 v73 v75 hc39) rfl rfl rfl rfl hb38 rfl rfl rfl rfl rfl rfl rfl ⟨rfl, rfl, trivial⟩ ?_
                refine oValG tt rfl rfl rfl rfl rfl hb38 rfl rfl rfl trivial ?_
                refine oPick rfl rfl rfl rfl rfl hb38 rfl ?_
                refine vNil ?_
                change VC _ _ _ _
                refine vCond rfl (fun hb40 => ?_) (fun hb40 => ?_)
                · replace h := cnd_t hb40 h
                  refine vSeq ?_
                  refine vRegion ?_
                  refine oVal tt rfl rfl rfl rfl rfl trivial ?_
                  refine vNil ?_
                  change VC _ _ _ _
                  refine vRet ?_
                  change ∃ _, _
                  cases h
                  exact ⟨[], _, rfl, trivial, rfl, (.eq rfl), rfl⟩
                · replace h := cnd_f hb40 h
                  refine vSkip ?_
                  change VC _ _ _ _
                  refine vRegion ?_
                  refine oVal tt rfl rfl rfl rfl rfl trivial ?_
                  obtain ⟨hg41, h⟩ := grd_inv h
                  refine oVal tt rfl rfl rfl rfl rfl hg41 ?_
                  refine oVal tt rfl rfl rfl rfl rfl trivial ?_
                  refine vNil ?_
                  change ∃ _, _
                  exact ⟨(i51 + (1 : Int)), (En.of ⟨rfl, rfl, rfl, rfl, trivial⟩ trivial ⟨rfl, rfl, trivial⟩), h⟩
              · replace h := cnd_f hb38 h
                iterate 4 refine oNoT rfl rfl rfl rfl hb38 rfl rfl ?_
                refine oPickF rfl rfl rfl rfl rfl hb38 rfl ?_
                refine vNil ?_
                change VC _ _ _ _
                refine vCondF rfl rfl ?_
                refine vSkip ?_
                change VC _ _ _ _
                refine vRegion ?_
                refine oVal tt rfl rfl rfl rfl rfl trivial ?_
                obtain ⟨hg42, h⟩ := grd_inv h
                refine oVal tt rfl rfl rfl rfl rfl hg42 ?_
                refine oVal tt rfl rfl rfl rfl rfl trivial ?_
                refine vNil ?_
                change ∃ _, _
                exact ⟨(i51 + (1 : Int)), (En.of ⟨rfl, rfl, rfl, rfl, trivial⟩ trivial ⟨rfl, rfl, trivial⟩), h⟩
    · replace h := cnd_f hb1 h
      refine vExit ?_
      change ∃ _, _
      exact ⟨(), (En.of trivial trivial trivial), h⟩
def S_IsRaise (N : Nat) (p_0 : Pin) (done_1 : List Int) (r_2 : Rse) : Option (Bool) :=
  (S_IsPinned N p_0).bind fun v1 =>
  cnd v1 (
    (S_InnerPoints N p_0).bind fun v2 =>
    (S_l2Has N v2 r_2.p).bind fun v3 =>
    cnd v3 (
      (S_l2Has N done_1 r_2.p).bind fun v4 =>
      cnd (!v4) (
        cnd (decide ((r_2.bars.length : Int) ≥ (2 : Int))) (
          (S_l26Ends N p_0 done_1 r_2).bind fun v5 =>
          some v5) (
          some false)) (
        some false)) (
      some false)) (
    some false)
set_option maxRecDepth 20000 in
set_option maxHeartbeats 1600000 in
theorem S_IsRaise_w (N : Nat) (p_0 : Pin) (done_1 : List Int) (r_2 : Rse) (r : Bool) (h : S_IsRaise N p_0 done_1 r_2 = some r) : PCall Try.prog 125 [pD p_0, .ro false (.ints done_1), rD r_2] [] (.bool r) := by
  unfold S_IsRaise at h
  refine pcall_intro (TT := TT) tt Try.func125 rfl rfl Try.ntmps125 (congrArg Array.toList Try.results125) rfl rfl fun w0 => ?_
  refine vSeq ?_
  refine vRegion ?_
  iterate 2 refine oBox rfl rfl rfl rfl rfl rfl rfl rfl rfl ?_
  refine oVal tt rfl rfl rfl rfl rfl trivial ?_
  refine vNil ?_
  change VC _ _ _ _
  refine vSeq ?_
  refine vRegionN 26 [4] [0, 1, 3, 7, 15, 7, 39, 127, 255, 511, 1023, 1023, 3071, 8191, 16383, 32767, 65535, 131071, 262143, 524287, 1048575, 2097151, 4194303, 8388607, 8388607, 8388607, 67108863, 134217727, 268435455] (by kernel_rfl) (by kernel_rfl) (by kernel_rfl) (by kernel_rfl) (by kernel_rfl) rfl (by rfl) ?_
  refine nVal tt rfl (wNone rfl) rfl rfl rfl rfl rfl trivial ?_
  obtain ⟨v1, hc1, h⟩ := bind_inv h
  refine nCall (S_IsPinned_w N p_0 v1 hc1) rfl (wNone rfl) rfl rfl rfl rfl rfl rfl rfl rfl ⟨⟨rfl, rfl, rfl, trivial⟩, trivial⟩ ?_
  refine nVal tt rfl (wNone rfl) rfl rfl rfl rfl rfl trivial ?_
  refine nSplit rfl rfl rfl (fun hb2 => ?_) (fun hb2 => ?_)
  · replace h := cnd_t hb2 h
    refine nVal tt rfl (wSome rfl rfl rfl rfl hb2) rfl rfl rfl rfl rfl trivial ?_
    obtain ⟨v2, hc3, h⟩ := bind_inv h
    refine nCallR (S_InnerPoints_w N p_0 v2 hc3) rfl (wSome rfl rfl rfl rfl hb2) rfl rfl rfl rfl rfl rfl (by first | rfl | kernel_rfl | (simp [nrL, nm, gdst, nmT, rowB]; done)) rfl (by first | rfl | kernel_rfl | (simp [chkE, nrL, nm, gdst, nmT, rowB, hid, ment, mentA, mentS]; done) | (simp [chkE, nrL, nm, gdst, nmT, rowB, hid, ment, mentA, mentS]; decide)) ⟨⟨rfl, rfl, rfl, trivial⟩, trivial⟩ ?_
    iterate 2 refine nVal tt rfl (wSome rfl rfl rfl rfl hb2) rfl rfl rfl rfl rfl trivial ?_
    obtain ⟨v3, hc4, h⟩ := bind_inv h
    refine nCall (S_l2Has_w N v2 r_2.p v3 hc4) rfl (wSome rfl rfl rfl rfl hb2) rfl rfl rfl rfl rfl rfl rfl rfl ⟨(.inl ⟨rfl, rfl⟩), rfl, trivial⟩ ?_
    refine nPickT rfl (wNone rfl) rfl rfl rfl hb2 rfl rfl ?_
    refine nVal tt rfl (wNone rfl) rfl rfl rfl rfl rfl trivial ?_
    refine nSplit rfl rfl rfl (fun hb5 => ?_) (fun hb5 => ?_)
    · replace h := cnd_t hb5 h
      iterate 3 refine nVal tt rfl (wSome rfl rfl rfl rfl hb5) rfl rfl rfl rfl rfl trivial ?_
      obtain ⟨v4, hc6, h⟩ := bind_inv h
      refine nCall (S_l2Has_w N done_1 r_2.p v4 hc6) rfl (wSome rfl rfl rfl rfl hb5) rfl rfl rfl rfl rfl rfl rfl rfl ⟨rfl, rfl, trivial⟩ ?_
      refine nVal tt rfl (wSome rfl rfl rfl rfl hb5) rfl rfl rfl rfl rfl trivial ?_
      refine nPickT rfl (wNone rfl) rfl rfl rfl hb5 rfl rfl ?_
      refine nVal tt rfl (wNone rfl) rfl rfl rfl rfl rfl trivial ?_
      refine nSplit rfl rfl rfl (fun hb7 => ?_) (fun hb7 => ?_)
      · replace h := cnd_t hb7 h
        iterate 4 refine nVal tt rfl (wSome rfl rfl rfl rfl hb7) rfl rfl rfl rfl rfl trivial ?_
        refine nPickT rfl (wNone rfl) rfl rfl rfl hb7 rfl rfl ?_
        refine nVal tt rfl (wNone rfl) rfl rfl rfl rfl rfl trivial ?_
        refine nSplit rfl rfl rfl (fun hb8 => ?_) (fun hb8 => ?_)
        · replace h := cnd_t hb8 h
          iterate 3 refine nVal tt rfl (wSome rfl rfl rfl rfl hb8) rfl rfl rfl rfl rfl trivial ?_
          refine nNil ?_
          change VO _ _ _ _ _
          obtain ⟨v5, hc9, h⟩ := bind_inv h
          refine oCallG (S_l26Ends_w N p_0 done_1 r_2 v5 hc9) rfl rfl rfl rfl hb8 rfl rfl rfl rfl rfl rfl rfl ⟨⟨rfl, rfl, rfl, trivial⟩, rfl, ⟨rfl, rfl, trivial⟩, trivial⟩ ?_
          refine oPick rfl rfl rfl rfl rfl hb8 rfl ?_
          refine oVal tt rfl rfl rfl rfl rfl trivial ?_
          refine vNil ?_
          change VC _ _ _ _
          refine vRet ?_
          change ∃ _, _
          cases h
          exact ⟨[], _, rfl, trivial, rfl, (.eq rfl), rfl⟩
        · replace h := cnd_f hb8 h
          iterate 3 refine nNoT rfl rfl rfl rfl hb8 rfl rfl ?_
          refine nNil ?_
          change VO _ _ _ _ _
          refine oNoT rfl rfl rfl rfl hb8 rfl rfl ?_
          refine oPickF rfl rfl rfl rfl rfl hb8 rfl ?_
          refine oVal tt rfl rfl rfl rfl rfl trivial ?_
          refine vNil ?_
          change VC _ _ _ _
          refine vRet ?_
          change ∃ _, _
          cases h
          exact ⟨[], _, rfl, trivial, rfl, (.eq rfl), rfl⟩
      · replace h := cnd_f hb7 h
        iterate 4 refine nNoT rfl rfl rfl rfl hb7 rfl rfl ?_
        refine nPickF rfl (wNone rfl) rfl rfl rfl hb7 rfl rfl ?_
        refine nVal tt rfl (wNone rfl) rfl rfl rfl rfl rfl trivial ?_
        iterate 3 refine nNoT rfl rfl rfl rfl rfl rfl rfl ?_
        refine nNil ?_
        change VO _ _ _ _ _
        refine oNoT rfl rfl rfl rfl rfl rfl rfl ?_
        refine oPickF rfl rfl rfl rfl rfl rfl rfl ?_
        refine oVal tt rfl rfl rfl rfl rfl trivial ?_
        refine vNil ?_
        change VC _ _ _ _
        refine vRet ?_
        change ∃ _, _
        cases h
        exact ⟨[], _, rfl, trivial, rfl, (.eq rfl), rfl⟩
    · replace h := cnd_f hb5 h
      iterate 5 refine nNoT rfl rfl rfl rfl hb5 rfl rfl ?_
      refine nPickF rfl (wNone rfl) rfl rfl rfl hb5 rfl rfl ?_
      refine nVal tt rfl (wNone rfl) rfl rfl rfl rfl rfl trivial ?_
      iterate 4 refine nNoT rfl rfl rfl rfl rfl rfl rfl ?_
      refine nPickF rfl (wNone rfl) rfl rfl rfl rfl rfl rfl ?_
      refine nVal tt rfl (wNone rfl) rfl rfl rfl rfl rfl trivial ?_
      iterate 3 refine nNoT rfl rfl rfl rfl rfl rfl rfl ?_
      refine nNil ?_
      change VO _ _ _ _ _
      refine oNoT rfl rfl rfl rfl rfl rfl rfl ?_
      refine oPickF rfl rfl rfl rfl rfl rfl rfl ?_
      refine oVal tt rfl rfl rfl rfl rfl trivial ?_
      refine vNil ?_
      change VC _ _ _ _
      refine vRet ?_
      change ∃ _, _
      cases h
      exact ⟨[], _, rfl, trivial, rfl, (.eq rfl), rfl⟩
  · replace h := cnd_f hb2 h
    iterate 5 refine nNoT rfl rfl rfl rfl hb2 rfl rfl ?_
    refine nPickF rfl (wNone rfl) rfl rfl rfl hb2 rfl rfl ?_
    refine nVal tt rfl (wNone rfl) rfl rfl rfl rfl rfl trivial ?_
    iterate 5 refine nNoT rfl rfl rfl rfl rfl rfl rfl ?_
    refine nPickF rfl (wNone rfl) rfl rfl rfl rfl rfl rfl ?_
    refine nVal tt rfl (wNone rfl) rfl rfl rfl rfl rfl trivial ?_
    iterate 4 refine nNoT rfl rfl rfl rfl rfl rfl rfl ?_
    refine nPickF rfl (wNone rfl) rfl rfl rfl rfl rfl rfl ?_
    refine nVal tt rfl (wNone rfl) rfl rfl rfl rfl rfl trivial ?_
    iterate 3 refine nNoT rfl rfl rfl rfl rfl rfl rfl ?_
    refine nNil ?_
    change VO _ _ _ _ _
    refine oNoT rfl rfl rfl rfl rfl rfl rfl ?_
    refine oPickF rfl rfl rfl rfl rfl rfl rfl ?_
    refine oVal tt rfl rfl rfl rfl rfl trivial ?_
    refine vNil ?_
    change VC _ _ _ _
    refine vRet ?_
    change ∃ _, _
    cases h
    exact ⟨[], _, rfl, trivial, rfl, (.eq rfl), rfl⟩
def M_Pinned_holds (N : Nat) (p_0 : Pin) (done_1 : List Int) (v_2 : Int) (e_3 : Int) : Option (Bool) :=
  grd (Rg64 ((p_0.g.bars.length : Int) - (1 : Int))) <|
  (I_within N e_3 (0 : Int) ((p_0.g.bars.length : Int) - (1 : Int))).bind fun v1 =>
  cnd (!v1) (
    some false) (
    grd (0 ≤ e_3 ∧ e_3 < (p_0.g.bars.length : Int)) <|
    (M_Bar_has N (p_0.g.bars.getD ((e_3).toNat) (0, 0)) v_2).bind fun v2 =>
    cnd (!v2) (
      some false) (
      (M_Bar_other N (p_0.g.bars.getD ((e_3).toNat) (0, 0)) v_2).bind fun v3 =>
      (G_Contains_int N p_0.ground v3).bind fun v4 =>
      cnd v4 (
        some true) (
        (G_Contains_int N done_1 v3).bind fun v5 =>
        some v5)))
set_option maxRecDepth 20000 in
set_option maxHeartbeats 1600000 in
theorem M_Pinned_holds_w (N : Nat) (p_0 : Pin) (done_1 : List Int) (v_2 : Int) (e_3 : Int) (r : Bool) (h : M_Pinned_holds N p_0 done_1 v_2 e_3 = some r) : PCall Try.prog 88 [pD p_0, .ro false (.ints done_1), .int v_2, .int e_3] [] (.bool r) := by
  unfold M_Pinned_holds at h
  refine pcall_intro (TT := TT) tt Try.func88 rfl rfl Try.ntmps88 (congrArg Array.toList Try.results88) rfl rfl fun w0 => ?_
  refine vSeq ?_
  refine vRegion ?_
  refine oBox rfl rfl rfl rfl rfl rfl rfl rfl rfl ?_
  refine oVal tt rfl rfl rfl rfl rfl trivial ?_
  refine vNil ?_
  change VC _ _ _ _
  iterate 2 refine vSeq ?_
  refine vRegion ?_
  iterate 5 refine oVal tt rfl rfl rfl rfl rfl trivial ?_
  obtain ⟨hg1, h⟩ := grd_inv h
  refine oVal tt rfl rfl rfl rfl rfl hg1 ?_
  obtain ⟨v1, hc2, h⟩ := bind_inv h
  refine oCall (I_within_w N e_3 (0 : Int) ((p_0.g.bars.length : Int) - (1 : Int)) v1 hc2) rfl rfl rfl rfl rfl rfl rfl rfl ⟨rfl, rfl, rfl, trivial⟩ ?_
  iterate 2 refine oVal tt rfl rfl rfl rfl rfl trivial ?_
  refine oSplit rfl rfl rfl (fun hb3 => ?_) (fun hb3 => ?_)
  · replace h := cnd_t hb3 h
    iterate 9 refine oNoF rfl rfl rfl rfl hb3 rfl rfl ?_
    refine oPick rfl rfl rfl rfl rfl hb3 rfl ?_
    refine vNil ?_
    change VC _ _ _ _
    refine vCondT rfl rfl ?_
    refine vSeq ?_
    refine vRegion ?_
    refine oVal tt rfl rfl rfl rfl rfl trivial ?_
    refine vNil ?_
    change VC _ _ _ _
    refine vRet ?_
    change ∃ _, _
    cases h
    exact ⟨[], _, rfl, trivial, rfl, (.eq rfl), rfl⟩
  · replace h := cnd_f hb3 h
    iterate 4 refine oValG tt rfl rfl rfl rfl rfl hb3 rfl rfl rfl trivial ?_
    obtain ⟨hg4, h⟩ := grd_inv h
    refine oValG tt rfl rfl rfl rfl rfl hb3 rfl rfl rfl hg4 ?_
    iterate 2 refine oValG tt rfl rfl rfl rfl rfl hb3 rfl rfl rfl trivial ?_
    obtain ⟨v2, hc5, h⟩ := bind_inv h
    refine oCallG (M_Bar_has_w N (p_0.g.bars.getD ((e_3).toNat) (0, 0)) v_2 v2 hc5) rfl rfl rfl rfl hb3 rfl rfl rfl rfl rfl rfl rfl ⟨⟨rfl, rfl, trivial⟩, rfl, trivial⟩ ?_
    refine oValG tt rfl rfl rfl rfl rfl hb3 rfl rfl rfl trivial ?_
    refine oPickF rfl rfl rfl rfl rfl hb3 rfl ?_
    refine vNil ?_
    change VC _ _ _ _
    refine vCond rfl (fun hb6 => ?_) (fun hb6 => ?_)
    · replace h := cnd_t hb6 h
      refine vSeq ?_
      refine vRegion ?_
      refine oVal tt rfl rfl rfl rfl rfl trivial ?_
      refine vNil ?_
      change VC _ _ _ _
      refine vRet ?_
      change ∃ _, _
      cases h
      exact ⟨[], _, rfl, trivial, rfl, (.eq rfl), rfl⟩
    · replace h := cnd_f hb6 h
      refine vSkip ?_
      change VC _ _ _ _
      refine vSeq ?_
      refine vRegion ?_
      iterate 4 refine oVal tt rfl rfl rfl rfl rfl trivial ?_
      refine oVal tt rfl rfl rfl rfl rfl hg4 ?_
      iterate 2 refine oVal tt rfl rfl rfl rfl rfl trivial ?_
      obtain ⟨v3, hc7, h⟩ := bind_inv h
      refine oCall (M_Bar_other_w N (p_0.g.bars.getD ((e_3).toNat) (0, 0)) v_2 v3 hc7) rfl rfl rfl rfl rfl rfl rfl rfl ⟨⟨rfl, rfl, trivial⟩, rfl, trivial⟩ ?_
      refine oVal tt rfl rfl rfl rfl rfl trivial ?_
      refine vNil ?_
      change VC _ _ _ _
      refine vSeq ?_
      refine vRegion ?_
      iterate 3 refine oVal tt rfl rfl rfl rfl rfl trivial ?_
      obtain ⟨v4, hc8, h⟩ := bind_inv h
      refine oCall (G_Contains_int_w N p_0.ground v3 v4 hc8) rfl rfl rfl rfl rfl rfl rfl rfl ⟨rfl, rfl, trivial⟩ ?_
      refine oVal tt rfl rfl rfl rfl rfl trivial ?_
      refine oSplit rfl rfl rfl (fun hb9 => ?_) (fun hb9 => ?_)
      · replace h := cnd_t hb9 h
        iterate 3 refine oNoF rfl rfl rfl rfl hb9 rfl rfl ?_
        refine oPick rfl rfl rfl rfl rfl hb9 rfl ?_
        refine oVal tt rfl rfl rfl rfl rfl trivial ?_
        refine vNil ?_
        change VC _ _ _ _
        refine vRet ?_
        change ∃ _, _
        cases h
        exact ⟨[], _, rfl, trivial, rfl, (.eq rfl), rfl⟩
      · replace h := cnd_f hb9 h
        iterate 2 refine oValG tt rfl rfl rfl rfl rfl hb9 rfl rfl rfl trivial ?_
        obtain ⟨v5, hc10, h⟩ := bind_inv h
        refine oCallG (G_Contains_int_w N done_1 v3 v5 hc10) rfl rfl rfl rfl hb9 rfl rfl rfl rfl rfl rfl rfl ⟨rfl, rfl, trivial⟩ ?_
        refine oPickF rfl rfl rfl rfl rfl hb9 rfl ?_
        refine oVal tt rfl rfl rfl rfl rfl trivial ?_
        refine vNil ?_
        change VC _ _ _ _
        refine vRet ?_
        change ∃ _, _
        cases h
        exact ⟨[], _, rfl, trivial, rfl, (.eq rfl), rfl⟩
def I_IsRaise_l1 (N : Nat) (p_0 : Pin) (done_1 : List Int) (r_2 : Rse) (k : Unit → Option (Bool)) : Nat → Int → Option (Bool)
  | 0, _ => none
  | n + 1, x10 =>
    cnd (decide (x10 < (r_2.bars.length : Int))) (
      grd (0 ≤ x10 ∧ x10 < (r_2.bars.length : Int)) <|
      (M_Pinned_holds N p_0 done_1 r_2.p (r_2.bars.getD ((x10).toNat) 0)).bind fun v12 =>
      cnd (!v12) (
        some false) (
        cnd (decide (x10 > (0 : Int))) (
          grd (Rg64 (x10 - (1 : Int))) <|
          grd (0 ≤ (x10 - (1 : Int)) ∧ (x10 - (1 : Int)) < (r_2.bars.length : Int)) <|
          cnd (decide ((r_2.bars.getD (((x10 - (1 : Int))).toNat) 0) ≥ (r_2.bars.getD ((x10).toNat) 0))) (
            some false) (
            grd (Rg64 (x10 + (1 : Int))) <|
            I_IsRaise_l1 N p_0 done_1 r_2 k n (x10 + (1 : Int)))) (
          grd (Rg64 (x10 + (1 : Int))) <|
          I_IsRaise_l1 N p_0 done_1 r_2 k n (x10 + (1 : Int))))) (
      k ())
def I_IsRaise (N : Nat) (p_0 : Pin) (done_1 : List Int) (r_2 : Rse) : Option (Bool) :=
  (I_IsPinned N p_0).bind fun v1 =>
  cnd (!v1) (
    some false) (
    (M_Pinned_isInner N p_0 r_2.p).bind fun v2 =>
    cnd (!v2) (
      some false) (
      (G_Contains_int N done_1 r_2.p).bind fun v3 =>
      cnd v3 (
        some false) (
        cnd (decide ((r_2.bars.length : Int) < (2 : Int))) (
          some false) (
          I_IsRaise_l1 N p_0 done_1 r_2 (fun (_ : Unit) =>
                some true) N (0 : Int)))))
set_option maxRecDepth 20000 in
set_option maxHeartbeats 1600000 in
theorem I_IsRaise_w (N : Nat) (p_0 : Pin) (done_1 : List Int) (r_2 : Rse) (r : Bool) (h : I_IsRaise N p_0 done_1 r_2 = some r) : PCall Try.prog 89 [pD p_0, .ro false (.ints done_1), rD r_2] [] (.bool r) := by
  unfold I_IsRaise at h
  refine pcall_intro (TT := TT) tt Try.func89 rfl rfl Try.ntmps89 (congrArg Array.toList Try.results89) rfl rfl fun w0 => ?_
  refine vSeq ?_
  refine vRegion ?_
  iterate 2 refine oBox rfl rfl rfl rfl rfl rfl rfl rfl rfl ?_
  refine oVal tt rfl rfl rfl rfl rfl trivial ?_
  refine vNil ?_
  change VC _ _ _ _
  iterate 2 refine vSeq ?_
  refine vRegion ?_
  refine oVal tt rfl rfl rfl rfl rfl trivial ?_
  obtain ⟨v1, hc1, h⟩ := bind_inv h
  refine oCall (I_IsPinned_w N p_0 v1 hc1) rfl rfl rfl rfl rfl rfl rfl rfl ⟨⟨rfl, rfl, rfl, trivial⟩, trivial⟩ ?_
  iterate 2 refine oVal tt rfl rfl rfl rfl rfl trivial ?_
  refine oSplit rfl rfl rfl (fun hb2 => ?_) (fun hb2 => ?_)
  · replace h := cnd_t hb2 h
    iterate 5 refine oNoF rfl rfl rfl rfl hb2 rfl rfl ?_
    refine oPick rfl rfl rfl rfl rfl hb2 rfl ?_
    refine oVal tt rfl rfl rfl rfl rfl trivial ?_
    iterate 4 refine oNoF rfl rfl rfl rfl rfl rfl rfl ?_
    refine oPick rfl rfl rfl rfl rfl rfl rfl ?_
    refine oVal tt rfl rfl rfl rfl rfl trivial ?_
    iterate 4 refine oNoF rfl rfl rfl rfl rfl rfl rfl ?_
    refine oPick rfl rfl rfl rfl rfl rfl rfl ?_
    refine vNil ?_
    change VC _ _ _ _
    refine vCondT rfl rfl ?_
    refine vSeq ?_
    refine vRegion ?_
    refine oVal tt rfl rfl rfl rfl rfl trivial ?_
    refine vNil ?_
    change VC _ _ _ _
    refine vRet ?_
    change ∃ _, _
    cases h
    exact ⟨[], _, rfl, trivial, rfl, (.eq rfl), rfl⟩
  · replace h := cnd_f hb2 h
    iterate 3 refine oValG tt rfl rfl rfl rfl rfl hb2 rfl rfl rfl trivial ?_
    obtain ⟨v2, hc3, h⟩ := bind_inv h
    refine oCallG (M_Pinned_isInner_w N p_0 r_2.p v2 hc3) rfl rfl rfl rfl hb2 rfl rfl rfl rfl rfl rfl rfl ⟨⟨rfl, rfl, rfl, trivial⟩, rfl, trivial⟩ ?_
    refine oValG tt rfl rfl rfl rfl rfl hb2 rfl rfl rfl trivial ?_
    refine oPickF rfl rfl rfl rfl rfl hb2 rfl ?_
    refine oVal tt rfl rfl rfl rfl rfl trivial ?_
    refine oSplit rfl rfl rfl (fun hb4 => ?_) (fun hb4 => ?_)
    · replace h := cnd_t hb4 h
      iterate 4 refine oNoF rfl rfl rfl rfl hb4 rfl rfl ?_
      refine oPick rfl rfl rfl rfl rfl hb4 rfl ?_
      refine oVal tt rfl rfl rfl rfl rfl trivial ?_
      iterate 4 refine oNoF rfl rfl rfl rfl rfl rfl rfl ?_
      refine oPick rfl rfl rfl rfl rfl rfl rfl ?_
      refine vNil ?_
      change VC _ _ _ _
      refine vCondT rfl rfl ?_
      refine vSeq ?_
      refine vRegion ?_
      refine oVal tt rfl rfl rfl rfl rfl trivial ?_
      refine vNil ?_
      change VC _ _ _ _
      refine vRet ?_
      change ∃ _, _
      cases h
      exact ⟨[], _, rfl, trivial, rfl, (.eq rfl), rfl⟩
    · replace h := cnd_f hb4 h
      iterate 3 refine oValG tt rfl rfl rfl rfl rfl hb4 rfl rfl rfl trivial ?_
      obtain ⟨v3, hc5, h⟩ := bind_inv h
      refine oCallG (G_Contains_int_w N done_1 r_2.p v3 hc5) rfl rfl rfl rfl hb4 rfl rfl rfl rfl rfl rfl rfl ⟨rfl, rfl, trivial⟩ ?_
      refine oPickF rfl rfl rfl rfl rfl hb4 rfl ?_
      refine oVal tt rfl rfl rfl rfl rfl trivial ?_
      refine oSplit rfl rfl rfl (fun hb6 => ?_) (fun hb6 => ?_)
      · replace h := cnd_t hb6 h
        iterate 4 refine oNoF rfl rfl rfl rfl hb6 rfl rfl ?_
        refine oPick rfl rfl rfl rfl rfl hb6 rfl ?_
        refine vNil ?_
        change VC _ _ _ _
        refine vCondT rfl rfl ?_
        refine vSeq ?_
        refine vRegion ?_
        refine oVal tt rfl rfl rfl rfl rfl trivial ?_
        refine vNil ?_
        change VC _ _ _ _
        refine vRet ?_
        change ∃ _, _
        cases h
        exact ⟨[], _, rfl, trivial, rfl, (.eq rfl), rfl⟩
      · replace h := cnd_f hb6 h
        iterate 4 refine oValG tt rfl rfl rfl rfl rfl hb6 rfl rfl rfl trivial ?_
        refine oPickF rfl rfl rfl rfl rfl hb6 rfl ?_
        refine vNil ?_
        change VC _ _ _ _
        refine vCond rfl (fun hb7 => ?_) (fun hb7 => ?_)
        · replace h := cnd_t hb7 h
          refine vSeq ?_
          refine vRegion ?_
          refine oVal tt rfl rfl rfl rfl rfl trivial ?_
          refine vNil ?_
          change VC _ _ _ _
          refine vRet ?_
          change ∃ _, _
          cases h
          exact ⟨[], _, rfl, trivial, rfl, (.eq rfl), rfl⟩
        · replace h := cnd_f hb7 h
          refine vSkip ?_
          change VC _ _ _ _
          iterate 2 refine vSeq ?_
          refine vRegion ?_
          iterate 4 refine oVal tt rfl rfl rfl rfl rfl trivial ?_
          refine vNil ?_
          change VC _ _ _ _
          refine vJoin (F := fun k => I_IsRaise_l1 N p_0 done_1 r_2 k) h (α := Unit) (J := fun (_ : Unit) => (⟨[], [], []⟩ : PS)) ?_ ?_
          · rintro ⟨⟩ h
            show VC _ _ _ (⟨[], [], []⟩ : PS)
            refine vSeq ?_
            refine vRegion ?_
            refine oVal tt rfl rfl rfl rfl rfl trivial ?_
            refine vNil ?_
            change VC _ _ _ _
            refine vRet ?_
            change ∃ _, _
            cases h
            exact ⟨[], _, rfl, trivial, rfl, (.eq rfl), rfl⟩
          · intro k h
            refine vBlock ?_
            refine vLoopS (α := Int) (fun (x10 : Int) => (⟨[(1, .ro false (.ints done_1)), (3, .ptr 3 0), (5, .ptr 5 0), (32, .ro false (.ints r_2.bars)), (33, .int (r_2.bars.length : Int)), (34, .int x10)], [], [(3, some [.int p_0.g.n, .ro false (.pairs p_0.g.bars), .ro false (.ints p_0.ground)]), (5, some [.int r_2.p, .ro false (.ints r_2.bars)])]⟩ : PS)) (I_IsRaise_l1 N p_0 done_1 r_2 k) h (En.of ⟨rfl, rfl, rfl, rfl, rfl, rfl, trivial⟩ trivial ⟨rfl, rfl, trivial⟩) (fun _ => rfl) ?_
            rintro n x10 h
            rw [I_IsRaise_l1] at h
            show VC _ _ _ (⟨[(1, .ro false (.ints done_1)), (3, .ptr 3 0), (5, .ptr 5 0), (32, .ro false (.ints r_2.bars)), (33, .int (r_2.bars.length : Int)), (34, .int x10)], [], [(3, some [.int p_0.g.n, .ro false (.pairs p_0.g.bars), .ro false (.ints p_0.ground)]), (5, some [.int r_2.p, .ro false (.ints r_2.bars)])]⟩ : PS)
            refine vSeq ?_
            refine vRegion ?_
            refine oVal tt rfl rfl rfl rfl rfl trivial ?_
            refine vNil ?_
            change VC _ _ _ _
            refine vSeq ?_
            refine vCond rfl (fun hb8 => ?_) (fun hb8 => ?_)
            · replace h := cnd_t hb8 h
              refine vSkip ?_
              change VC _ _ _ _
              refine vSeq ?_
              refine vBlock ?_
              refine vSeq ?_
              refine vRegion ?_
              refine oVal tt rfl rfl rfl rfl rfl trivial ?_
              obtain ⟨hg9, h⟩ := grd_inv h
              refine oVal tt rfl rfl rfl rfl rfl hg9 ?_
              iterate 3 refine oVal tt rfl rfl rfl rfl rfl trivial ?_
              refine vNil ?_
              change VC _ _ _ _
              refine vSeq ?_
              refine vRegion ?_
              iterate 5 refine oVal tt rfl rfl rfl rfl rfl trivial ?_
              obtain ⟨v12, hc10, h⟩ := bind_inv h
              refine oCall (M_Pinned_holds_w N p_0 done_1 r_2.p (r_2.bars.getD ((x10).toNat) 0) v12 hc10) rfl rfl rfl rfl rfl rfl rfl rfl ⟨⟨rfl, rfl, rfl, trivial⟩, rfl, rfl, rfl, trivial⟩ ?_
              iterate 2 refine oVal tt rfl rfl rfl rfl rfl trivial ?_
              refine oSplit rfl rfl rfl (fun hb11 => ?_) (fun hb11 => ?_)
              · replace h := cnd_t hb11 h
                iterate 3 refine oNoF rfl rfl rfl rfl hb11 rfl rfl ?_
                iterate 8 refine oNoU rfl rfl rfl rfl rfl ?_
                refine oNoF rfl rfl rfl rfl hb11 rfl rfl ?_
                refine oPick rfl rfl rfl rfl rfl hb11 rfl ?_
                refine vNil ?_
                change VC _ _ _ _
                refine vCondT rfl rfl ?_
                refine vSeq ?_
                refine vRegion ?_
                refine oVal tt rfl rfl rfl rfl rfl trivial ?_
                refine vNil ?_
                change VC _ _ _ _
                refine vRet ?_
                change ∃ _, _
                cases h
                exact ⟨[], _, rfl, trivial, rfl, (.eq rfl), rfl⟩
              · replace h := cnd_f hb11 h
                iterate 3 refine oValG tt rfl rfl rfl rfl rfl hb11 rfl rfl rfl trivial ?_
                refine oSplit rfl rfl rfl (fun hb12 => ?_) (fun hb12 => ?_)
                · replace h := cnd_t hb12 h
                  iterate 3 refine oValG tt rfl rfl rfl rfl rfl hb12 rfl rfl rfl trivial ?_
                  obtain ⟨hg13, h⟩ := grd_inv h
                  refine oValG tt rfl rfl rfl rfl rfl hb12 rfl rfl rfl hg13 ?_
                  obtain ⟨hg14, h⟩ := grd_inv h
                  refine oValG tt rfl rfl rfl rfl rfl hb12 rfl rfl rfl hg14 ?_
                  iterate 3 refine oValG tt rfl rfl rfl rfl rfl hb12 rfl rfl rfl trivial ?_
                  refine oPickGT rfl rfl rfl rfl hb11 rfl rfl rfl rfl hb12 rfl ?_
                  refine oPickF rfl rfl rfl rfl rfl hb11 rfl ?_
                  refine vNil ?_
                  change VC _ _ _ _
                  refine vCond rfl (fun hb15 => ?_) (fun hb15 => ?_)
                  · replace h := cnd_t hb15 h
                    refine vSeq ?_
                    refine vRegion ?_
                    refine oVal tt rfl rfl rfl rfl rfl trivial ?_
                    refine vNil ?_
                    change VC _ _ _ _
                    refine vRet ?_
                    change ∃ _, _
                    cases h
                    exact ⟨[], _, rfl, trivial, rfl, (.eq rfl), rfl⟩
                  · replace h := cnd_f hb15 h
                    refine vSkip ?_
                    change VC _ _ _ _
                    refine vRegion ?_
                    obtain ⟨hg16, h⟩ := grd_inv h
                    refine oVal tt rfl rfl rfl rfl rfl hg16 ?_
                    refine oVal tt rfl rfl rfl rfl rfl trivial ?_
                    refine vNil ?_
                    change ∃ _, _
                    exact ⟨(x10 + (1 : Int)), (En.of ⟨rfl, rfl, rfl, rfl, rfl, rfl, trivial⟩ trivial ⟨rfl, rfl, trivial⟩), h⟩
                · replace h := cnd_f hb12 h
                  iterate 8 refine oNoT rfl rfl rfl rfl hb12 rfl rfl ?_
                  refine oPickGF rfl rfl rfl rfl hb11 rfl rfl rfl rfl hb12 rfl ?_
                  refine oPickF rfl rfl rfl rfl rfl hb11 rfl ?_
                  refine vNil ?_
                  change VC _ _ _ _
                  refine vCondF rfl rfl ?_
                  refine vSkip ?_
                  change VC _ _ _ _
                  refine vRegion ?_
                  obtain ⟨hg17, h⟩ := grd_inv h
                  refine oVal tt rfl rfl rfl rfl rfl hg17 ?_
                  refine oVal tt rfl rfl rfl rfl rfl trivial ?_
                  refine vNil ?_
                  change ∃ _, _
                  exact ⟨(x10 + (1 : Int)), (En.of ⟨rfl, rfl, rfl, rfl, rfl, rfl, trivial⟩ trivial ⟨rfl, rfl, trivial⟩), h⟩
            · replace h := cnd_f hb8 h
              refine vExit ?_
              change ∃ _, _
              exact ⟨(), (En.of trivial trivial trivial), h⟩
end Go.Proofs.Ytgindcgphnbnaaa

namespace Go.Proofs.Ytgindcgphnbnaaa
set_option linter.unusedVariables false
set_option linter.unusedSimpArgs false
variable (N : Nat)
def outside (ground : List Int) (n : Nat) : List Int := ((List.range n).map Int.ofNat).filter fun i => !ground.contains i
theorem outside_succ (g : List Int) (n : Nat) : outside g (n + 1) = cnd (g.contains (n : Int)) (outside g n) (outside g n ++ [(n : Int)]) := by
  unfold outside
  rw [List.range_succ, List.map_append, List.filter_append]
  simp only [List.map_cons, List.map_nil, List.filter_cons, List.filter_nil]
  cases h : g.contains (n : Int) <;> simp_all
theorem outside_len (g : List Int) (n : Nat) : (outside g n).length ≤ n := by
  unfold outside
  exact Nat.le_trans (List.length_filter_le _ _) (by simp)
theorem inner_outside (p : Pin) : inner p = outside p.ground p.g.n.toNat := rfl
theorem outside_mem (g : List Int) (n : Nat) (x : Int) : (outside g n).contains x = (inB x 0 ((n : Int) - 1) && !g.contains x) := by
  rw [Bool.eq_iff_iff]
  simp only [List.contains_eq_mem, decide_eq_true_eq, outside, List.mem_filter, List.mem_map, List.mem_range, inB, Bool.and_eq_true]
  constructor
  · rintro ⟨⟨i, hi, rfl⟩, h⟩
    refine ⟨⟨?_, ?_⟩, h⟩
    · show (0 : Int) ≤ (i : Int); omega
    · show (i : Int) ≤ _; omega
  · rintro ⟨⟨h1, h2⟩, h⟩
    exact ⟨⟨x.toNat, by omega, by show ((x.toNat : Nat) : Int) = x; omega⟩, h⟩
/-- the points that are not grounded; none where the structure is not valid -/
def innerPts (p : Pin) : List Int := cnd (isPinned p) (inner p) []
theorem isPinned_bd {p : Pin} (h : isPinned p = true) : 1 ≤ p.g.n ∧ p.g.n ≤ 8 ∧ p.g.bars.length ≤ 15 ∧ p.ground.length ≤ 27 := by
  obtain ⟨h1, h2, h3, h4, h5, _⟩ := isPinned_parts h
  have := isPinned_n h1
  omega
theorem innerI_s (hN : 4000000 ≤ N) {p : Pin} (hb : p.g.bars.length ≤ 3000000) (hg : p.ground.length ≤ 3000000) : I_InnerPoints N p = some (innerPts p) := by
  unfold I_InnerPoints innerPts
  rw [isPinnedI_s N hN hb hg, Option.bind_some, cnd_not]
  cases hp : isPinned p with
  | false => rfl
  | true =>
    have hbd := isPinned_bd hp
    rw [cnd_true, cnd_true, inner_outside]
    refine (fold (len := p.g.n.toNat) (st := outside p.ground) (fin := some (outside p.ground p.g.n.toNat)) (by omega) ?_ ?_)
    · intro n i hi
      have hl := outside_len p.ground i
      rw [I_InnerPoints_l1]
      simp (disch := omega) only [Int.toNat_natCast, tk0, List.length_cons, List.length_nil, grd_pos, grd_T, grd_R, cnd_dt, cnd_df, cnd_true, cnd_false, Option.bind_some, contains_s N hN hg, cnd_not, succ_cast, outside_succ]
      cases p.ground.contains (i : Int) <;> rfl
    · intro n
      rw [I_InnerPoints_l1]
      simp (disch := omega) only [Int.toNat_natCast, tk0, List.length_cons, List.length_nil, grd_pos, grd_T, grd_R, cnd_dt, cnd_df, cnd_true, cnd_false, Option.bind_some]
theorem innerS_s (hN : 4000000 ≤ N) {p : Pin} (hb : p.g.bars.length ≤ 3000000) (hg : p.ground.length ≤ 3000000) : S_InnerPoints N p = some (innerPts p) := by
  unfold S_InnerPoints innerPts
  cases hp : isPinned p with
  | false =>
    obtain ⟨M, rfl⟩ : ∃ M, N = M + 1 := ⟨N - 1, by omega⟩
    rw [S_InnerPoints_l1, isPinnedS_s _ hN hb hg, Option.bind_some, hp]
    cases decide ((0 : Int) < p.g.n) <;> rfl
  | true =>
    have hbd := isPinned_bd hp
    rw [cnd_true, inner_outside]
    refine (fold (len := p.g.n.toNat) (st := outside p.ground) (fin := some (outside p.ground p.g.n.toNat)) (by omega) ?_ ?_)
    · intro n i hi
      have hl := outside_len p.ground i
      rw [S_InnerPoints_l1]
      simp (disch := omega) only [Int.toNat_natCast, tk0, List.length_cons, List.length_nil, grd_pos, grd_T, grd_R, cnd_dt, cnd_df, cnd_true, cnd_false, Option.bind_some, isPinnedS_s N hN hb hg, hp, l2Has_s N hN hg, cnd_not, succ_cast, outside_succ]
      cases p.ground.contains (i : Int) <;> rfl
    · intro n
      rw [S_InnerPoints_l1]
      simp (disch := omega) only [Int.toNat_natCast, tk0, List.length_cons, List.length_nil, grd_pos, grd_T, grd_R, cnd_dt, cnd_df, cnd_true, cnd_false, Option.bind_some]
/-- an inner point -/
def isIn (p : Pin) (x : Int) : Bool := inB x 0 (p.g.n - 1) && !p.ground.contains x
theorem isInner_s (hN : 4000000 ≤ N) {p : Pin} (hp : isPinned p = true) (x : Int) : M_Pinned_isInner N p x = some (isIn p x) := by
  have hbd := isPinned_bd hp
  unfold M_Pinned_isInner isIn
  rw [ghas_s N (by omega) (by omega), Option.bind_some, contains_s N hN (by omega), Option.bind_some, cnd_some]
  cases inB x 0 (p.g.n - 1) <;> rfl
theorem innerPts_mem {p : Pin} (hp : isPinned p = true) (x : Int) : (innerPts p).contains x = isIn p x := by
  have hbd := isPinned_bd hp
  unfold innerPts isIn
  rw [hp, cnd_true, inner_outside, outside_mem, show ((p.g.n.toNat : Nat) : Int) = p.g.n by omega]
/-- the other end -/
def otherEnd (b : Int × Int) (v : Int) : Int := cnd (b.1 == v) b.2 b.1
def hasEnd (b : Int × Int) (v : Int) : Bool := b.1 == v || b.2 == v
theorem hasEnd_1 {b : Int × Int} {v : Int} (h : b.1 = v) : hasEnd b v = true := by simp [hasEnd, h]
theorem hasEnd_2 {b : Int × Int} {v : Int} (h : b.2 = v) : hasEnd b v = true := by simp [hasEnd, h]
theorem hasEnd_0 {b : Int × Int} {v : Int} (h : ¬ b.1 = v) (h2 : ¬ b.2 = v) : hasEnd b v = false := by simp [hasEnd, h, h2]
theorem bhas_s (b : Int × Int) (v : Int) : M_Bar_has N b v = some (hasEnd b v) := by
  unfold M_Bar_has hasEnd
  rw [cnd_some]; cases b.1 == v <;> rfl
theorem bother_s (b : Int × Int) (v : Int) : M_Bar_other N b v = some (otherEnd b v) := by
  unfold M_Bar_other otherEnd
  rw [cnd_some]
theorem l4Other_s {b : Int × Int} {v : Int} (h1 : 0 ≤ b.1) (h2 : b.1 ≤ 1048576) (h3 : 0 ≤ b.2) (h4 : b.2 ≤ 1048576) (h : hasEnd b v = true) : S_l4Other N b v = some (otherEnd b v) := by
  unfold S_l4Other otherEnd
  simp only [hasEnd, Bool.or_eq_true, beq_iff_eq] at h
  rcases h with h | h
  · simp (disch := omega) only [Int.toNat_natCast, tk0, List.length_cons, List.length_nil, grd_pos, grd_T, grd_R, cnd_dt, cnd_df, cnd_true, cnd_false, Option.bind_some]
    congr 1
    rw [show (b.1 == v) = true by simpa using h, cnd_true]; omega
  · simp (disch := omega) only [Int.toNat_natCast, tk0, List.length_cons, List.length_nil, grd_pos, grd_T, grd_R, cnd_dt, cnd_df, cnd_true, cnd_false, Option.bind_some]
    congr 1
    cases hb : b.1 == v with
    | true => have : b.1 = v := by simpa using hb
              rw [cnd_true]; omega
    | false => rw [cnd_false]; omega
theorem isPinned_bar {p : Pin} (hp : isPinned p = true) {i : Nat} (hi : i < p.g.bars.length) : 0 ≤ (p.g.bars.getD i (0, 0)).1 ∧ (p.g.bars.getD i (0, 0)).1 ≤ 8 ∧ 0 ≤ (p.g.bars.getD i (0, 0)).2 ∧ (p.g.bars.getD i (0, 0)).2 ≤ 8 ∧ (p.g.bars.getD i (0, 0)).1 < p.g.n ∧ (p.g.bars.getD i (0, 0)).2 < p.g.n ∧ (p.g.bars.getD i (0, 0)).1 < (p.g.bars.getD i (0, 0)).2 := by
  have h1 := (isPinned_parts hp).1
  have h2 := isGraph_bar h1 (List.getElem_mem hi)
  have h3 := isPinned_n h1
  simp [List.getD_eq_getElem?_getD, hi]
  omega
/-- a bar leads from x to the ground or to what is done -/
def holdP (p : Pin) (dn : List Int) (x e : Int) : Bool :=
  inB e 0 ((p.g.bars.length : Int) - 1) && (hasEnd (p.g.bars.getD e.toNat (0, 0)) x && (p.ground.contains (otherEnd (p.g.bars.getD e.toNat (0, 0)) x) || dn.contains (otherEnd (p.g.bars.getD e.toNat (0, 0)) x)))
theorem holds_s (hN : 4000000 ≤ N) {p : Pin} (hp : isPinned p = true) {dn : List Int} (hd : dn.length ≤ 3000000) (x e : Int) : M_Pinned_holds N p dn x e = some (holdP p dn x e) := by
  have hbd := isPinned_bd hp
  unfold M_Pinned_holds holdP
  simp (disch := omega) only [Int.toNat_natCast, tk0, List.length_cons, List.length_nil, grd_pos, grd_T, grd_R, cnd_dt, cnd_df, cnd_true, cnd_false, Option.bind_some, within_s, cnd_not]
  cases h1 : inB e 0 ((p.g.bars.length : Int) - 1) with
  | false => rfl
  | true =>
    have h2 := inB_true.1 h1
    simp (disch := omega) only [Int.toNat_natCast, tk0, List.length_cons, List.length_nil, grd_pos, grd_T, grd_R, cnd_dt, cnd_df, cnd_true, cnd_false, Option.bind_some, bhas_s, bother_s, contains_s N hN (show p.ground.length ≤ 3000000 by omega), contains_s N hN hd, cnd_not]
    cases hasEnd (p.g.bars.getD e.toNat (0, 0)) x with
    | false => rfl
    | true =>
      rw [cnd_true]
      cases p.ground.contains (otherEnd (p.g.bars.getD e.toNat (0, 0)) x) <;> rfl
def raiseAt (p : Pin) (dn : List Int) (r : Rse) (i : Nat) : Bool := holdP p dn r.p (r.bars.getD i 0) && (decide (i = 0) || decide (r.bars.getD (i - 1) 0 < r.bars.getD i 0))
def raiseOk (p : Pin) (dn : List Int) (r : Rse) : Bool := isPinned p && (isIn p r.p && (!dn.contains r.p && (decide (2 ≤ r.bars.length) && (List.range r.bars.length).all (raiseAt p dn r))))
theorem isRaiseI_s (hN : 4000000 ≤ N) {p : Pin} (hb : p.g.bars.length ≤ 3000000) (hg : p.ground.length ≤ 3000000) {dn : List Int} (hd : dn.length ≤ 3000000) {r : Rse} (hr : r.bars.length ≤ 3000000) : I_IsRaise N p dn r = some (raiseOk p dn r) := by
  unfold I_IsRaise raiseOk
  rw [isPinnedI_s N hN hb hg, Option.bind_some, cnd_not]
  cases hp : isPinned p with
  | false => rfl
  | true =>
    rw [cnd_true, isInner_s N hN hp, Option.bind_some, contains_s N hN hd, Option.bind_some, cnd_not]
    cases isIn p r.p with
    | false => rfl
    | true =>
      rw [cnd_true]
      cases dn.contains r.p with
      | true => rfl
      | false =>
        rw [cnd_false]
        by_cases h2 : 2 ≤ r.bars.length
        · simp (disch := omega) only [Int.toNat_natCast, tk0, List.length_cons, List.length_nil, grd_pos, grd_T, grd_R, cnd_dt, cnd_df, cnd_true, cnd_false, Option.bind_some]
          refine (srch (len := r.bars.length) (ok := raiseAt p dn r) (bad := some false) (fin := some true) (by omega) ?_ ?_).trans ?_
          · intro n i hi _
            rw [I_IsRaise_l1]
            by_cases h0 : i = 0
            · subst h0
              simp (disch := omega) only [Int.toNat_natCast, tk0, List.length_cons, List.length_nil, grd_pos, grd_T, grd_R, cnd_dt, cnd_df, cnd_true, cnd_false, Option.bind_some, holds_s N hN hp hd, succ_cast]
              refine cnd_congr' ?_ _ _
              simp [raiseAt]
            · simp (disch := omega) only [Int.toNat_natCast, tk0, List.length_cons, List.length_nil, grd_pos, grd_T, grd_R, cnd_dt, cnd_df, cnd_true, cnd_false, Option.bind_some, holds_s N hN hp hd, succ_cast, cnd_or, show ((i : Int) - 1).toNat = i - 1 from by omega]
              refine cnd_congr' ?_ _ _
              simp only [raiseAt, decide_eq_false h0, Bool.false_or]
              cases holdP p dn r.p (r.bars.getD i 0) <;> (rw [Bool.eq_iff_iff]; simp)
          · intro n _
            rw [I_IsRaise_l1]
            simp (disch := omega) only [Int.toNat_natCast, tk0, List.length_cons, List.length_nil, grd_pos, grd_T, grd_R, cnd_dt, cnd_df, cnd_true, cnd_false, Option.bind_some]
          · rw [cnd_some, cnd_bool, decide_eq_true h2]; rfl
        · simp (disch := omega) only [Int.toNat_natCast, tk0, List.length_cons, List.length_nil, grd_pos, grd_T, grd_R, cnd_dt, cnd_df, cnd_true, cnd_false, Option.bind_some]
          rw [decide_eq_false h2]; rfl
theorem l26Ends_s (hN : 4000000 ≤ N) {p : Pin} (hp : isPinned p = true) {dn : List Int} (hd : dn.length ≤ 3000000) {r : Rse} (hr : r.bars.length ≤ 3000000) : S_l26Ends N p dn r = some ((List.range r.bars.length).all (raiseAt p dn r)) := by
  have hbd := isPinned_bd hp
  unfold S_l26Ends
  refine (srch (len := r.bars.length) (ok := raiseAt p dn r) (bad := some false) (fin := some true) (by omega) ?_ ?_).trans (by rw [cnd_some, cnd_bool])
  · intro n i hi _
    rw [S_l26Ends_l1]
    have e : ∀ X : Option Bool, cnd (raiseAt p dn r i) X (some false) = cnd (inB (r.bars.getD i 0) 0 ((p.g.bars.length : Int) - 1)) (cnd (decide (i = 0) || decide (r.bars.getD (i - 1) 0 < r.bars.getD i 0)) (cnd (hasEnd (p.g.bars.getD (r.bars.getD i 0).toNat (0, 0)) r.p)
        (cnd (p.ground.contains (otherEnd (p.g.bars.getD (r.bars.getD i 0).toNat (0, 0)) r.p) || dn.contains (otherEnd (p.g.bars.getD (r.bars.getD i 0).toNat (0, 0)) r.p)) X (some false)) (some false)) (some false)) (some false) := by
      intro X
      unfold raiseAt holdP
      cases inB (r.bars.getD i 0) 0 ((p.g.bars.length : Int) - 1) <;> cases (decide (i = 0) || decide (r.bars.getD (i - 1) 0 < r.bars.getD i 0)) <;> cases hasEnd (p.g.bars.getD (r.bars.getD i 0).toNat (0, 0)) r.p <;> simp [cnd]
    rw [e]
    by_cases h1 : r.bars.getD i 0 < 0
    · simp (disch := omega) only [Int.toNat_natCast, tk0, List.length_cons, List.length_nil, grd_pos, grd_T, grd_R, cnd_dt, cnd_df, cnd_true, cnd_false, Option.bind_some]
      rw [show inB (r.bars.getD i 0) 0 ((p.g.bars.length : Int) - 1) = false by simp only [inB, decide_eq_false (show ¬ 0 ≤ r.bars.getD i 0 by omega)]; rfl]; rfl
    · by_cases h2 : (p.g.bars.length : Int) ≤ r.bars.getD i 0
      · simp (disch := omega) only [Int.toNat_natCast, tk0, List.length_cons, List.length_nil, grd_pos, grd_T, grd_R, cnd_dt, cnd_df, cnd_true, cnd_false, Option.bind_some]
        rw [show inB (r.bars.getD i 0) 0 ((p.g.bars.length : Int) - 1) = false by simp only [inB, decide_eq_false (show ¬ r.bars.getD i 0 ≤ (p.g.bars.length : Int) - 1 by omega), Bool.and_false]]; rfl
      · have hin : inB (r.bars.getD i 0) 0 ((p.g.bars.length : Int) - 1) = true := inB_true.2 (by omega)
        have hbar := isPinned_bar hp (i := (r.bars.getD i 0).toNat) (by omega)
        have rest : ∀ X : Option Bool, (cnd (((p.g.bars.getD (((r.bars.getD i 0)).toNat) (0, 0)).1) != r.p) (
              cnd (((p.g.bars.getD (((r.bars.getD i 0)).toNat) (0, 0)).2) != r.p) (
                some false) (
                (S_l4Other N (p.g.bars.getD (((r.bars.getD i 0)).toNat) (0, 0)) r.p).bind fun v145 =>
                (S_l2Has N p.ground v145).bind fun v146 =>
                cnd (!v146) (
                  (S_l2Has N dn v145).bind fun v147 =>
                  cnd (!v147) (
                    some false) X) X)) (
              (S_l4Other N (p.g.bars.getD (((r.bars.getD i 0)).toNat) (0, 0)) r.p).bind fun v148 =>
              (S_l2Has N p.ground v148).bind fun v149 =>
              cnd (!v149) (
                (S_l2Has N dn v148).bind fun v150 =>
                cnd (!v150) (
                  some false) X) X)) = (cnd (hasEnd (p.g.bars.getD (r.bars.getD i 0).toNat (0, 0)) r.p)
        (cnd (p.ground.contains (otherEnd (p.g.bars.getD (r.bars.getD i 0).toNat (0, 0)) r.p) || dn.contains (otherEnd (p.g.bars.getD (r.bars.getD i 0).toNat (0, 0)) r.p)) X (some false)) (some false)) := by
          intro X
          have hh : (S_l2Has N p.ground (otherEnd (p.g.bars.getD (r.bars.getD i 0).toNat (0, 0)) r.p)).bind (fun v149 => cnd (!v149) ((S_l2Has N dn (otherEnd (p.g.bars.getD (r.bars.getD i 0).toNat (0, 0)) r.p)).bind fun v150 => cnd (!v150) (some false) X) X) =
              cnd (p.ground.contains (otherEnd (p.g.bars.getD (r.bars.getD i 0).toNat (0, 0)) r.p) || dn.contains (otherEnd (p.g.bars.getD (r.bars.getD i 0).toNat (0, 0)) r.p)) X (some false) := by
            rw [l2Has_s N hN (by omega), Option.bind_some, l2Has_s N hN hd, Option.bind_some]
            cases p.ground.contains (otherEnd (p.g.bars.getD (r.bars.getD i 0).toNat (0, 0)) r.p) <;> cases dn.contains (otherEnd (p.g.bars.getD (r.bars.getD i 0).toNat (0, 0)) r.p) <;> rfl
          by_cases ha : (p.g.bars.getD (r.bars.getD i 0).toNat (0, 0)).1 = r.p
          · have he : hasEnd (p.g.bars.getD (r.bars.getD i 0).toNat (0, 0)) r.p = true := hasEnd_1 ha
            rw [cnd_nef ha, l4Other_s N (by omega) (by omega) (by omega) (by omega) he, Option.bind_some, he, cnd_true, hh]
          · by_cases hc : (p.g.bars.getD (r.bars.getD i 0).toNat (0, 0)).2 = r.p
            · have he : hasEnd (p.g.bars.getD (r.bars.getD i 0).toNat (0, 0)) r.p = true := hasEnd_2 hc
              rw [cnd_net ha, cnd_nef hc, l4Other_s N (by omega) (by omega) (by omega) (by omega) he, Option.bind_some, he, cnd_true, hh]
            · have he : hasEnd (p.g.bars.getD (r.bars.getD i 0).toNat (0, 0)) r.p = false := hasEnd_0 ha hc
              rw [cnd_net ha, cnd_net hc, he]; rfl
        rw [hin]
        by_cases h0 : i = 0
        · subst h0
          simp (disch := omega) only [Int.toNat_natCast, tk0, List.length_cons, List.length_nil, grd_pos, grd_T, grd_R, cnd_dt, cnd_df, cnd_true, cnd_false, Option.bind_some, succ_cast]
          refine (rest _).trans ?_
          simp
        · simp (disch := omega) only [Int.toNat_natCast, tk0, List.length_cons, List.length_nil, grd_pos, grd_T, grd_R, cnd_dt, cnd_df, cnd_true, cnd_false, Option.bind_some, succ_cast, show ((i : Int) - 1).toNat = i - 1 from by omega]
          rw [decide_eq_false h0, Bool.false_or]
          by_cases h3 : r.bars.getD (i - 1) 0 < r.bars.getD i 0
          · rw [decide_eq_true h3, cnd_df (by omega), cnd_true]
            exact rest _
          · rw [decide_eq_false h3, cnd_dt (by omega), cnd_false]
  · intro n _
    rw [S_l26Ends_l1]
    simp (disch := omega) only [Int.toNat_natCast, tk0, List.length_cons, List.length_nil, grd_pos, grd_T, grd_R, cnd_dt, cnd_df, cnd_true, cnd_false, Option.bind_some]
theorem isRaiseS_s (hN : 4000000 ≤ N) {p : Pin} (hb : p.g.bars.length ≤ 3000000) (hg : p.ground.length ≤ 3000000) {dn : List Int} (hd : dn.length ≤ 3000000) {r : Rse} (hr : r.bars.length ≤ 3000000) : S_IsRaise N p dn r = some (raiseOk p dn r) := by
  unfold S_IsRaise raiseOk
  rw [isPinnedS_s N hN hb hg, Option.bind_some]
  cases hp : isPinned p with
  | false => rfl
  | true =>
    have hbd := isPinned_bd hp
    have hlen : (innerPts p).length ≤ 3000000 := by
      unfold innerPts; rw [hp, cnd_true, inner_outside]
      have := outside_len p.ground p.g.n.toNat; omega
    rw [cnd_true, innerS_s N hN hb hg, Option.bind_some, l2Has_s N hN hlen, Option.bind_some, l2Has_s N hN hd, Option.bind_some, innerPts_mem hp, l26Ends_s N hN hp hd hr, Option.bind_some, cnd_not]
    rw [show decide ((r.bars.length : Int) ≥ 2) = decide (2 ≤ r.bars.length) from by rw [Bool.eq_iff_iff]; simp; omega]
    cases isIn p r.p <;> cases dn.contains r.p <;> cases decide (2 ≤ r.bars.length) <;> rfl
end Go.Proofs.Ytgindcgphnbnaaa

namespace Go.Proofs.Ytgindcgphnbnaaa
open Go.RowKit Go.Deep
set_option linter.unusedSimpArgs false
set_option linter.unusedVariables false
section
variable {C : Cx} {ops : Array Oper} {K : PS → Prop} {l : List Oper} {s s' : PS} {TT : List (Nat × Ty)} {tm : List (Nat × D)} {rw' : List (Nat × Option (TypeId × Sq))} {bx : List (Nat × Option (List D))}
theorem vEnO (hl : En C s s') (h : VO C ops K l s') : VO C ops K l s := ⟨fun M a w Q hr hk => by
  obtain ⟨M', h'⟩ := hl.out M a w hr
  exact h.out M' a w Q h' hk⟩
end
section
theorem Rel.freeze0 {w0 : World} {O0 : Hd} {n : Nat} {M : Mp} {s : PS} {a : Act} {w : World} (h : Rel w0 O0 n M s a w) {r : Nat} {e : TypeId} {q : Sq} (hr : s.r r = some (e, q)) :
    ∃ M', Rel w0 O0 n M' ((s.kill r).setR r none) a w ∧ (∀ v, VR M (Ow (Fs w0 O0) M) w (.row r 0 q.len) v → VR M' (Ow (Fs w0 O0) M') w (.ro true q) v) ∧ ∀ d v, VR M (Ow (Fs w0 O0) M) w d v → VR M' (Ow (Fs w0 O0) M') w (klS r d) v := by
  let M' : Mp := ⟨M.β, fun y => if y = r then none else M.γ y⟩
  have hown : ∀ k, M'.owned k → M.owned k := by
    rintro k (⟨b, hb⟩ | ⟨y, c, z, hy⟩)
    · exact .inl ⟨b, hb⟩
    · simp only [M'] at hy
      split at hy
      · cases hy
      · exact .inr ⟨y, c, z, hy⟩
  have hA : ∀ f b, b < w.heap.size → Ow (Fs w0 O0) M f b → Ow (Fs w0 O0) M' f b ∧ b < w.heap.size ∧ w.heap[b]? = w.heap[b]? := fun f b h1 h2 => ⟨⟨fun h3 => h2.1 (hown b h3), h2.2⟩, h1, rfl⟩
  have hγ : ∀ y z, y ≠ r → M'.γ y = some z → M.γ y = some z := fun y z h1 h2 => by simpa [M', h1] using h2
  have hβ : ∀ b k, M'.β b = some k → M.β b = some k := fun _ _ h => h
  have hv : ∀ v, VR M (Ow (Fs w0 O0) M) w (.row r 0 q.len) v → VR M' (Ow (Fs w0 O0) M') w (.ro true q) v := by
    intro v h0
    cases h0 with
    | row _ _ _ _ g1 g2 =>
      rcases h.row r e q hr with ⟨hg, h0⟩ | ⟨g, cap, cur, hg, hh, hl, hmx, hcs, hc⟩
      · have := g2 _ hg
        simp only [RowV] at this
        obtain ⟨⟨ao0, rfl⟩, _, _⟩ := this
        have := VR.ro (M := M') (A := Ow (Fs w0 O0) M') (w := w) true q ao0 0 0 0 (fun _ _ => undef) (by omega) (by omega) (by omega) (by intro i j d hi; omega) (by intro i j d hi; omega)
        rwa [h0] at this
      · have := g2 _ hg
        simp only [RowV] at this
        obtain ⟨h1, ao, h2, h3⟩ := this
        have h4 := h3 (.inr trivial)
        rw [Nat.zero_mul] at h4
        subst h2
        refine .ro true q ao _ g 0 (fun i j => cur.getD (i * q.sz + j) undef) (by omega) (by omega) (fun _ => ⟨h4, (Array.getElem?_eq_some_iff.1 hh).1, ?_, ?_⟩) (fun i j d hi hd => ?_) (fun i j d hi hd => (hc i j d hi hd).elem_any hd hA)
        · rintro (⟨b, hb⟩ | ⟨y, c, z, hy⟩)
          · exact h.inj3 _ _ _ _ _ hb hg
          · simp only [M'] at hy
            split at hy
            · cases hy
            · rename_i hyr; exact hyr (h.inj2 _ _ _ _ _ _ _ hy hg)
        · exact (h.low _ (.inr ⟨r, _, _, hg⟩)).imp_right (O0.sub _ _)
        · have hj : j < q.sz := by rw [← Sq.elem_len true q i]; exact (List.getElem?_eq_some_iff.1 hd).1
          have hlt : i * q.sz + j < cur.size := by
            rw [hcs]
            have h4 : (i + 1) * q.sz ≤ cap * q.sz := Nat.mul_le_mul_right _ (by omega)
            rw [Nat.add_mul, Nat.one_mul] at h4; omega
          rw [Nat.zero_add, cell_of_row w g _ cur e (0, 0) hh]
          simp [hlt]
  refine ⟨M', ⟨h.fr, h.dfr, h.sz, fun x => ?_, fun b cs hb => ?_, fun b hb => ?_, fun y e' p hy => ?_, fun y hy => ?_, fun k hk => h.low k (hown k hk), h.inj1, fun y y' k c z c' z' h1 h2 => ?_, fun b y k c z h1 h2 => ?_, h.nle, h.fxb, fun y u u' h1 h2 => ?_⟩, hv, fun d v hd => VR.klS hA hγ hβ hd⟩
  · have : ((s.kill r).setR r none).t x = kl r (s.t x) := PS.t_kill s r x
    rw [this]; exact VR.kl hA hγ hβ (h.tmp x)
  · have hb' : (s.kill r).b b = some cs := hb
    rw [PS.b_kill] at hb'
    obtain ⟨cs0, h0, rfl⟩ := Option.map_eq_some_iff.1 hb'
    obtain ⟨k, cur, e2, a1, a2, a3, a4⟩ := h.box b cs0 h0
    refine ⟨k, cur, e2, a1, a2, by simpa using a3, fun j d hd => ?_⟩
    rw [List.getElem?_map] at hd
    obtain ⟨d0, h1, rfl⟩ := Option.map_eq_some_iff.1 hd
    exact VR.klS hA hγ hβ (a4 j d0 h1)
  · have hb' : (s.kill r).b b = none := hb
    rw [PS.b_kill] at hb'
    exact h.boxn b (by simpa using hb')
  · have hy : ((s.kill r).setR r none).r y = some (e', p) := hy
    rw [PS.r_setR] at hy
    by_cases hyr : r = y
    · rw [if_pos hyr] at hy; cases hy
    · rw [if_neg hyr] at hy
      rcases h.row y e' p hy with ⟨h1, h2⟩ | ⟨g, cap, cur, h1, h2, h3, h4, h5, h6⟩
      · exact .inl ⟨by simp [M', Ne.symm hyr, h1], h2⟩
      · exact .inr ⟨g, cap, cur, by simp [M', Ne.symm hyr, h1], h2, h3, h4, h5, fun i j d hi' hd => (h6 i j d hi' hd).elem_any hd hA⟩
  · have hy : ((s.kill r).setR r none).r y = none := hy
    rw [PS.r_setR] at hy
    by_cases hyr : r = y
    · simp [M', hyr]
    · rw [if_neg hyr] at hy
      simpa [M', Ne.symm hyr] using h.rown y hy
  · simp only [M'] at h1 h2
    split at h1 <;> split at h2 <;> first | (cases h1; done) | (cases h2; done) | exact h.inj2 _ _ _ _ _ _ _ h1 h2
  · simp only [M'] at h2
    split at h2
    · cases h2
    · exact h.inj3 _ _ _ _ _ h1 h2
  · simp only [M'] at h2
    split at h2
    · cases h2
    · exact h.fxr y u u' h1 h2
end
section
variable {C : Cx} {ops : Array Oper} {K : PS → Prop} {l : List Oper} {s s' : PS} {TT : List (Nat × Ty)} {tm : List (Nat × D)} {rw' : List (Nat × Option (TypeId × Sq))} {bx : List (Nat × Option (List D))}
/-- a row given away that a struct in a slot names -/
theorem oFreezeA (t i : Nat) {r m : Nat} {e : TypeId} {q : Sq} {ds : List D} (ht : (PS.t ⟨tm, rw', bx⟩ t) = .agg ds) (hi : ds[i]? = some (.row r 0 m)) (hr : (PS.r ⟨tm, rw', bx⟩ r) = some (e, q)) (hnf : nf ⟨(t, .agg ((ds.map (klS r)).set i (.ro true q))) :: (PS.kill ⟨tm, rw', bx⟩ r).tmp, (r, none) :: rw', (PS.kill ⟨tm, rw', bx⟩ r).box⟩ = some s') (hm : m = q.len)
    (h : VO C ops K l s') : VO C ops K l ⟨tm, rw', bx⟩ := by
  subst hm
  refine vEnO ⟨fun M a w hr' => ?_⟩ h
  rw [nf_ok hnf]
  obtain ⟨M', h1, h2, h3⟩ := hr'.freeze0 hr
  refine ⟨M', h1.fr, h1.dfr, h1.sz, fun x => ?_, h1.box, h1.boxn, h1.row, h1.rown, h1.low, h1.inj1, h1.inj2, h1.inj3, h1.nle, h1.fxb, h1.fxr⟩
  by_cases hx : t = x
  · subst hx
    have hv := hr'.tmp t
    rw [ht] at hv
    have : (PS.t ⟨(t, .agg ((ds.map (klS r)).set i (.ro true q))) :: (PS.kill ⟨tm, rw', bx⟩ r).tmp, (r, none) :: rw', (PS.kill ⟨tm, rw', bx⟩ r).box⟩ t) = .agg ((ds.map (klS r)).set i (.ro true q)) := by simp [PS.t, look_cons_self]
    rw [this]
    generalize a.tmps.getD t undef = v at hv ⊢
    cases hv with
    | agg _ us hl hd =>
      refine .agg _ us (by simpa using hl) fun j d hj => ?_
      rw [List.getElem?_set] at hj
      by_cases hij : i = j
      · subst hij
        have hlt := (List.getElem?_eq_some_iff.1 hi).1
        rw [if_pos rfl, if_pos (by simpa using hlt)] at hj
        cases hj
        exact h2 _ (hd i _ hi)
      · rw [if_neg hij, List.getElem?_map] at hj
        obtain ⟨d0, hd0, rfl⟩ := Option.map_eq_some_iff.1 hj
        exact h3 _ _ (hd j d0 hd0)
  · have : (PS.t ⟨(t, .agg ((ds.map (klS r)).set i (.ro true q))) :: (PS.kill ⟨tm, rw', bx⟩ r).tmp, (r, none) :: rw', (PS.kill ⟨tm, rw', bx⟩ r).box⟩ x) = (PS.setR (PS.kill ⟨tm, rw', bx⟩ r) r none).t x := by simp [PS.t, PS.setR, look_cons_ne hx]
    rw [this]; exact h1.tmp x
variable {o : Oper} {rest : List Oper} {rk rids bk bids pids : List Nat}
end
section
theorem Rel.drop {w0 : World} {O0 : Hd} {n : Nat} {M : Mp} {s : PS} {a : Act} {w : World} (h : Rel w0 O0 n M s a w) {r : Nat} {e : TypeId} {q : Sq} (hr : s.r r = some (e, q)) :
    ∃ M', Rel w0 O0 n M' (s.setR r none) a w ∧ (∀ v, VR M (Ow (Fs w0 O0) M) w (.row r 0 q.len) v → VR M' (Ow (Fs w0 O0) M') w (.ro true q) v) ∧ ∀ d v, VR M (Ow (Fs w0 O0) M) w d v → VR M' (Ow (Fs w0 O0) M') w d v := by
  let M' : Mp := ⟨M.β, fun y => if y = r then none else M.γ y⟩
  have hown : ∀ k, M'.owned k → M.owned k := by
    rintro k (⟨b, hb⟩ | ⟨y, c, z, hy⟩)
    · exact .inl ⟨b, hb⟩
    · simp only [M'] at hy
      split at hy
      · cases hy
      · exact .inr ⟨y, c, z, hy⟩
  have hA : ∀ f b, b < w.heap.size → Ow (Fs w0 O0) M f b → Ow (Fs w0 O0) M' f b ∧ b < w.heap.size ∧ w.heap[b]? = w.heap[b]? := fun f b h1 h2 => ⟨⟨fun h3 => h2.1 (hown b h3), h2.2⟩, h1, rfl⟩
  have hγ : ∀ y z, y ≠ r → M'.γ y = some z → M.γ y = some z := fun y z h1 h2 => by simpa [M', h1] using h2
  have hβ : ∀ b k, M'.β b = some k → M.β b = some k := fun _ _ h => h
  have hγ' : ∀ y z, M'.γ y = some z → M.γ y = some z := fun y z h1 => by
    simp only [M'] at h1
    split at h1
    · cases h1
    · exact h1
  have hv : ∀ v, VR M (Ow (Fs w0 O0) M) w (.row r 0 q.len) v → VR M' (Ow (Fs w0 O0) M') w (.ro true q) v := by
    intro v h0
    cases h0 with
    | row _ _ _ _ g1 g2 =>
      rcases h.row r e q hr with ⟨hg, h0⟩ | ⟨g, cap, cur, hg, hh, hl, hmx, hcs, hc⟩
      · have := g2 _ hg
        simp only [RowV] at this
        obtain ⟨⟨ao0, rfl⟩, _, _⟩ := this
        have := VR.ro (M := M') (A := Ow (Fs w0 O0) M') (w := w) true q ao0 0 0 0 (fun _ _ => undef) (by omega) (by omega) (by omega) (by intro i j d hi; omega) (by intro i j d hi; omega)
        rwa [h0] at this
      · have := g2 _ hg
        simp only [RowV] at this
        obtain ⟨h1, ao, h2, h3⟩ := this
        have h4 := h3 (.inr trivial)
        rw [Nat.zero_mul] at h4
        subst h2
        refine .ro true q ao _ g 0 (fun i j => cur.getD (i * q.sz + j) undef) (by omega) (by omega) (fun _ => ⟨h4, (Array.getElem?_eq_some_iff.1 hh).1, ?_, ?_⟩) (fun i j d hi hd => ?_) (fun i j d hi hd => (hc i j d hi hd).elem_any hd hA)
        · rintro (⟨b, hb⟩ | ⟨y, c, z, hy⟩)
          · exact h.inj3 _ _ _ _ _ hb hg
          · simp only [M'] at hy
            split at hy
            · cases hy
            · rename_i hyr; exact hyr (h.inj2 _ _ _ _ _ _ _ hy hg)
        · exact (h.low _ (.inr ⟨r, _, _, hg⟩)).imp_right (O0.sub _ _)
        · have hj : j < q.sz := by rw [← Sq.elem_len true q i]; exact (List.getElem?_eq_some_iff.1 hd).1
          have hlt : i * q.sz + j < cur.size := by
            rw [hcs]
            have h4 : (i + 1) * q.sz ≤ cap * q.sz := Nat.mul_le_mul_right _ (by omega)
            rw [Nat.add_mul, Nat.one_mul] at h4; omega
          rw [Nat.zero_add, cell_of_row w g _ cur e (0, 0) hh]
          simp [hlt]
  refine ⟨M', ⟨h.fr, h.dfr, h.sz, fun x => (h.tmp x).mono hA hγ' hβ, fun b cs hb => ?_, h.boxn, fun y e' p hy => ?_, fun y hy => ?_, fun k hk => h.low k (hown k hk), h.inj1, fun y y' k c z c' z' h1 h2 => ?_, fun b y k c z h1 h2 => ?_, h.nle, h.fxb, fun y u u' h1 h2 => ?_⟩, hv, fun d v hd => hd.mono hA hγ' hβ⟩
  · obtain ⟨k, cur, e2, a1, a2, a3, a4⟩ := h.box b cs hb
    exact ⟨k, cur, e2, a1, a2, a3, fun j d hd => (a4 j d hd).mono hA hγ' hβ⟩
  · have hy : (s.setR r none).r y = some (e', p) := hy
    rw [PS.r_setR] at hy
    by_cases hyr : r = y
    · rw [if_pos hyr] at hy; cases hy
    · rw [if_neg hyr] at hy
      rcases h.row y e' p hy with ⟨h1, h2⟩ | ⟨g, cap, cur, h1, h2, h3, h4, h5, h6⟩
      · exact .inl ⟨by simp [M', Ne.symm hyr, h1], h2⟩
      · exact .inr ⟨g, cap, cur, by simp [M', Ne.symm hyr, h1], h2, h3, h4, h5, fun i j d hi' hd => (h6 i j d hi' hd).elem_any hd hA⟩
  · have hy : (s.setR r none).r y = none := hy
    rw [PS.r_setR] at hy
    by_cases hyr : r = y
    · simp [M', hyr]
    · rw [if_neg hyr] at hy
      simpa [M', Ne.symm hyr] using h.rown y hy
  · simp only [M'] at h1 h2
    split at h1 <;> split at h2 <;> first | (cases h1; done) | (cases h2; done) | exact h.inj2 _ _ _ _ _ _ _ h1 h2
  · simp only [M'] at h2
    split at h2
    · cases h2
    · exact h.inj3 _ _ _ _ _ h1 h2
  · simp only [M'] at h2
    split at h2
    · cases h2
    · exact h.fxr y u u' h1 h2
end
section
variable {C : Cx} {ops : Array Oper} {K : PS → Prop} {o : Oper} {rest : List Oper} {s s' : PS} {TT : List (Nat × Ty)} {tm : List (Nat × D)} {rw' : List (Nat × Option (TypeId × Sq))} {bx : List (Nat × Option (List D))} {cr B : List Nat} {j : Nat}
end
end Go.Proofs.Ytgindcgphnbnaaa

namespace Go.Proofs.Ytgindcgphnbnaaa
open Go.RowKit
set_option linter.unusedVariables false
set_option linter.unusedSimpArgs false
def L_toRaiseS_l1 (N : Nat) (a_0 : List (Int × List Int)) (k : (List (Int × List Int)) → Option (List (Int × List Int))) : Nat → ((List (Int × List Int)) × Int) → Option (List (Int × List Int))
  | 0, _ => none
  | n + 1, (l9, i10) =>
    cnd (decide (i10 < (a_0.length : Int))) (
      grd (0 ≤ i10 ∧ i10 < (a_0.length : Int)) <|
      (L_toRaise N (⟨(a_0.getD ((i10).toNat) (0, [])).1, (a_0.getD ((i10).toNat) (0, [])).2⟩ : Rse)).bind fun v12 =>
      grd (0 ≤ i10 ∧ i10 < ((List.replicate (((a_0.length : Int)).toNat) ((0, []) : (Int × List Int))).length : Int)) <|
      grd (0 ≤ i10 ∧ i10 < (l9.length : Int)) <|
      grd (Rg64 (i10 + (1 : Int))) <|
      L_toRaiseS_l1 N a_0 k n (((l9.set ((i10).toNat) (v12.p, (l9.getD ((i10).toNat) (0, [])).2)).set ((i10).toNat) (((l9.set ((i10).toNat) (v12.p, (l9.getD ((i10).toNat) (0, [])).2)).getD ((i10).toNat) (0, [])).1, v12.bars)), (i10 + (1 : Int)))) (
      k l9)
def L_toRaiseS (N : Nat) (a_0 : List (Int × List Int)) : Option (List (Int × List Int)) :=
  grd (0 ≤ (a_0.length : Int) ∧ (a_0.length : Int) ≤ 4294967296) <|
  L_toRaiseS_l1 N a_0 (fun (l6 : List (Int × List Int)) =>
        grd ((List.replicate (((a_0.length : Int)).toNat) ((0, []) : (Int × List Int))).length = l6.length) <|
        some l6) N ((List.replicate (((a_0.length : Int)).toNat) ((0, []) : (Int × List Int))), (0 : Int))
set_option maxRecDepth 20000 in
set_option maxHeartbeats 1600000 in
theorem L_toRaiseS_w (N : Nat) (a_0 : List (Int × List Int)) (r : List (Int × List Int)) (h : L_toRaiseS N a_0 = some r) : PCall Try.prog 29 [.ro false (.raises a_0)] [(93, .raises r)] (.row 0 0 r.length) := by
  unfold L_toRaiseS at h
  refine pcall_intro (TT := TT) tt Try.func29 rfl rfl Try.ntmps29 (congrArg Array.toList Try.results29) rfl rfl fun w0 => ?_
  refine vSeq ?_
  refine vRegion ?_
  refine oVal tt rfl rfl rfl rfl rfl trivial ?_
  refine vNil ?_
  change VC _ _ _ _
  refine vSeq ?_
  refine vRegion ?_
  iterate 2 refine oVal tt rfl rfl rfl rfl rfl trivial ?_
  obtain ⟨hg1, h⟩ := grd_inv h
  refine oMake tt rfl rfl rfl rfl rfl rfl rfl rfl rfl rfl rfl hg1 ?_
  refine oVal tt rfl rfl rfl rfl rfl trivial ?_
  refine vNil ?_
  change VC _ _ _ _
  iterate 2 refine vSeq ?_
  refine vRegion ?_
  refine oVal tt rfl rfl rfl rfl rfl trivial ?_
  refine vNil ?_
  change VC _ _ _ _
  refine vJoin (F := fun k => L_toRaiseS_l1 N a_0 k) h (α := List (Int × List Int)) (J := fun (l6 : List (Int × List Int)) => (⟨[(3, .row 7 0 ((List.replicate (((a_0.length : Int)).toNat) ((0, []) : (Int × List Int))).length))], [(7, some (93, .raises l6))], []⟩ : PS)) ?_ ?_
  · rintro l6 h
    show VC _ _ _ (⟨[(3, .row 7 0 ((List.replicate (((a_0.length : Int)).toNat) ((0, []) : (Int × List Int))).length))], [(7, some (93, .raises l6))], []⟩ : PS)
    refine vSeq ?_
    refine vRegion ?_
    iterate 2 refine oVal tt rfl rfl rfl rfl rfl trivial ?_
    refine vNil ?_
    change VC _ _ _ _
    obtain ⟨hg2, h⟩ := grd_inv h
    refine vRet ?_
    change ∃ _, _
    cases h
    exact ⟨[7], _, rfl, ⟨rfl, trivial⟩, rfl, (.eq (by simp only [hg2]; rfl)), rfl⟩
  · intro k h
    refine vBlock ?_
    refine vLoopS (α := (List (Int × List Int)) × Int) (fun | (l9, i10) => (⟨[(0, .ro false (.raises a_0)), (3, .row 7 0 ((List.replicate (((a_0.length : Int)).toNat) ((0, []) : (Int × List Int))).length)), (4, .int i10)], [(7, some (93, .raises l9))], []⟩ : PS)) (L_toRaiseS_l1 N a_0 k) h (En.of ⟨rfl, rfl, rfl, trivial⟩ ⟨rfl, trivial⟩ trivial) (fun _ => rfl) ?_
    rintro n ⟨l9, i10⟩ h
    rw [L_toRaiseS_l1] at h
    show VC _ _ _ (⟨[(0, .ro false (.raises a_0)), (3, .row 7 0 ((List.replicate (((a_0.length : Int)).toNat) ((0, []) : (Int × List Int))).length)), (4, .int i10)], [(7, some (93, .raises l9))], []⟩ : PS)
    iterate 2 refine vSeq ?_
    refine vRegion ?_
    iterate 4 refine oVal tt rfl rfl rfl rfl rfl trivial ?_
    refine vNil ?_
    change VC _ _ _ _
    refine vCond rfl (fun hb3 => ?_) (fun hb3 => ?_)
    · replace h := cnd_t hb3 h
      refine vSkip ?_
      change VC _ _ _ _
      refine vSeq ?_
      refine vBlock ?_
      refine vRegion ?_
      iterate 4 refine oVal tt rfl rfl rfl rfl rfl trivial ?_
      obtain ⟨hg4, h⟩ := grd_inv h
      refine oVal tt rfl rfl rfl rfl rfl hg4 ?_
      refine oVal tt rfl rfl rfl rfl rfl trivial ?_
      obtain ⟨v12, hc5, h⟩ := bind_inv h
      refine oCall (L_toRaise_w N (⟨(a_0.getD ((i10).toNat) (0, [])).1, (a_0.getD ((i10).toNat) (0, [])).2⟩ : Rse) v12 hc5) rfl rfl rfl rfl rfl rfl rfl rfl ⟨⟨rfl, rfl, trivial⟩, trivial⟩ ?_
      obtain ⟨hg6, h⟩ := grd_inv h
      refine oVal tt rfl rfl rfl rfl rfl hg6 ?_
      refine oFreezeA 20 1 rfl rfl rfl rfl rfl ?_
      obtain ⟨hg7, h⟩ := grd_inv h
      refine oStore tt rfl rfl rfl rfl rfl rfl rfl rfl rfl rfl ⟨_, _, rfl, hg7.1, hg7.2⟩ ⟨hg7, (by simpa [Sq.len] using hg7), trivial⟩ ?_
      refine vNil ?_
      change VC _ _ _ _
      refine vRegion ?_
      refine oVal tt rfl rfl rfl rfl rfl trivial ?_
      obtain ⟨hg8, h⟩ := grd_inv h
      refine oVal tt rfl rfl rfl rfl rfl hg8 ?_
      refine oVal tt rfl rfl rfl rfl rfl trivial ?_
      refine vNil ?_
      change ∃ _, _
      exact ⟨(((l9.set ((i10).toNat) (v12.p, (l9.getD ((i10).toNat) (0, [])).2)).set ((i10).toNat) (((l9.set ((i10).toNat) (v12.p, (l9.getD ((i10).toNat) (0, [])).2)).getD ((i10).toNat) (0, [])).1, v12.bars)), (i10 + (1 : Int))), (En.of ⟨rfl, rfl, rfl, trivial⟩ ⟨rfl, trivial⟩ trivial), h⟩
    · replace h := cnd_f hb3 h
      refine vExit ?_
      change ∃ _, _
      exact ⟨l9, (En.of ⟨rfl, trivial⟩ ⟨rfl, trivial⟩ trivial), h⟩
end Go.Proofs.Ytgindcgphnbnaaa

namespace Go.Proofs.Ytgindcgphnbnaaa
open Go.ChangeShapes Go.WideShapes Go.ChangeAt Go.RowKit Go.Deep
set_option linter.unusedVariables false
set_option linter.unusedSimpArgs false
section
variable {H : Type} {enc : TypeId × Value → H} {P : Program} {w : World} {spare : Nat → Bool} {held : Bool} {fuel : Nat} {cs : List Value} {x : DataW H × List MemPlace}
/-- every inner slice no longer than can be, every number in range -/
def RsR (l : List (Int × List Int)) : Prop := ∀ x ∈ l, R64 x.1 ∧ IntsR x.2 ∧ x.2.length ≤ 9223372036854775807
theorem open_raisesD {t e ti tl : TypeId} {f0 f1 : Field} (ht : P.underlying t = some (.slice e)) (he : P.underlying e = some (.struct #[f0, f1])) (hc : P.cellsOf e = 2)
    (hf0 : f0.type = ti) (hf1 : f1.type = tl) (ho0 : f0.offset = 0) (ho1 : f1.offset = 1) (hi : P.underlying ti = some (.int .i64)) (hci : P.cellsOf ti = 1) (htl : P.underlying tl = some (.slice ti)) (hcl : P.cellsOf tl = 1)
    (h : DataW.trod enc P w 0 spare held fuel t cs = some x) : ∃ v l, cs = [v] ∧ VR M0 R0 w (.ro false (.raises l)) v ∧ RsR l := by
  rcases open_slice ht h with ⟨rfl, _⟩ | ⟨a, len, cap, m, n, D, Pl, rfl, hb, hl, hm, hmm, rfl, hx⟩
  · exact ⟨_, [], rfl, .ro false (.raises []) none 0 0 0 (fun _ _ => undef) (Nat.zero_le _) (Nat.le_refl _) (fun h => absurd h (by simp [Sq.len])) (fun i j d hi => absurd hi (by simp [Sq.len])) (fun i j d hi => absurd hi (by simp [Sq.len])), by simp [RsR]⟩
  · have hlm : len ≤ m := by rw [hmm]; split <;> omega
    have hcell : ∀ i, i < len → ∃ z : Int × List Int × Value, w.cell? (a.add (i * 2)) = some (.int .i64 z.1) ∧ w.cell? ((a.add (i * 2)).add 1) = some z.2.2 ∧ VR M0 R0 w (.ro false (.ints z.2.1)) z.2.2 ∧ R64 z.1 ∧ IntsR z.2.1 := fun i hi' => by
      obtain ⟨cs', h1, h2⟩ := hx i (by omega)
      obtain ⟨y0, y1, n', _, hlen, hy0, hy1⟩ := trod_struct2 he h2
      rw [hc] at h1 hlen
      obtain ⟨c0, c1, rfl⟩ : ∃ c0 c1, cs' = [c0, c1] := by
        match cs', hlen with
        | [c0, c1], _ => exact ⟨c0, c1, rfl⟩
      rw [hf0, ho0, hci] at hy0
      rw [hf1, ho1, hcl] at hy1
      simp at hy0 hy1
      obtain ⟨z0, hz0, _, w0⟩ := DataW.trod_int hi hy0
      obtain ⟨v1, l1, e1, k1, r1⟩ := open_intsD htl hi hci hy1
      simp at hz0 e1
      subst hz0 e1
      obtain ⟨_, _, hk⟩ := World.cells?_some h1
      exact ⟨(z0, l1, c1), by simpa [Addr.add] using hk 0 (by omega), by simpa using hk 1 (by omega), k1, R64_of_wf w0, r1⟩
    obtain ⟨f, hf⟩ := choose_lt hcell
    refine ⟨_, (List.range len).map fun i => ((f i).1, (f i).2.1), rfl, ?_, ?_⟩
    · have key := VR.ro (M := M0) (A := R0) (w := w) false (.raises ((List.range len).map fun i => ((f i).1, (f i).2.1))) (some a) cap a.block a.off (fun i j => if j = 0 then .int .i64 (f i).1 else (f i).2.2)
        (by simp [Sq.len]; omega) (by simp [Sq.len]; omega) (fun h0 => ?_) (fun i j d hi hd => ?_) (fun i j d hi hd => ?_)
      · simpa [Sq.len] using key
      · simp [Sq.len] at h0
        have c0 := (hf 0 h0).1
        have hs := cell?_spot c0
        have : (a.add (0 * 2)) = a := by simp [Addr.add]
        rw [this] at hs c0
        exact ⟨by cases a; simp_all, cell?_lt c0, trivial⟩
      · simp [Sq.len] at hi
        obtain ⟨g1, g2, _⟩ := hf i hi
        have c0 := (hf 0 (by omega)).1
        have hs := cell?_spot c0
        have ha : a = ⟨a.block, a.off, none⟩ := by
          have : (a.add (0 * 2)) = a := by simp [Addr.add]
          rw [this] at hs; cases a; simp_all
        rw [ha, Addr.add_lit] at g1
        rw [ha, Addr.add_lit, Addr.add_lit] at g2
        rcases j with _ | _ | j <;> simp [Sq.elem] at hd
        · simpa [Sq.sz] using g1
        · simpa [Sq.sz] using g2
      · simp [Sq.len] at hi
        obtain ⟨_, _, g3, _⟩ := hf i hi
        rcases j with _ | _ | j <;> simp [Sq.elem, hi] at hd
        · subst hd; exact .int _
        · subst hd; exact g3
    · intro y hy
      obtain ⟨i, hi, rfl⟩ := List.mem_map.1 hy
      obtain ⟨_, _, g3, g4, g5⟩ := hf i (by simpa using hi)
      exact ⟨g4, g5, g3.lens⟩
end
variable (N : Nat)
abbrev BRaiseS (a : List (Int × List Int)) : Prop := B63 a.length ∧ ∀ x ∈ a, B63 x.2.length
def lnRaiseS (a : List (Int × List Int)) : Nat := a.length + (a.map fun x => x.2.length).sum
theorem sum_le_mem : ∀ (l : List Nat) (x : Nat), x ∈ l → x ≤ l.sum
  | y :: l, x, h => by
    rcases List.mem_cons.1 h with rfl | h
    · simp
    · have := sum_le_mem l x h; simp; omega
theorem lnRaiseS_in {a : List (Int × List Int)} {x : Int × List Int} (h : x ∈ a) : x.2.length ≤ lnRaiseS a := by
  have := sum_le_mem (a.map fun x => x.2.length) x.2.length (List.mem_map.2 ⟨x, h, rfl⟩)
  unfold lnRaiseS; omega
theorem szRaiseS_l {a : List (Int × List Int)} (ha : BRaiseS a) : ∀ (n i : Nat) (left : Int), i ≤ a.length → a.length < n + i → 0 ≤ left → left ≤ 1048576 → a.length ≤ 1048576 →
    L_szRaiseS_l1 N a (fun x => some x) n (left, (i : Int)) = some (szv left ((a.drop i).map fun x => x.2.length).sum) := by
  intro n
  induction n with
  | zero => intro i left h1 h2; omega
  | succ n ih =>
    intro i left h1 h2 h3 h4 h5
    rw [L_szRaiseS_l1]
    by_cases hi : i < a.length
    · have hg : a.getD i (0, []) = a[i] := by simp [hi]
      have hb : B63 (a[i]).2.length := ha.2 _ (List.getElem_mem hi)
      have e : ((i : Int)).toNat = i := by omega
      have gi : 0 ≤ (i : Int) ∧ (i : Int) < (a.length : Int) := by omega
      rw [cnd_dt (by omega), grd_pos gi, e, hg, szRaise_s N (a := ⟨(a[i]).1, (a[i]).2⟩) hb h3 h4, Option.bind_some, List.drop_eq_getElem_cons hi, List.map_cons, List.sum_cons]
      by_cases hl : left < ((a[i]).2.length : Int)
      · rw [szv_big (n := lnRaise _) hl, szv_big (n := _ + _) (by omega), cnd_dt (by omega)]
      · rw [szv_ok (n := lnRaise _) hl]
        have hl' : ¬ (left - ((lnRaise ⟨(a[i]).1, (a[i]).2⟩ : Nat) : Int)) < 0 := by show ¬ (left - ((a[i]).2.length : Int)) < 0; omega
        rw [cnd_df hl', grd_R (by omega) (by omega), succ_cast, ih (i + 1) _ (by omega) (by omega) (by omega) (by show left - ((a[i]).2.length : Int) ≤ 1048576; omega) h5]
        show some (szv (left - ((a[i]).2.length : Int)) _) = _
        unfold szv
        congr 1
        split <;> split <;> omega
    · rw [cnd_df (by omega)]
      obtain rfl : i = a.length := by omega
      rw [List.drop_length]
      show some left = some (szv left 0)
      rw [szv_ok (by omega)]; simp
theorem szRaiseS_s (hN : 4000000 ≤ N) {a : List (Int × List Int)} (ha : BRaiseS a) {left : Int} (h0 : 0 ≤ left) (h1 : left ≤ 1048576) : L_szRaiseS N a left = some (szv left (lnRaiseS a)) := by
  unfold L_szRaiseS lnRaiseS
  have hb := ha.1
  rw [grd_R (by omega) (by omega)]
  by_cases h : left < (a.length : Int)
  · rw [cnd_dt (by omega), szv_big (by omega)]
  · have := szRaiseS_l N ha N 0 (left - (a.length : Int)) (by omega) (by omega) (by omega) (by omega) (by omega)
    rw [cnd_df (by omega)]
    refine this.trans ?_
    rw [List.drop_zero]
    unfold szv
    congr 1
    split <;> split <;> omega
theorem set_raise (l : List (Int × List Int)) (i : Nat) (x : Int) (y : List Int) (h : i < l.length) : (l.set i (x, (l.getD i (0, [])).2)).set i (((l.set i (x, (l.getD i (0, [])).2)).getD i (0, [])).1, y) = l.set i (x, y) := by
  rw [List.set_set]
  congr 2
  simp [List.getD_eq_getElem?_getD, h]
theorem toRaiseS_l (hN : 4000000 ≤ N) {a : List (Int × List Int)} (ha : lnRaiseS a ≤ 1048576) (k : List (Int × List Int) → Option (List (Int × List Int))) : ∀ n i : Nat, i ≤ a.length → a.length < n + i → L_toRaiseS_l1 N a k n (cpy a (0, []) i, (i : Int)) = k a := by
  intro n
  have hal : a.length ≤ 1048576 := by unfold lnRaiseS at ha; omega
  induction n with
  | zero => intro i h1 h2; omega
  | succ n ih =>
    intro i h1 h2
    have hl := cpy_len a (0, []) i
    rw [L_toRaiseS_l1]
    by_cases hi : i < a.length
    · have hg : a.getD i (0, []) = a[i] := by simp [hi]
      have e : ((i : Int)).toNat = i := by omega
      have hb : (a[i]).2.length ≤ 1048576 := by have := lnRaiseS_in (List.getElem_mem hi); omega
      have gi : 0 ≤ (i : Int) ∧ (i : Int) < (a.length : Int) := by omega
      have gl : 0 ≤ (i : Int) ∧ (i : Int) < ((cpy a (0, []) i).length : Int) := by omega
      have gr : 0 ≤ (i : Int) ∧ (i : Int) < ((List.replicate (((a.length : Int)).toNat) ((0, []) : (Int × List Int))).length : Int) := by rw [List.length_replicate]; omega
      rw [cnd_dt (by omega), grd_pos gi, e, toRaise_s N hN (a := ⟨(a.getD i (0, [])).1, (a.getD i (0, [])).2⟩) (by rw [hg]; exact hb), Option.bind_some, grd_pos gr, grd_pos gl, grd_R (by omega) (by omega), succ_cast]
      show L_toRaiseS_l1 N a k n (((cpy a (0, []) i).set i ((a.getD i (0, [])).1, ((cpy a (0, []) i).getD i (0, [])).2)).set i ((((cpy a (0, []) i).set i ((a.getD i (0, [])).1, ((cpy a (0, []) i).getD i (0, [])).2)).getD i (0, [])).1, (a.getD i (0, [])).2), _) = _
      rw [set_raise _ _ _ _ (by omega), cpy_set a (0, []) (0, []) i hi rfl]
      exact ih (i + 1) (by omega) (by omega)
    · rw [cnd_df (by omega)]
      obtain rfl : i = a.length := by omega
      rw [cpy_full]
theorem toRaiseS_s (hN : 4000000 ≤ N) {a : List (Int × List Int)} (ha : lnRaiseS a ≤ 1048576) : L_toRaiseS N a = some a := by
  have hal : a.length ≤ 1048576 := by unfold lnRaiseS at ha; omega
  unfold L_toRaiseS
  have h := toRaiseS_l N hN ha (fun l9 => grd ((List.replicate (((a.length : Int)).toNat) ((0, []) : (Int × List Int))).length = l9.length) <| some l9) N 0 (by omega) (by omega)
  simp only [Int.toNat_natCast, cpy_zero] at h ⊢
  have g0 : 0 ≤ (a.length : Int) ∧ (a.length : Int) ≤ 4294967296 := by omega
  rw [grd_pos g0]
  refine h.trans ?_
  rw [grd_pos (by rw [cpy_len])]
theorem eqRaiseS_l (hN : 4000000 ≤ N) {a : List (Int × List Int)} (ha : lnRaiseS a ≤ 1048576) (k : Unit → Option Bool) : ∀ n i : Nat, i ≤ a.length → a.length < n + i → L_eqRaiseS_l1 N a a k n (i : Int) = k () := by
  intro n
  have hal : a.length ≤ 1048576 := by unfold lnRaiseS at ha; omega
  induction n with
  | zero => intro i h1 h2; omega
  | succ n ih =>
    intro i h1 h2
    rw [L_eqRaiseS_l1]
    by_cases hi : i < a.length
    · have hg : a.getD i (0, []) = a[i] := by simp [hi]
      have e : ((i : Int)).toNat = i := by omega
      have hb : (a[i]).2.length ≤ 1048576 := by have := lnRaiseS_in (List.getElem_mem hi); omega
      have gi : 0 ≤ (i : Int) ∧ (i : Int) < (a.length : Int) := by omega
      rw [cnd_dt (by omega), grd_pos gi, grd_pos gi, e, eqRaise_s N hN (a := ⟨(a.getD i (0, [])).1, (a.getD i (0, [])).2⟩) (by rw [hg]; exact hb), Option.bind_some, Bool.not_true, cnd_false, grd_R (by omega) (by omega), succ_cast]
      exact ih (i + 1) (by omega) (by omega)
    · rw [cnd_df (by omega)]
theorem eqRaiseS_s (hN : 4000000 ≤ N) {a : List (Int × List Int)} (ha : lnRaiseS a ≤ 1048576) : L_eqRaiseS N a a = some true := by
  have hal : a.length ≤ 1048576 := by unfold lnRaiseS at ha; omega
  unfold L_eqRaiseS
  rw [bne_self_eq_false, cnd_false]
  exact eqRaiseS_l N hN ha (fun _ => some true) N 0 (by omega) (by omega)
end Go.Proofs.Ytgindcgphnbnaaa

namespace Go.Proofs.Ytgindcgphnbnaaa
open Go.RowKit
set_option linter.unusedVariables false
set_option linter.unusedSimpArgs false
def S_RaisedPoints_l1 (N : Nat) (p_0 : Pin) (l_1 : List (Int × List Int)) (k : (List Int) → Option (List Int)) : Nat → ((List Int) × Int) → Option (List Int)
  | 0, _ => none
  | n + 1, (l11, i12) =>
    cnd (decide (i12 < (l_1.length : Int))) (
      grd (0 ≤ i12 ∧ i12 < (l_1.length : Int)) <|
      (S_IsRaise N p_0 l11 (⟨(l_1.getD ((i12).toNat) (0, [])).1, (l_1.getD ((i12).toNat) (0, [])).2⟩ : Rse)).bind fun v14 =>
      cnd (!v14) (
        some l11) (
        grd (l11.length + 1 ≤ 4294967296) <|
        grd (Rg64 (i12 + (1 : Int))) <|
        S_RaisedPoints_l1 N p_0 l_1 k n ((l11 ++ ([(l_1.getD ((i12).toNat) (0, [])).1] : List Int)), (i12 + (1 : Int))))) (
      k l11)
def S_RaisedPoints (N : Nat) (p_0 : Pin) (l_1 : List (Int × List Int)) : Option (List Int) :=
  S_RaisedPoints_l1 N p_0 l_1 (fun (l7 : List Int) =>
        some l7) N (([] : List Int), (0 : Int))
set_option maxRecDepth 20000 in
set_option maxHeartbeats 1600000 in
theorem S_RaisedPoints_w (N : Nat) (p_0 : Pin) (l_1 : List (Int × List Int)) (r : List Int) (h : S_RaisedPoints N p_0 l_1 = some r) : PCall Try.prog 73 [pD p_0, .ro false (.raises l_1)] [(3, .ints r)] (.row 0 0 r.length) := by
  unfold S_RaisedPoints at h
  refine pcall_intro (TT := TT) tt Try.func73 rfl rfl Try.ntmps73 (congrArg Array.toList Try.results73) rfl rfl fun w0 => ?_
  refine vSeq ?_
  refine vRegion ?_
  refine oBox rfl rfl rfl rfl rfl rfl rfl rfl rfl ?_
  refine oVal tt rfl rfl rfl rfl rfl trivial ?_
  refine vNil ?_
  change VC _ _ _ _
  refine vSeq ?_
  refine vRegion ?_
  refine oEmpty tt (wNone rfl) rfl rfl rfl rfl ?_
  refine oVal tt rfl rfl rfl rfl rfl trivial ?_
  refine vNil ?_
  change VC _ _ _ _
  iterate 2 refine vSeq ?_
  refine vRegion ?_
  refine oVal tt rfl rfl rfl rfl rfl trivial ?_
  refine vNil ?_
  change VC _ _ _ _
  refine vJoin (F := fun k => S_RaisedPoints_l1 N p_0 l_1 k) h (α := List Int) (J := fun (l7 : List Int) => (⟨[(5, .row 30 0 l7.length)], [(30, some (3, .ints l7))], []⟩ : PS)) ?_ ?_
  · rintro l7 h
    show VC _ _ _ (⟨[(5, .row 30 0 l7.length)], [(30, some (3, .ints l7))], []⟩ : PS)
    refine vSeq ?_
    refine vRegion ?_
    iterate 2 refine oVal tt rfl rfl rfl rfl rfl trivial ?_
    refine vNil ?_
    change VC _ _ _ _
    refine vRet ?_
    change ∃ _, _
    cases h
    exact ⟨[30], _, rfl, ⟨rfl, trivial⟩, rfl, (.eq rfl), rfl⟩
  · intro k h
    refine vBlock ?_
    refine vNilT 5 30 3 (.ints []) rfl rfl rfl rfl ?_
    refine vLoopS (α := (List Int) × Int) (fun | (l11, i12) => (⟨[(1, .ro false (.raises l_1)), (2, .ptr 2 0), (5, .row 30 0 l11.length), (6, .int i12)], [(30, some (3, .ints l11))], [(2, some [.int p_0.g.n, .ro false (.pairs p_0.g.bars), .ro false (.ints p_0.ground)])]⟩ : PS)) (S_RaisedPoints_l1 N p_0 l_1 k) h (En.of ⟨rfl, rfl, rfl, rfl, trivial⟩ ⟨rfl, trivial⟩ ⟨rfl, trivial⟩) (fun _ => rfl) ?_
    rintro n ⟨l11, i12⟩ h
    rw [S_RaisedPoints_l1] at h
    show VC _ _ _ (⟨[(1, .ro false (.raises l_1)), (2, .ptr 2 0), (5, .row 30 0 l11.length), (6, .int i12)], [(30, some (3, .ints l11))], [(2, some [.int p_0.g.n, .ro false (.pairs p_0.g.bars), .ro false (.ints p_0.ground)])]⟩ : PS)
    iterate 2 refine vSeq ?_
    refine vRegion ?_
    iterate 4 refine oVal tt rfl rfl rfl rfl rfl trivial ?_
    refine vNil ?_
    change VC _ _ _ _
    refine vCond rfl (fun hb1 => ?_) (fun hb1 => ?_)
    · replace h := cnd_t hb1 h
      refine vSkip ?_
      change VC _ _ _ _
      refine vSeq ?_
      refine vBlock ?_
      iterate 2 refine vSeq ?_
      refine vRegionD (by kernel_rfl) (by kernel_rfl) ?_
      iterate 4 refine cVal tt rfl (wNone rfl) rfl rfl rfl trivial ?_
      obtain ⟨hg2, h⟩ := grd_inv h
      refine cVal tt rfl (wNone rfl) rfl rfl rfl hg2 ?_
      refine cVal tt rfl (wNone rfl) rfl rfl rfl trivial ?_
      obtain ⟨v14, hc3, h⟩ := bind_inv h
      refine cCall (S_IsRaise_w N p_0 l11 (⟨(l_1.getD ((i12).toNat) (0, [])).1, (l_1.getD ((i12).toNat) (0, [])).2⟩ : Rse) v14 hc3) rfl (wNone rfl) rfl rfl rfl rfl rfl rfl ⟨⟨rfl, rfl, rfl, trivial⟩, (.inl ⟨rfl, rfl⟩), ⟨rfl, rfl, trivial⟩, trivial⟩ ?_
      refine cVal tt rfl (wNone rfl) rfl rfl rfl trivial ?_
      refine cNil ?_
      change VC _ _ _ _
      refine vCond rfl (fun hb4 => ?_) (fun hb4 => ?_)
      · replace h := cnd_t hb4 h
        refine vSeq ?_
        refine vRegion ?_
        iterate 2 refine oVal tt rfl rfl rfl rfl rfl trivial ?_
        refine vNil ?_
        change VC _ _ _ _
        refine vRet ?_
        change ∃ _, _
        cases h
        exact ⟨[30], _, rfl, ⟨rfl, trivial⟩, rfl, (.eq rfl), rfl⟩
      · replace h := cnd_f hb4 h
        refine vSkip ?_
        change VC _ _ _ _
        refine vRegion ?_
        iterate 3 refine oVal tt rfl rfl rfl rfl rfl trivial ?_
        refine oVal tt rfl rfl rfl rfl rfl hg2 ?_
        iterate 2 refine oVal tt rfl rfl rfl rfl rfl trivial ?_
        refine oBuild tt rfl rfl rfl rfl rfl rfl rfl rfl rfl rfl rfl ?_
        obtain ⟨hg5, h⟩ := grd_inv h
        refine oAppend tt rfl rfl rfl rfl rfl rfl rfl rfl rfl rfl rfl rfl rfl rfl rfl rfl (Nat.le_of_eq (Nat.zero_add _)) hg5 ?_
        refine oVal tt rfl rfl rfl rfl rfl trivial ?_
        refine vNil ?_
        change VC _ _ _ _
        refine vRegion ?_
        refine oVal tt rfl rfl rfl rfl rfl trivial ?_
        obtain ⟨hg6, h⟩ := grd_inv h
        refine oVal tt rfl rfl rfl rfl rfl hg6 ?_
        refine oVal tt rfl rfl rfl rfl rfl trivial ?_
        refine vNil ?_
        change ∃ _, _
        exact ⟨((l11 ++ ([(l_1.getD ((i12).toNat) (0, [])).1] : List Int)), (i12 + (1 : Int))), (En.of ⟨rfl, rfl, rfl, rfl, trivial⟩ ⟨rfl, trivial⟩ ⟨rfl, trivial⟩), h⟩
    · replace h := cnd_f hb1 h
      refine vExit ?_
      change ∃ _, _
      exact ⟨l11, (En.of ⟨rfl, trivial⟩ ⟨rfl, trivial⟩ trivial), h⟩
def S_IsRaising_l1 (N : Nat) (l_1 : List (Int × List Int)) (k : Int → Option (Bool)) : Nat → (Int × Int) → Option (Bool)
  | 0, _ => none
  | n + 1, (bars8, i9) =>
    cnd (decide (i9 < (l_1.length : Int))) (
      grd (0 ≤ i9 ∧ i9 < (l_1.length : Int)) <|
      grd (Rg64 (bars8 + (((l_1.getD ((i9).toNat) (0, [])).2).length : Int))) <|
      grd (Rg64 (i9 + (1 : Int))) <|
      S_IsRaising_l1 N l_1 k n ((bars8 + (((l_1.getD ((i9).toNat) (0, [])).2).length : Int)), (i9 + (1 : Int)))) (
      k bars8)
def S_IsRaising (N : Nat) (p_0 : Pin) (l_1 : List (Int × List Int)) : Option (Bool) :=
  S_IsRaising_l1 N l_1 (fun (bars3 : Int) =>
        (S_IsPinned N p_0).bind fun v4 =>
        cnd v4 (
          (S_RaisedPoints N p_0 l_1).bind fun v5 =>
          cnd ((v5.length : Int) == (l_1.length : Int)) (
            (S_InnerPoints N p_0).bind fun v6 =>
            cnd ((l_1.length : Int) == (v6.length : Int)) (
              some (bars3 == (p_0.g.bars.length : Int))) (
              some false)) (
            some false)) (
          some false)) N ((0 : Int), (0 : Int))
set_option maxRecDepth 20000 in
set_option maxHeartbeats 1600000 in
theorem S_IsRaising_w (N : Nat) (p_0 : Pin) (l_1 : List (Int × List Int)) (r : Bool) (h : S_IsRaising N p_0 l_1 = some r) : PCall Try.prog 27 [pD p_0, .ro false (.raises l_1)] [] (.bool r) := by
  unfold S_IsRaising at h
  refine pcall_intro (TT := TT) tt Try.func27 rfl rfl Try.ntmps27 (congrArg Array.toList Try.results27) rfl rfl fun w0 => ?_
  refine vSeq ?_
  refine vRegion ?_
  refine oBox rfl rfl rfl rfl rfl rfl rfl rfl rfl ?_
  refine oVal tt rfl rfl rfl rfl rfl trivial ?_
  refine vNil ?_
  change VC _ _ _ _
  refine vSeq ?_
  refine vRegion ?_
  refine oVal tt rfl rfl rfl rfl rfl trivial ?_
  refine vNil ?_
  change VC _ _ _ _
  iterate 2 refine vSeq ?_
  refine vRegion ?_
  refine oVal tt rfl rfl rfl rfl rfl trivial ?_
  refine vNil ?_
  change VC _ _ _ _
  refine vJoin (F := fun k => S_IsRaising_l1 N l_1 k) h (α := Int) (J := fun (bars3 : Int) => (⟨[(1, .ro false (.raises l_1)), (2, .ptr 2 0), (5, .int bars3)], [], [(2, some [.int p_0.g.n, .ro false (.pairs p_0.g.bars), .ro false (.ints p_0.ground)])]⟩ : PS)) ?_ ?_
  · rintro bars3 h
    show VC _ _ _ (⟨[(1, .ro false (.raises l_1)), (2, .ptr 2 0), (5, .int bars3)], [], [(2, some [.int p_0.g.n, .ro false (.pairs p_0.g.bars), .ro false (.ints p_0.ground)])]⟩ : PS)
    refine vSeq ?_
    refine vRegion ?_
    refine oVal tt rfl rfl rfl rfl rfl trivial ?_
    obtain ⟨v4, hc1, h⟩ := bind_inv h
    refine oCall (S_IsPinned_w N p_0 v4 hc1) rfl rfl rfl rfl rfl rfl rfl rfl ⟨⟨rfl, rfl, rfl, trivial⟩, trivial⟩ ?_
    refine oVal tt rfl rfl rfl rfl rfl trivial ?_
    refine oSplit rfl rfl rfl (fun hb2 => ?_) (fun hb2 => ?_)
    · replace h := cnd_t hb2 h
      iterate 2 refine oValG tt rfl rfl rfl rfl rfl hb2 rfl rfl rfl trivial ?_
      obtain ⟨v5, hc3, h⟩ := bind_inv h
      refine oCallG (S_RaisedPoints_w N p_0 l_1 v5 hc3) rfl rfl rfl rfl hb2 rfl rfl rfl rfl rfl rfl rfl ⟨⟨rfl, rfl, rfl, trivial⟩, rfl, trivial⟩ ?_
      iterate 4 refine oValG tt rfl rfl rfl rfl rfl hb2 rfl rfl rfl trivial ?_
      refine oPick rfl rfl rfl rfl rfl hb2 rfl ?_
      refine oVal tt rfl rfl rfl rfl rfl trivial ?_
      refine oSplit rfl rfl rfl (fun hb4 => ?_) (fun hb4 => ?_)
      · replace h := cnd_t hb4 h
        iterate 3 refine oValG tt rfl rfl rfl rfl rfl hb4 rfl rfl rfl trivial ?_
        obtain ⟨v6, hc5, h⟩ := bind_inv h
        refine oCallG (S_InnerPoints_w N p_0 v6 hc5) rfl rfl rfl rfl hb4 rfl rfl rfl rfl rfl rfl rfl ⟨⟨rfl, rfl, rfl, trivial⟩, trivial⟩ ?_
        iterate 2 refine oValG tt rfl rfl rfl rfl rfl hb4 rfl rfl rfl trivial ?_
        refine oPick rfl rfl rfl rfl rfl hb4 rfl ?_
        refine oVal tt rfl rfl rfl rfl rfl trivial ?_
        refine oSplit rfl rfl rfl (fun hb6 => ?_) (fun hb6 => ?_)
        · replace h := cnd_t hb6 h
          iterate 6 refine oValG tt rfl rfl rfl rfl rfl hb6 rfl rfl rfl trivial ?_
          refine oPick rfl rfl rfl rfl rfl hb6 rfl ?_
          refine oVal tt rfl rfl rfl rfl rfl trivial ?_
          refine vNil ?_
          change VC _ _ _ _
          refine vRet ?_
          change ∃ _, _
          cases h
          exact ⟨[], _, rfl, trivial, rfl, (.eq rfl), rfl⟩
        · replace h := cnd_f hb6 h
          iterate 6 refine oNoT rfl rfl rfl rfl hb6 rfl rfl ?_
          refine oPickF rfl rfl rfl rfl rfl hb6 rfl ?_
          refine oVal tt rfl rfl rfl rfl rfl trivial ?_
          refine vNil ?_
          change VC _ _ _ _
          refine vRet ?_
          change ∃ _, _
          cases h
          exact ⟨[], _, rfl, trivial, rfl, (.eq rfl), rfl⟩
      · replace h := cnd_f hb4 h
        iterate 6 refine oNoT rfl rfl rfl rfl hb4 rfl rfl ?_
        refine oPickF rfl rfl rfl rfl rfl hb4 rfl ?_
        refine oVal tt rfl rfl rfl rfl rfl trivial ?_
        iterate 6 refine oNoT rfl rfl rfl rfl rfl rfl rfl ?_
        refine oPickF rfl rfl rfl rfl rfl rfl rfl ?_
        refine oVal tt rfl rfl rfl rfl rfl trivial ?_
        refine vNil ?_
        change VC _ _ _ _
        refine vRet ?_
        change ∃ _, _
        cases h
        exact ⟨[], _, rfl, trivial, rfl, (.eq rfl), rfl⟩
    · replace h := cnd_f hb2 h
      iterate 7 refine oNoT rfl rfl rfl rfl hb2 rfl rfl ?_
      refine oPickF rfl rfl rfl rfl rfl hb2 rfl ?_
      refine oVal tt rfl rfl rfl rfl rfl trivial ?_
      iterate 6 refine oNoT rfl rfl rfl rfl rfl rfl rfl ?_
      refine oPickF rfl rfl rfl rfl rfl rfl rfl ?_
      refine oVal tt rfl rfl rfl rfl rfl trivial ?_
      iterate 6 refine oNoT rfl rfl rfl rfl rfl rfl rfl ?_
      refine oPickF rfl rfl rfl rfl rfl rfl rfl ?_
      refine oVal tt rfl rfl rfl rfl rfl trivial ?_
      refine vNil ?_
      change VC _ _ _ _
      refine vRet ?_
      change ∃ _, _
      cases h
      exact ⟨[], _, rfl, trivial, rfl, (.eq rfl), rfl⟩
  · intro k h
    refine vBlock ?_
    refine vLoopS (α := Int × Int) (fun | (bars8, i9) => (⟨[(1, .ro false (.raises l_1)), (2, .ptr 2 0), (5, .int bars8), (6, .int i9)], [], [(2, some [.int p_0.g.n, .ro false (.pairs p_0.g.bars), .ro false (.ints p_0.ground)])]⟩ : PS)) (S_IsRaising_l1 N l_1 k) h (En.of ⟨rfl, rfl, rfl, rfl, trivial⟩ trivial ⟨rfl, trivial⟩) (fun _ => rfl) ?_
    rintro n ⟨bars8, i9⟩ h
    rw [S_IsRaising_l1] at h
    show VC _ _ _ (⟨[(1, .ro false (.raises l_1)), (2, .ptr 2 0), (5, .int bars8), (6, .int i9)], [], [(2, some [.int p_0.g.n, .ro false (.pairs p_0.g.bars), .ro false (.ints p_0.ground)])]⟩ : PS)
    iterate 2 refine vSeq ?_
    refine vRegion ?_
    iterate 4 refine oVal tt rfl rfl rfl rfl rfl trivial ?_
    refine vNil ?_
    change VC _ _ _ _
    refine vCond rfl (fun hb7 => ?_) (fun hb7 => ?_)
    · replace h := cnd_t hb7 h
      refine vSkip ?_
      change VC _ _ _ _
      refine vSeq ?_
      refine vBlock ?_
      refine vRegion ?_
      iterate 3 refine oVal tt rfl rfl rfl rfl rfl trivial ?_
      obtain ⟨hg8, h⟩ := grd_inv h
      refine oVal tt rfl rfl rfl rfl rfl hg8 ?_
      iterate 3 refine oVal tt rfl rfl rfl rfl rfl trivial ?_
      obtain ⟨hg9, h⟩ := grd_inv h
      refine oVal tt rfl rfl rfl rfl rfl hg9 ?_
      refine oVal tt rfl rfl rfl rfl rfl trivial ?_
      refine vNil ?_
      change VC _ _ _ _
      refine vRegion ?_
      refine oVal tt rfl rfl rfl rfl rfl trivial ?_
      obtain ⟨hg10, h⟩ := grd_inv h
      refine oVal tt rfl rfl rfl rfl rfl hg10 ?_
      refine oVal tt rfl rfl rfl rfl rfl trivial ?_
      refine vNil ?_
      change ∃ _, _
      exact ⟨((bars8 + (((l_1.getD ((i9).toNat) (0, [])).2).length : Int)), (i9 + (1 : Int))), (En.of ⟨rfl, rfl, rfl, rfl, trivial⟩ trivial ⟨rfl, trivial⟩), h⟩
    · replace h := cnd_f hb7 h
      refine vExit ?_
      change ∃ _, _
      exact ⟨bars8, (En.of ⟨rfl, rfl, rfl, trivial⟩ trivial ⟨rfl, trivial⟩), h⟩
def I_RaisedPoints_l1 (N : Nat) (p_0 : Pin) (l_1 : List (Int × List Int)) (k : (List Int) → Option (List Int)) : Nat → ((List Int) × Int) → Option (List Int)
  | 0, _ => none
  | n + 1, (l11, x12) =>
    cnd (decide (x12 < (l_1.length : Int))) (
      grd (0 ≤ x12 ∧ x12 < (l_1.length : Int)) <|
      (I_IsRaise N p_0 l11 (⟨(l_1.getD ((x12).toNat) (0, [])).1, (l_1.getD ((x12).toNat) (0, [])).2⟩ : Rse)).bind fun v14 =>
      cnd (!v14) (
        k l11) (
        grd (l11.length + 1 ≤ 4294967296) <|
        grd (Rg64 (x12 + (1 : Int))) <|
        I_RaisedPoints_l1 N p_0 l_1 k n ((l11 ++ ([(l_1.getD ((x12).toNat) (0, [])).1] : List Int)), (x12 + (1 : Int))))) (
      k l11)
def I_RaisedPoints (N : Nat) (p_0 : Pin) (l_1 : List (Int × List Int)) : Option (List Int) :=
  I_RaisedPoints_l1 N p_0 l_1 (fun (l7 : List Int) =>
        some l7) N (([] : List Int), (0 : Int))
set_option maxRecDepth 20000 in
set_option maxHeartbeats 1600000 in
theorem I_RaisedPoints_w (N : Nat) (p_0 : Pin) (l_1 : List (Int × List Int)) (r : List Int) (h : I_RaisedPoints N p_0 l_1 = some r) : PCall Try.prog 77 [pD p_0, .ro false (.raises l_1)] [(3, .ints r)] (.row 0 0 r.length) := by
  unfold I_RaisedPoints at h
  refine pcall_intro (TT := TT) tt Try.func77 rfl rfl Try.ntmps77 (congrArg Array.toList Try.results77) rfl rfl fun w0 => ?_
  refine vSeq ?_
  refine vRegion ?_
  refine oBox rfl rfl rfl rfl rfl rfl rfl rfl rfl ?_
  refine oVal tt rfl rfl rfl rfl rfl trivial ?_
  refine vNil ?_
  change VC _ _ _ _
  refine vSeq ?_
  refine vRegion ?_
  refine oEmpty tt (wNone rfl) rfl rfl rfl rfl ?_
  refine oVal tt rfl rfl rfl rfl rfl trivial ?_
  refine vNil ?_
  change VC _ _ _ _
  iterate 2 refine vSeq ?_
  refine vRegion ?_
  iterate 3 refine oVal tt rfl rfl rfl rfl rfl trivial ?_
  refine vNil ?_
  change VC _ _ _ _
  refine vJoin (F := fun k => I_RaisedPoints_l1 N p_0 l_1 k) h (α := List Int) (J := fun (l7 : List Int) => (⟨[(5, .row 24 0 l7.length)], [(24, some (3, .ints l7))], []⟩ : PS)) ?_ ?_
  · rintro l7 h
    show VC _ _ _ (⟨[(5, .row 24 0 l7.length)], [(24, some (3, .ints l7))], []⟩ : PS)
    refine vSeq ?_
    refine vRegion ?_
    iterate 2 refine oVal tt rfl rfl rfl rfl rfl trivial ?_
    refine vNil ?_
    change VC _ _ _ _
    refine vRet ?_
    change ∃ _, _
    cases h
    exact ⟨[24], _, rfl, ⟨rfl, trivial⟩, rfl, (.eq rfl), rfl⟩
  · intro k h
    refine vBlock ?_
    refine vNilT 5 24 3 (.ints []) rfl rfl rfl rfl ?_
    refine vLoopS (α := (List Int) × Int) (fun | (l11, x12) => (⟨[(2, .ptr 2 0), (5, .row 24 0 l11.length), (9, .ro false (.raises l_1)), (10, .int (l_1.length : Int)), (11, .int x12)], [(24, some (3, .ints l11))], [(2, some [.int p_0.g.n, .ro false (.pairs p_0.g.bars), .ro false (.ints p_0.ground)])]⟩ : PS)) (I_RaisedPoints_l1 N p_0 l_1 k) h (En.of ⟨rfl, rfl, rfl, rfl, rfl, trivial⟩ ⟨rfl, trivial⟩ ⟨rfl, trivial⟩) (fun _ => rfl) ?_
    rintro n ⟨l11, x12⟩ h
    rw [I_RaisedPoints_l1] at h
    show VC _ _ _ (⟨[(2, .ptr 2 0), (5, .row 24 0 l11.length), (9, .ro false (.raises l_1)), (10, .int (l_1.length : Int)), (11, .int x12)], [(24, some (3, .ints l11))], [(2, some [.int p_0.g.n, .ro false (.pairs p_0.g.bars), .ro false (.ints p_0.ground)])]⟩ : PS)
    refine vSeq ?_
    refine vRegion ?_
    refine oVal tt rfl rfl rfl rfl rfl trivial ?_
    refine vNil ?_
    change VC _ _ _ _
    refine vSeq ?_
    refine vCond rfl (fun hb1 => ?_) (fun hb1 => ?_)
    · replace h := cnd_t hb1 h
      refine vSkip ?_
      change VC _ _ _ _
      refine vSeq ?_
      refine vBlock ?_
      refine vSeq ?_
      refine vRegion ?_
      obtain ⟨hg2, h⟩ := grd_inv h
      refine oVal tt rfl rfl rfl rfl rfl hg2 ?_
      refine oVal tt rfl rfl rfl rfl rfl trivial ?_
      refine oAlloc tt rfl rfl rfl rfl rfl rfl rfl rfl rfl ?_
      refine oStore tt rfl rfl rfl rfl rfl rfl rfl rfl rfl rfl rfl ⟨trivial, trivial, trivial⟩ ?_
      refine vNil ?_
      change VC _ _ _ _
      iterate 2 refine vSeq ?_
      refine vRegion ?_
      iterate 3 refine oVal tt rfl rfl rfl rfl rfl trivial ?_
      obtain ⟨v14, hc3, h⟩ := bind_inv h
      refine oCall (I_IsRaise_w N p_0 l11 (⟨(l_1.getD ((x12).toNat) (0, [])).1, (l_1.getD ((x12).toNat) (0, [])).2⟩ : Rse) v14 hc3) rfl rfl rfl rfl rfl rfl rfl rfl ⟨⟨rfl, rfl, rfl, trivial⟩, (.inl ⟨rfl, rfl⟩), ⟨rfl, rfl, trivial⟩, trivial⟩ ?_
      refine oVal tt rfl rfl rfl rfl rfl trivial ?_
      refine vNil ?_
      change VC _ _ _ _
      refine vCond rfl (fun hb4 => ?_) (fun hb4 => ?_)
      · replace h := cnd_t hb4 h
        refine vExit ?_
        change ∃ _, _
        exact ⟨l11, (En.of ⟨rfl, trivial⟩ ⟨rfl, trivial⟩ trivial), h⟩
      · replace h := cnd_f hb4 h
        refine vSkip ?_
        change VC _ _ _ _
        refine vRegion ?_
        iterate 3 refine oVal tt rfl rfl rfl rfl rfl trivial ?_
        refine oBuild tt rfl rfl rfl rfl rfl rfl rfl rfl rfl rfl rfl ?_
        obtain ⟨hg5, h⟩ := grd_inv h
        refine oAppend tt rfl rfl rfl rfl rfl rfl rfl rfl rfl rfl rfl rfl rfl rfl rfl rfl (Nat.le_of_eq (Nat.zero_add _)) hg5 ?_
        refine oVal tt rfl rfl rfl rfl rfl trivial ?_
        refine vNil ?_
        change VC _ _ _ _
        refine vRegion ?_
        obtain ⟨hg6, h⟩ := grd_inv h
        refine oVal tt rfl rfl rfl rfl rfl hg6 ?_
        refine oVal tt rfl rfl rfl rfl rfl trivial ?_
        refine vNil ?_
        change ∃ _, _
        exact ⟨((l11 ++ ([(l_1.getD ((x12).toNat) (0, [])).1] : List Int)), (x12 + (1 : Int))), (En.of ⟨rfl, rfl, rfl, rfl, rfl, trivial⟩ ⟨rfl, trivial⟩ ⟨rfl, trivial⟩), h⟩
    · replace h := cnd_f hb1 h
      refine vExit ?_
      change ∃ _, _
      exact ⟨l11, (En.of ⟨rfl, trivial⟩ ⟨rfl, trivial⟩ trivial), h⟩
def I_IsRaising_l1 (N : Nat) (l_1 : List (Int × List Int)) (k : Int → Option (Bool)) : Nat → (Int × Int) → Option (Bool)
  | 0, _ => none
  | n + 1, (bars8, x9) =>
    cnd (decide (x9 < (l_1.length : Int))) (
      grd (0 ≤ x9 ∧ x9 < (l_1.length : Int)) <|
      grd (Rg64 (bars8 + (((l_1.getD ((x9).toNat) (0, [])).2).length : Int))) <|
      grd (Rg64 (x9 + (1 : Int))) <|
      I_IsRaising_l1 N l_1 k n ((bars8 + (((l_1.getD ((x9).toNat) (0, [])).2).length : Int)), (x9 + (1 : Int)))) (
      k bars8)
def I_IsRaising (N : Nat) (p_0 : Pin) (l_1 : List (Int × List Int)) : Option (Bool) :=
  I_IsRaising_l1 N l_1 (fun (bars3 : Int) =>
        (I_RaisedPoints N p_0 l_1).bind fun v4 =>
        (I_IsPinned N p_0).bind fun v5 =>
        cnd v5 (
          cnd ((v4.length : Int) == (l_1.length : Int)) (
            (I_InnerPoints N p_0).bind fun v6 =>
            cnd ((v4.length : Int) == (v6.length : Int)) (
              some (bars3 == (p_0.g.bars.length : Int))) (
              some false)) (
            some false)) (
          some false)) N ((0 : Int), (0 : Int))
set_option maxRecDepth 20000 in
set_option maxHeartbeats 1600000 in
theorem I_IsRaising_w (N : Nat) (p_0 : Pin) (l_1 : List (Int × List Int)) (r : Bool) (h : I_IsRaising N p_0 l_1 = some r) : PCall Try.prog 30 [pD p_0, .ro false (.raises l_1)] [] (.bool r) := by
  unfold I_IsRaising at h
  refine pcall_intro (TT := TT) tt Try.func30 rfl rfl Try.ntmps30 (congrArg Array.toList Try.results30) rfl rfl fun w0 => ?_
  refine vSeq ?_
  refine vRegion ?_
  refine oBox rfl rfl rfl rfl rfl rfl rfl rfl rfl ?_
  refine oVal tt rfl rfl rfl rfl rfl trivial ?_
  refine vNil ?_
  change VC _ _ _ _
  refine vSeq ?_
  refine vRegion ?_
  refine oVal tt rfl rfl rfl rfl rfl trivial ?_
  refine vNil ?_
  change VC _ _ _ _
  iterate 2 refine vSeq ?_
  refine vRegion ?_
  iterate 3 refine oVal tt rfl rfl rfl rfl rfl trivial ?_
  refine vNil ?_
  change VC _ _ _ _
  refine vJoin (F := fun k => I_IsRaising_l1 N l_1 k) h (α := Int) (J := fun (bars3 : Int) => (⟨[(1, .ro false (.raises l_1)), (2, .ptr 2 0), (5, .int bars3)], [], [(2, some [.int p_0.g.n, .ro false (.pairs p_0.g.bars), .ro false (.ints p_0.ground)])]⟩ : PS)) ?_ ?_
  · rintro bars3 h
    show VC _ _ _ (⟨[(1, .ro false (.raises l_1)), (2, .ptr 2 0), (5, .int bars3)], [], [(2, some [.int p_0.g.n, .ro false (.pairs p_0.g.bars), .ro false (.ints p_0.ground)])]⟩ : PS)
    refine vSeq ?_
    refine vRegion ?_
    iterate 2 refine oVal tt rfl rfl rfl rfl rfl trivial ?_
    obtain ⟨v4, hc1, h⟩ := bind_inv h
    refine oCall (I_RaisedPoints_w N p_0 l_1 v4 hc1) rfl rfl rfl rfl rfl rfl rfl rfl ⟨⟨rfl, rfl, rfl, trivial⟩, rfl, trivial⟩ ?_
    iterate 2 refine oVal tt rfl rfl rfl rfl rfl trivial ?_
    refine vNil ?_
    change VC _ _ _ _
    refine vSeq ?_
    refine vRegion ?_
    refine oVal tt rfl rfl rfl rfl rfl trivial ?_
    obtain ⟨v5, hc2, h⟩ := bind_inv h
    refine oCall (I_IsPinned_w N p_0 v5 hc2) rfl rfl rfl rfl rfl rfl rfl rfl ⟨⟨rfl, rfl, rfl, trivial⟩, trivial⟩ ?_
    refine oVal tt rfl rfl rfl rfl rfl trivial ?_
    refine oSplit rfl rfl rfl (fun hb3 => ?_) (fun hb3 => ?_)
    · replace h := cnd_t hb3 h
      iterate 4 refine oValG tt rfl rfl rfl rfl rfl hb3 rfl rfl rfl trivial ?_
      refine oPick rfl rfl rfl rfl rfl hb3 rfl ?_
      refine oVal tt rfl rfl rfl rfl rfl trivial ?_
      refine oSplit rfl rfl rfl (fun hb4 => ?_) (fun hb4 => ?_)
      · replace h := cnd_t hb4 h
        iterate 2 refine oValG tt rfl rfl rfl rfl rfl hb4 rfl rfl rfl trivial ?_
        obtain ⟨v6, hc5, h⟩ := bind_inv h
        refine oCallG (I_InnerPoints_w N p_0 v6 hc5) rfl rfl rfl rfl hb4 rfl rfl rfl rfl rfl rfl rfl ⟨⟨rfl, rfl, rfl, trivial⟩, trivial⟩ ?_
        iterate 2 refine oValG tt rfl rfl rfl rfl rfl hb4 rfl rfl rfl trivial ?_
        refine oPick rfl rfl rfl rfl rfl hb4 rfl ?_
        refine oVal tt rfl rfl rfl rfl rfl trivial ?_
        refine oSplit rfl rfl rfl (fun hb6 => ?_) (fun hb6 => ?_)
        · replace h := cnd_t hb6 h
          iterate 6 refine oValG tt rfl rfl rfl rfl rfl hb6 rfl rfl rfl trivial ?_
          refine oPick rfl rfl rfl rfl rfl hb6 rfl ?_
          refine oVal tt rfl rfl rfl rfl rfl trivial ?_
          refine vNil ?_
          change VC _ _ _ _
          refine vRet ?_
          change ∃ _, _
          cases h
          exact ⟨[], _, rfl, trivial, rfl, (.eq rfl), rfl⟩
        · replace h := cnd_f hb6 h
          iterate 6 refine oNoT rfl rfl rfl rfl hb6 rfl rfl ?_
          refine oPickF rfl rfl rfl rfl rfl hb6 rfl ?_
          refine oVal tt rfl rfl rfl rfl rfl trivial ?_
          refine vNil ?_
          change VC _ _ _ _
          refine vRet ?_
          change ∃ _, _
          cases h
          exact ⟨[], _, rfl, trivial, rfl, (.eq rfl), rfl⟩
      · replace h := cnd_f hb4 h
        iterate 5 refine oNoT rfl rfl rfl rfl hb4 rfl rfl ?_
        refine oPickF rfl rfl rfl rfl rfl hb4 rfl ?_
        refine oVal tt rfl rfl rfl rfl rfl trivial ?_
        iterate 6 refine oNoT rfl rfl rfl rfl rfl rfl rfl ?_
        refine oPickF rfl rfl rfl rfl rfl rfl rfl ?_
        refine oVal tt rfl rfl rfl rfl rfl trivial ?_
        refine vNil ?_
        change VC _ _ _ _
        refine vRet ?_
        change ∃ _, _
        cases h
        exact ⟨[], _, rfl, trivial, rfl, (.eq rfl), rfl⟩
    · replace h := cnd_f hb3 h
      iterate 4 refine oNoT rfl rfl rfl rfl hb3 rfl rfl ?_
      refine oPickF rfl rfl rfl rfl rfl hb3 rfl ?_
      refine oVal tt rfl rfl rfl rfl rfl trivial ?_
      iterate 5 refine oNoT rfl rfl rfl rfl rfl rfl rfl ?_
      refine oPickF rfl rfl rfl rfl rfl rfl rfl ?_
      refine oVal tt rfl rfl rfl rfl rfl trivial ?_
      iterate 6 refine oNoT rfl rfl rfl rfl rfl rfl rfl ?_
      refine oPickF rfl rfl rfl rfl rfl rfl rfl ?_
      refine oVal tt rfl rfl rfl rfl rfl trivial ?_
      refine vNil ?_
      change VC _ _ _ _
      refine vRet ?_
      change ∃ _, _
      cases h
      exact ⟨[], _, rfl, trivial, rfl, (.eq rfl), rfl⟩
  · intro k h
    refine vBlock ?_
    refine vLoopS (α := Int × Int) (fun | (bars8, x9) => (⟨[(1, .ro false (.raises l_1)), (2, .ptr 2 0), (5, .int bars8), (9, .ro false (.raises l_1)), (10, .int (l_1.length : Int)), (11, .int x9)], [], [(2, some [.int p_0.g.n, .ro false (.pairs p_0.g.bars), .ro false (.ints p_0.ground)])]⟩ : PS)) (I_IsRaising_l1 N l_1 k) h (En.of ⟨rfl, rfl, rfl, rfl, rfl, rfl, trivial⟩ trivial ⟨rfl, trivial⟩) (fun _ => rfl) ?_
    rintro n ⟨bars8, x9⟩ h
    rw [I_IsRaising_l1] at h
    show VC _ _ _ (⟨[(1, .ro false (.raises l_1)), (2, .ptr 2 0), (5, .int bars8), (9, .ro false (.raises l_1)), (10, .int (l_1.length : Int)), (11, .int x9)], [], [(2, some [.int p_0.g.n, .ro false (.pairs p_0.g.bars), .ro false (.ints p_0.ground)])]⟩ : PS)
    refine vSeq ?_
    refine vRegion ?_
    refine oVal tt rfl rfl rfl rfl rfl trivial ?_
    refine vNil ?_
    change VC _ _ _ _
    refine vSeq ?_
    refine vCond rfl (fun hb7 => ?_) (fun hb7 => ?_)
    · replace h := cnd_t hb7 h
      refine vSkip ?_
      change VC _ _ _ _
      refine vSeq ?_
      refine vBlock ?_
      refine vSeq ?_
      refine vRegion ?_
      obtain ⟨hg8, h⟩ := grd_inv h
      refine oVal tt rfl rfl rfl rfl rfl hg8 ?_
      refine oVal tt rfl rfl rfl rfl rfl trivial ?_
      refine oAlloc tt rfl rfl rfl rfl rfl rfl rfl rfl rfl ?_
      refine oStore tt rfl rfl rfl rfl rfl rfl rfl rfl rfl rfl rfl ⟨trivial, trivial, trivial⟩ ?_
      refine vNil ?_
      change VC _ _ _ _
      refine vRegion ?_
      iterate 4 refine oVal tt rfl rfl rfl rfl rfl trivial ?_
      obtain ⟨hg9, h⟩ := grd_inv h
      refine oVal tt rfl rfl rfl rfl rfl hg9 ?_
      refine oVal tt rfl rfl rfl rfl rfl trivial ?_
      refine vNil ?_
      change VC _ _ _ _
      refine vRegion ?_
      obtain ⟨hg10, h⟩ := grd_inv h
      refine oVal tt rfl rfl rfl rfl rfl hg10 ?_
      refine oVal tt rfl rfl rfl rfl rfl trivial ?_
      refine vNil ?_
      change ∃ _, _
      exact ⟨((bars8 + (((l_1.getD ((x9).toNat) (0, [])).2).length : Int)), (x9 + (1 : Int))), (En.of ⟨rfl, rfl, rfl, rfl, rfl, rfl, trivial⟩ trivial ⟨rfl, trivial⟩), h⟩
    · replace h := cnd_f hb7 h
      refine vExit ?_
      change ∃ _, _
      exact ⟨bars8, (En.of ⟨rfl, rfl, rfl, trivial⟩ trivial ⟨rfl, trivial⟩), h⟩
end Go.Proofs.Ytgindcgphnbnaaa

namespace Go.Proofs.Ytgindcgphnbnaaa
set_option linter.unusedVariables false
set_option linter.unusedSimpArgs false
variable {N : Nat}
/-- the points raised behind d, up to the first that is none -/
def raisedFrom (p : Pin) : List (Int × List Int) → List Int → List Int
  | [], d => d
  | r :: l, d => cnd (raiseOk p d ⟨r.1, r.2⟩) (raisedFrom p l (d ++ [r.1])) d
theorem raisedS_l (hN : 4000000 ≤ N) {p : Pin} (hb : p.g.bars.length ≤ 3000000) (hg : p.ground.length ≤ 3000000) {l : List (Int × List Int)} (hl : lnRaiseS l ≤ 1048576) : ∀ (n i : Nat) (d : List Int), i ≤ l.length → l.length < n + i → d.length ≤ i →
    S_RaisedPoints_l1 N p l (fun x => some x) n (d, (i : Int)) = some (raisedFrom p (l.drop i) d) := by
  have hll : l.length ≤ 1048576 := by unfold lnRaiseS at hl; omega
  intro n
  induction n with
  | zero => intro i d h1 h2; omega
  | succ n ih =>
    intro i d h1 h2 h3
    rw [S_RaisedPoints_l1]
    by_cases hi : i < l.length
    · have hgt : l.getD i (0, []) = l[i] := by simp [hi]
      have e : ((i : Int)).toNat = i := by omega
      have hbr : (l[i]).2.length ≤ 1048576 := by have := lnRaiseS_in (List.getElem_mem hi); omega
      have gi : 0 ≤ (i : Int) ∧ (i : Int) < (l.length : Int) := by omega
      have gd : d.length + 1 ≤ 4294967296 := by omega
      rw [cnd_dt (by omega), grd_pos gi, e, hgt, isRaiseS_s N hN hb hg (dn := d) (by omega) (r := ⟨(l[i]).1, (l[i]).2⟩) (by show (l[i]).2.length ≤ 3000000; omega), Option.bind_some, List.drop_eq_getElem_cons hi, raisedFrom]
      cases raiseOk p d ⟨(l[i]).1, (l[i]).2⟩
      · rfl
      · rw [Bool.not_true, cnd_false, cnd_true, grd_pos gd, grd_R (by omega) (by omega), succ_cast]
        exact ih (i + 1) _ (by omega) (by omega) (by simp; omega)
    · rw [cnd_df (by omega), List.drop_of_length_le (by omega)]
      rfl
theorem raisedI_l (hN : 4000000 ≤ N) {p : Pin} (hb : p.g.bars.length ≤ 3000000) (hg : p.ground.length ≤ 3000000) {l : List (Int × List Int)} (hl : lnRaiseS l ≤ 1048576) : ∀ (n i : Nat) (d : List Int), i ≤ l.length → l.length < n + i → d.length ≤ i →
    I_RaisedPoints_l1 N p l (fun x => some x) n (d, (i : Int)) = some (raisedFrom p (l.drop i) d) := by
  have hll : l.length ≤ 1048576 := by unfold lnRaiseS at hl; omega
  intro n
  induction n with
  | zero => intro i d h1 h2; omega
  | succ n ih =>
    intro i d h1 h2 h3
    rw [I_RaisedPoints_l1]
    by_cases hi : i < l.length
    · have hgt : l.getD i (0, []) = l[i] := by simp [hi]
      have e : ((i : Int)).toNat = i := by omega
      have hbr : (l[i]).2.length ≤ 1048576 := by have := lnRaiseS_in (List.getElem_mem hi); omega
      have gi : 0 ≤ (i : Int) ∧ (i : Int) < (l.length : Int) := by omega
      have gd : d.length + 1 ≤ 4294967296 := by omega
      rw [cnd_dt (by omega), grd_pos gi, e, hgt, isRaiseI_s N hN hb hg (dn := d) (by omega) (r := ⟨(l[i]).1, (l[i]).2⟩) (by show (l[i]).2.length ≤ 3000000; omega), Option.bind_some, List.drop_eq_getElem_cons hi, raisedFrom]
      cases raiseOk p d ⟨(l[i]).1, (l[i]).2⟩
      · rfl
      · rw [Bool.not_true, cnd_false, cnd_true, grd_pos gd, grd_R (by omega) (by omega), succ_cast]
        exact ih (i + 1) _ (by omega) (by omega) (by simp; omega)
    · rw [cnd_df (by omega), List.drop_of_length_le (by omega)]
      rfl
theorem raisedS_s (hN : 4000000 ≤ N) {p : Pin} (hb : p.g.bars.length ≤ 3000000) (hg : p.ground.length ≤ 3000000) {l : List (Int × List Int)} (hl : lnRaiseS l ≤ 1048576) : S_RaisedPoints N p l = some (raisedFrom p l []) := by
  have hll : l.length ≤ 1048576 := by unfold lnRaiseS at hl; omega
  exact raisedS_l hN hb hg hl N 0 [] (by omega) (by omega) (by simp)
theorem raisedI_s (hN : 4000000 ≤ N) {p : Pin} (hb : p.g.bars.length ≤ 3000000) (hg : p.ground.length ≤ 3000000) {l : List (Int × List Int)} (hl : lnRaiseS l ≤ 1048576) : I_RaisedPoints N p l = some (raisedFrom p l []) := by
  have hll : l.length ≤ 1048576 := by unfold lnRaiseS at hl; omega
  exact raisedI_l hN hb hg hl N 0 [] (by omega) (by omega) (by simp)
/-- bars of the raises from place i on -/
def barsFrom (l : List (Int × List Int)) (i : Nat) : Nat := ((l.drop i).map fun x => x.2.length).sum
theorem barsFrom_succ {l : List (Int × List Int)} {i : Nat} (h : i < l.length) : barsFrom l i = (l[i]).2.length + barsFrom l (i + 1) := by
  unfold barsFrom; rw [List.drop_eq_getElem_cons h, List.map_cons, List.sum_cons]
theorem raisingS_l {l : List (Int × List Int)} (hl : l.length ≤ 1048576) (k : Int → Option Bool) : ∀ (n i : Nat) (s : Int), i ≤ l.length → l.length < n + i → 0 ≤ s → s + barsFrom l i ≤ 1048576 →
    S_IsRaising_l1 N l k n (s, (i : Int)) = k (s + barsFrom l i) := by
  intro n
  induction n with
  | zero => intro i s h1 h2; omega
  | succ n ih =>
    intro i s h1 h2 h3 h4
    rw [S_IsRaising_l1]
    by_cases hi : i < l.length
    · have hgt : l.getD i (0, []) = l[i] := by simp [hi]
      have e : ((i : Int)).toNat = i := by omega
      have gi : 0 ≤ (i : Int) ∧ (i : Int) < (l.length : Int) := by omega
      have hs := barsFrom_succ hi
      rw [cnd_dt (by omega), grd_pos gi, e, hgt, grd_R (x := s + ((l[i]).2.length : Int)) (by omega) (by omega), grd_R (by omega) (by omega), succ_cast, ih (i + 1) _ (by omega) (by omega) (by omega) (by omega), hs]
      congr 1; omega
    · rw [cnd_df (by omega)]
      have : barsFrom l i = 0 := by unfold barsFrom; rw [List.drop_of_length_le (by omega)]; rfl
      rw [this]; congr 1; omega
theorem raisingI_l {l : List (Int × List Int)} (hl : l.length ≤ 1048576) (k : Int → Option Bool) : ∀ (n i : Nat) (s : Int), i ≤ l.length → l.length < n + i → 0 ≤ s → s + barsFrom l i ≤ 1048576 →
    I_IsRaising_l1 N l k n (s, (i : Int)) = k (s + barsFrom l i) := by
  intro n
  induction n with
  | zero => intro i s h1 h2; omega
  | succ n ih =>
    intro i s h1 h2 h3 h4
    rw [I_IsRaising_l1]
    by_cases hi : i < l.length
    · have hgt : l.getD i (0, []) = l[i] := by simp [hi]
      have e : ((i : Int)).toNat = i := by omega
      have gi : 0 ≤ (i : Int) ∧ (i : Int) < (l.length : Int) := by omega
      have hs := barsFrom_succ hi
      rw [cnd_dt (by omega), grd_pos gi, e, hgt, grd_R (x := s + ((l[i]).2.length : Int)) (by omega) (by omega), grd_R (by omega) (by omega), succ_cast, ih (i + 1) _ (by omega) (by omega) (by omega) (by omega), hs]
      congr 1; omega
    · rw [cnd_df (by omega)]
      have : barsFrom l i = 0 := by unfold barsFrom; rw [List.drop_of_length_le (by omega)]; rfl
      rw [this]; congr 1; omega
theorem barsFrom_ln {l : List (Int × List Int)} (hl : lnRaiseS l ≤ 1048576) : barsFrom l 0 ≤ 1048576 := by
  unfold lnRaiseS at hl; unfold barsFrom; rw [List.drop_zero]; omega
theorem raisingS_0 (hN : 4000000 ≤ N) {l : List (Int × List Int)} (hl : lnRaiseS l ≤ 1048576) (k : Int → Option Bool) : S_IsRaising_l1 N l k N ((0 : Int), (0 : Int)) = k (barsFrom l 0) := by
  have hll : l.length ≤ 1048576 := by unfold lnRaiseS at hl; omega
  have hb := barsFrom_ln hl
  refine (raisingS_l (N := N) hll k N 0 0 (by omega) (by omega) (by omega) (by omega)).trans ?_
  congr 1; omega
theorem raisingI_0 (hN : 4000000 ≤ N) {l : List (Int × List Int)} (hl : lnRaiseS l ≤ 1048576) (k : Int → Option Bool) : I_IsRaising_l1 N l k N ((0 : Int), (0 : Int)) = k (barsFrom l 0) := by
  have hll : l.length ≤ 1048576 := by unfold lnRaiseS at hl; omega
  have hb := barsFrom_ln hl
  refine (raisingI_l (N := N) hll k N 0 0 (by omega) (by omega) (by omega) (by omega)).trans ?_
  congr 1; omega
theorem raising_x (hN : 4000000 ≤ N) {p : Pin} (hb : p.g.bars.length ≤ 3000000) (hg : p.ground.length ≤ 3000000) {l : List (Int × List Int)} (hl : lnRaiseS l ≤ 1048576) : ∃ b : Bool, S_IsRaising N p l = some b ∧ I_IsRaising N p l = some b := by
  unfold S_IsRaising I_IsRaising
  rw [raisingS_0 hN hl, raisingI_0 hN hl]
  rw [raisedS_s hN hb hg hl, isPinnedS_s N hN hb hg, innerS_s N hN hb hg, raisedI_s hN hb hg hl, isPinnedI_s N hN hb hg, innerI_s N hN hb hg]
  simp only [Option.bind_some]
  cases isPinned p
  · exact ⟨false, rfl, rfl⟩
  · rw [cnd_true, cnd_true]
    by_cases hq : ((raisedFrom p l []).length : Int) = (l.length : Int)
    · rw [hq]
      cases ((l.length : Int) == (l.length : Int)) <;> cases ((l.length : Int) == ((innerPts p).length : Int)) <;> exact ⟨_, rfl, rfl⟩
    · rw [cnd_eqf hq, cnd_eqf hq]
      exact ⟨false, rfl, rfl⟩
end Go.Proofs.Ytgindcgphnbnaaa

namespace Go.Proofs.Ytgindcgphnbnaaa
open Go.RowKit
set_option linter.unusedVariables false
set_option linter.unusedSimpArgs false
def L_FnExactIsRaising (N : Nat) (aP_0 : Pin) (aL_1 : List (Int × List Int)) : Option (Bool) :=
  (L_szPinned N aP_0 (1048576 : Int)).bind fun v1 =>
  cnd (decide (v1 < (0 : Int))) (
    some true) (
    (L_szRaiseS N aL_1 v1).bind fun v2 =>
    cnd (decide (v2 < (0 : Int))) (
      some true) (
      (L_toPinned N aP_0).bind fun v3 =>
      (L_toRaiseS N aL_1).bind fun v4 =>
      (S_IsRaising N v3 v4).bind fun v5 =>
      (L_toPinned N aP_0).bind fun v6 =>
      (L_toRaiseS N aL_1).bind fun v7 =>
      (I_IsRaising N v6 v7).bind fun v8 =>
      cnd (v8 != v5) (
        some false) (
        (L_toPinned N aP_0).bind fun v9 =>
        (L_eqPinned N v6 v9).bind fun v10 =>
        cnd (!v10) (
          some false) (
          (L_toRaiseS N aL_1).bind fun v11 =>
          (L_eqRaiseS N v7 v11).bind fun v12 =>
          cnd (!v12) (
            some false) (
            some true)))))
set_option maxRecDepth 20000 in
set_option maxHeartbeats 1600000 in
theorem L_FnExactIsRaising_w (N : Nat) (aP_0 : Pin) (aL_1 : List (Int × List Int)) (r : Bool) (h : L_FnExactIsRaising N aP_0 aL_1 = some r) : PCall Try.prog 6 [pD aP_0, .ro false (.raises aL_1)] [] (.bool r) := by
  unfold L_FnExactIsRaising at h
  refine pcall_intro (TT := TT) tt Try.func6 rfl rfl Try.ntmps6 (congrArg Array.toList Try.results6) rfl rfl fun w0 => ?_
  refine vSeq ?_
  refine vRegion ?_
  refine oBox rfl rfl rfl rfl rfl rfl rfl rfl rfl ?_
  refine oVal tt rfl rfl rfl rfl rfl trivial ?_
  refine vNil ?_
  change VC _ _ _ _
  refine vSeq ?_
  refine vRegion ?_
  refine oVal tt rfl rfl rfl rfl rfl trivial ?_
  refine vNil ?_
  change VC _ _ _ _
  refine vSeq ?_
  refine vRegion ?_
  iterate 2 refine oVal tt rfl rfl rfl rfl rfl trivial ?_
  obtain ⟨v1, hc1, h⟩ := bind_inv h
  refine oCall (L_szPinned_w N aP_0 (1048576 : Int) v1 hc1) rfl rfl rfl rfl rfl rfl rfl rfl ⟨⟨rfl, rfl, rfl, trivial⟩, rfl, trivial⟩ ?_
  refine oVal tt rfl rfl rfl rfl rfl trivial ?_
  refine vNil ?_
  change VC _ _ _ _
  iterate 2 refine vSeq ?_
  refine vRegion ?_
  iterate 2 refine oVal tt rfl rfl rfl rfl rfl trivial ?_
  refine vNil ?_
  change VC _ _ _ _
  refine vCond rfl (fun hb2 => ?_) (fun hb2 => ?_)
  · replace h := cnd_t hb2 h
    refine vSeq ?_
    refine vRegion ?_
    refine oVal tt rfl rfl rfl rfl rfl trivial ?_
    refine vNil ?_
    change VC _ _ _ _
    refine vRet ?_
    change ∃ _, _
    cases h
    exact ⟨[], _, rfl, trivial, rfl, (.eq rfl), rfl⟩
  · replace h := cnd_f hb2 h
    refine vSkip ?_
    change VC _ _ _ _
    refine vSeq ?_
    refine vRegion ?_
    iterate 2 refine oVal tt rfl rfl rfl rfl rfl trivial ?_
    obtain ⟨v2, hc3, h⟩ := bind_inv h
    refine oCall (L_szRaiseS_w N aL_1 v1 v2 hc3) rfl rfl rfl rfl rfl rfl rfl rfl ⟨rfl, rfl, trivial⟩ ?_
    refine oVal tt rfl rfl rfl rfl rfl trivial ?_
    refine vNil ?_
    change VC _ _ _ _
    iterate 2 refine vSeq ?_
    refine vRegion ?_
    iterate 2 refine oVal tt rfl rfl rfl rfl rfl trivial ?_
    refine vNil ?_
    change VC _ _ _ _
    refine vCond rfl (fun hb4 => ?_) (fun hb4 => ?_)
    · replace h := cnd_t hb4 h
      refine vSeq ?_
      refine vRegion ?_
      refine oVal tt rfl rfl rfl rfl rfl trivial ?_
      refine vNil ?_
      change VC _ _ _ _
      refine vRet ?_
      change ∃ _, _
      cases h
      exact ⟨[], _, rfl, trivial, rfl, (.eq rfl), rfl⟩
    · replace h := cnd_f hb4 h
      refine vSkip ?_
      change VC _ _ _ _
      refine vSeq ?_
      refine vRegion ?_
      refine oVal tt rfl rfl rfl rfl rfl trivial ?_
      obtain ⟨v3, hc5, h⟩ := bind_inv h
      refine oCall (L_toPinned_w N aP_0 v3 hc5) rfl rfl rfl rfl rfl rfl rfl rfl ⟨⟨rfl, rfl, rfl, trivial⟩, trivial⟩ ?_
      refine oVal tt rfl rfl rfl rfl rfl trivial ?_
      obtain ⟨v4, hc6, h⟩ := bind_inv h
      refine oCall (L_toRaiseS_w N aL_1 v4 hc6) rfl rfl rfl rfl rfl rfl rfl rfl ⟨rfl, trivial⟩ ?_
      obtain ⟨v5, hc7, h⟩ := bind_inv h
      refine oCall (S_IsRaising_w N v3 v4 v5 hc7) rfl rfl rfl rfl rfl rfl rfl rfl ⟨⟨rfl, (.inl ⟨rfl, rfl⟩), (.inl ⟨rfl, rfl⟩), trivial⟩, (.inl ⟨rfl, rfl⟩), trivial⟩ ?_
      refine oVal tt rfl rfl rfl rfl rfl trivial ?_
      refine vNil ?_
      change VC _ _ _ _
      refine vSeq ?_
      refine vRegion ?_
      refine oVal tt rfl rfl rfl rfl rfl trivial ?_
      obtain ⟨v6, hc8, h⟩ := bind_inv h
      refine oCall (L_toPinned_w N aP_0 v6 hc8) rfl rfl rfl rfl rfl rfl rfl rfl ⟨⟨rfl, rfl, rfl, trivial⟩, trivial⟩ ?_
      refine oAlloc tt rfl rfl rfl rfl rfl rfl rfl rfl rfl ?_
      refine oStore tt rfl rfl rfl rfl rfl rfl rfl rfl rfl rfl rfl ⟨trivial, trivial, trivial, trivial⟩ ?_
      refine vNil ?_
      change VC _ _ _ _
      refine vSeq ?_
      refine vRegion ?_
      refine oVal tt rfl rfl rfl rfl rfl trivial ?_
      obtain ⟨v7, hc9, h⟩ := bind_inv h
      refine oCall (L_toRaiseS_w N aL_1 v7 hc9) rfl rfl rfl rfl rfl rfl rfl rfl ⟨rfl, trivial⟩ ?_
      refine oVal tt rfl rfl rfl rfl rfl trivial ?_
      refine vNil ?_
      change VC _ _ _ _
      refine vSeq ?_
      refine vRegion ?_
      iterate 2 refine oVal tt rfl rfl rfl rfl rfl trivial ?_
      obtain ⟨v8, hc10, h⟩ := bind_inv h
      refine oCall (I_IsRaising_w N v6 v7 v8 hc10) rfl rfl rfl rfl rfl rfl rfl rfl ⟨⟨rfl, (.inl ⟨rfl, rfl⟩), (.inl ⟨rfl, rfl⟩), trivial⟩, (.inl ⟨rfl, rfl⟩), trivial⟩ ?_
      refine oVal tt rfl rfl rfl rfl rfl trivial ?_
      refine vNil ?_
      change VC _ _ _ _
      iterate 2 refine vSeq ?_
      refine vRegion ?_
      iterate 2 refine oVal tt rfl rfl rfl rfl rfl trivial ?_
      refine oPure (wNone rfl) (pNeB Try.underlying4 rfl rfl rfl) rfl rfl ?_
      refine vNil ?_
      change VC _ _ _ _
      refine vCond rfl (fun hb11 => ?_) (fun hb11 => ?_)
      · replace h := cnd_t hb11 h
        refine vSeq ?_
        refine vRegion ?_
        refine oVal tt rfl rfl rfl rfl rfl trivial ?_
        refine vNil ?_
        change VC _ _ _ _
        refine vRet ?_
        change ∃ _, _
        cases h
        exact ⟨[], _, rfl, trivial, rfl, (.eq rfl), rfl⟩
      · replace h := cnd_f hb11 h
        refine vSkip ?_
        change VC _ _ _ _
        iterate 2 refine vSeq ?_
        refine vRegionN 3 [2] [0, 0, 2, 7, 15] (by kernel_rfl) (by kernel_rfl) (by kernel_rfl) (by kernel_rfl) (by kernel_rfl) rfl (by rfl) ?_
        iterate 2 refine nVal tt rfl (wNone rfl) rfl rfl rfl rfl rfl trivial ?_
        obtain ⟨v9, hc12, h⟩ := bind_inv h
        refine nCallR (L_toPinned_w N aP_0 v9 hc12) rfl (wNone rfl) rfl rfl rfl rfl rfl rfl (by first | rfl | kernel_rfl | (simp [nrL, nm, gdst, nmT, rowB]; done)) rfl (by first | rfl | kernel_rfl | (simp [chkE, nrL, nm, gdst, nmT, rowB, hid, ment, mentA, mentS]; done) | (simp [chkE, nrL, nm, gdst, nmT, rowB, hid, ment, mentA, mentS]; decide)) ⟨⟨rfl, rfl, rfl, trivial⟩, trivial⟩ ?_
        refine nNil ?_
        change VO _ _ _ _ _
        obtain ⟨v10, hc13, h⟩ := bind_inv h
        refine oCall (L_eqPinned_w N v6 v9 v10 hc13) rfl rfl rfl rfl rfl rfl rfl rfl ⟨⟨rfl, (.inl ⟨rfl, rfl⟩), (.inl ⟨rfl, rfl⟩), trivial⟩, ⟨rfl, (.inl ⟨rfl, rfl⟩), (.inl ⟨rfl, rfl⟩), trivial⟩, trivial⟩ ?_
        refine oVal tt rfl rfl rfl rfl rfl trivial ?_
        refine vNil ?_
        change VC _ _ _ _
        refine vCond rfl (fun hb14 => ?_) (fun hb14 => ?_)
        · replace h := cnd_t hb14 h
          refine vSeq ?_
          refine vRegion ?_
          refine oVal tt rfl rfl rfl rfl rfl trivial ?_
          refine vNil ?_
          change VC _ _ _ _
          refine vRet ?_
          change ∃ _, _
          cases h
          exact ⟨[], _, rfl, trivial, rfl, (.eq rfl), rfl⟩
        · replace h := cnd_f hb14 h
          refine vSkip ?_
          change VC _ _ _ _
          iterate 2 refine vSeq ?_
          refine vRegion ?_
          iterate 2 refine oVal tt rfl rfl rfl rfl rfl trivial ?_
          obtain ⟨v11, hc15, h⟩ := bind_inv h
          refine oCall (L_toRaiseS_w N aL_1 v11 hc15) rfl rfl rfl rfl rfl rfl rfl rfl ⟨rfl, trivial⟩ ?_
          obtain ⟨v12, hc16, h⟩ := bind_inv h
          refine oCall (L_eqRaiseS_w N v7 v11 v12 hc16) rfl rfl rfl rfl rfl rfl rfl rfl ⟨(.inl ⟨rfl, rfl⟩), (.inl ⟨rfl, rfl⟩), trivial⟩ ?_
          refine oVal tt rfl rfl rfl rfl rfl trivial ?_
          refine vNil ?_
          change VC _ _ _ _
          refine vCond rfl (fun hb17 => ?_) (fun hb17 => ?_)
          · replace h := cnd_t hb17 h
            refine vSeq ?_
            refine vRegion ?_
            refine oVal tt rfl rfl rfl rfl rfl trivial ?_
            refine vNil ?_
            change VC _ _ _ _
            refine vRet ?_
            change ∃ _, _
            cases h
            exact ⟨[], _, rfl, trivial, rfl, (.eq rfl), rfl⟩
          · replace h := cnd_f hb17 h
            refine vSkip ?_
            change VC _ _ _ _
            refine vSeq ?_
            refine vRegion ?_
            refine oVal tt rfl rfl rfl rfl rfl trivial ?_
            refine vNil ?_
            change VC _ _ _ _
            refine vRet ?_
            change ∃ _, _
            cases h
            exact ⟨[], _, rfl, trivial, rfl, (.eq rfl), rfl⟩
end Go.Proofs.Ytgindcgphnbnaaa
