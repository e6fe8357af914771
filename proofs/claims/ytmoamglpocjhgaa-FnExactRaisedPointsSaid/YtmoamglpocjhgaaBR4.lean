/- Texts that the proof needs, put together: G7 G15 Pb G19 G24 G26 Pmk Pc Pd Pe G17 Pf M7 M8 M9 M10. -/
import Derived.Test.YtmoamglpocjhgaaBR3
namespace Go.Proofs.Ytmoamglpocjhgaa
open Go.RowKit
set_option linter.unusedVariables false
set_option linter.unusedSimpArgs false
def I_IsGraph_l1 (N : Nat) (g_0 : Grf) (k : Unit → Option (Bool)) : Nat → Int → Option (Bool)
  | 0, _ => none
  | n + 1, x8 =>
    cnd (decide (x8 < (g_0.bars.length : Int))) (
      grd (0 ≤ x8 ∧ x8 < (g_0.bars.length : Int)) <|
      cnd (decide (((g_0.bars.getD ((x8).toNat) (0, 0)).1) < (0 : Int))) (
        some false) (
        cnd (decide (((g_0.bars.getD ((x8).toNat) (0, 0)).1) ≥ ((g_0.bars.getD ((x8).toNat) (0, 0)).2))) (
          some false) (
          cnd (decide (((g_0.bars.getD ((x8).toNat) (0, 0)).2) ≥ g_0.n)) (
            some false) (
            cnd (decide (x8 > (0 : Int))) (
              grd (Rg64 (x8 - (1 : Int))) <|
              grd (0 ≤ (x8 - (1 : Int)) ∧ (x8 - (1 : Int)) < (g_0.bars.length : Int)) <|
              (I_compareBars N (g_0.bars.getD (((x8 - (1 : Int))).toNat) (0, 0)) (g_0.bars.getD ((x8).toNat) (0, 0))).bind fun v10 =>
              cnd (decide (v10 > (0 : Int))) (
                some false) (
                grd (Rg64 (x8 + (1 : Int))) <|
                I_IsGraph_l1 N g_0 k n (x8 + (1 : Int)))) (
              grd (Rg64 (x8 + (1 : Int))) <|
              I_IsGraph_l1 N g_0 k n (x8 + (1 : Int))))))) (
      k ())
def I_IsGraph (N : Nat) (g_0 : Grf) : Option (Bool) :=
  (I_within N g_0.n (1 : Int) (8 : Int)).bind fun v1 =>
  cnd (!v1) (
    some false) (
    cnd (decide ((g_0.bars.length : Int) > (24 : Int))) (
      some false) (
      I_IsGraph_l1 N g_0 (fun (_ : Unit) =>
            some true) N (0 : Int)))
set_option maxRecDepth 20000 in
set_option maxHeartbeats 1600000 in
theorem I_IsGraph_w (N : Nat) (g_0 : Grf) (r : Bool) (h : I_IsGraph N g_0 = some r) : PCall Try.prog 80 [gD g_0] [] (.bool r) := by
  unfold I_IsGraph at h
  refine pcall_intro (TT := TT) tt Try.func80 rfl rfl Try.ntmps80 (congrArg Array.toList Try.results80) rfl rfl fun w0 => ?_
  refine vSeq ?_
  refine vRegion ?_
  refine oBox rfl rfl rfl rfl rfl rfl rfl rfl rfl ?_
  refine oVal tt rfl rfl rfl rfl rfl trivial ?_
  refine vNil ?_
  change VC _ _ _ _
  iterate 2 refine vSeq ?_
  refine vRegion ?_
  iterate 2 refine oVal tt rfl rfl rfl rfl rfl trivial ?_
  obtain ⟨v1, hc1, h⟩ := bind_inv h
  refine oCall (I_within_w N g_0.n (1 : Int) (8 : Int) v1 hc1) rfl rfl rfl rfl rfl rfl rfl rfl ⟨rfl, rfl, rfl, trivial⟩ ?_
  iterate 2 refine oVal tt rfl rfl rfl rfl rfl trivial ?_
  refine oSplit rfl rfl rfl (fun hb2 => ?_) (fun hb2 => ?_)
  · replace h := cnd_t hb2 h
    iterate 4 refine oNoF rfl rfl rfl rfl hb2 rfl rfl ?_
    refine oPick rfl rfl rfl rfl rfl hb2 rfl ?_
    refine vNil ?_
    change VC _ _ _ _
    refine vCondT rfl rfl ?_
    refine vSeq ?_
    refine vRegion ?_
    refine oVal tt rfl rfl rfl rfl rfl trivial ?_
    refine vNil ?_
    change VC _ _ _ _
    refine vRet ?_
    change ∃ _, _
    cases h
    exact ⟨[], _, rfl, trivial, rfl, (.eq rfl), rfl⟩
  · replace h := cnd_f hb2 h
    iterate 4 refine oValG tt rfl rfl rfl rfl rfl hb2 rfl rfl rfl trivial ?_
    refine oPickF rfl rfl rfl rfl rfl hb2 rfl ?_
    refine vNil ?_
    change VC _ _ _ _
    refine vCond rfl (fun hb3 => ?_) (fun hb3 => ?_)
    · replace h := cnd_t hb3 h
      refine vSeq ?_
      refine vRegion ?_
      refine oVal tt rfl rfl rfl rfl rfl trivial ?_
      refine vNil ?_
      change VC _ _ _ _
      refine vRet ?_
      change ∃ _, _
      cases h
      exact ⟨[], _, rfl, trivial, rfl, (.eq rfl), rfl⟩
    · replace h := cnd_f hb3 h
      refine vSkip ?_
      change VC _ _ _ _
      iterate 2 refine vSeq ?_
      refine vRegion ?_
      iterate 4 refine oVal tt rfl rfl rfl rfl rfl trivial ?_
      refine vNil ?_
      change VC _ _ _ _
      refine vJoin (F := fun k => I_IsGraph_l1 N g_0 k) h (α := Unit) (J := fun (_ : Unit) => (⟨[], [], []⟩ : PS)) ?_ ?_
      · rintro ⟨⟩ h
        show VC _ _ _ (⟨[], [], []⟩ : PS)
        refine vSeq ?_
        refine vRegion ?_
        refine oVal tt rfl rfl rfl rfl rfl trivial ?_
        refine vNil ?_
        change VC _ _ _ _
        refine vRet ?_
        change ∃ _, _
        cases h
        exact ⟨[], _, rfl, trivial, rfl, (.eq rfl), rfl⟩
      · intro k h
        refine vBlock ?_
        refine vLoopS (α := Int) (fun (x8 : Int) => (⟨[(1, .ptr 1 0), (16, .ro false (.pairs g_0.bars)), (17, .int (g_0.bars.length : Int)), (18, .int x8)], [], [(1, some [.int g_0.n, .ro false (.pairs g_0.bars)])]⟩ : PS)) (I_IsGraph_l1 N g_0 k) h (En.of ⟨rfl, rfl, rfl, rfl, trivial⟩ trivial ⟨rfl, trivial⟩) (fun _ => rfl) ?_
        rintro n x8 h
        rw [I_IsGraph_l1] at h
        show VC _ _ _ (⟨[(1, .ptr 1 0), (16, .ro false (.pairs g_0.bars)), (17, .int (g_0.bars.length : Int)), (18, .int x8)], [], [(1, some [.int g_0.n, .ro false (.pairs g_0.bars)])]⟩ : PS)
        refine vSeq ?_
        refine vRegion ?_
        refine oVal tt rfl rfl rfl rfl rfl trivial ?_
        refine vNil ?_
        change VC _ _ _ _
        refine vSeq ?_
        refine vCond rfl (fun hb4 => ?_) (fun hb4 => ?_)
        · replace h := cnd_t hb4 h
          refine vSkip ?_
          change VC _ _ _ _
          refine vSeq ?_
          refine vBlock ?_
          refine vSeq ?_
          refine vRegion ?_
          refine oVal tt rfl rfl rfl rfl rfl trivial ?_
          obtain ⟨hg5, h⟩ := grd_inv h
          refine oVal tt rfl rfl rfl rfl rfl hg5 ?_
          refine oVal tt rfl rfl rfl rfl rfl trivial ?_
          refine oAlloc tt rfl rfl rfl rfl rfl rfl rfl rfl rfl ?_
          refine oVal tt rfl rfl rfl rfl rfl trivial ?_
          refine oStore tt rfl rfl rfl rfl rfl rfl rfl rfl rfl rfl rfl ⟨trivial, trivial, trivial⟩ ?_
          refine vNil ?_
          change VC _ _ _ _
          refine vSeq ?_
          refine vRegionD (by kernel_rfl) (by kernel_rfl) ?_
          iterate 4 refine cVal tt rfl (wNone rfl) rfl rfl rfl trivial ?_
          refine cSplit rfl rfl rfl (fun hb6 => ?_) (fun hb6 => ?_)
          · replace h := cnd_t hb6 h
            iterate 5 refine cNoF rfl rfl rfl rfl hb6 rfl rfl ?_
            refine cPickT rfl (wNone rfl) rfl rfl rfl hb6 rfl ?_
            refine cVal tt rfl (wNone rfl) rfl rfl rfl trivial ?_
            iterate 5 refine cNoF rfl rfl rfl rfl rfl rfl rfl ?_
            refine cPickT rfl (wNone rfl) rfl rfl rfl rfl rfl ?_
            refine cVal tt rfl (wNone rfl) rfl rfl rfl trivial ?_
            iterate 3 refine cNoF rfl rfl rfl rfl rfl rfl rfl ?_
            iterate 9 refine cNoU rfl rfl rfl rfl rfl ?_
            refine cNoF rfl rfl rfl rfl rfl rfl rfl ?_
            refine cPickT rfl (wNone rfl) rfl rfl rfl rfl rfl ?_
            refine cNil ?_
            change VC _ _ _ _
            refine vCondT rfl rfl ?_
            refine vSeq ?_
            refine vRegion ?_
            refine oVal tt rfl rfl rfl rfl rfl trivial ?_
            refine vNil ?_
            change VC _ _ _ _
            refine vRet ?_
            change ∃ _, _
            cases h
            exact ⟨[], _, rfl, trivial, rfl, (.eq rfl), rfl⟩
          · replace h := cnd_f hb6 h
            iterate 5 refine cVal tt rfl (wSome rfl rfl rfl rfl hb6) rfl rfl rfl trivial ?_
            refine cPickF rfl (wNone rfl) rfl rfl rfl hb6 rfl ?_
            refine cVal tt rfl (wNone rfl) rfl rfl rfl trivial ?_
            refine cSplit rfl rfl rfl (fun hb7 => ?_) (fun hb7 => ?_)
            · replace h := cnd_t hb7 h
              iterate 5 refine cNoF rfl rfl rfl rfl hb7 rfl rfl ?_
              refine cPickT rfl (wNone rfl) rfl rfl rfl hb7 rfl ?_
              refine cVal tt rfl (wNone rfl) rfl rfl rfl trivial ?_
              iterate 3 refine cNoF rfl rfl rfl rfl rfl rfl rfl ?_
              iterate 9 refine cNoU rfl rfl rfl rfl rfl ?_
              refine cNoF rfl rfl rfl rfl rfl rfl rfl ?_
              refine cPickT rfl (wNone rfl) rfl rfl rfl rfl rfl ?_
              refine cNil ?_
              change VC _ _ _ _
              refine vCondT rfl rfl ?_
              refine vSeq ?_
              refine vRegion ?_
              refine oVal tt rfl rfl rfl rfl rfl trivial ?_
              refine vNil ?_
              change VC _ _ _ _
              refine vRet ?_
              change ∃ _, _
              cases h
              exact ⟨[], _, rfl, trivial, rfl, (.eq rfl), rfl⟩
            · replace h := cnd_f hb7 h
              iterate 5 refine cVal tt rfl (wSome rfl rfl rfl rfl hb7) rfl rfl rfl trivial ?_
              refine cPickF rfl (wNone rfl) rfl rfl rfl hb7 rfl ?_
              refine cVal tt rfl (wNone rfl) rfl rfl rfl trivial ?_
              refine cSplit rfl rfl rfl (fun hb8 => ?_) (fun hb8 => ?_)
              · replace h := cnd_t hb8 h
                iterate 3 refine cNoF rfl rfl rfl rfl hb8 rfl rfl ?_
                iterate 9 refine cNoU rfl rfl rfl rfl rfl ?_
                refine cNoF rfl rfl rfl rfl hb8 rfl rfl ?_
                refine cPickT rfl (wNone rfl) rfl rfl rfl hb8 rfl ?_
                refine cNil ?_
                change VC _ _ _ _
                refine vCondT rfl rfl ?_
                refine vSeq ?_
                refine vRegion ?_
                refine oVal tt rfl rfl rfl rfl rfl trivial ?_
                refine vNil ?_
                change VC _ _ _ _
                refine vRet ?_
                change ∃ _, _
                cases h
                exact ⟨[], _, rfl, trivial, rfl, (.eq rfl), rfl⟩
              · replace h := cnd_f hb8 h
                iterate 3 refine cVal tt rfl (wSome rfl rfl rfl rfl hb8) rfl rfl rfl trivial ?_
                refine cSplit rfl rfl rfl (fun hb9 => ?_) (fun hb9 => ?_)
                · replace h := cnd_t hb9 h
                  iterate 3 refine cVal tt rfl (wSome rfl rfl rfl rfl hb9) rfl rfl rfl trivial ?_
                  obtain ⟨hg10, h⟩ := grd_inv h
                  refine cVal tt rfl (wSome rfl rfl rfl rfl hb9) rfl rfl rfl hg10 ?_
                  obtain ⟨hg11, h⟩ := grd_inv h
                  refine cVal tt rfl (wSome rfl rfl rfl rfl hb9) rfl rfl rfl hg11 ?_
                  iterate 2 refine cVal tt rfl (wSome rfl rfl rfl rfl hb9) rfl rfl rfl trivial ?_
                  obtain ⟨v10, hc12, h⟩ := bind_inv h
                  refine cCall (I_compareBars_w N (g_0.bars.getD (((x8 - (1 : Int))).toNat) (0, 0)) (g_0.bars.getD ((x8).toNat) (0, 0)) v10 hc12) rfl (wSome rfl rfl rfl rfl hb9) rfl rfl rfl rfl rfl rfl ⟨⟨rfl, rfl, trivial⟩, ⟨rfl, rfl, trivial⟩, trivial⟩ ?_
                  refine cVal tt rfl (wSome rfl rfl rfl rfl hb9) rfl rfl rfl trivial ?_
                  refine cPickT rfl (wSome rfl rfl rfl rfl hb8) rfl rfl rfl hb9 rfl ?_
                  refine cPickF rfl (wNone rfl) rfl rfl rfl hb8 rfl ?_
                  refine cNil ?_
                  change VC _ _ _ _
                  refine vCond rfl (fun hb13 => ?_) (fun hb13 => ?_)
                  · replace h := cnd_t hb13 h
                    refine vSeq ?_
                    refine vRegion ?_
                    refine oVal tt rfl rfl rfl rfl rfl trivial ?_
                    refine vNil ?_
                    change VC _ _ _ _
                    refine vRet ?_
                    change ∃ _, _
                    cases h
                    exact ⟨[], _, rfl, trivial, rfl, (.eq rfl), rfl⟩
                  · replace h := cnd_f hb13 h
                    refine vSkip ?_
                    change VC _ _ _ _
                    refine vRegion ?_
                    obtain ⟨hg14, h⟩ := grd_inv h
                    refine oVal tt rfl rfl rfl rfl rfl hg14 ?_
                    refine oVal tt rfl rfl rfl rfl rfl trivial ?_
                    refine vNil ?_
                    change ∃ _, _
                    exact ⟨(x8 + (1 : Int)), (En.of ⟨rfl, rfl, rfl, rfl, trivial⟩ trivial ⟨rfl, trivial⟩), h⟩
                · replace h := cnd_f hb9 h
                  iterate 9 refine cNoT rfl rfl rfl rfl hb9 rfl rfl ?_
                  refine cPickF rfl (wSome rfl rfl rfl rfl hb8) rfl rfl rfl hb9 rfl ?_
                  refine cPickF rfl (wNone rfl) rfl rfl rfl hb8 rfl ?_
                  refine cNil ?_
                  change VC _ _ _ _
                  refine vCondF rfl rfl ?_
                  refine vSkip ?_
                  change VC _ _ _ _
                  refine vRegion ?_
                  obtain ⟨hg15, h⟩ := grd_inv h
                  refine oVal tt rfl rfl rfl rfl rfl hg15 ?_
                  refine oVal tt rfl rfl rfl rfl rfl trivial ?_
                  refine vNil ?_
                  change ∃ _, _
                  exact ⟨(x8 + (1 : Int)), (En.of ⟨rfl, rfl, rfl, rfl, trivial⟩ trivial ⟨rfl, trivial⟩), h⟩
        · replace h := cnd_f hb4 h
          refine vExit ?_
          change ∃ _, _
          exact ⟨(), (En.of trivial trivial trivial), h⟩
def I_hasDoubles_l1 (N : Nat) (g_0 : Grf) (k : Unit → Option (Bool)) : Nat → Int → Option (Bool)
  | 0, _ => none
  | n + 1, i3 =>
    cnd (decide (i3 < (g_0.bars.length : Int))) (
      grd (Rg64 (i3 - (1 : Int))) <|
      grd (0 ≤ (i3 - (1 : Int)) ∧ (i3 - (1 : Int)) < (g_0.bars.length : Int)) <|
      grd (0 ≤ i3 ∧ i3 < (g_0.bars.length : Int)) <|
      cnd (((g_0.bars.getD (((i3 - (1 : Int))).toNat) (0, 0)).1 == (g_0.bars.getD ((i3).toNat) (0, 0)).1) && ((g_0.bars.getD (((i3 - (1 : Int))).toNat) (0, 0)).2 == (g_0.bars.getD ((i3).toNat) (0, 0)).2)) (
        some true) (
        grd (Rg64 (i3 + (1 : Int))) <|
        I_hasDoubles_l1 N g_0 k n (i3 + (1 : Int)))) (
      k ())
def I_hasDoubles (N : Nat) (g_0 : Grf) : Option (Bool) :=
  I_hasDoubles_l1 N g_0 (fun (_ : Unit) =>
        some false) N (1 : Int)
set_option maxRecDepth 20000 in
set_option maxHeartbeats 1600000 in
theorem I_hasDoubles_w (N : Nat) (g_0 : Grf) (r : Bool) (h : I_hasDoubles N g_0 = some r) : PCall Try.prog 96 [gD g_0] [] (.bool r) := by
  unfold I_hasDoubles at h
  refine pcall_intro (TT := TT) tt Try.func96 rfl rfl Try.ntmps96 (congrArg Array.toList Try.results96) rfl rfl fun w0 => ?_
  refine vSeq ?_
  refine vRegion ?_
  refine oBox rfl rfl rfl rfl rfl rfl rfl rfl rfl ?_
  refine oVal tt rfl rfl rfl rfl rfl trivial ?_
  refine vNil ?_
  change VC _ _ _ _
  iterate 2 refine vSeq ?_
  refine vRegion ?_
  refine oVal tt rfl rfl rfl rfl rfl trivial ?_
  refine vNil ?_
  change VC _ _ _ _
  refine vJoin (F := fun k => I_hasDoubles_l1 N g_0 k) h (α := Unit) (J := fun (_ : Unit) => (⟨[], [], []⟩ : PS)) ?_ ?_
  · rintro ⟨⟩ h
    show VC _ _ _ (⟨[], [], []⟩ : PS)
    refine vSeq ?_
    refine vRegion ?_
    refine oVal tt rfl rfl rfl rfl rfl trivial ?_
    refine vNil ?_
    change VC _ _ _ _
    refine vRet ?_
    change ∃ _, _
    cases h
    exact ⟨[], _, rfl, trivial, rfl, (.eq rfl), rfl⟩
  · intro k h
    refine vBlock ?_
    refine vLoopS (α := Int) (fun (i3 : Int) => (⟨[(1, .ptr 1 0), (3, .int i3)], [], [(1, some [.int g_0.n, .ro false (.pairs g_0.bars)])]⟩ : PS)) (I_hasDoubles_l1 N g_0 k) h (En.of ⟨rfl, rfl, trivial⟩ trivial ⟨rfl, trivial⟩) (fun _ => rfl) ?_
    rintro n i3 h
    rw [I_hasDoubles_l1] at h
    show VC _ _ _ (⟨[(1, .ptr 1 0), (3, .int i3)], [], [(1, some [.int g_0.n, .ro false (.pairs g_0.bars)])]⟩ : PS)
    iterate 2 refine vSeq ?_
    refine vRegion ?_
    iterate 5 refine oVal tt rfl rfl rfl rfl rfl trivial ?_
    refine vNil ?_
    change VC _ _ _ _
    refine vCond rfl (fun hb1 => ?_) (fun hb1 => ?_)
    · replace h := cnd_t hb1 h
      refine vSkip ?_
      change VC _ _ _ _
      refine vSeq ?_
      refine vBlock ?_
      refine vSeq ?_
      refine vRegionD (by kernel_rfl) (by kernel_rfl) ?_
      iterate 3 refine cVal tt rfl (wNone rfl) rfl rfl rfl trivial ?_
      obtain ⟨hg2, h⟩ := grd_inv h
      refine cVal tt rfl (wNone rfl) rfl rfl rfl hg2 ?_
      obtain ⟨hg3, h⟩ := grd_inv h
      refine cVal tt rfl (wNone rfl) rfl rfl rfl hg3 ?_
      iterate 4 refine cVal tt rfl (wNone rfl) rfl rfl rfl trivial ?_
      obtain ⟨hg4, h⟩ := grd_inv h
      refine cVal tt rfl (wNone rfl) rfl rfl rfl hg4 ?_
      refine cVal tt rfl (wNone rfl) rfl rfl rfl trivial ?_
      refine cPure (wNone rfl) (pEqP eqP_impl_Bar rfl rfl rfl) rfl rfl ?_
      refine cNil ?_
      change VC _ _ _ _
      refine vCond rfl (fun hb5 => ?_) (fun hb5 => ?_)
      · replace h := cnd_t hb5 h
        refine vSeq ?_
        refine vRegion ?_
        refine oVal tt rfl rfl rfl rfl rfl trivial ?_
        refine vNil ?_
        change VC _ _ _ _
        refine vRet ?_
        change ∃ _, _
        cases h
        exact ⟨[], _, rfl, trivial, rfl, (.eq rfl), rfl⟩
      · replace h := cnd_f hb5 h
        refine vSkip ?_
        change VC _ _ _ _
        refine vRegion ?_
        refine oVal tt rfl rfl rfl rfl rfl trivial ?_
        obtain ⟨hg6, h⟩ := grd_inv h
        refine oVal tt rfl rfl rfl rfl rfl hg6 ?_
        refine oVal tt rfl rfl rfl rfl rfl trivial ?_
        refine vNil ?_
        change ∃ _, _
        exact ⟨(i3 + (1 : Int)), (En.of ⟨rfl, rfl, trivial⟩ trivial ⟨rfl, trivial⟩), h⟩
    · replace h := cnd_f hb1 h
      refine vExit ?_
      change ∃ _, _
      exact ⟨(), (En.of trivial trivial trivial), h⟩
def M_Bar_has (N : Nat) (x_0 : Int × Int) (v_1 : Int) : Option (Bool) :=
  cnd (x_0.1 == v_1) (
    some true) (
    some (x_0.2 == v_1))
set_option maxRecDepth 20000 in
set_option maxHeartbeats 1600000 in
theorem M_Bar_has_w (N : Nat) (x_0 : Int × Int) (v_1 : Int) (r : Bool) (h : M_Bar_has N x_0 v_1 = some r) : PCall Try.prog 106 [.agg [.int x_0.1, .int x_0.2], .int v_1] [] (.bool r) := by
  unfold M_Bar_has at h
  refine pcall_intro (TT := TT) tt Try.func106 rfl rfl Try.ntmps106 (congrArg Array.toList Try.results106) rfl rfl fun w0 => ?_
  refine vSeq ?_
  refine vRegion ?_
  refine oBox rfl rfl rfl rfl rfl rfl rfl rfl rfl ?_
  refine oVal tt rfl rfl rfl rfl rfl trivial ?_
  refine vNil ?_
  change VC _ _ _ _
  refine vSeq ?_
  refine vRegion ?_
  iterate 5 refine oVal tt rfl rfl rfl rfl rfl trivial ?_
  refine oSplit rfl rfl rfl (fun hb1 => ?_) (fun hb1 => ?_)
  · replace h := cnd_t hb1 h
    iterate 4 refine oNoF rfl rfl rfl rfl hb1 rfl rfl ?_
    refine oPick rfl rfl rfl rfl rfl hb1 rfl ?_
    refine oVal tt rfl rfl rfl rfl rfl trivial ?_
    refine vNil ?_
    change VC _ _ _ _
    refine vRet ?_
    change ∃ _, _
    cases h
    exact ⟨[], _, rfl, trivial, rfl, (.eq rfl), rfl⟩
  · replace h := cnd_f hb1 h
    iterate 4 refine oValG tt rfl rfl rfl rfl rfl hb1 rfl rfl rfl trivial ?_
    refine oPickF rfl rfl rfl rfl rfl hb1 rfl ?_
    refine oVal tt rfl rfl rfl rfl rfl trivial ?_
    refine vNil ?_
    change VC _ _ _ _
    refine vRet ?_
    change ∃ _, _
    cases h
    exact ⟨[], _, rfl, trivial, rfl, (.eq rfl), rfl⟩
def M_Bar_other (N : Nat) (x_0 : Int × Int) (v_1 : Int) : Option (Int) :=
  cnd (x_0.1 == v_1) (
    some x_0.2) (
    some x_0.1)
set_option maxRecDepth 20000 in
set_option maxHeartbeats 1600000 in
theorem M_Bar_other_w (N : Nat) (x_0 : Int × Int) (v_1 : Int) (r : Int) (h : M_Bar_other N x_0 v_1 = some r) : PCall Try.prog 90 [.agg [.int x_0.1, .int x_0.2], .int v_1] [] (.int r) := by
  unfold M_Bar_other at h
  refine pcall_intro (TT := TT) tt Try.func90 rfl rfl Try.ntmps90 (congrArg Array.toList Try.results90) rfl rfl fun w0 => ?_
  refine vSeq ?_
  refine vRegion ?_
  refine oBox rfl rfl rfl rfl rfl rfl rfl rfl rfl ?_
  refine oVal tt rfl rfl rfl rfl rfl trivial ?_
  refine vNil ?_
  change VC _ _ _ _
  iterate 2 refine vSeq ?_
  refine vRegion ?_
  iterate 4 refine oVal tt rfl rfl rfl rfl rfl trivial ?_
  refine vNil ?_
  change VC _ _ _ _
  refine vCond rfl (fun hb1 => ?_) (fun hb1 => ?_)
  · replace h := cnd_t hb1 h
    refine vSeq ?_
    refine vRegion ?_
    iterate 3 refine oVal tt rfl rfl rfl rfl rfl trivial ?_
    refine vNil ?_
    change VC _ _ _ _
    refine vRet ?_
    change ∃ _, _
    cases h
    exact ⟨[], _, rfl, trivial, rfl, (.eq rfl), rfl⟩
  · replace h := cnd_f hb1 h
    refine vSkip ?_
    change VC _ _ _ _
    refine vSeq ?_
    refine vRegion ?_
    iterate 3 refine oVal tt rfl rfl rfl rfl rfl trivial ?_
    refine vNil ?_
    change VC _ _ _ _
    refine vRet ?_
    change ∃ _, _
    cases h
    exact ⟨[], _, rfl, trivial, rfl, (.eq rfl), rfl⟩
end Go.Proofs.Ytmoamglpocjhgaa

namespace Go.Proofs.Ytmoamglpocjhgaa
open Go.RowKit
set_option linter.unusedVariables false
set_option linter.unusedSimpArgs false
def G_Contains_int (N : Nat) (s_0 : List Int) (v_1 : Int) : Option (Bool) :=
  (G_Index_int N s_0 v_1).bind fun v1 =>
  some (decide (v1 ≥ (0 : Int)))
set_option maxRecDepth 20000 in
set_option maxHeartbeats 1600000 in
theorem G_Contains_int_w (N : Nat) (s_0 : List Int) (v_1 : Int) (r : Bool) (h : G_Contains_int N s_0 v_1 = some r) : PCall Try.prog 57 [.ro false (.ints s_0), .int v_1] [] (.bool r) := by
  unfold G_Contains_int at h
  refine pcall_intro (TT := TT) tt Try.func57 rfl rfl Try.ntmps57 (congrArg Array.toList Try.results57) rfl rfl fun w0 => ?_
  refine vSeq ?_
  refine vRegion ?_
  refine oVal tt rfl rfl rfl rfl rfl trivial ?_
  refine vNil ?_
  change VC _ _ _ _
  refine vSeq ?_
  refine vRegion ?_
  iterate 2 refine oVal tt rfl rfl rfl rfl rfl trivial ?_
  obtain ⟨v1, hc1, h⟩ := bind_inv h
  refine oCall (G_Index_int_w N s_0 v_1 v1 hc1) rfl rfl rfl rfl rfl rfl rfl rfl ⟨rfl, rfl, trivial⟩ ?_
  iterate 2 refine oVal tt rfl rfl rfl rfl rfl trivial ?_
  refine vNil ?_
  change VC _ _ _ _
  refine vRet ?_
  change ∃ _, _
  cases h
  exact ⟨[], _, rfl, trivial, rfl, (.eq rfl), rfl⟩
def I_IsPinned_l1 (N : Nat) (p_0 : Pin) (k : Unit → Option (Bool)) : Nat → Int → Option (Bool)
  | 0, _ => none
  | n + 1, x17 =>
    cnd (decide (x17 < (p_0.g.bars.length : Int))) (
      grd (0 ≤ x17 ∧ x17 < (p_0.g.bars.length : Int)) <|
      (G_Contains_int N p_0.ground ((p_0.g.bars.getD ((x17).toNat) (0, 0)).1)).bind fun v20 =>
      cnd v20 (
        (G_Contains_int N p_0.ground ((p_0.g.bars.getD ((x17).toNat) (0, 0)).2)).bind fun v21 =>
        cnd v21 (
          some false) (
          grd (Rg64 (x17 + (1 : Int))) <|
          I_IsPinned_l1 N p_0 k n (x17 + (1 : Int)))) (
        grd (Rg64 (x17 + (1 : Int))) <|
        I_IsPinned_l1 N p_0 k n (x17 + (1 : Int)))) (
      k ())
def I_IsPinned_l2 (N : Nat) (p_0 : Pin) (k : Unit → Option (Bool)) : Nat → Int → Option (Bool)
  | 0, _ => none
  | n + 1, x24 =>
    cnd (decide (x24 < (p_0.ground.length : Int))) (
      grd (0 ≤ x24 ∧ x24 < (p_0.ground.length : Int)) <|
      (M_Graph_has N p_0.g (p_0.ground.getD ((x24).toNat) 0)).bind fun v26 =>
      cnd (!v26) (
        some false) (
        cnd (decide (x24 > (0 : Int))) (
          grd (Rg64 (x24 - (1 : Int))) <|
          grd (0 ≤ (x24 - (1 : Int)) ∧ (x24 - (1 : Int)) < (p_0.ground.length : Int)) <|
          cnd (decide ((p_0.ground.getD (((x24 - (1 : Int))).toNat) 0) ≥ (p_0.ground.getD ((x24).toNat) 0))) (
            some false) (
            grd (Rg64 (x24 + (1 : Int))) <|
            I_IsPinned_l2 N p_0 k n (x24 + (1 : Int)))) (
          grd (Rg64 (x24 + (1 : Int))) <|
          I_IsPinned_l2 N p_0 k n (x24 + (1 : Int))))) (
      k ())
def I_IsPinned (N : Nat) (p_0 : Pin) : Option (Bool) :=
  (I_IsGraph N p_0.g).bind fun v1 =>
  cnd (!v1) (
    some false) (
    (I_hasDoubles N p_0.g).bind fun v2 =>
    cnd v2 (
      some false) (
      cnd (decide ((p_0.ground.length : Int) < (2 : Int))) (
        some false) (
        cnd (decide ((p_0.g.bars.length : Int) > (15 : Int))) (
          some false) (
          grd (Rg64 ((2 : Int) * (p_0.ground.length : Int))) <|
          grd (Rg64 ((p_0.g.bars.length : Int) + ((2 : Int) * (p_0.ground.length : Int)))) <|
          grd (Rg64 (((p_0.g.bars.length : Int) + ((2 : Int) * (p_0.ground.length : Int))) - (3 : Int))) <|
          cnd (decide ((((p_0.g.bars.length : Int) + ((2 : Int) * (p_0.ground.length : Int))) - (3 : Int)) > (24 : Int))) (
            some false) (
            I_IsPinned_l2 N p_0 (fun (_ : Unit) =>
                  I_IsPinned_l1 N p_0 (fun (_ : Unit) =>
                        some true) N (0 : Int)) N (0 : Int))))))
set_option maxRecDepth 20000 in
set_option maxHeartbeats 1600000 in
theorem I_IsPinned_w (N : Nat) (p_0 : Pin) (r : Bool) (h : I_IsPinned N p_0 = some r) : PCall Try.prog 84 [pD p_0] [] (.bool r) := by
  unfold I_IsPinned at h
  refine pcall_intro (TT := TT) tt Try.func84 rfl rfl Try.ntmps84 (congrArg Array.toList Try.results84) rfl rfl fun w0 => ?_
  refine vSeq ?_
  refine vRegion ?_
  refine oBox rfl rfl rfl rfl rfl rfl rfl rfl rfl ?_
  refine oVal tt rfl rfl rfl rfl rfl trivial ?_
  refine vNil ?_
  change VC _ _ _ _
  refine vSeq ?_
  refine vRegion ?_
  iterate 2 refine oVal tt rfl rfl rfl rfl rfl trivial ?_
  refine oAlloc tt rfl rfl rfl rfl rfl rfl rfl rfl rfl ?_
  refine oStore tt rfl rfl rfl rfl rfl rfl rfl rfl rfl rfl rfl ⟨trivial, trivial, trivial⟩ ?_
  refine vNil ?_
  change VC _ _ _ _
  iterate 2 refine vSeq ?_
  refine vRegion ?_
  refine oVal tt rfl rfl rfl rfl rfl trivial ?_
  obtain ⟨v1, hc1, h⟩ := bind_inv h
  refine oCall (I_IsGraph_w N p_0.g v1 hc1) rfl rfl rfl rfl rfl rfl rfl rfl ⟨⟨rfl, rfl, trivial⟩, trivial⟩ ?_
  iterate 2 refine oVal tt rfl rfl rfl rfl rfl trivial ?_
  refine oSplit rfl rfl rfl (fun hb2 => ?_) (fun hb2 => ?_)
  · replace h := cnd_t hb2 h
    iterate 2 refine oNoF rfl rfl rfl rfl hb2 rfl rfl ?_
    refine oPick rfl rfl rfl rfl rfl hb2 rfl ?_
    refine oVal tt rfl rfl rfl rfl rfl trivial ?_
    iterate 4 refine oNoF rfl rfl rfl rfl rfl rfl rfl ?_
    refine oPick rfl rfl rfl rfl rfl rfl rfl ?_
    refine oVal tt rfl rfl rfl rfl rfl trivial ?_
    iterate 4 refine oNoF rfl rfl rfl rfl rfl rfl rfl ?_
    refine oPick rfl rfl rfl rfl rfl rfl rfl ?_
    refine oVal tt rfl rfl rfl rfl rfl trivial ?_
    iterate 10 refine oNoF rfl rfl rfl rfl rfl rfl rfl ?_
    refine oPick rfl rfl rfl rfl rfl rfl rfl ?_
    refine vNil ?_
    change VC _ _ _ _
    refine vCondT rfl rfl ?_
    refine vSeq ?_
    refine vRegion ?_
    refine oVal tt rfl rfl rfl rfl rfl trivial ?_
    refine vNil ?_
    change VC _ _ _ _
    refine vRet ?_
    change ∃ _, _
    cases h
    exact ⟨[], _, rfl, trivial, rfl, (.eq rfl), rfl⟩
  · replace h := cnd_f hb2 h
    refine oValG tt rfl rfl rfl rfl rfl hb2 rfl rfl rfl trivial ?_
    obtain ⟨v2, hc3, h⟩ := bind_inv h
    refine oCallG (I_hasDoubles_w N p_0.g v2 hc3) rfl rfl rfl rfl hb2 rfl rfl rfl rfl rfl rfl rfl ⟨⟨rfl, rfl, trivial⟩, trivial⟩ ?_
    refine oPickF rfl rfl rfl rfl rfl hb2 rfl ?_
    refine oVal tt rfl rfl rfl rfl rfl trivial ?_
    refine oSplit rfl rfl rfl (fun hb4 => ?_) (fun hb4 => ?_)
    · replace h := cnd_t hb4 h
      iterate 4 refine oNoF rfl rfl rfl rfl hb4 rfl rfl ?_
      refine oPick rfl rfl rfl rfl rfl hb4 rfl ?_
      refine oVal tt rfl rfl rfl rfl rfl trivial ?_
      iterate 4 refine oNoF rfl rfl rfl rfl rfl rfl rfl ?_
      refine oPick rfl rfl rfl rfl rfl rfl rfl ?_
      refine oVal tt rfl rfl rfl rfl rfl trivial ?_
      iterate 10 refine oNoF rfl rfl rfl rfl rfl rfl rfl ?_
      refine oPick rfl rfl rfl rfl rfl rfl rfl ?_
      refine vNil ?_
      change VC _ _ _ _
      refine vCondT rfl rfl ?_
      refine vSeq ?_
      refine vRegion ?_
      refine oVal tt rfl rfl rfl rfl rfl trivial ?_
      refine vNil ?_
      change VC _ _ _ _
      refine vRet ?_
      change ∃ _, _
      cases h
      exact ⟨[], _, rfl, trivial, rfl, (.eq rfl), rfl⟩
    · replace h := cnd_f hb4 h
      iterate 4 refine oValG tt rfl rfl rfl rfl rfl hb4 rfl rfl rfl trivial ?_
      refine oPickF rfl rfl rfl rfl rfl hb4 rfl ?_
      refine oVal tt rfl rfl rfl rfl rfl trivial ?_
      refine oSplit rfl rfl rfl (fun hb5 => ?_) (fun hb5 => ?_)
      · replace h := cnd_t hb5 h
        iterate 4 refine oNoF rfl rfl rfl rfl hb5 rfl rfl ?_
        refine oPick rfl rfl rfl rfl rfl hb5 rfl ?_
        refine oVal tt rfl rfl rfl rfl rfl trivial ?_
        iterate 10 refine oNoF rfl rfl rfl rfl rfl rfl rfl ?_
        refine oPick rfl rfl rfl rfl rfl rfl rfl ?_
        refine vNil ?_
        change VC _ _ _ _
        refine vCondT rfl rfl ?_
        refine vSeq ?_
        refine vRegion ?_
        refine oVal tt rfl rfl rfl rfl rfl trivial ?_
        refine vNil ?_
        change VC _ _ _ _
        refine vRet ?_
        change ∃ _, _
        cases h
        exact ⟨[], _, rfl, trivial, rfl, (.eq rfl), rfl⟩
      · replace h := cnd_f hb5 h
        iterate 4 refine oValG tt rfl rfl rfl rfl rfl hb5 rfl rfl rfl trivial ?_
        refine oPickF rfl rfl rfl rfl rfl hb5 rfl ?_
        refine oVal tt rfl rfl rfl rfl rfl trivial ?_
        refine oSplit rfl rfl rfl (fun hb6 => ?_) (fun hb6 => ?_)
        · replace h := cnd_t hb6 h
          iterate 10 refine oNoF rfl rfl rfl rfl hb6 rfl rfl ?_
          refine oPick rfl rfl rfl rfl rfl hb6 rfl ?_
          refine vNil ?_
          change VC _ _ _ _
          refine vCondT rfl rfl ?_
          refine vSeq ?_
          refine vRegion ?_
          refine oVal tt rfl rfl rfl rfl rfl trivial ?_
          refine vNil ?_
          change VC _ _ _ _
          refine vRet ?_
          change ∃ _, _
          cases h
          exact ⟨[], _, rfl, trivial, rfl, (.eq rfl), rfl⟩
        · replace h := cnd_f hb6 h
          iterate 6 refine oValG tt rfl rfl rfl rfl rfl hb6 rfl rfl rfl trivial ?_
          obtain ⟨hg7, h⟩ := grd_inv h
          refine oValG tt rfl rfl rfl rfl rfl hb6 rfl rfl rfl hg7 ?_
          obtain ⟨hg8, h⟩ := grd_inv h
          refine oValG tt rfl rfl rfl rfl rfl hb6 rfl rfl rfl hg8 ?_
          obtain ⟨hg9, h⟩ := grd_inv h
          refine oValG tt rfl rfl rfl rfl rfl hb6 rfl rfl rfl hg9 ?_
          refine oValG tt rfl rfl rfl rfl rfl hb6 rfl rfl rfl trivial ?_
          refine oPickF rfl rfl rfl rfl rfl hb6 rfl ?_
          refine vNil ?_
          change VC _ _ _ _
          refine vCond rfl (fun hb10 => ?_) (fun hb10 => ?_)
          · replace h := cnd_t hb10 h
            refine vSeq ?_
            refine vRegion ?_
            refine oVal tt rfl rfl rfl rfl rfl trivial ?_
            refine vNil ?_
            change VC _ _ _ _
            refine vRet ?_
            change ∃ _, _
            cases h
            exact ⟨[], _, rfl, trivial, rfl, (.eq rfl), rfl⟩
          · replace h := cnd_f hb10 h
            refine vSkip ?_
            change VC _ _ _ _
            iterate 2 refine vSeq ?_
            refine vRegion ?_
            iterate 4 refine oVal tt rfl rfl rfl rfl rfl trivial ?_
            refine vNil ?_
            change VC _ _ _ _
            refine vJoin (F := fun k => I_IsPinned_l2 N p_0 k) h (α := Unit) (J := fun (_ : Unit) => (⟨[(1, .ptr 1 0), (3, .ptr 3 0)], [], [(1, some [.int p_0.g.n, .ro false (.pairs p_0.g.bars), .ro false (.ints p_0.ground)]), (3, some [.int p_0.g.n, .ro false (.pairs p_0.g.bars)])]⟩ : PS)) ?_ ?_
            · rintro ⟨⟩ h
              show VC _ _ _ (⟨[(1, .ptr 1 0), (3, .ptr 3 0)], [], [(1, some [.int p_0.g.n, .ro false (.pairs p_0.g.bars), .ro false (.ints p_0.ground)]), (3, some [.int p_0.g.n, .ro false (.pairs p_0.g.bars)])]⟩ : PS)
              iterate 2 refine vSeq ?_
              refine vRegion ?_
              iterate 4 refine oVal tt rfl rfl rfl rfl rfl trivial ?_
              refine vNil ?_
              change VC _ _ _ _
              refine vJoin (F := fun k => I_IsPinned_l1 N p_0 k) h (α := Unit) (J := fun (_ : Unit) => (⟨[], [], []⟩ : PS)) ?_ ?_
              · rintro ⟨⟩ h
                show VC _ _ _ (⟨[], [], []⟩ : PS)
                refine vSeq ?_
                refine vRegion ?_
                refine oVal tt rfl rfl rfl rfl rfl trivial ?_
                refine vNil ?_
                change VC _ _ _ _
                refine vRet ?_
                change ∃ _, _
                cases h
                exact ⟨[], _, rfl, trivial, rfl, (.eq rfl), rfl⟩
              · intro k h
                refine vBlock ?_
                refine vLoopS (α := Int) (fun (x17 : Int) => (⟨[(1, .ptr 1 0), (69, .ro false (.pairs p_0.g.bars)), (70, .int (p_0.g.bars.length : Int)), (71, .int x17)], [], [(1, some [.int p_0.g.n, .ro false (.pairs p_0.g.bars), .ro false (.ints p_0.ground)])]⟩ : PS)) (I_IsPinned_l1 N p_0 k) h (En.of ⟨rfl, rfl, rfl, rfl, trivial⟩ trivial ⟨rfl, trivial⟩) (fun _ => rfl) ?_
                rintro n x17 h
                rw [I_IsPinned_l1] at h
                show VC _ _ _ (⟨[(1, .ptr 1 0), (69, .ro false (.pairs p_0.g.bars)), (70, .int (p_0.g.bars.length : Int)), (71, .int x17)], [], [(1, some [.int p_0.g.n, .ro false (.pairs p_0.g.bars), .ro false (.ints p_0.ground)])]⟩ : PS)
                refine vSeq ?_
                refine vRegion ?_
                refine oVal tt rfl rfl rfl rfl rfl trivial ?_
                refine vNil ?_
                change VC _ _ _ _
                refine vSeq ?_
                refine vCond rfl (fun hb11 => ?_) (fun hb11 => ?_)
                · replace h := cnd_t hb11 h
                  refine vSkip ?_
                  change VC _ _ _ _
                  refine vSeq ?_
                  refine vBlock ?_
                  refine vSeq ?_
                  refine vRegion ?_
                  obtain ⟨hg12, h⟩ := grd_inv h
                  refine oVal tt rfl rfl rfl rfl rfl hg12 ?_
                  refine oVal tt rfl rfl rfl rfl rfl trivial ?_
                  refine oAlloc tt rfl rfl rfl rfl rfl rfl rfl rfl rfl ?_
                  refine oStore tt rfl rfl rfl rfl rfl rfl rfl rfl rfl rfl rfl ⟨trivial, trivial, trivial⟩ ?_
                  refine vNil ?_
                  change VC _ _ _ _
                  refine vSeq ?_
                  refine vRegion ?_
                  iterate 4 refine oVal tt rfl rfl rfl rfl rfl trivial ?_
                  obtain ⟨v20, hc13, h⟩ := bind_inv h
                  refine oCall (G_Contains_int_w N p_0.ground ((p_0.g.bars.getD ((x17).toNat) (0, 0)).1) v20 hc13) rfl rfl rfl rfl rfl rfl rfl rfl ⟨rfl, rfl, trivial⟩ ?_
                  refine oVal tt rfl rfl rfl rfl rfl trivial ?_
                  refine oSplit rfl rfl rfl (fun hb14 => ?_) (fun hb14 => ?_)
                  · replace h := cnd_t hb14 h
                    iterate 4 refine oValG tt rfl rfl rfl rfl rfl hb14 rfl rfl rfl trivial ?_
                    obtain ⟨v21, hc15, h⟩ := bind_inv h
                    refine oCallG (G_Contains_int_w N p_0.ground ((p_0.g.bars.getD ((x17).toNat) (0, 0)).2) v21 hc15) rfl rfl rfl rfl hb14 rfl rfl rfl rfl rfl rfl rfl ⟨rfl, rfl, trivial⟩ ?_
                    refine oPick rfl rfl rfl rfl rfl hb14 rfl ?_
                    refine vNil ?_
                    change VC _ _ _ _
                    refine vCond rfl (fun hb16 => ?_) (fun hb16 => ?_)
                    · replace h := cnd_t hb16 h
                      refine vSeq ?_
                      refine vRegion ?_
                      refine oVal tt rfl rfl rfl rfl rfl trivial ?_
                      refine vNil ?_
                      change VC _ _ _ _
                      refine vRet ?_
                      change ∃ _, _
                      cases h
                      exact ⟨[], _, rfl, trivial, rfl, (.eq rfl), rfl⟩
                    · replace h := cnd_f hb16 h
                      refine vSkip ?_
                      change VC _ _ _ _
                      refine vRegion ?_
                      obtain ⟨hg17, h⟩ := grd_inv h
                      refine oVal tt rfl rfl rfl rfl rfl hg17 ?_
                      refine oVal tt rfl rfl rfl rfl rfl trivial ?_
                      refine vNil ?_
                      change ∃ _, _
                      exact ⟨(x17 + (1 : Int)), (En.of ⟨rfl, rfl, rfl, rfl, trivial⟩ trivial ⟨rfl, trivial⟩), h⟩
                  · replace h := cnd_f hb14 h
                    iterate 5 refine oNoT rfl rfl rfl rfl hb14 rfl rfl ?_
                    refine oPickF rfl rfl rfl rfl rfl hb14 rfl ?_
                    refine vNil ?_
                    change VC _ _ _ _
                    refine vCondF rfl rfl ?_
                    refine vSkip ?_
                    change VC _ _ _ _
                    refine vRegion ?_
                    obtain ⟨hg18, h⟩ := grd_inv h
                    refine oVal tt rfl rfl rfl rfl rfl hg18 ?_
                    refine oVal tt rfl rfl rfl rfl rfl trivial ?_
                    refine vNil ?_
                    change ∃ _, _
                    exact ⟨(x17 + (1 : Int)), (En.of ⟨rfl, rfl, rfl, rfl, trivial⟩ trivial ⟨rfl, trivial⟩), h⟩
                · replace h := cnd_f hb11 h
                  refine vExit ?_
                  change ∃ _, _
                  exact ⟨(), (En.of trivial trivial trivial), h⟩
            · intro k h
              refine vBlock ?_
              refine vLoopS (α := Int) (fun (x24 : Int) => (⟨[(1, .ptr 1 0), (3, .ptr 3 0), (42, .ro false (.ints p_0.ground)), (43, .int (p_0.ground.length : Int)), (44, .int x24)], [], [(1, some [.int p_0.g.n, .ro false (.pairs p_0.g.bars), .ro false (.ints p_0.ground)]), (3, some [.int p_0.g.n, .ro false (.pairs p_0.g.bars)])]⟩ : PS)) (I_IsPinned_l2 N p_0 k) h (En.of ⟨rfl, rfl, rfl, rfl, rfl, trivial⟩ trivial ⟨rfl, rfl, trivial⟩) (fun _ => rfl) ?_
              rintro n x24 h
              rw [I_IsPinned_l2] at h
              show VC _ _ _ (⟨[(1, .ptr 1 0), (3, .ptr 3 0), (42, .ro false (.ints p_0.ground)), (43, .int (p_0.ground.length : Int)), (44, .int x24)], [], [(1, some [.int p_0.g.n, .ro false (.pairs p_0.g.bars), .ro false (.ints p_0.ground)]), (3, some [.int p_0.g.n, .ro false (.pairs p_0.g.bars)])]⟩ : PS)
              refine vSeq ?_
              refine vRegion ?_
              refine oVal tt rfl rfl rfl rfl rfl trivial ?_
              refine vNil ?_
              change VC _ _ _ _
              refine vSeq ?_
              refine vCond rfl (fun hb19 => ?_) (fun hb19 => ?_)
              · replace h := cnd_t hb19 h
                refine vSkip ?_
                change VC _ _ _ _
                refine vSeq ?_
                refine vBlock ?_
                refine vSeq ?_
                refine vRegion ?_
                refine oVal tt rfl rfl rfl rfl rfl trivial ?_
                obtain ⟨hg20, h⟩ := grd_inv h
                refine oVal tt rfl rfl rfl rfl rfl hg20 ?_
                iterate 3 refine oVal tt rfl rfl rfl rfl rfl trivial ?_
                refine vNil ?_
                change VC _ _ _ _
                refine vSeq ?_
                refine vRegion ?_
                iterate 2 refine oVal tt rfl rfl rfl rfl rfl trivial ?_
                obtain ⟨v26, hc21, h⟩ := bind_inv h
                refine oCall (M_Graph_has_w N p_0.g (p_0.ground.getD ((x24).toNat) 0) v26 hc21) rfl rfl rfl rfl rfl rfl rfl rfl ⟨⟨rfl, rfl, trivial⟩, rfl, trivial⟩ ?_
                iterate 2 refine oVal tt rfl rfl rfl rfl rfl trivial ?_
                refine oSplit rfl rfl rfl (fun hb22 => ?_) (fun hb22 => ?_)
                · replace h := cnd_t hb22 h
                  iterate 3 refine oNoF rfl rfl rfl rfl hb22 rfl rfl ?_
                  iterate 8 refine oNoU rfl rfl rfl rfl rfl ?_
                  refine oNoF rfl rfl rfl rfl hb22 rfl rfl ?_
                  refine oPick rfl rfl rfl rfl rfl hb22 rfl ?_
                  refine vNil ?_
                  change VC _ _ _ _
                  refine vCondT rfl rfl ?_
                  refine vSeq ?_
                  refine vRegion ?_
                  refine oVal tt rfl rfl rfl rfl rfl trivial ?_
                  refine vNil ?_
                  change VC _ _ _ _
                  refine vRet ?_
                  change ∃ _, _
                  cases h
                  exact ⟨[], _, rfl, trivial, rfl, (.eq rfl), rfl⟩
                · replace h := cnd_f hb22 h
                  iterate 3 refine oValG tt rfl rfl rfl rfl rfl hb22 rfl rfl rfl trivial ?_
                  refine oSplit rfl rfl rfl (fun hb23 => ?_) (fun hb23 => ?_)
                  · replace h := cnd_t hb23 h
                    iterate 3 refine oValG tt rfl rfl rfl rfl rfl hb23 rfl rfl rfl trivial ?_
                    obtain ⟨hg24, h⟩ := grd_inv h
                    refine oValG tt rfl rfl rfl rfl rfl hb23 rfl rfl rfl hg24 ?_
                    obtain ⟨hg25, h⟩ := grd_inv h
                    refine oValG tt rfl rfl rfl rfl rfl hb23 rfl rfl rfl hg25 ?_
                    iterate 3 refine oValG tt rfl rfl rfl rfl rfl hb23 rfl rfl rfl trivial ?_
                    refine oPickGT rfl rfl rfl rfl hb22 rfl rfl rfl rfl hb23 rfl ?_
                    refine oPickF rfl rfl rfl rfl rfl hb22 rfl ?_
                    refine vNil ?_
                    change VC _ _ _ _
                    refine vCond rfl (fun hb26 => ?_) (fun hb26 => ?_)
                    · replace h := cnd_t hb26 h
                      refine vSeq ?_
                      refine vRegion ?_
                      refine oVal tt rfl rfl rfl rfl rfl trivial ?_
                      refine vNil ?_
                      change VC _ _ _ _
                      refine vRet ?_
                      change ∃ _, _
                      cases h
                      exact ⟨[], _, rfl, trivial, rfl, (.eq rfl), rfl⟩
                    · replace h := cnd_f hb26 h
                      refine vSkip ?_
                      change VC _ _ _ _
                      refine vRegion ?_
                      obtain ⟨hg27, h⟩ := grd_inv h
                      refine oVal tt rfl rfl rfl rfl rfl hg27 ?_
                      refine oVal tt rfl rfl rfl rfl rfl trivial ?_
                      refine vNil ?_
                      change ∃ _, _
                      exact ⟨(x24 + (1 : Int)), (En.of ⟨rfl, rfl, rfl, rfl, rfl, trivial⟩ trivial ⟨rfl, rfl, trivial⟩), h⟩
                  · replace h := cnd_f hb23 h
                    iterate 8 refine oNoT rfl rfl rfl rfl hb23 rfl rfl ?_
                    refine oPickGF rfl rfl rfl rfl hb22 rfl rfl rfl rfl hb23 rfl ?_
                    refine oPickF rfl rfl rfl rfl rfl hb22 rfl ?_
                    refine vNil ?_
                    change VC _ _ _ _
                    refine vCondF rfl rfl ?_
                    refine vSkip ?_
                    change VC _ _ _ _
                    refine vRegion ?_
                    obtain ⟨hg28, h⟩ := grd_inv h
                    refine oVal tt rfl rfl rfl rfl rfl hg28 ?_
                    refine oVal tt rfl rfl rfl rfl rfl trivial ?_
                    refine vNil ?_
                    change ∃ _, _
                    exact ⟨(x24 + (1 : Int)), (En.of ⟨rfl, rfl, rfl, rfl, rfl, trivial⟩ trivial ⟨rfl, rfl, trivial⟩), h⟩
              · replace h := cnd_f hb19 h
                refine vExit ?_
                change ∃ _, _
                exact ⟨(), (En.of ⟨rfl, rfl, trivial⟩ trivial ⟨rfl, rfl, trivial⟩), h⟩
def M_Pinned_isInner (N : Nat) (p_0 : Pin) (v_1 : Int) : Option (Bool) :=
  (M_Graph_has N p_0.g v_1).bind fun v1 =>
  cnd v1 (
    (G_Contains_int N p_0.ground v_1).bind fun v2 =>
    some (!v2)) (
    some false)
set_option maxRecDepth 20000 in
set_option maxHeartbeats 1600000 in
theorem M_Pinned_isInner_w (N : Nat) (p_0 : Pin) (v_1 : Int) (r : Bool) (h : M_Pinned_isInner N p_0 v_1 = some r) : PCall Try.prog 55 [pD p_0, .int v_1] [] (.bool r) := by
  unfold M_Pinned_isInner at h
  refine pcall_intro (TT := TT) tt Try.func55 rfl rfl Try.ntmps55 (congrArg Array.toList Try.results55) rfl rfl fun w0 => ?_
  refine vSeq ?_
  refine vRegion ?_
  refine oBox rfl rfl rfl rfl rfl rfl rfl rfl rfl ?_
  refine oVal tt rfl rfl rfl rfl rfl trivial ?_
  refine vNil ?_
  change VC _ _ _ _
  refine vSeq ?_
  refine vRegion ?_
  iterate 3 refine oVal tt rfl rfl rfl rfl rfl trivial ?_
  obtain ⟨v1, hc1, h⟩ := bind_inv h
  refine oCall (M_Graph_has_w N p_0.g v_1 v1 hc1) rfl rfl rfl rfl rfl rfl rfl rfl ⟨⟨rfl, rfl, trivial⟩, rfl, trivial⟩ ?_
  refine oVal tt rfl rfl rfl rfl rfl trivial ?_
  refine oSplit rfl rfl rfl (fun hb2 => ?_) (fun hb2 => ?_)
  · replace h := cnd_t hb2 h
    iterate 3 refine oValG tt rfl rfl rfl rfl rfl hb2 rfl rfl rfl trivial ?_
    obtain ⟨v2, hc3, h⟩ := bind_inv h
    refine oCallG (G_Contains_int_w N p_0.ground v_1 v2 hc3) rfl rfl rfl rfl hb2 rfl rfl rfl rfl rfl rfl rfl ⟨rfl, rfl, trivial⟩ ?_
    refine oValG tt rfl rfl rfl rfl rfl hb2 rfl rfl rfl trivial ?_
    refine oPick rfl rfl rfl rfl rfl hb2 rfl ?_
    refine oVal tt rfl rfl rfl rfl rfl trivial ?_
    refine vNil ?_
    change VC _ _ _ _
    refine vRet ?_
    change ∃ _, _
    cases h
    exact ⟨[], _, rfl, trivial, rfl, (.eq rfl), rfl⟩
  · replace h := cnd_f hb2 h
    iterate 5 refine oNoT rfl rfl rfl rfl hb2 rfl rfl ?_
    refine oPickF rfl rfl rfl rfl rfl hb2 rfl ?_
    refine oVal tt rfl rfl rfl rfl rfl trivial ?_
    refine vNil ?_
    change VC _ _ _ _
    refine vRet ?_
    change ∃ _, _
    cases h
    exact ⟨[], _, rfl, trivial, rfl, (.eq rfl), rfl⟩
def L_eqPinned (N : Nat) (a_0 : Pin) (b_1 : Pin) : Option (Bool) :=
  (L_eqGraph N a_0.g b_1.g).bind fun v1 =>
  cnd (!v1) (
    some false) (
    (L_eqIntS N a_0.ground b_1.ground).bind fun v2 =>
    cnd (!v2) (
      some false) (
      some true))
set_option maxRecDepth 20000 in
set_option maxHeartbeats 1600000 in
theorem L_eqPinned_w (N : Nat) (a_0 : Pin) (b_1 : Pin) (r : Bool) (h : L_eqPinned N a_0 b_1 = some r) : PCall Try.prog 17 [pD a_0, pD b_1] [] (.bool r) := by
  unfold L_eqPinned at h
  refine pcall_intro (TT := TT) tt Try.func17 rfl rfl Try.ntmps17 (congrArg Array.toList Try.results17) rfl rfl fun w0 => ?_
  refine vSeq ?_
  refine vRegion ?_
  iterate 2 refine oBox rfl rfl rfl rfl rfl rfl rfl rfl rfl ?_
  refine oVal tt rfl rfl rfl rfl rfl trivial ?_
  refine vNil ?_
  change VC _ _ _ _
  iterate 2 refine vSeq ?_
  refine vRegion ?_
  iterate 4 refine oVal tt rfl rfl rfl rfl rfl trivial ?_
  obtain ⟨v1, hc1, h⟩ := bind_inv h
  refine oCall (L_eqGraph_w N a_0.g b_1.g v1 hc1) rfl rfl rfl rfl rfl rfl rfl rfl ⟨⟨rfl, rfl, trivial⟩, ⟨rfl, rfl, trivial⟩, trivial⟩ ?_
  refine oVal tt rfl rfl rfl rfl rfl trivial ?_
  refine vNil ?_
  change VC _ _ _ _
  refine vCond rfl (fun hb2 => ?_) (fun hb2 => ?_)
  · replace h := cnd_t hb2 h
    refine vSeq ?_
    refine vRegion ?_
    refine oVal tt rfl rfl rfl rfl rfl trivial ?_
    refine vNil ?_
    change VC _ _ _ _
    refine vRet ?_
    change ∃ _, _
    cases h
    exact ⟨[], _, rfl, trivial, rfl, (.eq rfl), rfl⟩
  · replace h := cnd_f hb2 h
    refine vSkip ?_
    change VC _ _ _ _
    iterate 2 refine vSeq ?_
    refine vRegion ?_
    iterate 4 refine oVal tt rfl rfl rfl rfl rfl trivial ?_
    obtain ⟨v2, hc3, h⟩ := bind_inv h
    refine oCall (L_eqIntS_w N a_0.ground b_1.ground v2 hc3) rfl rfl rfl rfl rfl rfl rfl rfl ⟨rfl, rfl, trivial⟩ ?_
    refine oVal tt rfl rfl rfl rfl rfl trivial ?_
    refine vNil ?_
    change VC _ _ _ _
    refine vCond rfl (fun hb4 => ?_) (fun hb4 => ?_)
    · replace h := cnd_t hb4 h
      refine vSeq ?_
      refine vRegion ?_
      refine oVal tt rfl rfl rfl rfl rfl trivial ?_
      refine vNil ?_
      change VC _ _ _ _
      refine vRet ?_
      change ∃ _, _
      cases h
      exact ⟨[], _, rfl, trivial, rfl, (.eq rfl), rfl⟩
    · replace h := cnd_f hb4 h
      refine vSkip ?_
      change VC _ _ _ _
      refine vSeq ?_
      refine vRegion ?_
      refine oVal tt rfl rfl rfl rfl rfl trivial ?_
      refine vNil ?_
      change VC _ _ _ _
      refine vRet ?_
      change ∃ _, _
      cases h
      exact ⟨[], _, rfl, trivial, rfl, (.eq rfl), rfl⟩
end Go.Proofs.Ytmoamglpocjhgaa

namespace Go.Proofs.Ytmoamglpocjhgaa
set_option linter.unusedVariables false
set_option linter.unusedSimpArgs false
variable (N : Nat)
/-- what is left behind n -/
def szv (left : Int) (n : Nat) : Int := if left < n then -1 else left - n
theorem szv_big {left : Int} {n : Nat} (h : left < n) : szv left n = -1 := if_pos h
theorem szv_ok {left : Int} {n : Nat} (h : ¬ left < n) : szv left n = left - n := if_neg h
abbrev B63 (n : Nat) : Prop := n ≤ 9223372036854775807

theorem szIntS_s {a : List Int} (ha : B63 a.length) {left : Int} (h0 : 0 ≤ left) (h1 : left ≤ 1048576) : L_szIntS N a left = some (szv left a.length) := by
  unfold L_szIntS
  by_cases h : left < a.length
  · rw [szv_big h]; simp (disch := omega) only [Int.toNat_natCast, tk0, List.length_cons, List.length_nil, grd_pos, grd_T, grd_R, cnd_dt, cnd_df, cnd_true, cnd_false, Option.bind_some]
  · rw [szv_ok h]; simp (disch := omega) only [Int.toNat_natCast, tk0, List.length_cons, List.length_nil, grd_pos, grd_T, grd_R, cnd_dt, cnd_df, cnd_true, cnd_false, Option.bind_some]
theorem toIntS_l {a : List Int} (ha : a.length ≤ 1048576) (k : List Int → Option (List Int)) : ∀ n i : Nat, i ≤ a.length → a.length < n + i → L_toIntS_l1 N a k n (cpy a 0 i, (i : Int)) = k a := by
  intro n
  induction n with
  | zero => intro i h1 h2; omega
  | succ n ih =>
    intro i h1 h2
    have hl := cpy_len a 0 i
    rw [L_toIntS_l1]
    by_cases hi : i < a.length
    · simp (disch := omega) only [Int.toNat_natCast, tk0, List.length_cons, List.length_nil, grd_pos, grd_T, grd_R, cnd_dt, cnd_df, cnd_true, cnd_false, Option.bind_some, List.length_replicate, hl]
      rw [cpy_set a 0 0 i hi rfl]
      exact ih (i + 1) (by omega) (by omega)
    · simp (disch := omega) only [Int.toNat_natCast, tk0, List.length_cons, List.length_nil, grd_pos, grd_T, grd_R, cnd_dt, cnd_df, cnd_true, cnd_false, Option.bind_some]
      obtain rfl : i = a.length := by omega
      rw [cpy_full]
theorem toIntS_s (hN : 4000000 ≤ N) {a : List Int} (ha : a.length ≤ 1048576) : L_toIntS N a = some a := by
  unfold L_toIntS
  have h := toIntS_l N ha (fun l9 => grd ((List.replicate (((a.length : Int)).toNat) (0 : Int)).length = l9.length) <| some l9) N 0 (by omega) (by omega)
  simp only [Int.toNat_natCast, cpy_zero] at h ⊢
  simp (disch := omega) only [Int.toNat_natCast, tk0, List.length_cons, List.length_nil, grd_pos, grd_T, grd_R, cnd_dt, cnd_df, cnd_true, cnd_false, Option.bind_some]
  refine h.trans ?_
  simp (disch := omega) only [Int.toNat_natCast, tk0, List.length_cons, List.length_nil, grd_pos, grd_T, grd_R, cnd_dt, cnd_df, cnd_true, cnd_false, Option.bind_some, cpy_len]
theorem eqIntS_l {a : List Int} (ha : a.length ≤ 1048576) (k : Unit → Option Bool) : ∀ n i : Nat, i ≤ a.length → a.length < n + i → L_eqIntS_l1 N a a k n (i : Int) = k () := by
  intro n
  induction n with
  | zero => intro i h1 h2; omega
  | succ n ih =>
    intro i h1 h2
    rw [L_eqIntS_l1]
    by_cases hi : i < a.length
    · simp (disch := omega) only [Int.toNat_natCast, tk0, List.length_cons, List.length_nil, grd_pos, grd_T, grd_R, cnd_dt, cnd_df, cnd_true, cnd_false, Option.bind_some, bne_self_eq_false]
      exact ih (i + 1) (by omega) (by omega)
    · simp (disch := omega) only [Int.toNat_natCast, tk0, List.length_cons, List.length_nil, grd_pos, grd_T, grd_R, cnd_dt, cnd_df, cnd_true, cnd_false, Option.bind_some]
theorem eqIntS_s (hN : 4000000 ≤ N) {a : List Int} (ha : a.length ≤ 1048576) : L_eqIntS N a a = some true := by
  unfold L_eqIntS
  simp (disch := omega) only [Int.toNat_natCast, tk0, List.length_cons, List.length_nil, grd_pos, grd_T, grd_R, cnd_dt, cnd_df, cnd_true, cnd_false, Option.bind_some, bne_self_eq_false]
  exact eqIntS_l N ha (fun _ => some true) N 0 (by omega) (by omega)
theorem szBarS_s {a : List (Int × Int)} (ha : B63 a.length) {left : Int} (h0 : 0 ≤ left) (h1 : left ≤ 1048576) : L_szBarS N a left = some (szv left a.length) := by
  unfold L_szBarS
  by_cases h : left < a.length
  · rw [szv_big h]; simp (disch := omega) only [Int.toNat_natCast, tk0, List.length_cons, List.length_nil, grd_pos, grd_T, grd_R, cnd_dt, cnd_df, cnd_true, cnd_false, Option.bind_some]
  · rw [szv_ok h]; simp (disch := omega) only [Int.toNat_natCast, tk0, List.length_cons, List.length_nil, grd_pos, grd_T, grd_R, cnd_dt, cnd_df, cnd_true, cnd_false, Option.bind_some]
theorem toBar_s (x : Int × Int) : L_toBar N x = some x := rfl
theorem toBarS_l {a : List (Int × Int)} (ha : a.length ≤ 1048576) (k : List (Int × Int) → Option (List (Int × Int))) : ∀ n i : Nat, i ≤ a.length → a.length < n + i → L_toBarS_l1 N a k n (cpy a (0, 0) i, (i : Int)) = k a := by
  intro n
  induction n with
  | zero => intro i h1 h2; omega
  | succ n ih =>
    intro i h1 h2
    have hl := cpy_len a (0, 0) i
    rw [L_toBarS_l1]
    by_cases hi : i < a.length
    · simp (disch := omega) only [Int.toNat_natCast, tk0, List.length_cons, List.length_nil, grd_pos, grd_T, grd_R, cnd_dt, cnd_df, cnd_true, cnd_false, Option.bind_some, List.length_replicate, hl, toBar_s]
      rw [set_pair _ _ _ _ (by omega), cpy_set a (0, 0) (0, 0) i hi rfl]
      exact ih (i + 1) (by omega) (by omega)
    · simp (disch := omega) only [Int.toNat_natCast, tk0, List.length_cons, List.length_nil, grd_pos, grd_T, grd_R, cnd_dt, cnd_df, cnd_true, cnd_false, Option.bind_some]
      obtain rfl : i = a.length := by omega
      rw [cpy_full]
theorem toBarS_s (hN : 4000000 ≤ N) {a : List (Int × Int)} (ha : a.length ≤ 1048576) : L_toBarS N a = some a := by
  unfold L_toBarS
  have h := toBarS_l N ha (fun l9 => grd ((List.replicate (((a.length : Int)).toNat) ((0, 0) : Int × Int)).length = l9.length) <| some l9) N 0 (by omega) (by omega)
  simp only [Int.toNat_natCast, cpy_zero] at h ⊢
  simp (disch := omega) only [Int.toNat_natCast, tk0, List.length_cons, List.length_nil, grd_pos, grd_T, grd_R, cnd_dt, cnd_df, cnd_true, cnd_false, Option.bind_some]
  refine h.trans ?_
  simp (disch := omega) only [Int.toNat_natCast, tk0, List.length_cons, List.length_nil, grd_pos, grd_T, grd_R, cnd_dt, cnd_df, cnd_true, cnd_false, Option.bind_some, cpy_len]
theorem eqBar_s (x : Int × Int) : L_eqBar N x x = some true := by
  unfold L_eqBar
  simp (disch := omega) only [Int.toNat_natCast, tk0, List.length_cons, List.length_nil, grd_pos, grd_T, grd_R, cnd_dt, cnd_df, cnd_true, cnd_false, Option.bind_some, bne_self_eq_false]
theorem eqBarS_l {a : List (Int × Int)} (ha : a.length ≤ 1048576) (k : Unit → Option Bool) : ∀ n i : Nat, i ≤ a.length → a.length < n + i → L_eqBarS_l1 N a a k n (i : Int) = k () := by
  intro n
  induction n with
  | zero => intro i h1 h2; omega
  | succ n ih =>
    intro i h1 h2
    rw [L_eqBarS_l1]
    by_cases hi : i < a.length
    · simp (disch := omega) only [Int.toNat_natCast, tk0, List.length_cons, List.length_nil, grd_pos, grd_T, grd_R, cnd_dt, cnd_df, cnd_true, cnd_false, Option.bind_some, bne_self_eq_false, eqBar_s, Bool.not_true]
      exact ih (i + 1) (by omega) (by omega)
    · simp (disch := omega) only [Int.toNat_natCast, tk0, List.length_cons, List.length_nil, grd_pos, grd_T, grd_R, cnd_dt, cnd_df, cnd_true, cnd_false, Option.bind_some]
theorem eqBarS_s (hN : 4000000 ≤ N) {a : List (Int × Int)} (ha : a.length ≤ 1048576) : L_eqBarS N a a = some true := by
  unfold L_eqBarS
  simp (disch := omega) only [Int.toNat_natCast, tk0, List.length_cons, List.length_nil, grd_pos, grd_T, grd_R, cnd_dt, cnd_df, cnd_true, cnd_false, Option.bind_some, bne_self_eq_false]
  exact eqBarS_l N ha (fun _ => some true) N 0 (by omega) (by omega)
abbrev lnGraph (a : Grf) : Nat := a.bars.length
abbrev BGraph (a : Grf) : Prop := B63 a.bars.length
theorem szGraph_s {a : Grf} (ha : BGraph a) {left : Int} (h0 : 0 ≤ left) (h1 : left ≤ 1048576) : L_szGraph N a left = some (szv left (lnGraph a)) := by
  unfold L_szGraph
  rw [szBarS_s N ha h0 h1]
  by_cases h : left < a.bars.length
  · rw [szv_big h]; simp (disch := omega) only [Int.toNat_natCast, tk0, List.length_cons, List.length_nil, grd_pos, grd_T, grd_R, cnd_dt, cnd_df, cnd_true, cnd_false, Option.bind_some]
  · rw [szv_ok h]; simp (disch := omega) only [Int.toNat_natCast, tk0, List.length_cons, List.length_nil, grd_pos, grd_T, grd_R, cnd_dt, cnd_df, cnd_true, cnd_false, Option.bind_some]
theorem toGraph_s (hN : 4000000 ≤ N) {a : Grf} (ha : lnGraph a ≤ 1048576) : L_toGraph N a = some a := by
  unfold L_toGraph
  rw [toBarS_s N hN (a := a.bars) (by have := ha; simp only [lnGraph] at this; omega)]
  rfl
theorem eqGraph_s (hN : 4000000 ≤ N) {a : Grf} (ha : lnGraph a ≤ 1048576) : L_eqGraph N a a = some true := by
  unfold L_eqGraph
  rw [eqBarS_s N hN (a := a.bars) (by have := ha; simp only [lnGraph] at this; omega)]
  simp only [bne_self_eq_false]; rfl
abbrev lnRaise (a : Rse) : Nat := a.bars.length
abbrev BRaise (a : Rse) : Prop := B63 a.bars.length
theorem szRaise_s {a : Rse} (ha : BRaise a) {left : Int} (h0 : 0 ≤ left) (h1 : left ≤ 1048576) : L_szRaise N a left = some (szv left (lnRaise a)) := by
  unfold L_szRaise
  rw [szIntS_s N ha h0 h1]
  by_cases h : left < a.bars.length
  · rw [szv_big h]; simp (disch := omega) only [Int.toNat_natCast, tk0, List.length_cons, List.length_nil, grd_pos, grd_T, grd_R, cnd_dt, cnd_df, cnd_true, cnd_false, Option.bind_some]
  · rw [szv_ok h]; simp (disch := omega) only [Int.toNat_natCast, tk0, List.length_cons, List.length_nil, grd_pos, grd_T, grd_R, cnd_dt, cnd_df, cnd_true, cnd_false, Option.bind_some]
theorem toRaise_s (hN : 4000000 ≤ N) {a : Rse} (ha : lnRaise a ≤ 1048576) : L_toRaise N a = some a := by
  unfold L_toRaise
  rw [toIntS_s N hN (a := a.bars) (by have := ha; simp only [lnRaise] at this; omega)]
  rfl
theorem eqRaise_s (hN : 4000000 ≤ N) {a : Rse} (ha : lnRaise a ≤ 1048576) : L_eqRaise N a a = some true := by
  unfold L_eqRaise
  rw [eqIntS_s N hN (a := a.bars) (by have := ha; simp only [lnRaise] at this; omega)]
  simp only [bne_self_eq_false]; rfl
abbrev lnPinned (a : Pin) : Nat := a.g.bars.length + a.ground.length
abbrev BPinned (a : Pin) : Prop := B63 a.g.bars.length ∧ B63 a.ground.length
theorem szPinned_s {a : Pin} (ha : BPinned a) {left : Int} (h0 : 0 ≤ left) (h1 : left ≤ 1048576) : L_szPinned N a left = some (szv left (lnPinned a)) := by
  unfold L_szPinned
  have e : lnPinned a = (lnGraph a.g) + a.ground.length := rfl
  rw [szGraph_s N ha.1 h0 h1]
  by_cases h : left < (lnGraph a.g)
  · rw [szv_big h, szv_big (by omega)]; simp (disch := omega) only [Int.toNat_natCast, tk0, List.length_cons, List.length_nil, grd_pos, grd_T, grd_R, cnd_dt, cnd_df, cnd_true, cnd_false, Option.bind_some]
  · rw [szv_ok h]
    simp (disch := omega) only [Int.toNat_natCast, tk0, List.length_cons, List.length_nil, grd_pos, grd_T, grd_R, cnd_dt, cnd_df, cnd_true, cnd_false, Option.bind_some]
    rw [szIntS_s N ha.2 (by omega) (by omega)]
    by_cases h' : left - (lnGraph a.g) < a.ground.length
    · rw [szv_big h', szv_big (by omega)]; simp (disch := omega) only [Int.toNat_natCast, tk0, List.length_cons, List.length_nil, grd_pos, grd_T, grd_R, cnd_dt, cnd_df, cnd_true, cnd_false, Option.bind_some]
    · rw [szv_ok h', szv_ok (by omega)]
      simp (disch := omega) only [Int.toNat_natCast, tk0, List.length_cons, List.length_nil, grd_pos, grd_T, grd_R, cnd_dt, cnd_df, cnd_true, cnd_false, Option.bind_some]
      congr 1; omega
theorem toPinned_s (hN : 4000000 ≤ N) {a : Pin} (ha : lnPinned a ≤ 1048576) : L_toPinned N a = some a := by
  unfold L_toPinned
  rw [toGraph_s N hN (a := a.g) (by have := ha; simp only [lnPinned] at this; simp only [lnGraph]; omega), Option.bind_some, toIntS_s N hN (a := a.ground) (by have := ha; simp only [lnPinned] at this; omega)]
  rfl
theorem eqPinned_s (hN : 4000000 ≤ N) {a : Pin} (ha : lnPinned a ≤ 1048576) : L_eqPinned N a a = some true := by
  unfold L_eqPinned
  rw [eqGraph_s N hN (a := a.g) (by have := ha; simp only [lnPinned] at this; simp only [lnGraph]; omega), Option.bind_some, eqIntS_s N hN (a := a.ground) (by have := ha; simp only [lnPinned] at this; omega)]
  rfl
abbrev lnFramework (a : Frm) : Nat := a.g.bars.length + a.places.length
abbrev lnLinkage (a : Lnk) : Nat := a.f.g.bars.length + a.f.places.length + a.ground.length
end Go.Proofs.Ytmoamglpocjhgaa

namespace Go.Proofs.Ytmoamglpocjhgaa
open Go.RowKit
set_option linter.unusedVariables false
set_option linter.unusedSimpArgs false
end Go.Proofs.Ytmoamglpocjhgaa

namespace Go.Proofs.Ytmoamglpocjhgaa
open Go.RowKit
set_option linter.unusedVariables false
set_option linter.unusedSimpArgs false
def L_markIntS_l1 (N : Nat) (a_0 : List Int) (k : ((List Int) × Int) → Option (Int × (List Int))) : Nat → ((List Int) × Int × Int) → Option (Int × (List Int))
  | 0, _ => none
  | n + 1, (l7, k8, i9) =>
    cnd (decide (i9 < (a_0.length : Int))) (
      grd (0 ≤ i9 ∧ i9 < (a_0.length : Int)) <|
      grd (0 ≤ i9 ∧ i9 < (l7.length : Int)) <|
      grd (Rg64 (k8 + (1 : Int))) <|
      grd (Rg64 (i9 + (1 : Int))) <|
      L_markIntS_l1 N a_0 k n ((l7.set ((i9).toNat) k8), (k8 + (1 : Int)), (i9 + (1 : Int)))) (
      k (l7, k8))
def L_markIntS (N : Nat) (a_0 : List Int) (k_1 : Int) : Option (Int × (List Int)) :=
  L_markIntS_l1 N a_0 (fun (x : (List Int) × Int) =>
      match x with
      | (l4, k5) =>
        some (k5, l4)) N (a_0, k_1, (0 : Int))
set_option maxRecDepth 20000 in
set_option maxHeartbeats 1600000 in
theorem L_markIntS_w (N : Nat) (a_0 : List Int) (k_1 : Int) (r : Int × (List Int)) (h : L_markIntS N a_0 k_1 = some r) : MCall Try.prog 21 [.row 1000000 0 a_0.length, .int k_1] [1000000] [] [(3, .ints a_0)] [(3, .ints r.2)] [] [] (.int r.1) := by
  unfold L_markIntS at h
  refine mcall_intro (TT := TT) tt Try.func21 rfl rfl Try.ntmps21 (congrArg Array.toList Try.results21) rfl rfl rfl rfl rfl fun w0 O0 => ?_
  refine vSeq ?_
  refine vRegion ?_
  refine oVal tt rfl rfl rfl rfl rfl trivial ?_
  refine vNil ?_
  change VC _ _ _ _
  iterate 2 refine vSeq ?_
  refine vRegion ?_
  refine oVal tt rfl rfl rfl rfl rfl trivial ?_
  refine vNil ?_
  change VC _ _ _ _
  refine vJoin (F := fun k => L_markIntS_l1 N a_0 k) h (α := (List Int) × Int) (J := fun | (l4, k5) => (⟨[(1, .int k5)], [(1000000, some (3, .ints l4))], []⟩ : PS)) ?_ ?_
  · rintro ⟨l4, k5⟩ h
    show VC _ _ _ (⟨[(1, .int k5)], [(1000000, some (3, .ints l4))], []⟩ : PS)
    refine vSeq ?_
    refine vRegion ?_
    iterate 2 refine oVal tt rfl rfl rfl rfl rfl trivial ?_
    refine vNil ?_
    change VC _ _ _ _
    refine vRet ?_
    change ∃ _, _
    cases h
    exact ⟨[1000000], rfl, ⟨rfl, trivial⟩, trivial, rfl⟩
  · intro k h
    refine vBlock ?_
    refine vLoopS (α := (List Int) × Int × Int) (fun | (l7, k8, i9) => (⟨[(0, .row 1000000 0 a_0.length), (1, .int k8), (5, .int i9)], [(1000000, some (3, .ints l7))], []⟩ : PS)) (L_markIntS_l1 N a_0 k) h (En.of ⟨rfl, rfl, rfl, trivial⟩ ⟨rfl, trivial⟩ trivial) (fun _ => rfl) ?_
    rintro n ⟨l7, k8, i9⟩ h
    rw [L_markIntS_l1] at h
    show VC _ _ _ (⟨[(0, .row 1000000 0 a_0.length), (1, .int k8), (5, .int i9)], [(1000000, some (3, .ints l7))], []⟩ : PS)
    iterate 2 refine vSeq ?_
    refine vRegion ?_
    iterate 4 refine oVal tt rfl rfl rfl rfl rfl trivial ?_
    refine vNil ?_
    change VC _ _ _ _
    refine vCond rfl (fun hb1 => ?_) (fun hb1 => ?_)
    · replace h := cnd_t hb1 h
      refine vSkip ?_
      change VC _ _ _ _
      refine vSeq ?_
      refine vBlock ?_
      refine vSeq ?_
      refine vRegion ?_
      iterate 3 refine oVal tt rfl rfl rfl rfl rfl trivial ?_
      obtain ⟨hg2, h⟩ := grd_inv h
      refine oVal tt rfl rfl rfl rfl rfl hg2 ?_
      obtain ⟨hg3, h⟩ := grd_inv h
      refine oStore tt rfl rfl rfl rfl rfl rfl rfl rfl rfl rfl ⟨_, _, rfl, hg3.1, hg3.2⟩ ⟨hg3, trivial⟩ ?_
      refine vNil ?_
      change VC _ _ _ _
      refine vRegion ?_
      refine oVal tt rfl rfl rfl rfl rfl trivial ?_
      obtain ⟨hg4, h⟩ := grd_inv h
      refine oVal tt rfl rfl rfl rfl rfl hg4 ?_
      refine oVal tt rfl rfl rfl rfl rfl trivial ?_
      refine vNil ?_
      change VC _ _ _ _
      refine vRegion ?_
      refine oVal tt rfl rfl rfl rfl rfl trivial ?_
      obtain ⟨hg5, h⟩ := grd_inv h
      refine oVal tt rfl rfl rfl rfl rfl hg5 ?_
      refine oVal tt rfl rfl rfl rfl rfl trivial ?_
      refine vNil ?_
      change ∃ _, _
      exact ⟨((l7.set ((i9).toNat) k8), (k8 + (1 : Int)), (i9 + (1 : Int))), (En.of ⟨rfl, rfl, rfl, trivial⟩ ⟨rfl, trivial⟩ trivial), h⟩
    · replace h := cnd_f hb1 h
      refine vExit ?_
      change ∃ _, _
      exact ⟨(l7, k8), (En.of ⟨rfl, trivial⟩ ⟨rfl, trivial⟩ trivial), h⟩
def L_markBarS_l1 (N : Nat) (a_0 : List (Int × Int)) (k : ((List (Int × Int)) × Int) → Option (Int × (List (Int × Int)))) : Nat → ((List (Int × Int)) × Int × Int) → Option (Int × (List (Int × Int)))
  | 0, _ => none
  | n + 1, (l7, k8, i9) =>
    cnd (decide (i9 < (a_0.length : Int))) (
      grd (0 ≤ i9 ∧ i9 < (a_0.length : Int)) <|
      grd (0 ≤ i9 ∧ i9 < (l7.length : Int)) <|
      grd (Rg64 (k8 + (1 : Int))) <|
      grd (0 ≤ i9 ∧ i9 < ((l7.set ((i9).toNat) (k8, (l7.getD ((i9).toNat) (0, 0)).2)).length : Int)) <|
      grd (Rg64 ((k8 + (1 : Int)) + (1 : Int))) <|
      grd (Rg64 (i9 + (1 : Int))) <|
      L_markBarS_l1 N a_0 k n (((l7.set ((i9).toNat) (k8, (l7.getD ((i9).toNat) (0, 0)).2)).set ((i9).toNat) (((l7.set ((i9).toNat) (k8, (l7.getD ((i9).toNat) (0, 0)).2)).getD ((i9).toNat) (0, 0)).1, (k8 + (1 : Int)))), ((k8 + (1 : Int)) + (1 : Int)), (i9 + (1 : Int)))) (
      k (l7, k8))
def L_markBarS (N : Nat) (a_0 : List (Int × Int)) (k_1 : Int) : Option (Int × (List (Int × Int))) :=
  L_markBarS_l1 N a_0 (fun (x : (List (Int × Int)) × Int) =>
      match x with
      | (l4, k5) =>
        some (k5, l4)) N (a_0, k_1, (0 : Int))
set_option maxRecDepth 20000 in
set_option maxHeartbeats 1600000 in
theorem L_markBarS_w (N : Nat) (a_0 : List (Int × Int)) (k_1 : Int) (r : Int × (List (Int × Int))) (h : L_markBarS N a_0 k_1 = some r) : MCall Try.prog 70 [.row 1000000 0 a_0.length, .int k_1] [1000000] [] [(97, .pairs a_0)] [(97, .pairs r.2)] [] [] (.int r.1) := by
  unfold L_markBarS at h
  refine mcall_intro (TT := TT) tt Try.func70 rfl rfl Try.ntmps70 (congrArg Array.toList Try.results70) rfl rfl rfl rfl rfl fun w0 O0 => ?_
  refine vSeq ?_
  refine vRegion ?_
  refine oVal tt rfl rfl rfl rfl rfl trivial ?_
  refine vNil ?_
  change VC _ _ _ _
  iterate 2 refine vSeq ?_
  refine vRegion ?_
  refine oVal tt rfl rfl rfl rfl rfl trivial ?_
  refine vNil ?_
  change VC _ _ _ _
  refine vJoin (F := fun k => L_markBarS_l1 N a_0 k) h (α := (List (Int × Int)) × Int) (J := fun | (l4, k5) => (⟨[(1, .int k5)], [(1000000, some (97, .pairs l4))], []⟩ : PS)) ?_ ?_
  · rintro ⟨l4, k5⟩ h
    show VC _ _ _ (⟨[(1, .int k5)], [(1000000, some (97, .pairs l4))], []⟩ : PS)
    refine vSeq ?_
    refine vRegion ?_
    iterate 2 refine oVal tt rfl rfl rfl rfl rfl trivial ?_
    refine vNil ?_
    change VC _ _ _ _
    refine vRet ?_
    change ∃ _, _
    cases h
    exact ⟨[1000000], rfl, ⟨rfl, trivial⟩, trivial, rfl⟩
  · intro k h
    refine vBlock ?_
    refine vLoopS (α := (List (Int × Int)) × Int × Int) (fun | (l7, k8, i9) => (⟨[(0, .row 1000000 0 a_0.length), (1, .int k8), (5, .int i9)], [(1000000, some (97, .pairs l7))], []⟩ : PS)) (L_markBarS_l1 N a_0 k) h (En.of ⟨rfl, rfl, rfl, trivial⟩ ⟨rfl, trivial⟩ trivial) (fun _ => rfl) ?_
    rintro n ⟨l7, k8, i9⟩ h
    rw [L_markBarS_l1] at h
    show VC _ _ _ (⟨[(0, .row 1000000 0 a_0.length), (1, .int k8), (5, .int i9)], [(1000000, some (97, .pairs l7))], []⟩ : PS)
    iterate 2 refine vSeq ?_
    refine vRegion ?_
    iterate 4 refine oVal tt rfl rfl rfl rfl rfl trivial ?_
    refine vNil ?_
    change VC _ _ _ _
    refine vCond rfl (fun hb1 => ?_) (fun hb1 => ?_)
    · replace h := cnd_t hb1 h
      refine vSkip ?_
      change VC _ _ _ _
      refine vSeq ?_
      refine vBlock ?_
      refine vSeq ?_
      refine vRegion ?_
      iterate 3 refine oVal tt rfl rfl rfl rfl rfl trivial ?_
      obtain ⟨hg2, h⟩ := grd_inv h
      refine oVal tt rfl rfl rfl rfl rfl hg2 ?_
      obtain ⟨hg3, h⟩ := grd_inv h
      refine oVal tt rfl rfl rfl rfl rfl hg3 ?_
      refine oStore tt rfl rfl rfl rfl rfl rfl rfl rfl rfl rfl ⟨_, _, rfl, hg3.1, hg3.2⟩ ⟨hg3, trivial⟩ ?_
      refine vNil ?_
      change VC _ _ _ _
      refine vSeq ?_
      refine vRegion ?_
      refine oVal tt rfl rfl rfl rfl rfl trivial ?_
      obtain ⟨hg4, h⟩ := grd_inv h
      refine oVal tt rfl rfl rfl rfl rfl hg4 ?_
      refine oVal tt rfl rfl rfl rfl rfl trivial ?_
      refine vNil ?_
      change VC _ _ _ _
      refine vSeq ?_
      refine vRegion ?_
      iterate 3 refine oVal tt rfl rfl rfl rfl rfl trivial ?_
      refine oVal tt rfl rfl rfl rfl rfl hg2 ?_
      obtain ⟨hg5, h⟩ := grd_inv h
      refine oVal tt rfl rfl rfl rfl rfl hg5 ?_
      refine oStore tt rfl rfl rfl rfl rfl rfl rfl rfl rfl rfl ⟨_, _, rfl, hg5.1, hg5.2⟩ ⟨hg5, trivial⟩ ?_
      refine vNil ?_
      change VC _ _ _ _
      refine vRegion ?_
      refine oVal tt rfl rfl rfl rfl rfl trivial ?_
      obtain ⟨hg6, h⟩ := grd_inv h
      refine oVal tt rfl rfl rfl rfl rfl hg6 ?_
      refine oVal tt rfl rfl rfl rfl rfl trivial ?_
      refine vNil ?_
      change VC _ _ _ _
      refine vRegion ?_
      refine oVal tt rfl rfl rfl rfl rfl trivial ?_
      obtain ⟨hg7, h⟩ := grd_inv h
      refine oVal tt rfl rfl rfl rfl rfl hg7 ?_
      refine oVal tt rfl rfl rfl rfl rfl trivial ?_
      refine vNil ?_
      change ∃ _, _
      exact ⟨(((l7.set ((i9).toNat) (k8, (l7.getD ((i9).toNat) (0, 0)).2)).set ((i9).toNat) (((l7.set ((i9).toNat) (k8, (l7.getD ((i9).toNat) (0, 0)).2)).getD ((i9).toNat) (0, 0)).1, (k8 + (1 : Int)))), ((k8 + (1 : Int)) + (1 : Int)), (i9 + (1 : Int))), (En.of ⟨rfl, rfl, rfl, trivial⟩ ⟨rfl, trivial⟩ trivial), h⟩
    · replace h := cnd_f hb1 h
      refine vExit ?_
      change ∃ _, _
      exact ⟨(l7, k8), (En.of ⟨rfl, trivial⟩ ⟨rfl, trivial⟩ trivial), h⟩
def L_markGraph (N : Nat) (a_0 : Grf) (k_1 : Int) : Option (Int × (List (Int × Int))) :=
  (L_markBarS N a_0.bars k_1).bind fun v1 =>
  some (v1.1, v1.2)
set_option maxRecDepth 20000 in
set_option maxHeartbeats 1600000 in
theorem L_markGraph_w (N : Nat) (a_0 : Grf) (k_1 : Int) (r : Int × (List (Int × Int))) (h : L_markGraph N a_0 k_1 = some r) : MCall Try.prog 39 [.agg [.int a_0.n, .row 1000001 0 a_0.bars.length], .int k_1] [1000001] [] [(97, .pairs a_0.bars)] [(97, .pairs r.2)] [] [] (.int r.1) := by
  unfold L_markGraph at h
  refine mcall_intro (TT := TT) tt Try.func39 rfl rfl Try.ntmps39 (congrArg Array.toList Try.results39) rfl rfl rfl rfl rfl fun w0 O0 => ?_
  refine vSeq ?_
  refine vRegion ?_
  refine oBox rfl rfl rfl rfl rfl rfl rfl rfl rfl ?_
  refine oVal tt rfl rfl rfl rfl rfl trivial ?_
  refine vNil ?_
  change VC _ _ _ _
  refine vSeq ?_
  refine vRegion ?_
  iterate 3 refine oVal tt rfl rfl rfl rfl rfl trivial ?_
  obtain ⟨v1, hc1, h⟩ := bind_inv h
  refine oMCall (L_markBarS_w N a_0.bars k_1 v1 hc1) [1000001] [] [1000001] rfl rfl rfl rfl rfl rfl ⟨rfl, trivial⟩ trivial ⟨⟨rfl, rfl⟩, ⟨rfl, rfl⟩, trivial⟩ ?_
  refine oVal tt rfl rfl rfl rfl rfl trivial ?_
  refine vNil ?_
  change VC _ _ _ _
  refine vSeq ?_
  refine vRegion ?_
  iterate 2 refine oVal tt rfl rfl rfl rfl rfl trivial ?_
  refine vNil ?_
  change VC _ _ _ _
  refine vRet ?_
  change ∃ _, _
  cases h
  exact ⟨[1000001], rfl, ⟨rfl, trivial⟩, trivial, rfl⟩
end Go.Proofs.Ytmoamglpocjhgaa

namespace Go.Proofs.Ytmoamglpocjhgaa
open Go.RowKit
set_option linter.unusedVariables false
set_option linter.unusedSimpArgs false
def L_markPinned (N : Nat) (a_0 : Pin) (k_1 : Int) : Option (Int × (List (Int × Int)) × (List Int)) :=
  (L_markGraph N (⟨a_0.g.n, a_0.g.bars⟩ : Grf) k_1).bind fun v1 =>
  (L_markIntS N a_0.ground v1.1).bind fun v2 =>
  some (v2.1, v1.2, v2.2)
set_option maxRecDepth 20000 in
set_option maxHeartbeats 1600000 in
theorem L_markPinned_w (N : Nat) (a_0 : Pin) (k_1 : Int) (r : Int × (List (Int × Int)) × (List Int)) (h : L_markPinned N a_0 k_1 = some r) : MCall Try.prog 19 [.agg [.int a_0.g.n, .row 1000001 0 a_0.g.bars.length, .row 1000002 0 a_0.ground.length], .int k_1] [1000001, 1000002] [] [(97, .pairs a_0.g.bars), (3, .ints a_0.ground)] [(97, .pairs r.2.1), (3, .ints r.2.2)] [] [] (.int r.1) := by
  unfold L_markPinned at h
  refine mcall_intro (TT := TT) tt Try.func19 rfl rfl Try.ntmps19 (congrArg Array.toList Try.results19) rfl rfl rfl rfl rfl fun w0 O0 => ?_
  refine vSeq ?_
  refine vRegion ?_
  refine oBox rfl rfl rfl rfl rfl rfl rfl rfl rfl ?_
  refine oVal tt rfl rfl rfl rfl rfl trivial ?_
  refine vNil ?_
  change VC _ _ _ _
  refine vSeq ?_
  refine vRegion ?_
  iterate 3 refine oVal tt rfl rfl rfl rfl rfl trivial ?_
  obtain ⟨v1, hc1, h⟩ := bind_inv h
  refine oMCall (L_markGraph_w N (⟨a_0.g.n, a_0.g.bars⟩ : Grf) k_1 v1 hc1) [1000001] [] [1000001] rfl rfl rfl rfl rfl rfl ⟨rfl, trivial⟩ trivial ⟨⟨⟨rfl, rfl⟩, ⟨rfl, rfl⟩, trivial⟩, ⟨rfl, rfl⟩, trivial⟩ ?_
  refine oVal tt rfl rfl rfl rfl rfl trivial ?_
  refine vNil ?_
  change VC _ _ _ _
  refine vSeq ?_
  refine vRegion ?_
  iterate 3 refine oVal tt rfl rfl rfl rfl rfl trivial ?_
  obtain ⟨v2, hc2, h⟩ := bind_inv h
  refine oMCall (L_markIntS_w N a_0.ground v1.1 v2 hc2) [1000002] [] [1000002] rfl rfl rfl rfl rfl rfl ⟨rfl, trivial⟩ trivial ⟨⟨rfl, rfl⟩, ⟨rfl, rfl⟩, trivial⟩ ?_
  refine oVal tt rfl rfl rfl rfl rfl trivial ?_
  refine vNil ?_
  change VC _ _ _ _
  refine vSeq ?_
  refine vRegion ?_
  iterate 2 refine oVal tt rfl rfl rfl rfl rfl trivial ?_
  refine vNil ?_
  change VC _ _ _ _
  refine vRet ?_
  change ∃ _, _
  cases h
  exact ⟨[1000001, 1000002], rfl, ⟨rfl, rfl, trivial⟩, trivial, rfl⟩
end Go.Proofs.Ytmoamglpocjhgaa

namespace Go.Proofs.Ytmoamglpocjhgaa
set_option linter.unusedVariables false
set_option linter.unusedSimpArgs false
variable {N : Nat}
theorem grf_eta (g : Grf) : (⟨g.n, g.bars⟩ : Grf) = g := rfl
theorem pin_eta (p : Pin) : (⟨p.g, p.ground⟩ : Pin) = p := rfl
theorem frm_eta (p : Frm) : (⟨p.g, p.places⟩ : Frm) = p := rfl
theorem lnk_eta (p : Lnk) : (⟨p.f, p.ground⟩ : Lnk) = p := rfl
def mkI (k : Int) (m : Nat) : List Int := (List.range m).map fun (i : Nat) => k + (i : Int)
def mkP (k : Int) (m : Nat) : List (Int × Int) := (List.range m).map fun (i : Nat) => (k + 2 * (i : Int), k + 2 * (i : Int) + 1)
theorem mkI_len (k : Int) (m : Nat) : (mkI k m).length = m := by simp [mkI]
theorem mkP_len (k : Int) (m : Nat) : (mkP k m).length = m := by simp [mkP]
theorem mkI_succ (k : Int) (m : Nat) : mkI k (m + 1) = mkI k m ++ [k + (m : Int)] := by simp [mkI, List.range_succ]
theorem mkP_succ (k : Int) (m : Nat) : mkP k (m + 1) = mkP k m ++ [(k + 2 * (m : Int), k + 2 * (m : Int) + 1)] := by simp [mkP, List.range_succ]
theorem set_mid {α : Type} {a b : List α} {x : α} {i : Nat} (h : a.length = i) (hb : 0 < b.length) : (a ++ b).set i x = a ++ [x] ++ b.drop 1 := by
  subst h
  cases b with
  | nil => simp at hb
  | cons y b => simp
theorem getD_mid {α : Type} {a : List α} {x d : α} {b : List α} {i : Nat} (h : a.length = i) : (a ++ [x] ++ b).getD i d = x := by
  subst h; simp

theorem markIntS_l {a : List Int} {k0 : Int} (hk : 0 ≤ k0 ∧ k0 ≤ 100000000) (ha : a.length ≤ 1048576) (k : List Int × Int → Option (Int × List Int)) : ∀ n i : Nat, i ≤ a.length → a.length < n + i → L_markIntS_l1 N a k n (mkI k0 i ++ a.drop i, k0 + (i : Int), (i : Int)) = k (mkI k0 a.length, k0 + (a.length : Int)) := by
  intro n
  induction n with
  | zero => intro i h1 h2; omega
  | succ n ih =>
    intro i h1 h2
    rw [L_markIntS_l1]
    by_cases hi : i < a.length
    · have e1 : ((mkI k0 i ++ a.drop i).set i (k0 + (i : Int))) = mkI k0 (i + 1) ++ a.drop (i + 1) := by
        rw [set_mid (mkI_len k0 i) (by simp; omega), mkI_succ]
        simp
      have e2 : ((mkI k0 i ++ a.drop i).length : Int) = (a.length : Int) := by simp [mkI_len]; omega
      rw [cnd_dt (by omega), grd_pos (by omega), grd_pos (by omega), grd_pos (by unfold Rg64; omega), grd_pos (by unfold Rg64; omega), Int.toNat_natCast, e1, show k0 + (i : Int) + 1 = k0 + ((i + 1 : Nat) : Int) from by omega, show (i : Int) + 1 = ((i + 1 : Nat) : Int) from by omega]
      exact ih (i + 1) (by omega) (by omega)
    · have : i = a.length := by omega
      subst this
      rw [cnd_df (by omega)]
      simp
theorem markIntS_s (hN : 4000000 ≤ N) {a : List Int} {k0 : Int} (hk : 0 ≤ k0 ∧ k0 ≤ 100000000) (ha : a.length ≤ 1048576) : L_markIntS N a k0 = some (k0 + (a.length : Int), mkI k0 a.length) := by
  unfold L_markIntS
  have := markIntS_l (N := N) (a := a) hk ha (fun (x : (List Int) × Int) => match x with | (l, k) => some (k, l)) N 0 (by omega) (by omega)
  simpa [mkI] using this
theorem heldIntS_l {m : Nat} {k0 : Int} (hk : 0 ≤ k0 ∧ k0 ≤ 100000000) (ha : m ≤ 1048576) (k : Int → Option Int) : ∀ n i : Nat, i ≤ m → m < n + i → L_heldIntS_l1 N (mkI k0 m) k n (k0 + (i : Int), (i : Int)) = k (k0 + (m : Int)) := by
  intro n
  induction n with
  | zero => intro i h1 h2; omega
  | succ n ih =>
    intro i h1 h2
    rw [L_heldIntS_l1, mkI_len]
    by_cases hi : i < m
    · have e1 : (mkI k0 m).getD i 0 = k0 + (i : Int) := by simp [mkI, hi]
      rw [cnd_dt (by omega), grd_pos (by omega), Int.toNat_natCast, e1, bne_self_eq_false, cnd_false, grd_pos (by unfold Rg64; omega), grd_pos (by unfold Rg64; omega), show k0 + (i : Int) + 1 = k0 + ((i + 1 : Nat) : Int) from by omega, show (i : Int) + 1 = ((i + 1 : Nat) : Int) from by omega]
      exact ih (i + 1) (by omega) (by omega)
    · have : i = m := by omega
      subst this
      rw [cnd_df (by omega)]
theorem heldIntS_s (hN : 4000000 ≤ N) {m : Nat} {k0 : Int} (hk : 0 ≤ k0 ∧ k0 ≤ 100000000) (ha : m ≤ 1048576) : L_heldIntS N (mkI k0 m) k0 = some (k0 + (m : Int)) := by
  unfold L_heldIntS
  have := heldIntS_l (N := N) hk ha (fun k => some k) N 0 (by omega) (by omega)
  simpa using this

theorem markBarS_l {a : List (Int × Int)} {k0 : Int} (hk : 0 ≤ k0 ∧ k0 ≤ 100000000) (ha : a.length ≤ 1048576) (k : List (Int × Int) × Int → Option (Int × List (Int × Int))) : ∀ n i : Nat, i ≤ a.length → a.length < n + i → L_markBarS_l1 N a k n (mkP k0 i ++ a.drop i, k0 + 2 * (i : Int), (i : Int)) = k (mkP k0 a.length, k0 + 2 * (a.length : Int)) := by
  intro n
  induction n with
  | zero => intro i h1 h2; omega
  | succ n ih =>
    intro i h1 h2
    rw [L_markBarS_l1]
    by_cases hi : i < a.length
    · have e2 : ((mkP k0 i ++ a.drop i).length : Int) = (a.length : Int) := by simp [mkP_len]; omega
      rw [cnd_dt (by omega), grd_pos (by omega), grd_pos (by omega), grd_pos (by unfold Rg64; omega), grd_pos (by rw [List.length_set]; omega), grd_pos (by unfold Rg64; omega), grd_pos (by unfold Rg64; omega), Int.toNat_natCast]
      rw [set_mid (mkP_len k0 i) (by simp; omega), getD_mid (mkP_len k0 i), List.append_assoc, set_mid (mkP_len k0 i) (by simp)]
      have e1 : mkP k0 i ++ [(k0 + 2 * (i : Int), k0 + 2 * (i : Int) + 1)] ++ List.drop 1 ([(k0 + 2 * (i : Int), ((mkP k0 i ++ a.drop i).getD i (0, 0)).2)] ++ List.drop 1 (a.drop i)) = mkP k0 (i + 1) ++ a.drop (i + 1) := by
        rw [mkP_succ]; simp
      rw [e1, show k0 + 2 * (i : Int) + 1 + 1 = k0 + 2 * ((i + 1 : Nat) : Int) from by omega, show (i : Int) + 1 = ((i + 1 : Nat) : Int) from by omega]
      exact ih (i + 1) (by omega) (by omega)
    · have : i = a.length := by omega
      subst this
      rw [cnd_df (by omega)]
      simp
theorem markBarS_s (hN : 4000000 ≤ N) {a : List (Int × Int)} {k0 : Int} (hk : 0 ≤ k0 ∧ k0 ≤ 100000000) (ha : a.length ≤ 1048576) : L_markBarS N a k0 = some (k0 + 2 * (a.length : Int), mkP k0 a.length) := by
  unfold L_markBarS
  have := markBarS_l (N := N) (a := a) hk ha (fun (x : (List (Int × Int)) × Int) => match x with | (l, k) => some (k, l)) N 0 (by omega) (by omega)
  simpa [mkP] using this
theorem markGraph_s (hN : 4000000 ≤ N) {a : Grf} {k0 : Int} (hk : 0 ≤ k0 ∧ k0 ≤ 50000000) (ha : lnGraph a ≤ 1048576) : L_markGraph N a k0 = some (k0 + 2 * (a.bars.length : Int), mkP k0 a.bars.length) := by
  unfold L_markGraph
  rw [markBarS_s hN (by omega) ha]; rfl
theorem markPinned_s (hN : 4000000 ≤ N) {a : Pin} {k0 : Int} (hk : 0 ≤ k0 ∧ k0 ≤ 20000000) (ha : lnPinned a ≤ 1048576) : L_markPinned N a k0 = some (k0 + 2 * (a.g.bars.length : Int) + (a.ground.length : Int), mkP k0 a.g.bars.length, mkI (k0 + 2 * (a.g.bars.length : Int)) a.ground.length) := by
  simp only [lnPinned, lnGraph] at ha
  unfold L_markPinned
  rw [markGraph_s hN (by omega) (by simp only [lnGraph]; omega), Option.bind_some, markIntS_s hN (by simp only []; omega) (by omega)]; rfl

end Go.Proofs.Ytmoamglpocjhgaa

namespace Go.Proofs.Ytmoamglpocjhgaa
set_option linter.unusedVariables false
set_option linter.unusedSimpArgs false
variable {R σ : Type}
/-- a search: goes on while ok -/
theorem srchA {F : Nat → Int → Option R} {len : Nat} {ok : Nat → Bool} {bad fin : Option R}
    (hs : ∀ n i : Nat, i < len → (∀ j, j < i → ok j = true) → F (n + 1) (i : Int) = cnd (ok i) (F n ((i + 1 : Nat) : Int)) bad) (hf : ∀ n : Nat, (∀ j, j < len → ok j = true) → F (n + 1) (len : Int) = fin) :
    ∀ n i : Nat, i ≤ len → len < n + i → (∀ j, j < i → ok j = true) → F n (i : Int) = cnd ((List.range len).all ok) fin bad := by
  intro n
  induction n with
  | zero => intro i h1 h2; omega
  | succ n ih =>
    intro i h1 h2 h3
    by_cases hi : i < len
    · rw [hs n i hi h3]
      cases ho : ok i with
      | true =>
        exact ih (i + 1) (by omega) (by omega) fun j hj => by
          rcases Nat.lt_or_ge j i with h | h
          · exact h3 j h
          · rw [show j = i by omega]; exact ho
      | false =>
        have : (List.range len).all ok = false := by
          rw [List.all_eq_false]; exact ⟨i, by simpa using hi, by simp [ho]⟩
        rw [this]; rfl
    · obtain rfl : i = len := by omega
      rw [hf n h3]
      have : (List.range i).all ok = true := by
        rw [List.all_eq_true]; intro j hj; exact h3 j (by simpa using hj)
      rw [this]; rfl
theorem srch {F : Nat → Int → Option R} {N len : Nat} {ok : Nat → Bool} {bad fin : Option R} (hN : len < N)
    (hs : ∀ n i : Nat, i < len → (∀ j, j < i → ok j = true) → F (n + 1) (i : Int) = cnd (ok i) (F n ((i + 1 : Nat) : Int)) bad) (hf : ∀ n : Nat, (∀ j, j < len → ok j = true) → F (n + 1) (len : Int) = fin) :
    F N (0 : Int) = cnd ((List.range len).all ok) fin bad :=
  srchA hs hf N 0 (by omega) (by omega) (by omega)
/-- a search that begins at 1 -/
theorem srch1 {F : Nat → Int → Option R} {N len : Nat} {ok : Nat → Bool} {bad fin : Option R} (hN : len + 1 < N) (h0 : ok 0 = true)
    (hs : ∀ n i : Nat, 0 < i → i < len → F (n + 1) (i : Int) = cnd (ok i) (F n ((i + 1 : Nat) : Int)) bad) (hf : ∀ n i : Nat, len ≤ i → F (n + 1) (i : Int) = fin) :
    F N (1 : Int) = cnd ((List.range len).all ok) fin bad := by
  have key : ∀ n i : Nat, 0 < i → i ≤ len + 1 → len + 1 < n + i → (∀ j, j < i → j < len → ok j = true) → F n (i : Int) = cnd ((List.range len).all ok) fin bad := by
    intro n
    induction n with
    | zero => intro i h1 h2 h3 h4; omega
    | succ n ih =>
      intro i h1 h4 h2 h3
      by_cases hi : i < len
      · rw [hs n i h1 hi]
        cases ho : ok i with
        | true =>
          exact ih (i + 1) (by omega) (by omega) (by omega) fun j hj hl => by
            rcases Nat.lt_or_ge j i with h | h
            · exact h3 j h hl
            · rw [show j = i by omega]; exact ho
        | false =>
          have : (List.range len).all ok = false := by
            rw [List.all_eq_false]; exact ⟨i, by simpa using hi, by simp [ho]⟩
          rw [this]; rfl
      · rw [hf n i (by omega)]
        have : (List.range len).all ok = true := by
          rw [List.all_eq_true]; intro j hj; exact h3 j (by have := List.mem_range.1 hj; omega) (by simpa using hj)
        rw [this]; rfl
  exact key N 1 (by omega) (by omega) (by omega) fun j hj _ => by rw [show j = 0 by omega]; exact h0
/-- a folding whose states are known -/
theorem foldA {F : Nat → σ × Int → Option R} {len : Nat} {st : Nat → σ} {fin : Option R} (hs : ∀ n i : Nat, i < len → F (n + 1) (st i, (i : Int)) = F n (st (i + 1), ((i + 1 : Nat) : Int))) (hf : ∀ n : Nat, F (n + 1) (st len, (len : Int)) = fin) :
    ∀ n i : Nat, i ≤ len → len < n + i → F n (st i, (i : Int)) = fin := by
  intro n
  induction n with
  | zero => intro i h1 h2; omega
  | succ n ih =>
    intro i h1 h2
    by_cases hi : i < len
    · rw [hs n i hi]; exact ih (i + 1) (by omega) (by omega)
    · obtain rfl : i = len := by omega
      exact hf n
theorem fold {F : Nat → σ × Int → Option R} {N len : Nat} {st : Nat → σ} {fin : Option R} (hN : len < N) (hs : ∀ n i : Nat, i < len → F (n + 1) (st i, (i : Int)) = F n (st (i + 1), ((i + 1 : Nat) : Int))) (hf : ∀ n : Nat, F (n + 1) (st len, (len : Int)) = fin) :
    F N (st 0, (0 : Int)) = fin := foldA hs hf N 0 (by omega) (by omega)
/-- two ways of the same choice -/
theorem cnd_congr {α : Type} {a b : Bool} (h : a = b) (x y : α) : cnd a x y = cnd b x y := by rw [h]
theorem cnd_congr' {α : Type} {a b : Bool} (h : a = !b) (x y : α) : cnd a x y = cnd b y x := by subst h; cases b <;> rfl
theorem succ_cast (i : Nat) : ((i : Int) + 1) = ((i + 1 : Nat) : Int) := rfl
theorem range_all_not_contains (l : List Int) (x : Int) : ((List.range l.length).all fun i => !(l.getD i 0 == x)) = !l.contains x := by
  rw [Bool.eq_iff_iff, List.all_eq_true]
  simp only [List.mem_range, Bool.not_eq_true', beq_eq_false_iff_ne, List.contains_eq_mem, decide_eq_false_iff_not]
  constructor
  · intro h hx
    obtain ⟨i, hi, he⟩ := List.mem_iff_getElem.1 hx
    exact h i hi (by simp [List.getD_eq_getElem?_getD, hi, he])
  · intro h i hi he
    exact h (List.mem_iff_getElem.2 ⟨i, hi, by simpa [List.getD_eq_getElem?_getD, hi] using he⟩)
end Go.Proofs.Ytmoamglpocjhgaa

namespace Go.Proofs.Ytmoamglpocjhgaa
set_option linter.unusedVariables false
set_option linter.unusedSimpArgs false
variable (N : Nat)
theorem l1In_s (x lo hi : Int) : S_l1In N x lo hi = some (inB x lo hi) := by
  unfold S_l1In inB
  rw [cnd_some]
  show some (cnd (decide (lo ≤ x)) _ _) = _
  cases decide (lo ≤ x) <;> rfl
theorem within_s (x lo hi : Int) : I_within N x lo hi = some (inB x lo hi) := by
  unfold I_within inB
  rw [cnd_some]
  show some (cnd (decide (lo ≤ x)) _ _) = _
  cases decide (lo ≤ x) <;> rfl
theorem l2Has_s (hN : 4000000 ≤ N) {l : List Int} (hl : l.length ≤ 3000000) (x : Int) : S_l2Has N l x = some (l.contains x) := by
  unfold S_l2Has
  refine (srch (len := l.length) (ok := fun i => !(l.getD i 0 == x)) (bad := some true) (fin := some false) (by omega) ?_ ?_).trans ?_
  · intro n i hi _
    rw [S_l2Has_l1]
    simp (disch := omega) only [Int.toNat_natCast, tk0, List.length_cons, List.length_nil, grd_pos, grd_T, grd_R, cnd_dt, cnd_df, cnd_true, cnd_false, Option.bind_some, cnd_not, succ_cast]
  · intro n _
    rw [S_l2Has_l1]
    simp (disch := omega) only [Int.toNat_natCast, tk0, List.length_cons, List.length_nil, grd_pos, grd_T, grd_R, cnd_dt, cnd_df, cnd_true, cnd_false, Option.bind_some]
  · rw [range_all_not_contains, cnd_some]; cases l.contains x <;> rfl
theorem indexInt_l (hN : 4000000 ≤ N) {l : List Int} (hl : l.length ≤ 3000000) (x : Int) : ∀ n i : Nat, i ≤ l.length → l.length < n + i → ∃ r : Int, G_Index_int_l1 N l x (fun _ => some (-1)) n (i : Int) = some r ∧ (decide (r ≥ 0) = (l.drop i).contains x) := by
  intro n
  induction n with
  | zero => intro i h1 h2; omega
  | succ n ih =>
    intro i h1 h2
    rw [G_Index_int_l1]
    by_cases hi : i < l.length
    · simp (disch := omega) only [Int.toNat_natCast, tk0, List.length_cons, List.length_nil, grd_pos, grd_T, grd_R, cnd_dt, cnd_df, cnd_true, cnd_false, Option.bind_some]
      rw [List.drop_eq_getElem_cons hi, List.contains_cons]
      have e : l.getD i 0 = l[i] := by simp [List.getD_eq_getElem?_getD, hi]
      rw [e]
      cases h : x == l[i] with
      | true => exact ⟨i, rfl, by simp⟩
      | false =>
        obtain ⟨r, h1, h2⟩ := ih (i + 1) (by omega) (by omega)
        exact ⟨r, h1, by rw [h2]; rfl⟩
    · simp (disch := omega) only [Int.toNat_natCast, tk0, List.length_cons, List.length_nil, grd_pos, grd_T, grd_R, cnd_dt, cnd_df, cnd_true, cnd_false, Option.bind_some]
      exact ⟨-1, rfl, by rw [List.drop_eq_nil_of_le (by omega)]; rfl⟩
theorem contains_s (hN : 4000000 ≤ N) {l : List Int} (hl : l.length ≤ 3000000) (x : Int) : G_Contains_int N l x = some (l.contains x) := by
  unfold G_Contains_int G_Index_int
  obtain ⟨r, h1, h2⟩ := indexInt_l N hN hl x N 0 (by omega) (by omega)
  rw [show (0 : Int) = ((0 : Nat) : Int) from rfl, h1]
  show some (decide (r ≥ 0)) = _
  rw [h2]; rfl
theorem l2After_s (a b : Int × Int) : S_l2After N a b = some (barLeB a b) := by
  unfold S_l2After barLeB
  simp only [cnd_some]
  cases decide (a.1 < b.1) <;> cases a.1 == b.1 <;> rfl
theorem compareInts_s (a b : Int) : I_compareInts N a b = some (cmpI a b) := by
  unfold I_compareInts cmpI
  by_cases h : a < b
  · simp (disch := omega) only [Int.toNat_natCast, tk0, List.length_cons, List.length_nil, grd_pos, grd_T, grd_R, cnd_dt, cnd_df, cnd_true, cnd_false, Option.bind_some, if_pos h]
  · by_cases h' : b < a
    · simp (disch := omega) only [Int.toNat_natCast, tk0, List.length_cons, List.length_nil, grd_pos, grd_T, grd_R, cnd_dt, cnd_df, cnd_true, cnd_false, Option.bind_some, if_neg h, if_pos h', gt_iff_lt]
    · simp (disch := omega) only [Int.toNat_natCast, tk0, List.length_cons, List.length_nil, grd_pos, grd_T, grd_R, cnd_dt, cnd_df, cnd_true, cnd_false, Option.bind_some, if_neg h, if_neg h', gt_iff_lt]
theorem compareBars_s (a b : Int × Int) : I_compareBars N a b = some (cmpBar a b) := by
  unfold I_compareBars cmpBar
  simp only [compareInts_s, Option.bind_some]
  by_cases h : cmpI a.1 b.1 = 0
  · rw [if_pos h, cnd_nef h]
  · rw [if_neg h, cnd_net h]
theorem cmpBar_gt (a b : Int × Int) : decide (cmpBar a b > 0) = !barLeB a b := by
  have := cmpBar_pos a b
  cases h : barLeB a b with
  | true => rw [h] at this; simp at this; simp; omega
  | false => rw [h] at this; simp at this; simp; omega
theorem isGraphS_s (hN : 4000000 ≤ N) {g : Grf} : S_IsGraph N g = some (isGraph g) := by
  unfold S_IsGraph isGraph
  rw [l1In_s, Option.bind_some, cnd_not]
  cases h1 : inB g.n 1 8 with
  | false => rfl
  | true =>
    by_cases h2 : g.bars.length ≤ 24
    · simp (disch := omega) only [Int.toNat_natCast, tk0, List.length_cons, List.length_nil, grd_pos, grd_T, grd_R, cnd_dt, cnd_df, cnd_true, cnd_false, Option.bind_some]
      refine (srch (len := g.bars.length) (ok := barAt g.n g.bars) (bad := some false) (fin := some true) (by omega) ?_ ?_).trans ?_
      · intro n i hi _
        rw [S_IsGraph_l1]
        by_cases h0 : i = 0
        · subst h0
          simp (disch := omega) only [Int.toNat_natCast, tk0, List.length_cons, List.length_nil, grd_pos, grd_T, grd_R, cnd_dt, cnd_df, cnd_true, cnd_false, Option.bind_some, l2After_s, cnd_or, cnd_and, succ_cast]
          refine cnd_congr' ?_ _ _
          simp only [barAt, barOkB]
          rw [Bool.eq_iff_iff]; simp; omega
        · simp (disch := omega) only [Int.toNat_natCast, tk0, List.length_cons, List.length_nil, grd_pos, grd_T, grd_R, cnd_dt, cnd_df, cnd_true, cnd_false, Option.bind_some, l2After_s, cnd_or, cnd_and, succ_cast, show ((i : Int) - 1).toNat = i - 1 from by omega]
          refine cnd_congr' ?_ _ _
          simp only [barAt, barOkB, decide_eq_false h0, Bool.false_or]
          cases barLeB (g.bars.getD (i - 1) (0, 0)) (g.bars.getD i (0, 0)) <;> (rw [Bool.eq_iff_iff]; simp; try omega)
      · intro n _
        rw [S_IsGraph_l1]
        simp (disch := omega) only [Int.toNat_natCast, tk0, List.length_cons, List.length_nil, grd_pos, grd_T, grd_R, cnd_dt, cnd_df, cnd_true, cnd_false, Option.bind_some]
      · rw [cnd_some, cnd_bool]; simp [h2]
    · simp (disch := omega) only [Int.toNat_natCast, tk0, List.length_cons, List.length_nil, grd_pos, grd_T, grd_R, cnd_dt, cnd_df, cnd_true, cnd_false, Option.bind_some]
      simp [h2]
theorem isGraphI_s (hN : 4000000 ≤ N) {g : Grf} : I_IsGraph N g = some (isGraph g) := by
  unfold I_IsGraph isGraph
  rw [within_s, Option.bind_some, cnd_not]
  cases h1 : inB g.n 1 8 with
  | false => rfl
  | true =>
    by_cases h2 : g.bars.length ≤ 24
    · simp (disch := omega) only [Int.toNat_natCast, tk0, List.length_cons, List.length_nil, grd_pos, grd_T, grd_R, cnd_dt, cnd_df, cnd_true, cnd_false, Option.bind_some]
      refine (srch (len := g.bars.length) (ok := barAt g.n g.bars) (bad := some false) (fin := some true) (by omega) ?_ ?_).trans ?_
      · intro n i hi _
        rw [I_IsGraph_l1]
        by_cases h0 : i = 0
        · subst h0
          simp (disch := omega) only [Int.toNat_natCast, tk0, List.length_cons, List.length_nil, grd_pos, grd_T, grd_R, cnd_dt, cnd_df, cnd_true, cnd_false, Option.bind_some, compareBars_s, cmpBar_gt, cnd_or, cnd_and, succ_cast]
          refine cnd_congr' ?_ _ _
          simp only [barAt, barOkB]
          rw [Bool.eq_iff_iff]; simp; omega
        · simp (disch := omega) only [Int.toNat_natCast, tk0, List.length_cons, List.length_nil, grd_pos, grd_T, grd_R, cnd_dt, cnd_df, cnd_true, cnd_false, Option.bind_some, compareBars_s, cmpBar_gt, cnd_or, cnd_and, succ_cast, show ((i : Int) - 1).toNat = i - 1 from by omega]
          refine cnd_congr' ?_ _ _
          simp only [barAt, barOkB, decide_eq_false h0, Bool.false_or]
          cases barLeB (g.bars.getD (i - 1) (0, 0)) (g.bars.getD i (0, 0)) <;> (rw [Bool.eq_iff_iff]; simp; try omega)
      · intro n _
        rw [I_IsGraph_l1]
        simp (disch := omega) only [Int.toNat_natCast, tk0, List.length_cons, List.length_nil, grd_pos, grd_T, grd_R, cnd_dt, cnd_df, cnd_true, cnd_false, Option.bind_some]
      · rw [cnd_some, cnd_bool]; simp [h2]
    · simp (disch := omega) only [Int.toNat_natCast, tk0, List.length_cons, List.length_nil, grd_pos, grd_T, grd_R, cnd_dt, cnd_df, cnd_true, cnd_false, Option.bind_some]
      simp [h2]
end Go.Proofs.Ytmoamglpocjhgaa

namespace Go.Proofs.Ytmoamglpocjhgaa
set_option linter.unusedVariables false
set_option linter.unusedSimpArgs false
variable (N : Nat)
theorem all_not_dbl (l : List (Int × Int)) : ((List.range l.length).all fun i => !doubleAt l i) = !hasDbl l := by
  simp only [hasDbl, List.not_any_eq_all_not]
theorem pair_eq (a b : Int × Int) : ((a.1 == b.1) && (a.2 == b.2)) = (a == b) := by
  obtain ⟨x, y⟩ := a; obtain ⟨u, v⟩ := b; rfl
theorem hasDoubles_s (hN : 4000000 ≤ N) {g : Grf} (hb : g.bars.length ≤ 3000000) : I_hasDoubles N g = some (hasDbl g.bars) := by
  unfold I_hasDoubles
  refine (srch1 (len := g.bars.length) (ok := fun i => !doubleAt g.bars i) (bad := some true) (fin := some false) (by omega) rfl ?_ ?_).trans ?_
  · intro n i h0 hi
    rw [I_hasDoubles_l1]
    simp (disch := omega) only [Int.toNat_natCast, tk0, List.length_cons, List.length_nil, grd_pos, grd_T, grd_R, cnd_dt, cnd_df, cnd_true, cnd_false, Option.bind_some, succ_cast, pair_eq, show ((i : Int) - 1).toNat = i - 1 from by omega]
    refine cnd_congr' ?_ _ _
    simp [doubleAt, h0]
  · intro n i hi
    rw [I_hasDoubles_l1]
    simp (disch := omega) only [Int.toNat_natCast, tk0, List.length_cons, List.length_nil, grd_pos, grd_T, grd_R, cnd_dt, cnd_df, cnd_true, cnd_false, Option.bind_some]
  · rw [all_not_dbl, cnd_some]; cases hasDbl g.bars <;> rfl
theorem l17Simple_s (hN : 4000000 ≤ N) {g : Grf} (hb : g.bars.length ≤ 3000000) : S_l17Simple N g = some (isSimple g) := by
  unfold S_l17Simple isSimple
  refine (srch1 (len := g.bars.length) (ok := fun i => !doubleAt g.bars i) (bad := some false) (fin := some (isGraph g)) (by omega) rfl ?_ ?_).trans ?_
  · intro n i h0 hi
    rw [S_l17Simple_l1]
    simp (disch := omega) only [Int.toNat_natCast, tk0, List.length_cons, List.length_nil, grd_pos, grd_T, grd_R, cnd_dt, cnd_df, cnd_true, cnd_false, Option.bind_some, succ_cast, pair_eq, show ((i : Int) - 1).toNat = i - 1 from by omega]
    refine cnd_congr' ?_ _ _
    simp [doubleAt, h0]
  · intro n i hi
    rw [S_l17Simple_l1]
    simp (disch := omega) only [Int.toNat_natCast, tk0, List.length_cons, List.length_nil, grd_pos, grd_T, grd_R, cnd_dt, cnd_df, cnd_true, cnd_false, Option.bind_some, isGraphS_s N hN]
  · rw [all_not_dbl, cnd_some]; cases hasDbl g.bars <;> cases isGraph g <;> rfl
theorem ghas_s {g : Grf} (h : 0 ≤ g.n) (h' : g.n ≤ 1048576) (x : Int) : M_Graph_has N g x = some (inB x 0 (g.n - 1)) := by
  unfold M_Graph_has
  rw [w64_id (by omega) (by omega)]
  simp (disch := omega) only [Int.toNat_natCast, tk0, List.length_cons, List.length_nil, grd_pos, grd_T, grd_R, cnd_dt, cnd_df, cnd_true, cnd_false, Option.bind_some, within_s]
theorem range_all_none (gr : List Int) (l : List (Int × Int)) : ((List.range l.length).all fun i => !bothIn gr (l.getD i (0, 0))) = noneIn gr l := by
  rw [Bool.eq_iff_iff, noneIn, List.all_eq_true, List.all_eq_true]
  simp only [List.mem_range]
  constructor
  · intro h p hp
    obtain ⟨i, hi, rfl⟩ := List.getElem_of_mem hp
    simpa [List.getD_eq_getElem?_getD, hi] using h i hi
  · intro h i hi
    have := h l[i] (List.getElem_mem hi)
    simpa [List.getD_eq_getElem?_getD, hi] using this
theorem isPinned_n {p : Pin} (h : isGraph p.g = true) : 1 ≤ p.g.n ∧ p.g.n ≤ 8 ∧ p.g.bars.length ≤ 24 := by
  have := isGraph_parts h; omega
theorem isPinnedI_s (hN : 4000000 ≤ N) {p : Pin} (hb : p.g.bars.length ≤ 3000000) (hg : p.ground.length ≤ 3000000) : I_IsPinned N p = some (isPinned p) := by
  unfold I_IsPinned isPinned
  rw [isGraphI_s N hN, Option.bind_some, cnd_not]
  cases h1 : isGraph p.g with
  | false => rfl
  | true =>
    obtain ⟨hn1, hn2, hbl⟩ := isPinned_n h1
    rw [cnd_true, hasDoubles_s N hN hb, Option.bind_some]
    cases h2 : hasDbl p.g.bars with
    | true => rfl
    | false =>
      rw [cnd_false]
      by_cases h3 : 2 ≤ p.ground.length
      · by_cases h4 : p.g.bars.length ≤ 15
        · by_cases h5 : p.g.bars.length + 2 * p.ground.length ≤ 27
          · simp (disch := omega) only [Int.toNat_natCast, tk0, List.length_cons, List.length_nil, grd_pos, grd_T, grd_R, cnd_dt, cnd_df, cnd_true, cnd_false, Option.bind_some]
            refine (srch (len := p.ground.length) (ok := ascAt p.g.n p.ground) (bad := some false) (fin := some (noneIn p.ground p.g.bars)) (by omega) ?_ ?_).trans ?_
            · intro n i hi _
              rw [I_IsPinned_l2]
              by_cases h0 : i = 0
              · subst h0
                simp (disch := omega) only [Int.toNat_natCast, tk0, List.length_cons, List.length_nil, grd_pos, grd_T, grd_R, cnd_dt, cnd_df, cnd_true, cnd_false, Option.bind_some, ghas_s N (by omega : 0 ≤ p.g.n) (by omega), cnd_not, succ_cast]
                refine cnd_congr ?_ _ _
                simp [ascAt]
              · simp (disch := omega) only [Int.toNat_natCast, tk0, List.length_cons, List.length_nil, grd_pos, grd_T, grd_R, cnd_dt, cnd_df, cnd_true, cnd_false, Option.bind_some, ghas_s N (by omega : 0 ≤ p.g.n) (by omega), succ_cast, cnd_or, show ((i : Int) - 1).toNat = i - 1 from by omega]
                refine cnd_congr' ?_ _ _
                simp only [ascAt, decide_eq_false h0, Bool.false_or]
                cases inB (p.ground.getD i 0) 0 (p.g.n - 1) <;> (rw [Bool.eq_iff_iff]; simp)
            · intro n _
              rw [I_IsPinned_l2]
              simp (disch := omega) only [Int.toNat_natCast, tk0, List.length_cons, List.length_nil, grd_pos, grd_T, grd_R, cnd_dt, cnd_df, cnd_true, cnd_false, Option.bind_some]
              refine (srch (len := p.g.bars.length) (ok := fun i => !bothIn p.ground (p.g.bars.getD i (0, 0))) (bad := some false) (fin := some true) (by omega) ?_ ?_).trans ?_
              · intro n i hi _
                rw [I_IsPinned_l1]
                simp (disch := omega) only [Int.toNat_natCast, tk0, List.length_cons, List.length_nil, grd_pos, grd_T, grd_R, cnd_dt, cnd_df, cnd_true, cnd_false, Option.bind_some, contains_s N hN hg, succ_cast, cnd_and]
                refine cnd_congr' ?_ _ _
                simp [bothIn]
              · intro n _
                rw [I_IsPinned_l1]
                simp (disch := omega) only [Int.toNat_natCast, tk0, List.length_cons, List.length_nil, grd_pos, grd_T, grd_R, cnd_dt, cnd_df, cnd_true, cnd_false, Option.bind_some]
              · rw [range_all_none, cnd_some, cnd_bool]
            · rw [cnd_some, show (List.range p.ground.length).all (ascAt p.g.n p.ground) = asc p.g.n p.ground from rfl]
              simp only [decide_eq_true h3, decide_eq_true h4, decide_eq_true h5]
              cases asc p.g.n p.ground <;> cases noneIn p.ground p.g.bars <;> rfl
          · simp (disch := omega) only [Int.toNat_natCast, tk0, List.length_cons, List.length_nil, grd_pos, grd_T, grd_R, cnd_dt, cnd_df, cnd_true, cnd_false, Option.bind_some]
            simp [h5]
        · simp (disch := omega) only [Int.toNat_natCast, tk0, List.length_cons, List.length_nil, grd_pos, grd_T, grd_R, cnd_dt, cnd_df, cnd_true, cnd_false, Option.bind_some]
          simp [h4]
      · simp (disch := omega) only [Int.toNat_natCast, tk0, List.length_cons, List.length_nil, grd_pos, grd_T, grd_R, cnd_dt, cnd_df, cnd_true, cnd_false, Option.bind_some]
        simp [h3]
theorem isPinnedS_s (hN : 4000000 ≤ N) {p : Pin} (hb : p.g.bars.length ≤ 3000000) (hg : p.ground.length ≤ 3000000) : S_IsPinned N p = some (isPinned p) := by
  unfold S_IsPinned
  refine (srch (len := p.ground.length) (ok := ascAt p.g.n p.ground) (bad := some false) (fin := cnd (noneIn p.ground p.g.bars) (some (isSimple p.g && decide (2 ≤ p.ground.length) && decide (p.g.bars.length ≤ 15) && decide (p.g.bars.length + 2 * p.ground.length ≤ 27))) (some false)) (by omega) ?_ ?_).trans ?_
  · intro n i hi _
    rw [S_IsPinned_l2]
    by_cases h0 : i = 0
    · subst h0
      simp (disch := omega) only [Int.toNat_natCast, tk0, List.length_cons, List.length_nil, grd_pos, grd_T, grd_R, cnd_dt, cnd_df, cnd_true, cnd_false, Option.bind_some, cnd_or, succ_cast]
      refine cnd_congr' ?_ _ _
      simp only [ascAt, inB]
      rw [Bool.eq_iff_iff]; simp; omega
    · simp (disch := omega) only [Int.toNat_natCast, tk0, List.length_cons, List.length_nil, grd_pos, grd_T, grd_R, cnd_dt, cnd_df, cnd_true, cnd_false, Option.bind_some, succ_cast, cnd_or, show ((i : Int) - 1).toNat = i - 1 from by omega]
      refine cnd_congr' ?_ _ _
      simp only [ascAt, inB, decide_eq_false h0, Bool.false_or]
      rw [Bool.eq_iff_iff]; simp; omega
  · intro n _
    rw [S_IsPinned_l2]
    simp (disch := omega) only [Int.toNat_natCast, tk0, List.length_cons, List.length_nil, grd_pos, grd_T, grd_R, cnd_dt, cnd_df, cnd_true, cnd_false, Option.bind_some]
    refine (srch (len := p.g.bars.length) (ok := fun i => !bothIn p.ground (p.g.bars.getD i (0, 0))) (bad := some false) (fin := some (isSimple p.g && decide (2 ≤ p.ground.length) && decide (p.g.bars.length ≤ 15) && decide (p.g.bars.length + 2 * p.ground.length ≤ 27))) (by omega) ?_ ?_).trans ?_
    · intro n i hi _
      rw [S_IsPinned_l1]
      simp (disch := omega) only [Int.toNat_natCast, tk0, List.length_cons, List.length_nil, grd_pos, grd_T, grd_R, cnd_dt, cnd_df, cnd_true, cnd_false, Option.bind_some, l2Has_s N hN hg, succ_cast, cnd_and]
      refine cnd_congr' ?_ _ _
      simp [bothIn]
    · intro n _
      rw [S_IsPinned_l1]
      simp (disch := omega) only [Int.toNat_natCast, tk0, List.length_cons, List.length_nil, grd_pos, grd_T, grd_R, cnd_dt, cnd_df, cnd_true, cnd_false, Option.bind_some, l17Simple_s N hN hb]
      simp only [cnd_some]
      congr 1
      rw [show decide ((p.ground.length : Int) ≥ 2) = decide (2 ≤ p.ground.length) from by rw [Bool.eq_iff_iff]; simp; omega, show decide ((p.g.bars.length : Int) ≤ 15) = decide (p.g.bars.length ≤ 15) from by rw [Bool.eq_iff_iff]; simp; omega,
        show decide ((p.g.bars.length : Int) + 2 * (p.ground.length : Int) - 3 ≤ 24) = decide (p.g.bars.length + 2 * p.ground.length ≤ 27) from by rw [Bool.eq_iff_iff]; simp; omega]
      cases isSimple p.g <;> cases decide (2 ≤ p.ground.length) <;> cases decide (p.g.bars.length ≤ 15) <;> rfl
    · rw [range_all_none]
  · rw [show (List.range p.ground.length).all (ascAt p.g.n p.ground) = asc p.g.n p.ground from rfl]
    simp only [cnd_some]
    congr 1
    unfold isPinned isSimple
    cases asc p.g.n p.ground <;> cases noneIn p.ground p.g.bars <;> simp [cnd]
end Go.Proofs.Ytmoamglpocjhgaa

namespace Go.Proofs.Ytmoamglpocjhgaa
open Go.RowKit
set_option linter.unusedVariables false
set_option linter.unusedSimpArgs false
def S_l26Ends_l1 (N : Nat) (p_0 : Pin) (done_1 : List Int) (r_2 : Rse) (k : Unit → Option (Bool)) : Nat → Int → Option (Bool)
  | 0, _ => none
  | n + 1, i51 =>
    cnd (decide (i51 < (r_2.bars.length : Int))) (
      grd (0 ≤ i51 ∧ i51 < (r_2.bars.length : Int)) <|
      cnd (decide ((r_2.bars.getD ((i51).toNat) 0) < (0 : Int))) (
        some false) (
        cnd (decide ((r_2.bars.getD ((i51).toNat) 0) ≥ (p_0.g.bars.length : Int))) (
          some false) (
          cnd (decide (i51 > (0 : Int))) (
            grd (Rg64 (i51 - (1 : Int))) <|
            grd (0 ≤ (i51 - (1 : Int)) ∧ (i51 - (1 : Int)) < (r_2.bars.length : Int)) <|
            cnd (decide ((r_2.bars.getD (((i51 - (1 : Int))).toNat) 0) ≥ (r_2.bars.getD ((i51).toNat) 0))) (
              some false) (
              grd (0 ≤ (r_2.bars.getD ((i51).toNat) 0) ∧ (r_2.bars.getD ((i51).toNat) 0) < (p_0.g.bars.length : Int)) <|
              cnd (((p_0.g.bars.getD (((r_2.bars.getD ((i51).toNat) 0)).toNat) (0, 0)).1) != r_2.p) (
                cnd (((p_0.g.bars.getD (((r_2.bars.getD ((i51).toNat) 0)).toNat) (0, 0)).2) != r_2.p) (
                  some false) (
                  (S_l4Other N (p_0.g.bars.getD (((r_2.bars.getD ((i51).toNat) 0)).toNat) (0, 0)) r_2.p).bind fun v64 =>
                  (S_l2Has N p_0.ground v64).bind fun v65 =>
                  cnd (!v65) (
                    (S_l2Has N done_1 v64).bind fun v66 =>
                    cnd (!v66) (
                      some false) (
                      grd (Rg64 (i51 + (1 : Int))) <|
                      S_l26Ends_l1 N p_0 done_1 r_2 k n (i51 + (1 : Int)))) (
                    grd (Rg64 (i51 + (1 : Int))) <|
                    S_l26Ends_l1 N p_0 done_1 r_2 k n (i51 + (1 : Int))))) (
                (S_l4Other N (p_0.g.bars.getD (((r_2.bars.getD ((i51).toNat) 0)).toNat) (0, 0)) r_2.p).bind fun v67 =>
                (S_l2Has N p_0.ground v67).bind fun v68 =>
                cnd (!v68) (
                  (S_l2Has N done_1 v67).bind fun v69 =>
                  cnd (!v69) (
                    some false) (
                    grd (Rg64 (i51 + (1 : Int))) <|
                    S_l26Ends_l1 N p_0 done_1 r_2 k n (i51 + (1 : Int)))) (
                  grd (Rg64 (i51 + (1 : Int))) <|
                  S_l26Ends_l1 N p_0 done_1 r_2 k n (i51 + (1 : Int)))))) (
            grd (0 ≤ (r_2.bars.getD ((i51).toNat) 0) ∧ (r_2.bars.getD ((i51).toNat) 0) < (p_0.g.bars.length : Int)) <|
            cnd (((p_0.g.bars.getD (((r_2.bars.getD ((i51).toNat) 0)).toNat) (0, 0)).1) != r_2.p) (
              cnd (((p_0.g.bars.getD (((r_2.bars.getD ((i51).toNat) 0)).toNat) (0, 0)).2) != r_2.p) (
                some false) (
                (S_l4Other N (p_0.g.bars.getD (((r_2.bars.getD ((i51).toNat) 0)).toNat) (0, 0)) r_2.p).bind fun v70 =>
                (S_l2Has N p_0.ground v70).bind fun v71 =>
                cnd (!v71) (
                  (S_l2Has N done_1 v70).bind fun v72 =>
                  cnd (!v72) (
                    some false) (
                    grd (Rg64 (i51 + (1 : Int))) <|
                    S_l26Ends_l1 N p_0 done_1 r_2 k n (i51 + (1 : Int)))) (
                  grd (Rg64 (i51 + (1 : Int))) <|
                  S_l26Ends_l1 N p_0 done_1 r_2 k n (i51 + (1 : Int))))) (
              (S_l4Other N (p_0.g.bars.getD (((r_2.bars.getD ((i51).toNat) 0)).toNat) (0, 0)) r_2.p).bind fun v73 =>
              (S_l2Has N p_0.ground v73).bind fun v74 =>
              cnd (!v74) (
                (S_l2Has N done_1 v73).bind fun v75 =>
                cnd (!v75) (
                  some false) (
                  grd (Rg64 (i51 + (1 : Int))) <|
                  S_l26Ends_l1 N p_0 done_1 r_2 k n (i51 + (1 : Int)))) (
                grd (Rg64 (i51 + (1 : Int))) <|
                S_l26Ends_l1 N p_0 done_1 r_2 k n (i51 + (1 : Int)))))))) (
      k ())
def S_l26Ends (N : Nat) (p_0 : Pin) (done_1 : List Int) (r_2 : Rse) : Option (Bool) :=
  S_l26Ends_l1 N p_0 done_1 r_2 (fun (_ : Unit) =>
        some true) N (0 : Int)
set_option maxRecDepth 20000 in
set_option maxHeartbeats 1600000 in
theorem S_l26Ends_w (N : Nat) (p_0 : Pin) (done_1 : List Int) (r_2 : Rse) (r : Bool) (h : S_l26Ends N p_0 done_1 r_2 = some r) : PCall Try.prog 83 [pD p_0, .ro false (.ints done_1), rD r_2] [] (.bool r) := by
  unfold S_l26Ends at h
  refine pcall_intro (TT := TT) tt Try.func83 rfl rfl Try.ntmps83 (congrArg Array.toList Try.results83) rfl rfl fun w0 => ?_
  refine vSeq ?_
  refine vRegion ?_
  iterate 2 refine oBox rfl rfl rfl rfl rfl rfl rfl rfl rfl ?_
  refine oVal tt rfl rfl rfl rfl rfl trivial ?_
  refine vNil ?_
  change VC _ _ _ _
  iterate 2 refine vSeq ?_
  refine vRegion ?_
  refine oVal tt rfl rfl rfl rfl rfl trivial ?_
  refine vNil ?_
  change VC _ _ _ _
  refine vJoin (F := fun k => S_l26Ends_l1 N p_0 done_1 r_2 k) h (α := Unit) (J := fun (_ : Unit) => (⟨[], [], []⟩ : PS)) ?_ ?_
  · rintro ⟨⟩ h
    show VC _ _ _ (⟨[], [], []⟩ : PS)
    refine vSeq ?_
    refine vRegion ?_
    refine oVal tt rfl rfl rfl rfl rfl trivial ?_
    refine vNil ?_
    change VC _ _ _ _
    refine vRet ?_
    change ∃ _, _
    cases h
    exact ⟨[], _, rfl, trivial, rfl, (.eq rfl), rfl⟩
  · intro k h
    refine vBlock ?_
    refine vLoopS (α := Int) (fun (i51 : Int) => (⟨[(1, .ro false (.ints done_1)), (3, .ptr 3 0), (5, .ptr 5 0), (7, .int i51)], [], [(3, some [.int p_0.g.n, .ro false (.pairs p_0.g.bars), .ro false (.ints p_0.ground)]), (5, some [.int r_2.p, .ro false (.ints r_2.bars)])]⟩ : PS)) (S_l26Ends_l1 N p_0 done_1 r_2 k) h (En.of ⟨rfl, rfl, rfl, rfl, trivial⟩ trivial ⟨rfl, rfl, trivial⟩) (fun _ => rfl) ?_
    rintro n i51 h
    rw [S_l26Ends_l1] at h
    show VC _ _ _ (⟨[(1, .ro false (.ints done_1)), (3, .ptr 3 0), (5, .ptr 5 0), (7, .int i51)], [], [(3, some [.int p_0.g.n, .ro false (.pairs p_0.g.bars), .ro false (.ints p_0.ground)]), (5, some [.int r_2.p, .ro false (.ints r_2.bars)])]⟩ : PS)
    iterate 2 refine vSeq ?_
    refine vRegion ?_
    iterate 5 refine oVal tt rfl rfl rfl rfl rfl trivial ?_
    refine vNil ?_
    change VC _ _ _ _
    refine vCond rfl (fun hb1 => ?_) (fun hb1 => ?_)
    · replace h := cnd_t hb1 h
      refine vSkip ?_
      change VC _ _ _ _
      refine vSeq ?_
      refine vBlock ?_
      iterate 2 refine vSeq ?_
      refine vRegionD (by kernel_rfl) (by kernel_rfl) ?_
      iterate 3 refine cVal tt rfl (wNone rfl) rfl rfl rfl trivial ?_
      obtain ⟨hg2, h⟩ := grd_inv h
      refine cVal tt rfl (wNone rfl) rfl rfl rfl hg2 ?_
      iterate 3 refine cVal tt rfl (wNone rfl) rfl rfl rfl trivial ?_
      refine cSplit rfl rfl rfl (fun hb3 => ?_) (fun hb3 => ?_)
      · replace h := cnd_t hb3 h
        iterate 10 refine cNoF rfl rfl rfl rfl hb3 rfl rfl ?_
        refine cPickT rfl (wNone rfl) rfl rfl rfl hb3 rfl ?_
        refine cVal tt rfl (wNone rfl) rfl rfl rfl trivial ?_
        iterate 3 refine cNoF rfl rfl rfl rfl rfl rfl rfl ?_
        iterate 12 refine cNoU rfl rfl rfl rfl rfl ?_
        refine cNoF rfl rfl rfl rfl rfl rfl rfl ?_
        refine cPickT rfl (wNone rfl) rfl rfl rfl rfl rfl ?_
        refine cNil ?_
        change VC _ _ _ _
        refine vCondT rfl rfl ?_
        refine vSeq ?_
        refine vRegion ?_
        refine oVal tt rfl rfl rfl rfl rfl trivial ?_
        refine vNil ?_
        change VC _ _ _ _
        refine vRet ?_
        change ∃ _, _
        cases h
        exact ⟨[], _, rfl, trivial, rfl, (.eq rfl), rfl⟩
      · replace h := cnd_f hb3 h
        iterate 3 refine cVal tt rfl (wSome rfl rfl rfl rfl hb3) rfl rfl rfl trivial ?_
        refine cVal tt rfl (wSome rfl rfl rfl rfl hb3) rfl rfl rfl hg2 ?_
        iterate 6 refine cVal tt rfl (wSome rfl rfl rfl rfl hb3) rfl rfl rfl trivial ?_
        refine cPickF rfl (wNone rfl) rfl rfl rfl hb3 rfl ?_
        refine cVal tt rfl (wNone rfl) rfl rfl rfl trivial ?_
        refine cSplit rfl rfl rfl (fun hb4 => ?_) (fun hb4 => ?_)
        · replace h := cnd_t hb4 h
          iterate 3 refine cNoF rfl rfl rfl rfl hb4 rfl rfl ?_
          iterate 12 refine cNoU rfl rfl rfl rfl rfl ?_
          refine cNoF rfl rfl rfl rfl hb4 rfl rfl ?_
          refine cPickT rfl (wNone rfl) rfl rfl rfl hb4 rfl ?_
          refine cNil ?_
          change VC _ _ _ _
          refine vCondT rfl rfl ?_
          refine vSeq ?_
          refine vRegion ?_
          refine oVal tt rfl rfl rfl rfl rfl trivial ?_
          refine vNil ?_
          change VC _ _ _ _
          refine vRet ?_
          change ∃ _, _
          cases h
          exact ⟨[], _, rfl, trivial, rfl, (.eq rfl), rfl⟩
        · replace h := cnd_f hb4 h
          iterate 3 refine cVal tt rfl (wSome rfl rfl rfl rfl hb4) rfl rfl rfl trivial ?_
          refine cSplit rfl rfl rfl (fun hb5 => ?_) (fun hb5 => ?_)
          · replace h := cnd_t hb5 h
            iterate 3 refine cVal tt rfl (wSome rfl rfl rfl rfl hb5) rfl rfl rfl trivial ?_
            obtain ⟨hg6, h⟩ := grd_inv h
            refine cVal tt rfl (wSome rfl rfl rfl rfl hb5) rfl rfl rfl hg6 ?_
            obtain ⟨hg7, h⟩ := grd_inv h
            refine cVal tt rfl (wSome rfl rfl rfl rfl hb5) rfl rfl rfl hg7 ?_
            iterate 4 refine cVal tt rfl (wSome rfl rfl rfl rfl hb5) rfl rfl rfl trivial ?_
            refine cVal tt rfl (wSome rfl rfl rfl rfl hb5) rfl rfl rfl hg2 ?_
            iterate 2 refine cVal tt rfl (wSome rfl rfl rfl rfl hb5) rfl rfl rfl trivial ?_
            refine cPickT rfl (wSome rfl rfl rfl rfl hb4) rfl rfl rfl hb5 rfl ?_
            refine cPickF rfl (wNone rfl) rfl rfl rfl hb4 rfl ?_
            refine cNil ?_
            change VC _ _ _ _
            refine vCond rfl (fun hb8 => ?_) (fun hb8 => ?_)
            · replace h := cnd_t hb8 h
              refine vSeq ?_
              refine vRegion ?_
              refine oVal tt rfl rfl rfl rfl rfl trivial ?_
              refine vNil ?_
              change VC _ _ _ _
              refine vRet ?_
              change ∃ _, _
              cases h
              exact ⟨[], _, rfl, trivial, rfl, (.eq rfl), rfl⟩
            · replace h := cnd_f hb8 h
              refine vSkip ?_
              change VC _ _ _ _
              refine vSeq ?_
              refine vRegionN 11 [10] [0, 1, 3, 0, 8, 0, 56, 120, 255, 511, 0, 2047] (by kernel_rfl) (by kernel_rfl) (by kernel_rfl) (by kernel_rfl) (by kernel_rfl) rfl (by rfl) ?_
              iterate 6 refine nVal tt rfl (wNone rfl) rfl rfl rfl rfl rfl trivial ?_
              refine nVal tt rfl (wNone rfl) rfl rfl rfl rfl rfl hg2 ?_
              refine nVal tt rfl (wNone rfl) rfl rfl rfl rfl rfl trivial ?_
              obtain ⟨hg9, h⟩ := grd_inv h
              refine nVal tt rfl (wNone rfl) rfl rfl rfl rfl rfl hg9 ?_
              refine nVal tt rfl (wNone rfl) rfl rfl rfl rfl rfl trivial ?_
              refine nAlloc tt (wNone rfl) rfl rfl rfl rfl rfl rfl rfl rfl rfl rfl ?_
              refine nNil ?_
              change VO _ _ _ _ _
              refine oStore tt rfl rfl rfl rfl rfl rfl rfl rfl rfl rfl rfl ⟨trivial, trivial, trivial⟩ ?_
              refine vNil ?_
              change VC _ _ _ _
              iterate 2 refine vSeq ?_
              refine vRegion ?_
              iterate 6 refine oVal tt rfl rfl rfl rfl rfl trivial ?_
              refine oSplit rfl rfl rfl (fun hb10 => ?_) (fun hb10 => ?_)
              · replace h := cnd_t hb10 h
                iterate 5 refine oValG tt rfl rfl rfl rfl rfl hb10 rfl rfl rfl trivial ?_
                refine oPick rfl rfl rfl rfl rfl hb10 rfl ?_
                refine vNil ?_
                change VC _ _ _ _
                refine vCond rfl (fun hb11 => ?_) (fun hb11 => ?_)
                · replace h := cnd_t hb11 h
                  refine vSeq ?_
                  refine vRegion ?_
                  refine oVal tt rfl rfl rfl rfl rfl trivial ?_
                  refine vNil ?_
                  change VC _ _ _ _
                  refine vRet ?_
                  change ∃ _, _
                  cases h
                  exact ⟨[], _, rfl, trivial, rfl, (.eq rfl), rfl⟩
                · replace h := cnd_f hb11 h
                  refine vSkip ?_
                  change VC _ _ _ _
                  refine vSeq ?_
                  refine vRegion ?_
                  iterate 3 refine oVal tt rfl rfl rfl rfl rfl trivial ?_
                  obtain ⟨v64, hc12, h⟩ := bind_inv h
                  refine oCall (S_l4Other_w N (p_0.g.bars.getD (((r_2.bars.getD ((i51).toNat) 0)).toNat) (0, 0)) r_2.p v64 hc12) rfl rfl rfl rfl rfl rfl rfl rfl ⟨⟨rfl, rfl, trivial⟩, rfl, trivial⟩ ?_
                  refine oVal tt rfl rfl rfl rfl rfl trivial ?_
                  refine vNil ?_
                  change VC _ _ _ _
                  refine vSeq ?_
                  refine vRegion ?_
                  iterate 3 refine oVal tt rfl rfl rfl rfl rfl trivial ?_
                  obtain ⟨v65, hc13, h⟩ := bind_inv h
                  refine oCall (S_l2Has_w N p_0.ground v64 v65 hc13) rfl rfl rfl rfl rfl rfl rfl rfl ⟨rfl, rfl, trivial⟩ ?_
                  iterate 2 refine oVal tt rfl rfl rfl rfl rfl trivial ?_
                  refine oSplit rfl rfl rfl (fun hb14 => ?_) (fun hb14 => ?_)
                  · replace h := cnd_t hb14 h
                    iterate 2 refine oValG tt rfl rfl rfl rfl rfl hb14 rfl rfl rfl trivial ?_
                    obtain ⟨v66, hc15, h⟩ := bind_inv h
                    refine oCallG (S_l2Has_w N done_1 v64 v66 hc15) rfl rfl rfl rfl hb14 rfl rfl rfl rfl rfl rfl rfl ⟨rfl, rfl, trivial⟩ ?_
                    refine oValG tt rfl rfl rfl rfl rfl hb14 rfl rfl rfl trivial ?_
                    refine oPick rfl rfl rfl rfl rfl hb14 rfl ?_
                    refine vNil ?_
                    change VC _ _ _ _
                    refine vCond rfl (fun hb16 => ?_) (fun hb16 => ?_)
                    · replace h := cnd_t hb16 h
                      refine vSeq ?_
                      refine vRegion ?_
                      refine oVal tt rfl rfl rfl rfl rfl trivial ?_
                      refine vNil ?_
                      change VC _ _ _ _
                      refine vRet ?_
                      change ∃ _, _
                      cases h
                      exact ⟨[], _, rfl, trivial, rfl, (.eq rfl), rfl⟩
                    · replace h := cnd_f hb16 h
                      refine vSkip ?_
                      change VC _ _ _ _
                      refine vRegion ?_
                      refine oVal tt rfl rfl rfl rfl rfl trivial ?_
                      obtain ⟨hg17, h⟩ := grd_inv h
                      refine oVal tt rfl rfl rfl rfl rfl hg17 ?_
                      refine oVal tt rfl rfl rfl rfl rfl trivial ?_
                      refine vNil ?_
                      change ∃ _, _
                      exact ⟨(i51 + (1 : Int)), (En.of ⟨rfl, rfl, rfl, rfl, trivial⟩ trivial ⟨rfl, rfl, trivial⟩), h⟩
                  · replace h := cnd_f hb14 h
                    iterate 4 refine oNoT rfl rfl rfl rfl hb14 rfl rfl ?_
                    refine oPickF rfl rfl rfl rfl rfl hb14 rfl ?_
                    refine vNil ?_
                    change VC _ _ _ _
                    refine vCondF rfl rfl ?_
                    refine vSkip ?_
                    change VC _ _ _ _
                    refine vRegion ?_
                    refine oVal tt rfl rfl rfl rfl rfl trivial ?_
                    obtain ⟨hg18, h⟩ := grd_inv h
                    refine oVal tt rfl rfl rfl rfl rfl hg18 ?_
                    refine oVal tt rfl rfl rfl rfl rfl trivial ?_
                    refine vNil ?_
                    change ∃ _, _
                    exact ⟨(i51 + (1 : Int)), (En.of ⟨rfl, rfl, rfl, rfl, trivial⟩ trivial ⟨rfl, rfl, trivial⟩), h⟩
              · replace h := cnd_f hb10 h
                iterate 5 refine oNoT rfl rfl rfl rfl hb10 rfl rfl ?_
                refine oPickF rfl rfl rfl rfl rfl hb10 rfl ?_
                refine vNil ?_
                change VC _ _ _ _
                refine vCondF rfl rfl ?_
                refine vSkip ?_
                change VC _ _ _ _
                refine vSeq ?_
                refine vRegion ?_
                iterate 3 refine oVal tt rfl rfl rfl rfl rfl trivial ?_
                obtain ⟨v67, hc19, h⟩ := bind_inv h
                refine oCall (S_l4Other_w N (p_0.g.bars.getD (((r_2.bars.getD ((i51).toNat) 0)).toNat) (0, 0)) r_2.p v67 hc19) rfl rfl rfl rfl rfl rfl rfl rfl ⟨⟨rfl, rfl, trivial⟩, rfl, trivial⟩ ?_
                refine oVal tt rfl rfl rfl rfl rfl trivial ?_
                refine vNil ?_
                change VC _ _ _ _
                refine vSeq ?_
                refine vRegion ?_
                iterate 3 refine oVal tt rfl rfl rfl rfl rfl trivial ?_
                obtain ⟨v68, hc20, h⟩ := bind_inv h
                refine oCall (S_l2Has_w N p_0.ground v67 v68 hc20) rfl rfl rfl rfl rfl rfl rfl rfl ⟨rfl, rfl, trivial⟩ ?_
                iterate 2 refine oVal tt rfl rfl rfl rfl rfl trivial ?_
                refine oSplit rfl rfl rfl (fun hb21 => ?_) (fun hb21 => ?_)
                · replace h := cnd_t hb21 h
                  iterate 2 refine oValG tt rfl rfl rfl rfl rfl hb21 rfl rfl rfl trivial ?_
                  obtain ⟨v69, hc22, h⟩ := bind_inv h
                  refine oCallG (S_l2Has_w N done_1 v67 v69 hc22) rfl rfl rfl rfl hb21 rfl rfl rfl rfl rfl rfl rfl ⟨rfl, rfl, trivial⟩ ?_
                  refine oValG tt rfl rfl rfl rfl rfl hb21 rfl rfl rfl trivial ?_
                  refine oPick rfl rfl rfl rfl rfl hb21 rfl ?_
                  refine vNil ?_
                  change VC _ _ _ _
                  refine vCond rfl (fun hb23 => ?_) (fun hb23 => ?_)
                  · replace h := cnd_t hb23 h
                    refine vSeq ?_
                    refine vRegion ?_
                    refine oVal tt rfl rfl rfl rfl rfl trivial ?_
                    refine vNil ?_
                    change VC _ _ _ _
                    refine vRet ?_
                    change ∃ _, _
                    cases h
                    exact ⟨[], _, rfl, trivial, rfl, (.eq rfl), rfl⟩
                  · replace h := cnd_f hb23 h
                    refine vSkip ?_
                    change VC _ _ _ _
                    refine vRegion ?_
                    refine oVal tt rfl rfl rfl rfl rfl trivial ?_
                    obtain ⟨hg24, h⟩ := grd_inv h
                    refine oVal tt rfl rfl rfl rfl rfl hg24 ?_
                    refine oVal tt rfl rfl rfl rfl rfl trivial ?_
                    refine vNil ?_
                    change ∃ _, _
                    exact ⟨(i51 + (1 : Int)), (En.of ⟨rfl, rfl, rfl, rfl, trivial⟩ trivial ⟨rfl, rfl, trivial⟩), h⟩
                · replace h := cnd_f hb21 h
                  iterate 4 refine oNoT rfl rfl rfl rfl hb21 rfl rfl ?_
                  refine oPickF rfl rfl rfl rfl rfl hb21 rfl ?_
                  refine vNil ?_
                  change VC _ _ _ _
                  refine vCondF rfl rfl ?_
                  refine vSkip ?_
                  change VC _ _ _ _
                  refine vRegion ?_
                  refine oVal tt rfl rfl rfl rfl rfl trivial ?_
                  obtain ⟨hg25, h⟩ := grd_inv h
                  refine oVal tt rfl rfl rfl rfl rfl hg25 ?_
                  refine oVal tt rfl rfl rfl rfl rfl trivial ?_
                  refine vNil ?_
                  change ∃ _, _
                  exact ⟨(i51 + (1 : Int)), (En.of ⟨rfl, rfl, rfl, rfl, trivial⟩ trivial ⟨rfl, rfl, trivial⟩), h⟩
          · replace h := cnd_f hb5 h
            iterate 12 refine cNoT rfl rfl rfl rfl hb5 rfl rfl ?_
            refine cPickF rfl (wSome rfl rfl rfl rfl hb4) rfl rfl rfl hb5 rfl ?_
            refine cPickF rfl (wNone rfl) rfl rfl rfl hb4 rfl ?_
            refine cNil ?_
            change VC _ _ _ _
            refine vCondF rfl rfl ?_
            refine vSkip ?_
            change VC _ _ _ _
            refine vSeq ?_
            refine vRegionN 11 [10] [0, 1, 3, 0, 8, 0, 56, 120, 255, 511, 0, 2047] (by kernel_rfl) (by kernel_rfl) (by kernel_rfl) (by kernel_rfl) (by kernel_rfl) rfl (by rfl) ?_
            iterate 6 refine nVal tt rfl (wNone rfl) rfl rfl rfl rfl rfl trivial ?_
            refine nVal tt rfl (wNone rfl) rfl rfl rfl rfl rfl hg2 ?_
            refine nVal tt rfl (wNone rfl) rfl rfl rfl rfl rfl trivial ?_
            obtain ⟨hg26, h⟩ := grd_inv h
            refine nVal tt rfl (wNone rfl) rfl rfl rfl rfl rfl hg26 ?_
            refine nVal tt rfl (wNone rfl) rfl rfl rfl rfl rfl trivial ?_
            refine nAlloc tt (wNone rfl) rfl rfl rfl rfl rfl rfl rfl rfl rfl rfl ?_
            refine nNil ?_
            change VO _ _ _ _ _
            refine oStore tt rfl rfl rfl rfl rfl rfl rfl rfl rfl rfl rfl ⟨trivial, trivial, trivial⟩ ?_
            refine vNil ?_
            change VC _ _ _ _
            iterate 2 refine vSeq ?_
            refine vRegion ?_
            iterate 6 refine oVal tt rfl rfl rfl rfl rfl trivial ?_
            refine oSplit rfl rfl rfl (fun hb27 => ?_) (fun hb27 => ?_)
            · replace h := cnd_t hb27 h
              iterate 5 refine oValG tt rfl rfl rfl rfl rfl hb27 rfl rfl rfl trivial ?_
              refine oPick rfl rfl rfl rfl rfl hb27 rfl ?_
              refine vNil ?_
              change VC _ _ _ _
              refine vCond rfl (fun hb28 => ?_) (fun hb28 => ?_)
              · replace h := cnd_t hb28 h
                refine vSeq ?_
                refine vRegion ?_
                refine oVal tt rfl rfl rfl rfl rfl trivial ?_
                refine vNil ?_
                change VC _ _ _ _
                refine vRet ?_
                change ∃ _, _
                cases h
                exact ⟨[], _, rfl, trivial, rfl, (.eq rfl), rfl⟩
              · replace h := cnd_f hb28 h
                refine vSkip ?_
                change VC _ _ _ _
                refine vSeq ?_
                refine vRegion ?_
                iterate 3 refine oVal tt rfl rfl rfl rfl rfl trivial ?_
                obtain ⟨v70, hc29, h⟩ := bind_inv h
                refine oCall (S_l4Other_w N (p_0.g.bars.getD (((r_2.bars.getD ((i51).toNat) 0)).toNat) (0, 0)) r_2.p v70 hc29) rfl rfl rfl rfl rfl rfl rfl rfl ⟨⟨rfl, rfl, trivial⟩, rfl, trivial⟩ ?_
                refine oVal tt rfl rfl rfl rfl rfl trivial ?_
                refine vNil ?_
                change VC _ _ _ _
                refine vSeq ?_
                refine vRegion ?_
                iterate 3 refine oVal tt rfl rfl rfl rfl rfl trivial ?_
                obtain ⟨v71, hc30, h⟩ := bind_inv h
                refine oCall (S_l2Has_w N p_0.ground v70 v71 hc30) rfl rfl rfl rfl rfl rfl rfl rfl ⟨rfl, rfl, trivial⟩ ?_
                iterate 2 refine oVal tt rfl rfl rfl rfl rfl trivial ?_
                refine oSplit rfl rfl rfl (fun hb31 => ?_) (fun hb31 => ?_)
                · replace h := cnd_t hb31 h
                  iterate 2 refine oValG tt rfl rfl rfl rfl rfl hb31 rfl rfl rfl trivial ?_
                  obtain ⟨v72, hc32, h⟩ := bind_inv h
                  refine oCallG (S_l2Has_w N done_1 v70 v72 hc32) rfl rfl rfl rfl hb31 rfl rfl rfl rfl rfl rfl rfl ⟨rfl, rfl, trivial⟩ ?_
                  refine oValG tt rfl rfl rfl rfl rfl hb31 rfl rfl rfl trivial ?_
                  refine oPick rfl rfl rfl rfl rfl hb31 rfl ?_
                  refine vNil ?_
                  change VC _ _ _ _
                  refine vCond rfl (fun hb33 => ?_) (fun hb33 => ?_)
                  · replace h := cnd_t hb33 h
                    refine vSeq ?_
                    refine vRegion ?_
                    refine oVal tt rfl rfl rfl rfl rfl trivial ?_
                    refine vNil ?_
                    change VC _ _ _ _
                    refine vRet ?_
                    change ∃ _, _
                    cases h
                    exact ⟨[], _, rfl, trivial, rfl, (.eq rfl), rfl⟩
                  · replace h := cnd_f hb33 h
                    refine vSkip ?_
                    change VC _ _ _ _
                    refine vRegion ?_
                    refine oVal tt rfl rfl rfl rfl rfl trivial ?_
                    obtain ⟨hg34, h⟩ := grd_inv h
                    refine oVal tt rfl rfl rfl rfl rfl hg34 ?_
                    refine oVal tt rfl rfl rfl rfl rfl trivial ?_
                    refine vNil ?_
                    change ∃ _, _
                    exact ⟨(i51 + (1 : Int)), (En.of ⟨rfl, rfl, rfl, rfl, trivial⟩ trivial ⟨rfl, rfl, trivial⟩), h⟩
                · replace h := cnd_f hb31 h
                  iterate 4 refine oNoT rfl rfl rfl rfl hb31 rfl rfl ?_
                  refine oPickF rfl rfl rfl rfl rfl hb31 rfl ?_
                  refine vNil ?_
                  change VC _ _ _ _
                  refine vCondF rfl rfl ?_
                  refine vSkip ?_
                  change VC _ _ _ _
                  refine vRegion ?_
                  refine oVal tt rfl rfl rfl rfl rfl trivial ?_
                  obtain ⟨hg35, h⟩ := grd_inv h
                  refine oVal tt rfl rfl rfl rfl rfl hg35 ?_
                  refine oVal tt rfl rfl rfl rfl rfl trivial ?_
                  refine vNil ?_
                  change ∃ _, _
                  exact ⟨(i51 + (1 : Int)), (En.of ⟨rfl, rfl, rfl, rfl, trivial⟩ trivial ⟨rfl, rfl, trivial⟩), h⟩
            · replace h := cnd_f hb27 h
              iterate 5 refine oNoT rfl rfl rfl rfl hb27 rfl rfl ?_
              refine oPickF rfl rfl rfl rfl rfl hb27 rfl ?_
              refine vNil ?_
              change VC _ _ _ _
              refine vCondF rfl rfl ?_
              refine vSkip ?_
              change VC _ _ _ _
              refine vSeq ?_
              refine vRegion ?_
              iterate 3 refine oVal tt rfl rfl rfl rfl rfl trivial ?_
              obtain ⟨v73, hc36, h⟩ := bind_inv h
              refine oCall (S_l4Other_w N (p_0.g.bars.getD (((r_2.bars.getD ((i51).toNat) 0)).toNat) (0, 0)) r_2.p v73 hc36) rfl rfl rfl rfl rfl rfl rfl rfl ⟨⟨rfl, rfl, trivial⟩, rfl, trivial⟩ ?_
              refine oVal tt rfl rfl rfl rfl rfl trivial ?_
              refine vNil ?_
              change VC _ _ _ _
              refine vSeq ?_
              refine vRegion ?_
              iterate 3 refine oVal tt rfl rfl rfl rfl rfl trivial ?_
              obtain ⟨v74, hc37, h⟩ := bind_inv h
              refine oCall (S_l2Has_w N p_0.ground v73 v74 hc37) rfl rfl rfl rfl rfl rfl rfl rfl ⟨rfl, rfl, trivial⟩ ?_
              iterate 2 refine oVal tt rfl rfl rfl rfl rfl trivial ?_
              refine oSplit rfl rfl rfl (fun hb38 => ?_) (fun hb38 => ?_)
              · replace h := cnd_t hb38 h
                iterate 2 refine oValG tt rfl rfl rfl rfl rfl hb38 rfl rfl rfl trivial ?_
                obtain ⟨v75, hc39, h⟩ := bind_inv h
                refine oCallG (S_l2Has_w N done_1 v73 v75 hc39) rfl rfl rfl rfl hb38 rfl rfl rfl rfl rfl rfl rfl ⟨rfl, rfl, trivial⟩ ?_
                refine oValG tt rfl rfl rfl rfl rfl hb38 rfl rfl rfl trivial ?_
                refine oPick rfl rfl rfl rfl rfl hb38 rfl ?_
                refine vNil ?_
                change VC _ _ _ _
                refine vCond rfl (fun hb40 => ?_) (fun hb40 => ?_)
                · replace h := cnd_t hb40 h
                  refine vSeq ?_
                  refine vRegion ?_
                  refine oVal tt rfl rfl rfl rfl rfl trivial ?_
                  refine vNil ?_
                  change VC _ _ _ _
                  refine vRet ?_
                  change ∃ _, _
                  cases h
                  exact ⟨[], _, rfl, trivial, rfl, (.eq rfl), rfl⟩
                · replace h := cnd_f hb40 h
                  refine vSkip ?_
                  change VC _ _ _ _
                  refine vRegion ?_
                  refine oVal tt rfl rfl rfl rfl rfl trivial ?_
                  obtain ⟨hg41, h⟩ := grd_inv h
                  refine oVal tt rfl rfl rfl rfl rfl hg41 ?_
                  refine oVal tt rfl rfl rfl rfl rfl trivial ?_
                  refine vNil ?_
                  change ∃ _, _
                  exact ⟨(i51 + (1 : Int)), (En.of ⟨rfl, rfl, rfl, rfl, trivial⟩ trivial ⟨rfl, rfl, trivial⟩), h⟩
              · replace h := cnd_f hb38 h
                iterate 4 refine oNoT rfl rfl rfl rfl hb38 rfl rfl ?_
                refine oPickF rfl rfl rfl rfl rfl hb38 rfl ?_
                refine vNil ?_
                change VC _ _ _ _
                refine vCondF rfl rfl ?_
                refine vSkip ?_
                change VC _ _ _ _
                refine vRegion ?_
                refine oVal tt rfl rfl rfl rfl rfl trivial ?_
                obtain ⟨hg42, h⟩ := grd_inv h
                refine oVal tt rfl rfl rfl rfl rfl hg42 ?_
                refine oVal tt rfl rfl rfl rfl rfl trivial ?_
                refine vNil ?_
                change ∃ _, _
                exact ⟨(i51 + (1 : Int)), (En.of ⟨rfl, rfl, rfl, rfl, trivial⟩ trivial ⟨rfl, rfl, trivial⟩), h⟩
    · replace h := cnd_f hb1 h
      refine vExit ?_
      change ∃ _, _
      exact ⟨(), (En.of trivial trivial trivial), h⟩
def S_IsRaise (N : Nat) (p_0 : Pin) (done_1 : List Int) (r_2 : Rse) : Option (Bool) :=
  (S_IsPinned N p_0).bind fun v1 =>
  cnd v1 (
    (S_InnerPoints N p_0).bind fun v2 =>
    (S_l2Has N v2 r_2.p).bind fun v3 =>
    cnd v3 (
      (S_l2Has N done_1 r_2.p).bind fun v4 =>
      cnd (!v4) (
        cnd (decide ((r_2.bars.length : Int) ≥ (2 : Int))) (
          (S_l26Ends N p_0 done_1 r_2).bind fun v5 =>
          some v5) (
          some false)) (
        some false)) (
      some false)) (
    some false)
set_option maxRecDepth 20000 in
set_option maxHeartbeats 1600000 in
theorem S_IsRaise_w (N : Nat) (p_0 : Pin) (done_1 : List Int) (r_2 : Rse) (r : Bool) (h : S_IsRaise N p_0 done_1 r_2 = some r) : PCall Try.prog 46 [pD p_0, .ro false (.ints done_1), rD r_2] [] (.bool r) := by
  unfold S_IsRaise at h
  refine pcall_intro (TT := TT) tt Try.func46 rfl rfl Try.ntmps46 (congrArg Array.toList Try.results46) rfl rfl fun w0 => ?_
  refine vSeq ?_
  refine vRegion ?_
  iterate 2 refine oBox rfl rfl rfl rfl rfl rfl rfl rfl rfl ?_
  refine oVal tt rfl rfl rfl rfl rfl trivial ?_
  refine vNil ?_
  change VC _ _ _ _
  refine vSeq ?_
  refine vRegionN 26 [4] [0, 1, 3, 7, 15, 7, 39, 127, 255, 511, 1023, 1023, 3071, 8191, 16383, 32767, 65535, 131071, 262143, 524287, 1048575, 2097151, 4194303, 8388607, 8388607, 8388607, 67108863, 134217727, 268435455] (by kernel_rfl) (by kernel_rfl) (by kernel_rfl) (by kernel_rfl) (by kernel_rfl) rfl (by rfl) ?_
  refine nVal tt rfl (wNone rfl) rfl rfl rfl rfl rfl trivial ?_
  obtain ⟨v1, hc1, h⟩ := bind_inv h
  refine nCall (S_IsPinned_w N p_0 v1 hc1) rfl (wNone rfl) rfl rfl rfl rfl rfl rfl rfl rfl ⟨⟨rfl, rfl, rfl, trivial⟩, trivial⟩ ?_
  refine nVal tt rfl (wNone rfl) rfl rfl rfl rfl rfl trivial ?_
  refine nSplit rfl rfl rfl (fun hb2 => ?_) (fun hb2 => ?_)
  · replace h := cnd_t hb2 h
    refine nVal tt rfl (wSome rfl rfl rfl rfl hb2) rfl rfl rfl rfl rfl trivial ?_
    obtain ⟨v2, hc3, h⟩ := bind_inv h
    refine nCallR (S_InnerPoints_w N p_0 v2 hc3) rfl (wSome rfl rfl rfl rfl hb2) rfl rfl rfl rfl rfl rfl (by first | rfl | kernel_rfl | (simp [nrL, nm, gdst, nmT, rowB]; done)) rfl (by first | rfl | kernel_rfl | (simp [chkE, nrL, nm, gdst, nmT, rowB, hid, ment, mentA, mentS]; done) | (simp [chkE, nrL, nm, gdst, nmT, rowB, hid, ment, mentA, mentS]; decide)) ⟨⟨rfl, rfl, rfl, trivial⟩, trivial⟩ ?_
    iterate 2 refine nVal tt rfl (wSome rfl rfl rfl rfl hb2) rfl rfl rfl rfl rfl trivial ?_
    obtain ⟨v3, hc4, h⟩ := bind_inv h
    refine nCall (S_l2Has_w N v2 r_2.p v3 hc4) rfl (wSome rfl rfl rfl rfl hb2) rfl rfl rfl rfl rfl rfl rfl rfl ⟨(.inl ⟨rfl, rfl⟩), rfl, trivial⟩ ?_
    refine nPickT rfl (wNone rfl) rfl rfl rfl hb2 rfl rfl ?_
    refine nVal tt rfl (wNone rfl) rfl rfl rfl rfl rfl trivial ?_
    refine nSplit rfl rfl rfl (fun hb5 => ?_) (fun hb5 => ?_)
    · replace h := cnd_t hb5 h
      iterate 3 refine nVal tt rfl (wSome rfl rfl rfl rfl hb5) rfl rfl rfl rfl rfl trivial ?_
      obtain ⟨v4, hc6, h⟩ := bind_inv h
      refine nCall (S_l2Has_w N done_1 r_2.p v4 hc6) rfl (wSome rfl rfl rfl rfl hb5) rfl rfl rfl rfl rfl rfl rfl rfl ⟨rfl, rfl, trivial⟩ ?_
      refine nVal tt rfl (wSome rfl rfl rfl rfl hb5) rfl rfl rfl rfl rfl trivial ?_
      refine nPickT rfl (wNone rfl) rfl rfl rfl hb5 rfl rfl ?_
      refine nVal tt rfl (wNone rfl) rfl rfl rfl rfl rfl trivial ?_
      refine nSplit rfl rfl rfl (fun hb7 => ?_) (fun hb7 => ?_)
      · replace h := cnd_t hb7 h
        iterate 4 refine nVal tt rfl (wSome rfl rfl rfl rfl hb7) rfl rfl rfl rfl rfl trivial ?_
        refine nPickT rfl (wNone rfl) rfl rfl rfl hb7 rfl rfl ?_
        refine nVal tt rfl (wNone rfl) rfl rfl rfl rfl rfl trivial ?_
        refine nSplit rfl rfl rfl (fun hb8 => ?_) (fun hb8 => ?_)
        · replace h := cnd_t hb8 h
          iterate 3 refine nVal tt rfl (wSome rfl rfl rfl rfl hb8) rfl rfl rfl rfl rfl trivial ?_
          refine nNil ?_
          change VO _ _ _ _ _
          obtain ⟨v5, hc9, h⟩ := bind_inv h
          refine oCallG (S_l26Ends_w N p_0 done_1 r_2 v5 hc9) rfl rfl rfl rfl hb8 rfl rfl rfl rfl rfl rfl rfl ⟨⟨rfl, rfl, rfl, trivial⟩, rfl, ⟨rfl, rfl, trivial⟩, trivial⟩ ?_
          refine oPick rfl rfl rfl rfl rfl hb8 rfl ?_
          refine oVal tt rfl rfl rfl rfl rfl trivial ?_
          refine vNil ?_
          change VC _ _ _ _
          refine vRet ?_
          change ∃ _, _
          cases h
          exact ⟨[], _, rfl, trivial, rfl, (.eq rfl), rfl⟩
        · replace h := cnd_f hb8 h
          iterate 3 refine nNoT rfl rfl rfl rfl hb8 rfl rfl ?_
          refine nNil ?_
          change VO _ _ _ _ _
          refine oNoT rfl rfl rfl rfl hb8 rfl rfl ?_
          refine oPickF rfl rfl rfl rfl rfl hb8 rfl ?_
          refine oVal tt rfl rfl rfl rfl rfl trivial ?_
          refine vNil ?_
          change VC _ _ _ _
          refine vRet ?_
          change ∃ _, _
          cases h
          exact ⟨[], _, rfl, trivial, rfl, (.eq rfl), rfl⟩
      · replace h := cnd_f hb7 h
        iterate 4 refine nNoT rfl rfl rfl rfl hb7 rfl rfl ?_
        refine nPickF rfl (wNone rfl) rfl rfl rfl hb7 rfl rfl ?_
        refine nVal tt rfl (wNone rfl) rfl rfl rfl rfl rfl trivial ?_
        iterate 3 refine nNoT rfl rfl rfl rfl rfl rfl rfl ?_
        refine nNil ?_
        change VO _ _ _ _ _
        refine oNoT rfl rfl rfl rfl rfl rfl rfl ?_
        refine oPickF rfl rfl rfl rfl rfl rfl rfl ?_
        refine oVal tt rfl rfl rfl rfl rfl trivial ?_
        refine vNil ?_
        change VC _ _ _ _
        refine vRet ?_
        change ∃ _, _
        cases h
        exact ⟨[], _, rfl, trivial, rfl, (.eq rfl), rfl⟩
    · replace h := cnd_f hb5 h
      iterate 5 refine nNoT rfl rfl rfl rfl hb5 rfl rfl ?_
      refine nPickF rfl (wNone rfl) rfl rfl rfl hb5 rfl rfl ?_
      refine nVal tt rfl (wNone rfl) rfl rfl rfl rfl rfl trivial ?_
      iterate 4 refine nNoT rfl rfl rfl rfl rfl rfl rfl ?_
      refine nPickF rfl (wNone rfl) rfl rfl rfl rfl rfl rfl ?_
      refine nVal tt rfl (wNone rfl) rfl rfl rfl rfl rfl trivial ?_
      iterate 3 refine nNoT rfl rfl rfl rfl rfl rfl rfl ?_
      refine nNil ?_
      change VO _ _ _ _ _
      refine oNoT rfl rfl rfl rfl rfl rfl rfl ?_
      refine oPickF rfl rfl rfl rfl rfl rfl rfl ?_
      refine oVal tt rfl rfl rfl rfl rfl trivial ?_
      refine vNil ?_
      change VC _ _ _ _
      refine vRet ?_
      change ∃ _, _
      cases h
      exact ⟨[], _, rfl, trivial, rfl, (.eq rfl), rfl⟩
  · replace h := cnd_f hb2 h
    iterate 5 refine nNoT rfl rfl rfl rfl hb2 rfl rfl ?_
    refine nPickF rfl (wNone rfl) rfl rfl rfl hb2 rfl rfl ?_
    refine nVal tt rfl (wNone rfl) rfl rfl rfl rfl rfl trivial ?_
    iterate 5 refine nNoT rfl rfl rfl rfl rfl rfl rfl ?_
    refine nPickF rfl (wNone rfl) rfl rfl rfl rfl rfl rfl ?_
    refine nVal tt rfl (wNone rfl) rfl rfl rfl rfl rfl trivial ?_
    iterate 4 refine nNoT rfl rfl rfl rfl rfl rfl rfl ?_
    refine nPickF rfl (wNone rfl) rfl rfl rfl rfl rfl rfl ?_
    refine nVal tt rfl (wNone rfl) rfl rfl rfl rfl rfl trivial ?_
    iterate 3 refine nNoT rfl rfl rfl rfl rfl rfl rfl ?_
    refine nNil ?_
    change VO _ _ _ _ _
    refine oNoT rfl rfl rfl rfl rfl rfl rfl ?_
    refine oPickF rfl rfl rfl rfl rfl rfl rfl ?_
    refine oVal tt rfl rfl rfl rfl rfl trivial ?_
    refine vNil ?_
    change VC _ _ _ _
    refine vRet ?_
    change ∃ _, _
    cases h
    exact ⟨[], _, rfl, trivial, rfl, (.eq rfl), rfl⟩
def M_Pinned_holds (N : Nat) (p_0 : Pin) (done_1 : List Int) (v_2 : Int) (e_3 : Int) : Option (Bool) :=
  grd (Rg64 ((p_0.g.bars.length : Int) - (1 : Int))) <|
  (I_within N e_3 (0 : Int) ((p_0.g.bars.length : Int) - (1 : Int))).bind fun v1 =>
  cnd (!v1) (
    some false) (
    grd (0 ≤ e_3 ∧ e_3 < (p_0.g.bars.length : Int)) <|
    (M_Bar_has N (p_0.g.bars.getD ((e_3).toNat) (0, 0)) v_2).bind fun v2 =>
    cnd (!v2) (
      some false) (
      (M_Bar_other N (p_0.g.bars.getD ((e_3).toNat) (0, 0)) v_2).bind fun v3 =>
      (G_Contains_int N p_0.ground v3).bind fun v4 =>
      cnd v4 (
        some true) (
        (G_Contains_int N done_1 v3).bind fun v5 =>
        some v5)))
set_option maxRecDepth 20000 in
set_option maxHeartbeats 1600000 in
theorem M_Pinned_holds_w (N : Nat) (p_0 : Pin) (done_1 : List Int) (v_2 : Int) (e_3 : Int) (r : Bool) (h : M_Pinned_holds N p_0 done_1 v_2 e_3 = some r) : PCall Try.prog 85 [pD p_0, .ro false (.ints done_1), .int v_2, .int e_3] [] (.bool r) := by
  unfold M_Pinned_holds at h
  refine pcall_intro (TT := TT) tt Try.func85 rfl rfl Try.ntmps85 (congrArg Array.toList Try.results85) rfl rfl fun w0 => ?_
  refine vSeq ?_
  refine vRegion ?_
  refine oBox rfl rfl rfl rfl rfl rfl rfl rfl rfl ?_
  refine oVal tt rfl rfl rfl rfl rfl trivial ?_
  refine vNil ?_
  change VC _ _ _ _
  iterate 2 refine vSeq ?_
  refine vRegion ?_
  iterate 5 refine oVal tt rfl rfl rfl rfl rfl trivial ?_
  obtain ⟨hg1, h⟩ := grd_inv h
  refine oVal tt rfl rfl rfl rfl rfl hg1 ?_
  obtain ⟨v1, hc2, h⟩ := bind_inv h
  refine oCall (I_within_w N e_3 (0 : Int) ((p_0.g.bars.length : Int) - (1 : Int)) v1 hc2) rfl rfl rfl rfl rfl rfl rfl rfl ⟨rfl, rfl, rfl, trivial⟩ ?_
  iterate 2 refine oVal tt rfl rfl rfl rfl rfl trivial ?_
  refine oSplit rfl rfl rfl (fun hb3 => ?_) (fun hb3 => ?_)
  · replace h := cnd_t hb3 h
    iterate 9 refine oNoF rfl rfl rfl rfl hb3 rfl rfl ?_
    refine oPick rfl rfl rfl rfl rfl hb3 rfl ?_
    refine vNil ?_
    change VC _ _ _ _
    refine vCondT rfl rfl ?_
    refine vSeq ?_
    refine vRegion ?_
    refine oVal tt rfl rfl rfl rfl rfl trivial ?_
    refine vNil ?_
    change VC _ _ _ _
    refine vRet ?_
    change ∃ _, _
    cases h
    exact ⟨[], _, rfl, trivial, rfl, (.eq rfl), rfl⟩
  · replace h := cnd_f hb3 h
    iterate 4 refine oValG tt rfl rfl rfl rfl rfl hb3 rfl rfl rfl trivial ?_
    obtain ⟨hg4, h⟩ := grd_inv h
    refine oValG tt rfl rfl rfl rfl rfl hb3 rfl rfl rfl hg4 ?_
    iterate 2 refine oValG tt rfl rfl rfl rfl rfl hb3 rfl rfl rfl trivial ?_
    obtain ⟨v2, hc5, h⟩ := bind_inv h
    refine oCallG (M_Bar_has_w N (p_0.g.bars.getD ((e_3).toNat) (0, 0)) v_2 v2 hc5) rfl rfl rfl rfl hb3 rfl rfl rfl rfl rfl rfl rfl ⟨⟨rfl, rfl, trivial⟩, rfl, trivial⟩ ?_
    refine oValG tt rfl rfl rfl rfl rfl hb3 rfl rfl rfl trivial ?_
    refine oPickF rfl rfl rfl rfl rfl hb3 rfl ?_
    refine vNil ?_
    change VC _ _ _ _
    refine vCond rfl (fun hb6 => ?_) (fun hb6 => ?_)
    · replace h := cnd_t hb6 h
      refine vSeq ?_
      refine vRegion ?_
      refine oVal tt rfl rfl rfl rfl rfl trivial ?_
      refine vNil ?_
      change VC _ _ _ _
      refine vRet ?_
      change ∃ _, _
      cases h
      exact ⟨[], _, rfl, trivial, rfl, (.eq rfl), rfl⟩
    · replace h := cnd_f hb6 h
      refine vSkip ?_
      change VC _ _ _ _
      refine vSeq ?_
      refine vRegion ?_
      iterate 4 refine oVal tt rfl rfl rfl rfl rfl trivial ?_
      refine oVal tt rfl rfl rfl rfl rfl hg4 ?_
      iterate 2 refine oVal tt rfl rfl rfl rfl rfl trivial ?_
      obtain ⟨v3, hc7, h⟩ := bind_inv h
      refine oCall (M_Bar_other_w N (p_0.g.bars.getD ((e_3).toNat) (0, 0)) v_2 v3 hc7) rfl rfl rfl rfl rfl rfl rfl rfl ⟨⟨rfl, rfl, trivial⟩, rfl, trivial⟩ ?_
      refine oVal tt rfl rfl rfl rfl rfl trivial ?_
      refine vNil ?_
      change VC _ _ _ _
      refine vSeq ?_
      refine vRegion ?_
      iterate 3 refine oVal tt rfl rfl rfl rfl rfl trivial ?_
      obtain ⟨v4, hc8, h⟩ := bind_inv h
      refine oCall (G_Contains_int_w N p_0.ground v3 v4 hc8) rfl rfl rfl rfl rfl rfl rfl rfl ⟨rfl, rfl, trivial⟩ ?_
      refine oVal tt rfl rfl rfl rfl rfl trivial ?_
      refine oSplit rfl rfl rfl (fun hb9 => ?_) (fun hb9 => ?_)
      · replace h := cnd_t hb9 h
        iterate 3 refine oNoF rfl rfl rfl rfl hb9 rfl rfl ?_
        refine oPick rfl rfl rfl rfl rfl hb9 rfl ?_
        refine oVal tt rfl rfl rfl rfl rfl trivial ?_
        refine vNil ?_
        change VC _ _ _ _
        refine vRet ?_
        change ∃ _, _
        cases h
        exact ⟨[], _, rfl, trivial, rfl, (.eq rfl), rfl⟩
      · replace h := cnd_f hb9 h
        iterate 2 refine oValG tt rfl rfl rfl rfl rfl hb9 rfl rfl rfl trivial ?_
        obtain ⟨v5, hc10, h⟩ := bind_inv h
        refine oCallG (G_Contains_int_w N done_1 v3 v5 hc10) rfl rfl rfl rfl hb9 rfl rfl rfl rfl rfl rfl rfl ⟨rfl, rfl, trivial⟩ ?_
        refine oPickF rfl rfl rfl rfl rfl hb9 rfl ?_
        refine oVal tt rfl rfl rfl rfl rfl trivial ?_
        refine vNil ?_
        change VC _ _ _ _
        refine vRet ?_
        change ∃ _, _
        cases h
        exact ⟨[], _, rfl, trivial, rfl, (.eq rfl), rfl⟩
def I_IsRaise_l1 (N : Nat) (p_0 : Pin) (done_1 : List Int) (r_2 : Rse) (k : Unit → Option (Bool)) : Nat → Int → Option (Bool)
  | 0, _ => none
  | n + 1, x10 =>
    cnd (decide (x10 < (r_2.bars.length : Int))) (
      grd (0 ≤ x10 ∧ x10 < (r_2.bars.length : Int)) <|
      (M_Pinned_holds N p_0 done_1 r_2.p (r_2.bars.getD ((x10).toNat) 0)).bind fun v12 =>
      cnd (!v12) (
        some false) (
        cnd (decide (x10 > (0 : Int))) (
          grd (Rg64 (x10 - (1 : Int))) <|
          grd (0 ≤ (x10 - (1 : Int)) ∧ (x10 - (1 : Int)) < (r_2.bars.length : Int)) <|
          cnd (decide ((r_2.bars.getD (((x10 - (1 : Int))).toNat) 0) ≥ (r_2.bars.getD ((x10).toNat) 0))) (
            some false) (
            grd (Rg64 (x10 + (1 : Int))) <|
            I_IsRaise_l1 N p_0 done_1 r_2 k n (x10 + (1 : Int)))) (
          grd (Rg64 (x10 + (1 : Int))) <|
          I_IsRaise_l1 N p_0 done_1 r_2 k n (x10 + (1 : Int))))) (
      k ())
def I_IsRaise (N : Nat) (p_0 : Pin) (done_1 : List Int) (r_2 : Rse) : Option (Bool) :=
  (I_IsPinned N p_0).bind fun v1 =>
  cnd (!v1) (
    some false) (
    (M_Pinned_isInner N p_0 r_2.p).bind fun v2 =>
    cnd (!v2) (
      some false) (
      (G_Contains_int N done_1 r_2.p).bind fun v3 =>
      cnd v3 (
        some false) (
        cnd (decide ((r_2.bars.length : Int) < (2 : Int))) (
          some false) (
          I_IsRaise_l1 N p_0 done_1 r_2 (fun (_ : Unit) =>
                some true) N (0 : Int)))))
set_option maxRecDepth 20000 in
set_option maxHeartbeats 1600000 in
theorem I_IsRaise_w (N : Nat) (p_0 : Pin) (done_1 : List Int) (r_2 : Rse) (r : Bool) (h : I_IsRaise N p_0 done_1 r_2 = some r) : PCall Try.prog 48 [pD p_0, .ro false (.ints done_1), rD r_2] [] (.bool r) := by
  unfold I_IsRaise at h
  refine pcall_intro (TT := TT) tt Try.func48 rfl rfl Try.ntmps48 (congrArg Array.toList Try.results48) rfl rfl fun w0 => ?_
  refine vSeq ?_
  refine vRegion ?_
  iterate 2 refine oBox rfl rfl rfl rfl rfl rfl rfl rfl rfl ?_
  refine oVal tt rfl rfl rfl rfl rfl trivial ?_
  refine vNil ?_
  change VC _ _ _ _
  iterate 2 refine vSeq ?_
  refine vRegion ?_
  refine oVal tt rfl rfl rfl rfl rfl trivial ?_
  obtain ⟨v1, hc1, h⟩ := bind_inv h
  refine oCall (I_IsPinned_w N p_0 v1 hc1) rfl rfl rfl rfl rfl rfl rfl rfl ⟨⟨rfl, rfl, rfl, trivial⟩, trivial⟩ ?_
  iterate 2 refine oVal tt rfl rfl rfl rfl rfl trivial ?_
  refine oSplit rfl rfl rfl (fun hb2 => ?_) (fun hb2 => ?_)
  · replace h := cnd_t hb2 h
    iterate 5 refine oNoF rfl rfl rfl rfl hb2 rfl rfl ?_
    refine oPick rfl rfl rfl rfl rfl hb2 rfl ?_
    refine oVal tt rfl rfl rfl rfl rfl trivial ?_
    iterate 4 refine oNoF rfl rfl rfl rfl rfl rfl rfl ?_
    refine oPick rfl rfl rfl rfl rfl rfl rfl ?_
    refine oVal tt rfl rfl rfl rfl rfl trivial ?_
    iterate 4 refine oNoF rfl rfl rfl rfl rfl rfl rfl ?_
    refine oPick rfl rfl rfl rfl rfl rfl rfl ?_
    refine vNil ?_
    change VC _ _ _ _
    refine vCondT rfl rfl ?_
    refine vSeq ?_
    refine vRegion ?_
    refine oVal tt rfl rfl rfl rfl rfl trivial ?_
    refine vNil ?_
    change VC _ _ _ _
    refine vRet ?_
    change ∃ _, _
    cases h
    exact ⟨[], _, rfl, trivial, rfl, (.eq rfl), rfl⟩
  · replace h := cnd_f hb2 h
    iterate 3 refine oValG tt rfl rfl rfl rfl rfl hb2 rfl rfl rfl trivial ?_
    obtain ⟨v2, hc3, h⟩ := bind_inv h
    refine oCallG (M_Pinned_isInner_w N p_0 r_2.p v2 hc3) rfl rfl rfl rfl hb2 rfl rfl rfl rfl rfl rfl rfl ⟨⟨rfl, rfl, rfl, trivial⟩, rfl, trivial⟩ ?_
    refine oValG tt rfl rfl rfl rfl rfl hb2 rfl rfl rfl trivial ?_
    refine oPickF rfl rfl rfl rfl rfl hb2 rfl ?_
    refine oVal tt rfl rfl rfl rfl rfl trivial ?_
    refine oSplit rfl rfl rfl (fun hb4 => ?_) (fun hb4 => ?_)
    · replace h := cnd_t hb4 h
      iterate 4 refine oNoF rfl rfl rfl rfl hb4 rfl rfl ?_
      refine oPick rfl rfl rfl rfl rfl hb4 rfl ?_
      refine oVal tt rfl rfl rfl rfl rfl trivial ?_
      iterate 4 refine oNoF rfl rfl rfl rfl rfl rfl rfl ?_
      refine oPick rfl rfl rfl rfl rfl rfl rfl ?_
      refine vNil ?_
      change VC _ _ _ _
      refine vCondT rfl rfl ?_
      refine vSeq ?_
      refine vRegion ?_
      refine oVal tt rfl rfl rfl rfl rfl trivial ?_
      refine vNil ?_
      change VC _ _ _ _
      refine vRet ?_
      change ∃ _, _
      cases h
      exact ⟨[], _, rfl, trivial, rfl, (.eq rfl), rfl⟩
    · replace h := cnd_f hb4 h
      iterate 3 refine oValG tt rfl rfl rfl rfl rfl hb4 rfl rfl rfl trivial ?_
      obtain ⟨v3, hc5, h⟩ := bind_inv h
      refine oCallG (G_Contains_int_w N done_1 r_2.p v3 hc5) rfl rfl rfl rfl hb4 rfl rfl rfl rfl rfl rfl rfl ⟨rfl, rfl, trivial⟩ ?_
      refine oPickF rfl rfl rfl rfl rfl hb4 rfl ?_
      refine oVal tt rfl rfl rfl rfl rfl trivial ?_
      refine oSplit rfl rfl rfl (fun hb6 => ?_) (fun hb6 => ?_)
      · replace h := cnd_t hb6 h
        iterate 4 refine oNoF rfl rfl rfl rfl hb6 rfl rfl ?_
        refine oPick rfl rfl rfl rfl rfl hb6 rfl ?_
        refine vNil ?_
        change VC _ _ _ _
        refine vCondT rfl rfl ?_
        refine vSeq ?_
        refine vRegion ?_
        refine oVal tt rfl rfl rfl rfl rfl trivial ?_
        refine vNil ?_
        change VC _ _ _ _
        refine vRet ?_
        change ∃ _, _
        cases h
        exact ⟨[], _, rfl, trivial, rfl, (.eq rfl), rfl⟩
      · replace h := cnd_f hb6 h
        iterate 4 refine oValG tt rfl rfl rfl rfl rfl hb6 rfl rfl rfl trivial ?_
        refine oPickF rfl rfl rfl rfl rfl hb6 rfl ?_
        refine vNil ?_
        change VC _ _ _ _
        refine vCond rfl (fun hb7 => ?_) (fun hb7 => ?_)
        · replace h := cnd_t hb7 h
          refine vSeq ?_
          refine vRegion ?_
          refine oVal tt rfl rfl rfl rfl rfl trivial ?_
          refine vNil ?_
          change VC _ _ _ _
          refine vRet ?_
          change ∃ _, _
          cases h
          exact ⟨[], _, rfl, trivial, rfl, (.eq rfl), rfl⟩
        · replace h := cnd_f hb7 h
          refine vSkip ?_
          change VC _ _ _ _
          iterate 2 refine vSeq ?_
          refine vRegion ?_
          iterate 4 refine oVal tt rfl rfl rfl rfl rfl trivial ?_
          refine vNil ?_
          change VC _ _ _ _
          refine vJoin (F := fun k => I_IsRaise_l1 N p_0 done_1 r_2 k) h (α := Unit) (J := fun (_ : Unit) => (⟨[], [], []⟩ : PS)) ?_ ?_
          · rintro ⟨⟩ h
            show VC _ _ _ (⟨[], [], []⟩ : PS)
            refine vSeq ?_
            refine vRegion ?_
            refine oVal tt rfl rfl rfl rfl rfl trivial ?_
            refine vNil ?_
            change VC _ _ _ _
            refine vRet ?_
            change ∃ _, _
            cases h
            exact ⟨[], _, rfl, trivial, rfl, (.eq rfl), rfl⟩
          · intro k h
            refine vBlock ?_
            refine vLoopS (α := Int) (fun (x10 : Int) => (⟨[(1, .ro false (.ints done_1)), (3, .ptr 3 0), (5, .ptr 5 0), (32, .ro false (.ints r_2.bars)), (33, .int (r_2.bars.length : Int)), (34, .int x10)], [], [(3, some [.int p_0.g.n, .ro false (.pairs p_0.g.bars), .ro false (.ints p_0.ground)]), (5, some [.int r_2.p, .ro false (.ints r_2.bars)])]⟩ : PS)) (I_IsRaise_l1 N p_0 done_1 r_2 k) h (En.of ⟨rfl, rfl, rfl, rfl, rfl, rfl, trivial⟩ trivial ⟨rfl, rfl, trivial⟩) (fun _ => rfl) ?_
            rintro n x10 h
            rw [I_IsRaise_l1] at h
            show VC _ _ _ (⟨[(1, .ro false (.ints done_1)), (3, .ptr 3 0), (5, .ptr 5 0), (32, .ro false (.ints r_2.bars)), (33, .int (r_2.bars.length : Int)), (34, .int x10)], [], [(3, some [.int p_0.g.n, .ro false (.pairs p_0.g.bars), .ro false (.ints p_0.ground)]), (5, some [.int r_2.p, .ro false (.ints r_2.bars)])]⟩ : PS)
            refine vSeq ?_
            refine vRegion ?_
            refine oVal tt rfl rfl rfl rfl rfl trivial ?_
            refine vNil ?_
            change VC _ _ _ _
            refine vSeq ?_
            refine vCond rfl (fun hb8 => ?_) (fun hb8 => ?_)
            · replace h := cnd_t hb8 h
              refine vSkip ?_
              change VC _ _ _ _
              refine vSeq ?_
              refine vBlock ?_
              refine vSeq ?_
              refine vRegion ?_
              refine oVal tt rfl rfl rfl rfl rfl trivial ?_
              obtain ⟨hg9, h⟩ := grd_inv h
              refine oVal tt rfl rfl rfl rfl rfl hg9 ?_
              iterate 3 refine oVal tt rfl rfl rfl rfl rfl trivial ?_
              refine vNil ?_
              change VC _ _ _ _
              refine vSeq ?_
              refine vRegion ?_
              iterate 5 refine oVal tt rfl rfl rfl rfl rfl trivial ?_
              obtain ⟨v12, hc10, h⟩ := bind_inv h
              refine oCall (M_Pinned_holds_w N p_0 done_1 r_2.p (r_2.bars.getD ((x10).toNat) 0) v12 hc10) rfl rfl rfl rfl rfl rfl rfl rfl ⟨⟨rfl, rfl, rfl, trivial⟩, rfl, rfl, rfl, trivial⟩ ?_
              iterate 2 refine oVal tt rfl rfl rfl rfl rfl trivial ?_
              refine oSplit rfl rfl rfl (fun hb11 => ?_) (fun hb11 => ?_)
              · replace h := cnd_t hb11 h
                iterate 3 refine oNoF rfl rfl rfl rfl hb11 rfl rfl ?_
                iterate 8 refine oNoU rfl rfl rfl rfl rfl ?_
                refine oNoF rfl rfl rfl rfl hb11 rfl rfl ?_
                refine oPick rfl rfl rfl rfl rfl hb11 rfl ?_
                refine vNil ?_
                change VC _ _ _ _
                refine vCondT rfl rfl ?_
                refine vSeq ?_
                refine vRegion ?_
                refine oVal tt rfl rfl rfl rfl rfl trivial ?_
                refine vNil ?_
                change VC _ _ _ _
                refine vRet ?_
                change ∃ _, _
                cases h
                exact ⟨[], _, rfl, trivial, rfl, (.eq rfl), rfl⟩
              · replace h := cnd_f hb11 h
                iterate 3 refine oValG tt rfl rfl rfl rfl rfl hb11 rfl rfl rfl trivial ?_
                refine oSplit rfl rfl rfl (fun hb12 => ?_) (fun hb12 => ?_)
                · replace h := cnd_t hb12 h
                  iterate 3 refine oValG tt rfl rfl rfl rfl rfl hb12 rfl rfl rfl trivial ?_
                  obtain ⟨hg13, h⟩ := grd_inv h
                  refine oValG tt rfl rfl rfl rfl rfl hb12 rfl rfl rfl hg13 ?_
                  obtain ⟨hg14, h⟩ := grd_inv h
                  refine oValG tt rfl rfl rfl rfl rfl hb12 rfl rfl rfl hg14 ?_
                  iterate 3 refine oValG tt rfl rfl rfl rfl rfl hb12 rfl rfl rfl trivial ?_
                  refine oPickGT rfl rfl rfl rfl hb11 rfl rfl rfl rfl hb12 rfl ?_
                  refine oPickF rfl rfl rfl rfl rfl hb11 rfl ?_
                  refine vNil ?_
                  change VC _ _ _ _
                  refine vCond rfl (fun hb15 => ?_) (fun hb15 => ?_)
                  · replace h := cnd_t hb15 h
                    refine vSeq ?_
                    refine vRegion ?_
                    refine oVal tt rfl rfl rfl rfl rfl trivial ?_
                    refine vNil ?_
                    change VC _ _ _ _
                    refine vRet ?_
                    change ∃ _, _
                    cases h
                    exact ⟨[], _, rfl, trivial, rfl, (.eq rfl), rfl⟩
                  · replace h := cnd_f hb15 h
                    refine vSkip ?_
                    change VC _ _ _ _
                    refine vRegion ?_
                    obtain ⟨hg16, h⟩ := grd_inv h
                    refine oVal tt rfl rfl rfl rfl rfl hg16 ?_
                    refine oVal tt rfl rfl rfl rfl rfl trivial ?_
                    refine vNil ?_
                    change ∃ _, _
                    exact ⟨(x10 + (1 : Int)), (En.of ⟨rfl, rfl, rfl, rfl, rfl, rfl, trivial⟩ trivial ⟨rfl, rfl, trivial⟩), h⟩
                · replace h := cnd_f hb12 h
                  iterate 8 refine oNoT rfl rfl rfl rfl hb12 rfl rfl ?_
                  refine oPickGF rfl rfl rfl rfl hb11 rfl rfl rfl rfl hb12 rfl ?_
                  refine oPickF rfl rfl rfl rfl rfl hb11 rfl ?_
                  refine vNil ?_
                  change VC _ _ _ _
                  refine vCondF rfl rfl ?_
                  refine vSkip ?_
                  change VC _ _ _ _
                  refine vRegion ?_
                  obtain ⟨hg17, h⟩ := grd_inv h
                  refine oVal tt rfl rfl rfl rfl rfl hg17 ?_
                  refine oVal tt rfl rfl rfl rfl rfl trivial ?_
                  refine vNil ?_
                  change ∃ _, _
                  exact ⟨(x10 + (1 : Int)), (En.of ⟨rfl, rfl, rfl, rfl, rfl, rfl, trivial⟩ trivial ⟨rfl, rfl, trivial⟩), h⟩
            · replace h := cnd_f hb8 h
              refine vExit ?_
              change ∃ _, _
              exact ⟨(), (En.of trivial trivial trivial), h⟩
end Go.Proofs.Ytmoamglpocjhgaa

namespace Go.Proofs.Ytmoamglpocjhgaa
set_option linter.unusedVariables false
set_option linter.unusedSimpArgs false
variable (N : Nat)
def outside (ground : List Int) (n : Nat) : List Int := ((List.range n).map Int.ofNat).filter fun i => !ground.contains i
theorem outside_succ (g : List Int) (n : Nat) : outside g (n + 1) = cnd (g.contains (n : Int)) (outside g n) (outside g n ++ [(n : Int)]) := by
  unfold outside
  rw [List.range_succ, List.map_append, List.filter_append]
  simp only [List.map_cons, List.map_nil, List.filter_cons, List.filter_nil]
  cases h : g.contains (n : Int) <;> simp_all
theorem outside_len (g : List Int) (n : Nat) : (outside g n).length ≤ n := by
  unfold outside
  exact Nat.le_trans (List.length_filter_le _ _) (by simp)
theorem inner_outside (p : Pin) : inner p = outside p.ground p.g.n.toNat := rfl
theorem outside_mem (g : List Int) (n : Nat) (x : Int) : (outside g n).contains x = (inB x 0 ((n : Int) - 1) && !g.contains x) := by
  rw [Bool.eq_iff_iff]
  simp only [List.contains_eq_mem, decide_eq_true_eq, outside, List.mem_filter, List.mem_map, List.mem_range, inB, Bool.and_eq_true]
  constructor
  · rintro ⟨⟨i, hi, rfl⟩, h⟩
    refine ⟨⟨?_, ?_⟩, h⟩
    · show (0 : Int) ≤ (i : Int); omega
    · show (i : Int) ≤ _; omega
  · rintro ⟨⟨h1, h2⟩, h⟩
    exact ⟨⟨x.toNat, by omega, by show ((x.toNat : Nat) : Int) = x; omega⟩, h⟩
/-- the points that are not grounded; none where the structure is not valid -/
def innerPts (p : Pin) : List Int := cnd (isPinned p) (inner p) []
theorem isPinned_bd {p : Pin} (h : isPinned p = true) : 1 ≤ p.g.n ∧ p.g.n ≤ 8 ∧ p.g.bars.length ≤ 15 ∧ p.ground.length ≤ 27 := by
  obtain ⟨h1, h2, h3, h4, h5, _⟩ := isPinned_parts h
  have := isPinned_n h1
  omega
theorem innerS_s (hN : 4000000 ≤ N) {p : Pin} (hb : p.g.bars.length ≤ 3000000) (hg : p.ground.length ≤ 3000000) : S_InnerPoints N p = some (innerPts p) := by
  unfold S_InnerPoints innerPts
  cases hp : isPinned p with
  | false =>
    obtain ⟨M, rfl⟩ : ∃ M, N = M + 1 := ⟨N - 1, by omega⟩
    rw [S_InnerPoints_l1, isPinnedS_s _ hN hb hg, Option.bind_some, hp]
    cases decide ((0 : Int) < p.g.n) <;> rfl
  | true =>
    have hbd := isPinned_bd hp
    rw [cnd_true, inner_outside]
    refine (fold (len := p.g.n.toNat) (st := outside p.ground) (fin := some (outside p.ground p.g.n.toNat)) (by omega) ?_ ?_)
    · intro n i hi
      have hl := outside_len p.ground i
      rw [S_InnerPoints_l1]
      simp (disch := omega) only [Int.toNat_natCast, tk0, List.length_cons, List.length_nil, grd_pos, grd_T, grd_R, cnd_dt, cnd_df, cnd_true, cnd_false, Option.bind_some, isPinnedS_s N hN hb hg, hp, l2Has_s N hN hg, cnd_not, succ_cast, outside_succ]
      cases p.ground.contains (i : Int) <;> rfl
    · intro n
      rw [S_InnerPoints_l1]
      simp (disch := omega) only [Int.toNat_natCast, tk0, List.length_cons, List.length_nil, grd_pos, grd_T, grd_R, cnd_dt, cnd_df, cnd_true, cnd_false, Option.bind_some]
/-- an inner point -/
def isIn (p : Pin) (x : Int) : Bool := inB x 0 (p.g.n - 1) && !p.ground.contains x
theorem isInner_s (hN : 4000000 ≤ N) {p : Pin} (hp : isPinned p = true) (x : Int) : M_Pinned_isInner N p x = some (isIn p x) := by
  have hbd := isPinned_bd hp
  unfold M_Pinned_isInner isIn
  rw [ghas_s N (by omega) (by omega), Option.bind_some, contains_s N hN (by omega), Option.bind_some, cnd_some]
  cases inB x 0 (p.g.n - 1) <;> rfl
theorem innerPts_mem {p : Pin} (hp : isPinned p = true) (x : Int) : (innerPts p).contains x = isIn p x := by
  have hbd := isPinned_bd hp
  unfold innerPts isIn
  rw [hp, cnd_true, inner_outside, outside_mem, show ((p.g.n.toNat : Nat) : Int) = p.g.n by omega]
/-- the other end -/
def otherEnd (b : Int × Int) (v : Int) : Int := cnd (b.1 == v) b.2 b.1
def hasEnd (b : Int × Int) (v : Int) : Bool := b.1 == v || b.2 == v
theorem hasEnd_1 {b : Int × Int} {v : Int} (h : b.1 = v) : hasEnd b v = true := by simp [hasEnd, h]
theorem hasEnd_2 {b : Int × Int} {v : Int} (h : b.2 = v) : hasEnd b v = true := by simp [hasEnd, h]
theorem hasEnd_0 {b : Int × Int} {v : Int} (h : ¬ b.1 = v) (h2 : ¬ b.2 = v) : hasEnd b v = false := by simp [hasEnd, h, h2]
theorem bhas_s (b : Int × Int) (v : Int) : M_Bar_has N b v = some (hasEnd b v) := by
  unfold M_Bar_has hasEnd
  rw [cnd_some]; cases b.1 == v <;> rfl
theorem bother_s (b : Int × Int) (v : Int) : M_Bar_other N b v = some (otherEnd b v) := by
  unfold M_Bar_other otherEnd
  rw [cnd_some]
theorem l4Other_s {b : Int × Int} {v : Int} (h1 : 0 ≤ b.1) (h2 : b.1 ≤ 1048576) (h3 : 0 ≤ b.2) (h4 : b.2 ≤ 1048576) (h : hasEnd b v = true) : S_l4Other N b v = some (otherEnd b v) := by
  unfold S_l4Other otherEnd
  simp only [hasEnd, Bool.or_eq_true, beq_iff_eq] at h
  rcases h with h | h
  · simp (disch := omega) only [Int.toNat_natCast, tk0, List.length_cons, List.length_nil, grd_pos, grd_T, grd_R, cnd_dt, cnd_df, cnd_true, cnd_false, Option.bind_some]
    congr 1
    rw [show (b.1 == v) = true by simpa using h, cnd_true]; omega
  · simp (disch := omega) only [Int.toNat_natCast, tk0, List.length_cons, List.length_nil, grd_pos, grd_T, grd_R, cnd_dt, cnd_df, cnd_true, cnd_false, Option.bind_some]
    congr 1
    cases hb : b.1 == v with
    | true => have : b.1 = v := by simpa using hb
              rw [cnd_true]; omega
    | false => rw [cnd_false]; omega
theorem isPinned_bar {p : Pin} (hp : isPinned p = true) {i : Nat} (hi : i < p.g.bars.length) : 0 ≤ (p.g.bars.getD i (0, 0)).1 ∧ (p.g.bars.getD i (0, 0)).1 ≤ 8 ∧ 0 ≤ (p.g.bars.getD i (0, 0)).2 ∧ (p.g.bars.getD i (0, 0)).2 ≤ 8 ∧ (p.g.bars.getD i (0, 0)).1 < p.g.n ∧ (p.g.bars.getD i (0, 0)).2 < p.g.n ∧ (p.g.bars.getD i (0, 0)).1 < (p.g.bars.getD i (0, 0)).2 := by
  have h1 := (isPinned_parts hp).1
  have h2 := isGraph_bar h1 (List.getElem_mem hi)
  have h3 := isPinned_n h1
  simp [List.getD_eq_getElem?_getD, hi]
  omega
/-- a bar leads from x to the ground or to what is done -/
def holdP (p : Pin) (dn : List Int) (x e : Int) : Bool :=
  inB e 0 ((p.g.bars.length : Int) - 1) && (hasEnd (p.g.bars.getD e.toNat (0, 0)) x && (p.ground.contains (otherEnd (p.g.bars.getD e.toNat (0, 0)) x) || dn.contains (otherEnd (p.g.bars.getD e.toNat (0, 0)) x)))
theorem holds_s (hN : 4000000 ≤ N) {p : Pin} (hp : isPinned p = true) {dn : List Int} (hd : dn.length ≤ 3000000) (x e : Int) : M_Pinned_holds N p dn x e = some (holdP p dn x e) := by
  have hbd := isPinned_bd hp
  unfold M_Pinned_holds holdP
  simp (disch := omega) only [Int.toNat_natCast, tk0, List.length_cons, List.length_nil, grd_pos, grd_T, grd_R, cnd_dt, cnd_df, cnd_true, cnd_false, Option.bind_some, within_s, cnd_not]
  cases h1 : inB e 0 ((p.g.bars.length : Int) - 1) with
  | false => rfl
  | true =>
    have h2 := inB_true.1 h1
    simp (disch := omega) only [Int.toNat_natCast, tk0, List.length_cons, List.length_nil, grd_pos, grd_T, grd_R, cnd_dt, cnd_df, cnd_true, cnd_false, Option.bind_some, bhas_s, bother_s, contains_s N hN (show p.ground.length ≤ 3000000 by omega), contains_s N hN hd, cnd_not]
    cases hasEnd (p.g.bars.getD e.toNat (0, 0)) x with
    | false => rfl
    | true =>
      rw [cnd_true]
      cases p.ground.contains (otherEnd (p.g.bars.getD e.toNat (0, 0)) x) <;> rfl
def raiseAt (p : Pin) (dn : List Int) (r : Rse) (i : Nat) : Bool := holdP p dn r.p (r.bars.getD i 0) && (decide (i = 0) || decide (r.bars.getD (i - 1) 0 < r.bars.getD i 0))
def raiseOk (p : Pin) (dn : List Int) (r : Rse) : Bool := isPinned p && (isIn p r.p && (!dn.contains r.p && (decide (2 ≤ r.bars.length) && (List.range r.bars.length).all (raiseAt p dn r))))
theorem isRaiseI_s (hN : 4000000 ≤ N) {p : Pin} (hb : p.g.bars.length ≤ 3000000) (hg : p.ground.length ≤ 3000000) {dn : List Int} (hd : dn.length ≤ 3000000) {r : Rse} (hr : r.bars.length ≤ 3000000) : I_IsRaise N p dn r = some (raiseOk p dn r) := by
  unfold I_IsRaise raiseOk
  rw [isPinnedI_s N hN hb hg, Option.bind_some, cnd_not]
  cases hp : isPinned p with
  | false => rfl
  | true =>
    rw [cnd_true, isInner_s N hN hp, Option.bind_some, contains_s N hN hd, Option.bind_some, cnd_not]
    cases isIn p r.p with
    | false => rfl
    | true =>
      rw [cnd_true]
      cases dn.contains r.p with
      | true => rfl
      | false =>
        rw [cnd_false]
        by_cases h2 : 2 ≤ r.bars.length
        · simp (disch := omega) only [Int.toNat_natCast, tk0, List.length_cons, List.length_nil, grd_pos, grd_T, grd_R, cnd_dt, cnd_df, cnd_true, cnd_false, Option.bind_some]
          refine (srch (len := r.bars.length) (ok := raiseAt p dn r) (bad := some false) (fin := some true) (by omega) ?_ ?_).trans ?_
          · intro n i hi _
            rw [I_IsRaise_l1]
            by_cases h0 : i = 0
            · subst h0
              simp (disch := omega) only [Int.toNat_natCast, tk0, List.length_cons, List.length_nil, grd_pos, grd_T, grd_R, cnd_dt, cnd_df, cnd_true, cnd_false, Option.bind_some, holds_s N hN hp hd, succ_cast]
              refine cnd_congr' ?_ _ _
              simp [raiseAt]
            · simp (disch := omega) only [Int.toNat_natCast, tk0, List.length_cons, List.length_nil, grd_pos, grd_T, grd_R, cnd_dt, cnd_df, cnd_true, cnd_false, Option.bind_some, holds_s N hN hp hd, succ_cast, cnd_or, show ((i : Int) - 1).toNat = i - 1 from by omega]
              refine cnd_congr' ?_ _ _
              simp only [raiseAt, decide_eq_false h0, Bool.false_or]
              cases holdP p dn r.p (r.bars.getD i 0) <;> (rw [Bool.eq_iff_iff]; simp)
          · intro n _
            rw [I_IsRaise_l1]
            simp (disch := omega) only [Int.toNat_natCast, tk0, List.length_cons, List.length_nil, grd_pos, grd_T, grd_R, cnd_dt, cnd_df, cnd_true, cnd_false, Option.bind_some]
          · rw [cnd_some, cnd_bool, decide_eq_true h2]; rfl
        · simp (disch := omega) only [Int.toNat_natCast, tk0, List.length_cons, List.length_nil, grd_pos, grd_T, grd_R, cnd_dt, cnd_df, cnd_true, cnd_false, Option.bind_some]
          rw [decide_eq_false h2]; rfl
theorem l26Ends_s (hN : 4000000 ≤ N) {p : Pin} (hp : isPinned p = true) {dn : List Int} (hd : dn.length ≤ 3000000) {r : Rse} (hr : r.bars.length ≤ 3000000) : S_l26Ends N p dn r = some ((List.range r.bars.length).all (raiseAt p dn r)) := by
  have hbd := isPinned_bd hp
  unfold S_l26Ends
  refine (srch (len := r.bars.length) (ok := raiseAt p dn r) (bad := some false) (fin := some true) (by omega) ?_ ?_).trans (by rw [cnd_some, cnd_bool])
  · intro n i hi _
    rw [S_l26Ends_l1]
    have e : ∀ X : Option Bool, cnd (raiseAt p dn r i) X (some false) = cnd (inB (r.bars.getD i 0) 0 ((p.g.bars.length : Int) - 1)) (cnd (decide (i = 0) || decide (r.bars.getD (i - 1) 0 < r.bars.getD i 0)) (cnd (hasEnd (p.g.bars.getD (r.bars.getD i 0).toNat (0, 0)) r.p)
        (cnd (p.ground.contains (otherEnd (p.g.bars.getD (r.bars.getD i 0).toNat (0, 0)) r.p) || dn.contains (otherEnd (p.g.bars.getD (r.bars.getD i 0).toNat (0, 0)) r.p)) X (some false)) (some false)) (some false)) (some false) := by
      intro X
      unfold raiseAt holdP
      cases inB (r.bars.getD i 0) 0 ((p.g.bars.length : Int) - 1) <;> cases (decide (i = 0) || decide (r.bars.getD (i - 1) 0 < r.bars.getD i 0)) <;> cases hasEnd (p.g.bars.getD (r.bars.getD i 0).toNat (0, 0)) r.p <;> simp [cnd]
    rw [e]
    by_cases h1 : r.bars.getD i 0 < 0
    · simp (disch := omega) only [Int.toNat_natCast, tk0, List.length_cons, List.length_nil, grd_pos, grd_T, grd_R, cnd_dt, cnd_df, cnd_true, cnd_false, Option.bind_some]
      rw [show inB (r.bars.getD i 0) 0 ((p.g.bars.length : Int) - 1) = false by simp only [inB, decide_eq_false (show ¬ 0 ≤ r.bars.getD i 0 by omega)]; rfl]; rfl
    · by_cases h2 : (p.g.bars.length : Int) ≤ r.bars.getD i 0
      · simp (disch := omega) only [Int.toNat_natCast, tk0, List.length_cons, List.length_nil, grd_pos, grd_T, grd_R, cnd_dt, cnd_df, cnd_true, cnd_false, Option.bind_some]
        rw [show inB (r.bars.getD i 0) 0 ((p.g.bars.length : Int) - 1) = false by simp only [inB, decide_eq_false (show ¬ r.bars.getD i 0 ≤ (p.g.bars.length : Int) - 1 by omega), Bool.and_false]]; rfl
      · have hin : inB (r.bars.getD i 0) 0 ((p.g.bars.length : Int) - 1) = true := inB_true.2 (by omega)
        have hbar := isPinned_bar hp (i := (r.bars.getD i 0).toNat) (by omega)
        have rest : ∀ X : Option Bool, (cnd (((p.g.bars.getD (((r.bars.getD i 0)).toNat) (0, 0)).1) != r.p) (
              cnd (((p.g.bars.getD (((r.bars.getD i 0)).toNat) (0, 0)).2) != r.p) (
                some false) (
                (S_l4Other N (p.g.bars.getD (((r.bars.getD i 0)).toNat) (0, 0)) r.p).bind fun v145 =>
                (S_l2Has N p.ground v145).bind fun v146 =>
                cnd (!v146) (
                  (S_l2Has N dn v145).bind fun v147 =>
                  cnd (!v147) (
                    some false) X) X)) (
              (S_l4Other N (p.g.bars.getD (((r.bars.getD i 0)).toNat) (0, 0)) r.p).bind fun v148 =>
              (S_l2Has N p.ground v148).bind fun v149 =>
              cnd (!v149) (
                (S_l2Has N dn v148).bind fun v150 =>
                cnd (!v150) (
                  some false) X) X)) = (cnd (hasEnd (p.g.bars.getD (r.bars.getD i 0).toNat (0, 0)) r.p)
        (cnd (p.ground.contains (otherEnd (p.g.bars.getD (r.bars.getD i 0).toNat (0, 0)) r.p) || dn.contains (otherEnd (p.g.bars.getD (r.bars.getD i 0).toNat (0, 0)) r.p)) X (some false)) (some false)) := by
          intro X
          have hh : (S_l2Has N p.ground (otherEnd (p.g.bars.getD (r.bars.getD i 0).toNat (0, 0)) r.p)).bind (fun v149 => cnd (!v149) ((S_l2Has N dn (otherEnd (p.g.bars.getD (r.bars.getD i 0).toNat (0, 0)) r.p)).bind fun v150 => cnd (!v150) (some false) X) X) =
              cnd (p.ground.contains (otherEnd (p.g.bars.getD (r.bars.getD i 0).toNat (0, 0)) r.p) || dn.contains (otherEnd (p.g.bars.getD (r.bars.getD i 0).toNat (0, 0)) r.p)) X (some false) := by
            rw [l2Has_s N hN (by omega), Option.bind_some, l2Has_s N hN hd, Option.bind_some]
            cases p.ground.contains (otherEnd (p.g.bars.getD (r.bars.getD i 0).toNat (0, 0)) r.p) <;> cases dn.contains (otherEnd (p.g.bars.getD (r.bars.getD i 0).toNat (0, 0)) r.p) <;> rfl
          by_cases ha : (p.g.bars.getD (r.bars.getD i 0).toNat (0, 0)).1 = r.p
          · have he : hasEnd (p.g.bars.getD (r.bars.getD i 0).toNat (0, 0)) r.p = true := hasEnd_1 ha
            rw [cnd_nef ha, l4Other_s N (by omega) (by omega) (by omega) (by omega) he, Option.bind_some, he, cnd_true, hh]
          · by_cases hc : (p.g.bars.getD (r.bars.getD i 0).toNat (0, 0)).2 = r.p
            · have he : hasEnd (p.g.bars.getD (r.bars.getD i 0).toNat (0, 0)) r.p = true := hasEnd_2 hc
              rw [cnd_net ha, cnd_nef hc, l4Other_s N (by omega) (by omega) (by omega) (by omega) he, Option.bind_some, he, cnd_true, hh]
            · have he : hasEnd (p.g.bars.getD (r.bars.getD i 0).toNat (0, 0)) r.p = false := hasEnd_0 ha hc
              rw [cnd_net ha, cnd_net hc, he]; rfl
        rw [hin]
        by_cases h0 : i = 0
        · subst h0
          simp (disch := omega) only [Int.toNat_natCast, tk0, List.length_cons, List.length_nil, grd_pos, grd_T, grd_R, cnd_dt, cnd_df, cnd_true, cnd_false, Option.bind_some, succ_cast]
          refine (rest _).trans ?_
          simp
        · simp (disch := omega) only [Int.toNat_natCast, tk0, List.length_cons, List.length_nil, grd_pos, grd_T, grd_R, cnd_dt, cnd_df, cnd_true, cnd_false, Option.bind_some, succ_cast, show ((i : Int) - 1).toNat = i - 1 from by omega]
          rw [decide_eq_false h0, Bool.false_or]
          by_cases h3 : r.bars.getD (i - 1) 0 < r.bars.getD i 0
          · rw [decide_eq_true h3, cnd_df (by omega), cnd_true]
            exact rest _
          · rw [decide_eq_false h3, cnd_dt (by omega), cnd_false]
  · intro n _
    rw [S_l26Ends_l1]
    simp (disch := omega) only [Int.toNat_natCast, tk0, List.length_cons, List.length_nil, grd_pos, grd_T, grd_R, cnd_dt, cnd_df, cnd_true, cnd_false, Option.bind_some]
theorem isRaiseS_s (hN : 4000000 ≤ N) {p : Pin} (hb : p.g.bars.length ≤ 3000000) (hg : p.ground.length ≤ 3000000) {dn : List Int} (hd : dn.length ≤ 3000000) {r : Rse} (hr : r.bars.length ≤ 3000000) : S_IsRaise N p dn r = some (raiseOk p dn r) := by
  unfold S_IsRaise raiseOk
  rw [isPinnedS_s N hN hb hg, Option.bind_some]
  cases hp : isPinned p with
  | false => rfl
  | true =>
    have hbd := isPinned_bd hp
    have hlen : (innerPts p).length ≤ 3000000 := by
      unfold innerPts; rw [hp, cnd_true, inner_outside]
      have := outside_len p.ground p.g.n.toNat; omega
    rw [cnd_true, innerS_s N hN hb hg, Option.bind_some, l2Has_s N hN hlen, Option.bind_some, l2Has_s N hN hd, Option.bind_some, innerPts_mem hp, l26Ends_s N hN hp hd hr, Option.bind_some, cnd_not]
    rw [show decide ((r.bars.length : Int) ≥ 2) = decide (2 ≤ r.bars.length) from by rw [Bool.eq_iff_iff]; simp; omega]
    cases isIn p r.p <;> cases dn.contains r.p <;> cases decide (2 ≤ r.bars.length) <;> rfl
end Go.Proofs.Ytmoamglpocjhgaa

namespace Go.Proofs.Ytmoamglpocjhgaa
open Go.RowKit Go.Deep
set_option linter.unusedSimpArgs false
set_option linter.unusedVariables false
section
variable {C : Cx} {ops : Array Oper} {K : PS → Prop} {l : List Oper} {s s' : PS} {TT : List (Nat × Ty)} {tm : List (Nat × D)} {rw' : List (Nat × Option (TypeId × Sq))} {bx : List (Nat × Option (List D))}
theorem vEnO (hl : En C s s') (h : VO C ops K l s') : VO C ops K l s := ⟨fun M a w Q hr hk => by
  obtain ⟨M', h'⟩ := hl.out M a w hr
  exact h.out M' a w Q h' hk⟩
end
section
end
section
variable {C : Cx} {ops : Array Oper} {K : PS → Prop} {l : List Oper} {s s' : PS} {TT : List (Nat × Ty)} {tm : List (Nat × D)} {rw' : List (Nat × Option (TypeId × Sq))} {bx : List (Nat × Option (List D))}
variable {o : Oper} {rest : List Oper} {rk rids bk bids pids : List Nat}
end
section
theorem Rel.drop {w0 : World} {O0 : Hd} {n : Nat} {M : Mp} {s : PS} {a : Act} {w : World} (h : Rel w0 O0 n M s a w) {r : Nat} {e : TypeId} {q : Sq} (hF : notF r = true) (hr : s.r r = some (e, q)) :
    ∃ M', Rel w0 O0 n M' (s.setR r none) a w ∧ (∀ v, VR M (Ow (Fs w0 O0) M) w (.row r 0 q.len) v → VR M' (Ow (Fs w0 O0) M') w (.ro true q) v) ∧ ∀ d v, VR M (Ow (Fs w0 O0) M) w d v → VR M' (Ow (Fs w0 O0) M') w d v := by
  let M' : Mp := ⟨M.β, fun y => if y = r then none else M.γ y⟩
  have hown : ∀ k, M'.owned k → M.owned k := by
    rintro k (⟨b, hb⟩ | ⟨y, c, z, hy⟩)
    · exact .inl ⟨b, hb⟩
    · simp only [M'] at hy
      split at hy
      · cases hy
      · exact .inr ⟨y, c, z, hy⟩
  have hA : ∀ f b, b < w.heap.size → Ow (Fs w0 O0) M f b → Ow (Fs w0 O0) M' f b ∧ b < w.heap.size ∧ w.heap[b]? = w.heap[b]? := fun f b h1 h2 => ⟨⟨fun h3 => h2.1 (hown b h3), h2.2⟩, h1, rfl⟩
  have hγ : ∀ y z, y ≠ r → M'.γ y = some z → M.γ y = some z := fun y z h1 h2 => by simpa [M', h1] using h2
  have hβ : ∀ b k, M'.β b = some k → M.β b = some k := fun _ _ h => h
  have hbig : ∀ x y, BIG ≤ x → M'.γ x = some y → M.γ x = some y := fun x y hx h1 => by
    simp only [M'] at h1
    split at h1
    · cases h1
    · exact h1
  have hγ' : ∀ y z, M'.γ y = some z → M.γ y = some z := fun y z h1 => by
    simp only [M'] at h1
    split at h1
    · cases h1
    · exact h1
  have hv : ∀ v, VR M (Ow (Fs w0 O0) M) w (.row r 0 q.len) v → VR M' (Ow (Fs w0 O0) M') w (.ro true q) v := by
    intro v h0
    cases h0 with
    | row _ _ _ _ g1 g2 =>
      rcases h.row r e q hr with ⟨hg, h0⟩ | ⟨g, cap, cur, hg, hh, hl, hmx, hcs, hc⟩
      · have := g2 _ hg
        simp only [RowV] at this
        obtain ⟨⟨ao0, rfl⟩, _, _⟩ := this
        have := VR.ro (M := M') (A := Ow (Fs w0 O0) M') (w := w) true q ao0 0 0 0 (fun _ _ => undef) (by omega) (by omega) (by omega) (by intro i j d hi; omega) (by intro i j d hi; omega)
        rwa [h0] at this
      · have := g2 _ hg
        simp only [RowV] at this
        obtain ⟨h1, ao, h2, h3⟩ := this
        have h4 := h3 (.inr trivial)
        rw [Nat.zero_mul] at h4
        subst h2
        refine .ro true q ao _ g 0 (fun i j => cur.getD (i * q.sz + j) undef) (by omega) (by omega) (fun _ => ⟨h4, (Array.getElem?_eq_some_iff.1 hh).1, ?_, ?_⟩) (fun i j d hi hd => ?_) (fun i j d hi hd => (VR.relem (fun d' hd' => hc i j d' hi hd') hd).elem_any hd hA)
        · rintro (⟨b, hb⟩ | ⟨y, c, z, hy⟩)
          · exact h.inj3 _ _ _ _ _ hb hg
          · simp only [M'] at hy
            split at hy
            · cases hy
            · rename_i hyr; exact hyr (h.inj2 _ _ _ _ _ _ _ hy hg)
        · exact (h.low _ (.inr ⟨r, _, _, hg⟩)).imp_right (O0.sub _ _)
        · have hj : j < q.sz := by rw [← Sq.elem_len true q i]; exact (List.getElem?_eq_some_iff.1 hd).1
          have hlt : i * q.sz + j < cur.size := by
            rw [hcs]
            have h4 : (i + 1) * q.sz ≤ cap * q.sz := Nat.mul_le_mul_right _ (by omega)
            rw [Nat.add_mul, Nat.one_mul] at h4; omega
          rw [Nat.zero_add, cell_of_row w g _ cur e (0, 0) hh]
          simp [hlt]
  refine ⟨M', ⟨h.fr, h.dfr, h.sz, fun x => (h.tmp x).mono hA hγ' hβ, fun b cs hb => ?_, h.boxn, fun y e' p hy => ?_, fun y hy => ?_, fun k hk => h.low k (hown k hk), h.inj1, fun y y' k c z c' z' h1 h2 => ?_, fun b y k c z h1 h2 => ?_, h.nle, h.fxb, fun y u u' h1 h2 => ?_⟩, hv, fun d v hd => hd.mono hA hγ' hβ⟩
  · obtain ⟨k, cur, e2, a1, a2, a3, a4⟩ := h.box b cs hb
    exact ⟨k, cur, e2, a1, a2, a3, fun j d hd => (a4 j d hd).mono hA hγ' hβ⟩
  · have hy : (s.setR r none).r y = some (e', p) := hy
    rw [PS.r_setR _ _ _ _ hF] at hy
    by_cases hyr : r = y
    · rw [if_pos hyr] at hy; cases hy
    · rw [if_neg hyr] at hy
      rcases h.row y e' p hy with ⟨h1, h2⟩ | ⟨g, cap, cur, h1, h2, h3, h4, h5, h6⟩
      · exact .inl ⟨by simp [M', Ne.symm hyr, h1], h2⟩
      · exact .inr ⟨g, cap, cur, by simp [M', Ne.symm hyr, h1], h2, h3, h4, h5, fun i j d hi' hd => (h6 i j d hi' hd).relem_any hd hA hbig⟩
  · have hy : (s.setR r none).r y = none := hy
    rw [PS.r_setR _ _ _ _ hF] at hy
    by_cases hyr : r = y
    · simp [M', hyr]
    · rw [if_neg hyr] at hy
      simpa [M', Ne.symm hyr] using h.rown y hy
  · simp only [M'] at h1 h2
    split at h1 <;> split at h2 <;> first | (cases h1; done) | (cases h2; done) | exact h.inj2 _ _ _ _ _ _ _ h1 h2
  · simp only [M'] at h2
    split at h2
    · cases h2
    · exact h.inj3 _ _ _ _ _ h1 h2
  · simp only [M'] at h2
    split at h2
    · cases h2
    · exact h.fxr y u u' h1 h2
end
section
variable {C : Cx} {ops : Array Oper} {K : PS → Prop} {o : Oper} {rest : List Oper} {s s' : PS} {TT : List (Nat × Ty)} {tm : List (Nat × D)} {rw' : List (Nat × Option (TypeId × Sq))} {bx : List (Nat × Option (List D))} {cr B : List Nat} {j : Nat}
end
end Go.Proofs.Ytmoamglpocjhgaa

namespace Go.Proofs.Ytmoamglpocjhgaa
open Go.RowKit Go.Deep
set_option linter.unusedSimpArgs false
set_option linter.unusedVariables false

/-! ### data that name a row or an inner row, given up -/
def klXS (r : Nat) : D → D
  | .row x o n => match (Nat.beq x r || !notF x) with | true => .dead | false => .row x o n
  | .eptr x i o => match (Nat.beq x r || !notF x) with | true => .dead | false => .eptr x i o
  | .agg _ | .tup _ | .irow _ _ _ | .iptr _ _ _ _ => .dead
  | d => d
def klXA (r : Nat) : D → D
  | .agg l => .agg (l.map (klXS r))
  | d => klXS r d
def klX (r : Nat) : D → D
  | .tup l => .tup (l.map (klXA r))
  | d => klXA r d
def PS.killX (s : PS) (r : Nat) : PS := ⟨s.tmp.map fun p => (p.1, klX r p.2), s.row, s.box.map fun p => (p.1, p.2.map fun cs => cs.map (klXS r))⟩
section
variable {M M' : Mp} {A A' : Bool → Nat → Prop} {w w' : World} {r : Nat} {s : PS}
theorem VR.klXS (hA : ∀ f b, b < w.heap.size → A f b → A' f b ∧ b < w'.heap.size ∧ w'.heap[b]? = w.heap[b]?) (hγ : ∀ x y, x ≠ r → notF x = true → M'.γ x = some y → M.γ x = some y) (hβ : ∀ b k, M'.β b = some k → M.β b = some k)
    {d : D} {v : Value} (h : VR M A w d v) : VR M' A' w' (klXS r d) v := by
  cases h with
  | dead v => exact .dead v
  | int n => exact .int n
  | bool b => exact .bool b
  | val v h => exact .val v h
  | nil ao => exact .nil ao
  | ro f q ao cap b o u hn hc hao hu hv => exact VR.ro_any (.ro f q ao cap b o u hn hc hao hu hv) hA
  | row x off n v h1 h =>
    simp only [Ytmoamglpocjhgaa.klXS]
    split
    · exact .dead _
    · rename_i hx
      rw [Bool.or_eq_false_iff] at hx
      exact .row _ off n v h1 fun y hy => h y (hγ _ y (fun e => by subst e; rw [Nat.beq_refl] at hx; cases hx.1) (by simpa using hx.2) hy)
  | ptr b off v h1 h => exact .ptr _ off v h1 fun k hk => h k (hβ b k hk)
  | eptr x i off v h =>
    simp only [Ytmoamglpocjhgaa.klXS]
    split
    · exact .dead _
    · rename_i hx
      rw [Bool.or_eq_false_iff] at hx
      exact .eptr _ i off v fun g c z hg => h g c z (hγ _ _ (fun e => by subst e; rw [Nat.beq_refl] at hx; cases hx.1) (by simpa using hx.2) hg)
  | rptr f q i off b o u hb hA' hu hv => exact VR.rptr_any (.rptr f q i off b o u hb hA' hu hv) hA
  | agg l us hl h => exact .dead _
  | tup l us hl h => exact .dead _
  | clo f bs v h1 h => exact .clo f bs v h1 fun ks hk => h ks (capsOf_mono' (fun b _ => hβ b) hk)
  | map k l es clock h hl hk => obtain ⟨a1, a2, a3⟩ := hA _ k (heap_lt h) hk; exact .map k l es clock (a3.trans h) hl a1
  | any v h1 => exact .any v h1
  | irow F k n v h1 h => exact .dead _
  | iptr F k i off v h => exact .dead _
  | fam te q v => exact .fam te q v
theorem VR.klXA (hA : ∀ f b, b < w.heap.size → A f b → A' f b ∧ b < w'.heap.size ∧ w'.heap[b]? = w.heap[b]?) (hγ : ∀ x y, x ≠ r → notF x = true → M'.γ x = some y → M.γ x = some y) (hβ : ∀ b k, M'.β b = some k → M.β b = some k)
    {d : D} {v : Value} (h : VR M A w d v) : VR M' A' w' (klXA r d) v := by
  cases d with
  | agg l =>
    cases h with | agg _ us hl h =>
    refine .agg _ us (by simpa using hl) fun i d hd => ?_
    rw [List.getElem?_map] at hd
    obtain ⟨d0, h0, rfl⟩ := Option.map_eq_some_iff.1 hd
    exact (h i d0 h0).klXS hA hγ hβ
  | _ => exact VR.klXS hA hγ hβ h
theorem VR.klX (hA : ∀ f b, b < w.heap.size → A f b → A' f b ∧ b < w'.heap.size ∧ w'.heap[b]? = w.heap[b]?) (hγ : ∀ x y, x ≠ r → notF x = true → M'.γ x = some y → M.γ x = some y) (hβ : ∀ b k, M'.β b = some k → M.β b = some k)
    {d : D} {v : Value} (h : VR M A w d v) : VR M' A' w' (klX r d) v := by
  cases d with
  | tup l =>
    cases h with | tup _ us hl h =>
    refine .tup _ us (by simpa using hl) fun i d hd => ?_
    rw [List.getElem?_map] at hd
    obtain ⟨d0, h0, rfl⟩ := Option.map_eq_some_iff.1 hd
    exact (h i d0 h0).klXA hA hγ hβ
  | _ => exact VR.klXA hA hγ hβ h
theorem PS.t_killX (s : PS) (r t : Nat) : (s.killX r).t t = klX r (s.t t) := by
  unfold PS.t PS.killX
  simp only [look_map (klX r)]
  cases look s.tmp t <;> rfl
theorem PS.b_killX (s : PS) (r b : Nat) : (s.killX r).b b = (s.b b).map fun cs => cs.map (klXS r) := by
  unfold PS.b PS.killX
  simp only [look_map (fun (x : Option (List D)) => x.map fun cs => cs.map (Ytmoamglpocjhgaa.klXS r))]
  cases look s.box b <;> rfl
end
/-- no row but R refers to family F -/
def lone (s : PS) (R F : Nat) : Bool := s.row.all fun p => Nat.beq p.1 R || (match s.r p.1 with | some (_, q) => (match q.refF with | some G => !Nat.beq G F && Nat.blt G 4294967296 | none => true) | none => true)
theorem lone_ok {s : PS} {R F : Nat} (hl : lone s R F = true) {x : Nat} {e : TypeId} {q : Sq} {G : Nat} (hx : s.r x = some (e, q)) (hG : q.refF = some G) : x = R ∨ (G ≠ F ∧ G < 4294967296) := by
  cases hb : Nat.ble BIG x with
  | true =>
    rw [PS.r_hi _ hb] at hx
    have := famr_flat hx
    cases q <;> simp [Sq.refF, Sq.isRefs] at hG this
  | false =>
    have hx' := hx
    rw [PS.r_lo _ hb] at hx'
    split at hx'
    · rename_i y hy
      have := (List.all_eq_true.1 hl) _ (look_mem hy)
      simp only [hx, hG, Bool.or_eq_true, Bool.and_eq_true, Bool.not_eq_true', Nat.blt_eq] at this
      rcases this with h1 | ⟨h1, h2⟩
      · exact .inl (Nat.eq_of_beq_eq_true h1)
      · exact .inr ⟨fun e => (by rw [e, Nat.beq_refl] at h1; cases h1), h2⟩
    · cases hx'
section
variable {w0 : World} {O0 : Hd} {n : Nat} {M : Mp} {s : PS} {a : Act} {w : World}
/-- Another map for the same memory: what lies where nothing has moved keeps its reading. -/
theorem Rel.remap (h : Rel w0 O0 n M s a w) {M' : Mp} {s' : PS} (r F : Nat) (hF : F < 4294967296) (hβ : ∀ b, M'.β b = M.β b) (hsub : ∀ x k c z, M'.γ x = some (some (k, c, z)) → ∃ y, M.γ y = some (some (k, c, z)))
    (hinj : ∀ x y k c z c' z', M'.γ x = some (some (k, c, z)) → M'.γ y = some (some (k, c', z')) → x = y)
    (hγ' : ∀ x y, x ≠ r → notF x = true → M'.γ x = some y → M.γ x = some y) (hγk : ∀ x y, x ≠ FK + F → notF x = false → Nat.ble BIG x = false → M'.γ x = some y → M.γ x = some y) (hrr : r < 1000000 ∨ M'.γ r = none) (hfk : ∀ u u', O0.fr (FK + F) = some u → M'.γ (FK + F) = some u' → u' = u)
    (hbg : ∀ G k y, G < 4294967296 → G ≠ F → M'.γ (inn G k) = some y → M.γ (inn G k) = some y)
    (ht : ∀ t, VR M' (Ow (Fs w0 O0) M') w (s'.t t) (a.tmps.getD t undef)) (hb : ∀ b, s'.b b = (s.b b).map fun cs => cs.map (klXS r))
    (hrow : ∀ x e q, s'.r x = some (e, q) → (s.r x = some (e, q) ∧ M'.γ x = M.γ x ∧ ∀ G, q.refF = some G → G ≠ F ∧ G < 4294967296) ∨ RowAt (Fs w0 O0) M' w x e q) (hrown : ∀ x, s'.r x = none → M'.γ x = none) : Rel w0 O0 n M' s' a w := by
  have hown : ∀ k, M'.owned k → M.owned k := by
    rintro k (⟨b, hb⟩ | ⟨y, c, z, hy⟩)
    · exact .inl ⟨b, by rw [← hβ]; exact hb⟩
    · obtain ⟨x, hx⟩ := hsub _ _ _ _ hy; exact .inr ⟨x, c, z, hx⟩
  have hA : ∀ f b, b < w.heap.size → Ow (Fs w0 O0) M f b → Ow (Fs w0 O0) M' f b ∧ b < w.heap.size ∧ w.heap[b]? = w.heap[b]? := fun f b h1 h2 => ⟨⟨fun h3 => h2.1 (hown b h3), h2.2⟩, h1, rfl⟩
  refine ⟨h.fr, h.dfr, h.sz, ht, fun b cs hx => ?_, fun b hx => ?_, fun x e q hx => ?_, hrown, fun k hk => h.low k (hown k hk), fun b b' k h1 h2 => h.inj1 b b' k (by rw [← hβ]; exact h1) (by rw [← hβ]; exact h2), hinj, fun b x k c z h1 h2 => ?_, h.nle, fun b k k' h1 h2 => h.fxb b k k' h1 (by rw [← hβ]; exact h2), fun x u u' h1 h2 => ?_⟩
  · rw [hb] at hx
    obtain ⟨cs0, h0, rfl⟩ := Option.map_eq_some_iff.1 hx
    obtain ⟨k, cur, e2, a1, a2, a3, a4⟩ := h.box b cs0 h0
    refine ⟨k, cur, e2, by rw [hβ]; exact a1, a2, by simpa using a3, fun j d hd => ?_⟩
    rw [List.getElem?_map] at hd
    obtain ⟨d0, h1, rfl⟩ := Option.map_eq_some_iff.1 hd
    exact VR.klXS hA hγ' (fun b k hk => by rw [← hβ]; exact hk) (a4 j d0 h1)
  · rw [hb] at hx
    rw [hβ]; exact h.boxn b (by simpa using hx)
  · rcases hrow x e q hx with ⟨h1, h2, h3⟩ | h1
    · rcases h.row x e q h1 with ⟨g1, g2⟩ | ⟨g, cap, cur, g1, g2, g3, g4, g5, g6⟩
      · exact .inl ⟨h2.trans g1, g2⟩
      · refine .inr ⟨g, cap, cur, h2.trans g1, g2, g3, g4, g5, fun i j d hi hd => (g6 i j d hi hd).relem_any2 hd hA fun G hG k y hy => ?_⟩
        exact hbg G k y (h3 G hG).2 (h3 G hG).1 hy
    · exact h1
  · obtain ⟨y, hy⟩ := hsub _ _ _ _ h2
    exact h.inj3 _ _ _ _ _ (by rw [← hβ]; exact h1) hy
  · obtain ⟨h3, h4⟩ := O0.lor x u h1
    have hb1 : Nat.ble BIG x = false := by
      cases hb : Nat.ble BIG x with
      | false => rfl
      | true => have := Nat.le_of_ble_eq_true hb; omega
    by_cases hxr : x = r
    · subst hxr
      rcases hrr with h5 | h5
      · omega
      · rw [h5] at h2; cases h2
    · cases hn : notF x with
      | true => exact h.fxr x u u' h1 (hγ' x u' hxr hn h2)
      | false =>
        by_cases hxf : x = FK + F
        · rw [hxf] at h1 h2; exact hfk u u' h1 h2
        · exact h.fxr x u u' h1 (hγk x u' hxf hn hb1 h2)
end
end Go.Proofs.Ytmoamglpocjhgaa

/-! ## families regrouped -/
namespace Go.Proofs.Ytmoamglpocjhgaa
open Go.RowKit Go.Deep
set_option linter.unusedSimpArgs false
set_option linter.unusedVariables false
def Fq.len : Fq → Nat
  | .ints L => L.length | .pairs L => L.length | .bools L => L.length
def Fq.push : Fq → Sq → Option Fq
  | .ints L, .ints c => some (.ints (L ++ [some c])) | .pairs L, .pairs c => some (.pairs (L ++ [some c])) | .bools L, .bools c => some (.bools (L ++ [some c]))
  | _, _ => none
theorem getD_snoc {α : Type} (L : List (Option α)) (c : α) (k : Nat) : (L ++ [some c]).getD k none = if k = L.length then some c else L.getD k none := by
  by_cases h : k = L.length
  · subst h; simp
  · rw [if_neg h]
    by_cases h2 : k < L.length
    · simp [List.getElem?_append_left h2]
    · have h3 : L.length < k := by omega
      simp [List.getElem?_append_right (show L.length ≤ k by omega), List.getElem?_eq_none (show L.length ≤ k by omega), List.getElem?_eq_none (show [some c].length ≤ k - L.length by simp; omega)]
theorem Fq.get_push {fq fq' : Fq} {c : Sq} (h : fq.push c = some fq') (k : Nat) : fq'.get k = if k = fq.len then some c else fq.get k := by
  cases fq <;> cases c <;> simp only [Fq.push, reduceCtorEq, Option.some.injEq] at h <;> subst h <;> simp only [Fq.get, Fq.len, getD_snoc] <;> (rename_i L l; by_cases hk : k = L.length <;> simp [hk])
theorem Fq.get_flat {fq : Fq} {k : Nat} {c : Sq} (h : fq.get k = some c) : c.isRefs = false := by
  cases fq <;> simp only [Fq.get] at h <;> split at h <;> first | (cases h; done) | (cases h; rfl)
theorem inn_of {x : Nat} (h : Nat.ble BIG x = true) : inn (unF x) (unK x) = x := by
  have h1 := Nat.le_of_ble_eq_true h
  have e : ∀ y : Nat, y / 4294967296 * 4294967296 + y % 4294967296 % 4294967296 = y := fun y => by omega
  have := e (x - BIG)
  unfold inn unF unK
  rw [this]
  omega
theorem fam_r {s : PS} {F : Nat} (hF : F < 4294967296) {te : TypeId} {fq : Fq} (hf : s.r (FK + F) = some (te, .fam fq)) (i : Nat) : s.r (inn F i) = match fq.get i with | some c => some (te, c) | none => none := by
  rw [PS.r_hi _ (inn_hi F i), PS.inn_r, fk_unF hF, hf, unK_inn]
  rfl
def famM (M : Mp) (r F : Nat) (fq : Fq) (g : Nat → Nat) : Mp := ⟨M.β, fun x => match Nat.ble BIG x with
  | true => if unF x = F then (match fq.get (unK x) with | some _ => M.γ (g (unK x)) | none => none) else M.γ x
  | false => if x = r then none else M.γ x⟩
theorem famM_hi (M : Mp) (r F : Nat) (fq : Fq) (g : Nat → Nat) {x : Nat} (hb : Nat.ble BIG x = true) (hu : unF x = F) : (famM M r F fq g).γ x = match fq.get (unK x) with | some _ => M.γ (g (unK x)) | none => none := by
  simp only [famM]
  rw [hb]
  simp [hu]
theorem famM_hi2 (M : Mp) (r F : Nat) (fq : Fq) (g : Nat → Nat) {x : Nat} (hb : Nat.ble BIG x = true) (hu : unF x ≠ F) : (famM M r F fq g).γ x = M.γ x := by
  simp only [famM]
  rw [hb]
  simp [hu]
theorem famM_inn (M : Mp) (r F : Nat) (fq : Fq) (g : Nat → Nat) (hF : F < 4294967296) (k : Nat) : (famM M r F fq g).γ (inn F k) = match fq.get k with | some _ => M.γ (g k) | none => none := by
  have := famM_hi M r F fq g (inn_hi F k) (by rw [unF_inn, Nat.mod_eq_of_lt hF])
  rw [unK_inn] at this
  exact this
theorem famM_inn2 (M : Mp) (r F : Nat) (fq : Fq) (g : Nat → Nat) {G : Nat} (hG : G < 4294967296) (hne : G ≠ F) (k : Nat) : (famM M r F fq g).γ (inn G k) = M.γ (inn G k) :=
  famM_hi2 M r F fq g (inn_hi G k) (by rw [unF_inn, Nat.mod_eq_of_lt hG]; exact hne)
theorem famM_lo (M : Mp) (r F : Nat) (fq : Fq) (g : Nat → Nat) {x : Nat} (hb : Nat.ble BIG x = false) (hx : x ≠ r) : (famM M r F fq g).γ x = M.γ x := by
  simp only [famM]
  rw [hb]
  simp [hx]
theorem famM_r (M : Mp) (r F : Nat) (fq : Fq) (g : Nat → Nat) (hb : Nat.ble BIG r = false) : (famM M r F fq g).γ r = none := by
  simp only [famM]
  rw [hb]
  simp
theorem VR.irow_mv {M M' : Mp} {A A' : Bool → Nat → Prop} {w w' : World} {F F' k k' n : Nat} {v : Value} (hv : VR M A w (.irow F k n) v) (h : ∀ x, M'.γ (inn F' k') = some x → M.γ (inn F k) = some x) : VR M' A' w' (.irow F' k' n) v := by
  cases hv with | irow _ _ _ _ h1 h2 => exact .irow _ _ _ _ h1 fun x hx => h2 x (h x hx)
theorem VR.irow_of {M M' : Mp} {A A' : Bool → Nat → Prop} {w w' : World} {F' r k' n : Nat} {v : Value} (hv : VR M A w (.row r 0 n) v) (h : ∀ x, M'.γ (inn F' k') = some x → M.γ r = some x) : VR M' A' w' (.irow F' k' n) v := by
  cases hv with | row _ _ _ _ h1 h2 => exact .irow _ _ _ _ h1 fun x hx => h2 x (h x hx)
theorem RowAt.mv {F : Bool → Nat → Prop} {M M' : Mp} {w : World} {x y : Nat} {e : TypeId} {q : Sq} (h : RowAt F M w x e q) (hq : q.isRefs = false) (hγ : M'.γ y = M.γ x) (hA : ∀ f b, b < w.heap.size → Ow F M f b → Ow F M' f b ∧ b < w.heap.size ∧ w.heap[b]? = w.heap[b]?) : RowAt F M' w y e q := by
  rcases h with ⟨g1, g2⟩ | ⟨g, cap, cur, g1, g2, g3, g4, g5, g6⟩
  · exact .inl ⟨hγ.trans g1, g2⟩
  · refine .inr ⟨g, cap, cur, hγ.trans g1, g2, g3, g4, g5, fun i j d hi hd => ?_⟩
    have hd' := hd
    rw [Sq.relem_eq hq] at hd'
    exact (g6 i j d hi hd).elem_any hd' hA
section
variable {w0 : World} {O0 : Hd} {n : Nat} {M : Mp} {s : PS} {a : Act} {w : World}
/-- A family gathered anew: its row k is what g k named; R is the one row that refers to it. -/
theorem Rel.refam (h : Rel w0 O0 n M s a w) {s' : PS} (r R F : Nat) (hF : F < 4294967296) {te : TypeId} {fq fq' : Fq} (g : Nat → Nat) {yR : Option (TypeId × Sq)}
    (hr : r < 1000000) (hR : notF R = true) (hrR : r ≠ R) (hf : s.r (FK + F) = some (te, .fam fq)) (hl : lone s R F = true)
    (hg : ∀ k c, fq'.get k = some c → s.r (g k) = some (te, c)) (hinj : ∀ k k' c c', fq'.get k = some c → fq'.get k' = some c' → g k = g k' → k = k') (hsrc : ∀ k c, fq'.get k = some c → g k = r ∨ ∃ j, g k = inn F j)
    (hs : ∀ x, s'.r x = match Nat.ble BIG x with | true => (if unF x = F then famr (some (some (te, .fam fq'))) (unK x) else s.r x) | false => if x = r then none else if x = FK + F then some (te, .fam fq') else if x = R then yR else s.r x)
    (hyR : ∀ e q, yR = some (e, q) → RowAt (Fs w0 O0) (famM M r F fq' g) w R e q) (hyn : yR = none → M.γ R = none)
    (ht : ∀ t, VR (famM M r F fq' g) (Ow (Fs w0 O0) (famM M r F fq' g)) w (s'.t t) (a.tmps.getD t undef)) (hb : ∀ b, s'.b b = (s.b b).map fun cs => cs.map (klXS r)) : Rel w0 O0 n (famM M r F fq' g) s' a w := by
  have hrb : Nat.ble BIG r = false := notF_big (notF_lo hr)
  have hRb : Nat.ble BIG R = false := notF_big hR
  have hfr : FK + F ≠ r := fun e => by have := notF_lo hr; rw [← e] at this; have h2 := notF_fk (inn F 0); rw [fk_unF hF] at h2; rw [h2] at this; cases this
  have hfR : FK + F ≠ R := fun e => by rw [← e] at hR; have h2 := notF_fk (inn F 0); rw [fk_unF hF] at h2; rw [h2] at hR; cases hR
  have cases3 : ∀ x y, (famM M r F fq' g).γ x = some y → (∃ k c, x = inn F k ∧ fq'.get k = some c ∧ M.γ (g k) = some y) ∨ (M.γ x = some y ∧ x ≠ r ∧ ∀ j, x ≠ inn F j) := fun x y hx => by
    cases hbx : Nat.ble BIG x with
    | true =>
      by_cases hu : unF x = F
      · have hxe : x = inn F (unK x) := by rw [← hu]; exact (inn_of hbx).symm
        rw [hxe, famM_inn _ _ _ _ _ hF] at hx
        split at hx
        · rename_i c hc; exact .inl ⟨_, c, hxe, hc, hx⟩
        · cases hx
      · simp only [famM, hbx, hu, if_false] at hx
        refine .inr ⟨hx, fun e => (by rw [e, hrb] at hbx; cases hbx), fun j e => hu (by rw [e, unF_inn, Nat.mod_eq_of_lt hF])⟩
    | false =>
      simp only [famM, hbx] at hx
      split at hx
      · cases hx
      · rename_i hxr
        exact .inr ⟨hx, hxr, fun j e => by rw [e, inn_hi] at hbx; cases hbx⟩
  have hsub : ∀ x k c z, (famM M r F fq' g).γ x = some (some (k, c, z)) → ∃ y, M.γ y = some (some (k, c, z)) := fun x k c z hx => by
    rcases cases3 x _ hx with ⟨_, _, _, _, h1⟩ | ⟨h1, _⟩
    · exact ⟨_, h1⟩
    · exact ⟨_, h1⟩
  have hown : ∀ k, (famM M r F fq' g).owned k → M.owned k := by
    rintro k (⟨b, hb⟩ | ⟨y, c, z, hy⟩)
    · exact .inl ⟨b, hb⟩
    · obtain ⟨x, hx⟩ := hsub _ _ _ _ hy; exact .inr ⟨x, c, z, hx⟩
  have hA : ∀ f b, b < w.heap.size → Ow (Fs w0 O0) M f b → Ow (Fs w0 O0) (famM M r F fq' g) f b ∧ b < w.heap.size ∧ w.heap[b]? = w.heap[b]? := fun f b h1 h2 => ⟨⟨fun h3 => h2.1 (hown b h3), h2.2⟩, h1, rfl⟩
  refine h.remap (s' := s') r F hF (fun _ => rfl) hsub (fun x y k c z c' z' h1 h2 => ?_) (fun x y h1 h2 h3 => ?_) (fun x y h1 h2 h3 h4 => ?_) (.inl hr) (fun u u' h1 h2 => ?_) (fun G k y h1 h2 h3 => ?_) ht hb (fun x e q hx => ?_) fun x hx => ?_
  · rcases cases3 x _ h1 with ⟨k1, c1, rfl, g1, g2⟩ | ⟨g1, g2, g3⟩
    · rcases cases3 y _ h2 with ⟨k2, c2, rfl, g4, g5⟩ | ⟨g4, g5, g6⟩
      · have := h.inj2 _ _ _ _ _ _ _ g2 g5
        rw [hinj k1 k2 c1 c2 g1 g4 this]
      · exfalso
        have := h.inj2 _ _ _ _ _ _ _ g2 g4
        rcases hsrc k1 c1 g1 with h5 | ⟨j, h5⟩
        · exact g5 (by rw [← this, h5])
        · exact g6 j (by rw [← this, h5])
    · rcases cases3 y _ h2 with ⟨k2, c2, rfl, g4, g5⟩ | ⟨g4, g5, g6⟩
      · exfalso
        have := h.inj2 _ _ _ _ _ _ _ g1 g5
        rcases hsrc k2 c2 g4 with h5 | ⟨j, h5⟩
        · exact g2 (by rw [this, h5])
        · exact g3 j (by rw [this, h5])
      · exact h.inj2 _ _ _ _ _ _ _ g1 g4
  · rw [famM_lo _ _ _ _ _ (notF_big h2) h1] at h3; exact h3
  · by_cases hxr : x = r
    · rw [hxr, famM_r _ _ _ _ _ hrb] at h4; cases h4
    · rw [famM_lo _ _ _ _ _ h3 hxr] at h4; exact h4
  · rw [famM_lo _ _ _ _ _ (fk_lo hF) hfr] at h2
    exact h.fxr _ _ _ h1 h2
  · rw [famM_inn2 _ _ _ _ _ h1 h2] at h3; exact h3
  · rw [hs] at hx
    cases hbx : Nat.ble BIG x with
    | true =>
      rw [hbx] at hx
      by_cases hu : unF x = F
      · have hxe : x = inn F (unK x) := by rw [← hu]; exact (inn_of hbx).symm
        simp only [hu, if_true, famr] at hx
        split at hx
        · rename_i c hc
          cases hx
          right
          have h1 := h.row _ _ _ (hg _ _ hc)
          refine h1.mv (Fq.get_flat hc) ?_ hA
          rw [hxe, famM_inn _ _ _ _ _ hF, unK_inn, hc]
        · cases hx
      · simp only [hu, if_false] at hx
        refine .inl ⟨hx, by simp only [famM, hbx, hu, if_false], fun G hG => ?_⟩
        rcases lone_ok hl hx hG with h1 | h1
        · rw [h1, hRb] at hbx; cases hbx
        · exact h1
    | false =>
      rw [hbx] at hx
      simp only at hx
      split at hx
      · cases hx
      rename_i hxr
      split at hx
      · rename_i hxf
        cases hx
        right
        rcases h.row _ _ _ hf with ⟨g1, g2⟩ | ⟨gg, cap, cur, g1, g2, g3, g4, g5, g6⟩
        · exact .inl ⟨by rw [hxf, famM_lo _ _ _ _ _ (fk_lo hF) hfr]; exact g1, rfl⟩
        · exact .inr ⟨gg, cap, cur, by rw [hxf, famM_lo _ _ _ _ _ (fk_lo hF) hfr]; exact g1, g2, Nat.zero_le _, g4, g5, fun i j d hi hd => absurd hi (Nat.not_lt_zero _)⟩
      rename_i hxf
      split at hx
      · rename_i hxR
        right
        rw [hxR]; exact hyR e q hx
      rename_i hxR
      refine .inl ⟨hx, famM_lo _ _ _ _ _ hbx hxr, fun G hG => ?_⟩
      rcases lone_ok hl hx hG with h1 | h1
      · exact absurd h1 hxR
      · exact h1
  · rw [hs] at hx
    cases hbx : Nat.ble BIG x with
    | true =>
      rw [hbx] at hx
      by_cases hu : unF x = F
      · have hxe : x = inn F (unK x) := by rw [← hu]; exact (inn_of hbx).symm
        simp only [hu, if_true, famr] at hx
        rw [hxe, famM_inn _ _ _ _ _ hF]
        split at hx
        · cases hx
        · rename_i hc; rw [hc]
      · simp only [hu, if_false] at hx
        simp only [famM, hbx, hu, if_false]
        exact h.rown x hx
    | false =>
      rw [hbx] at hx
      simp only at hx
      split at hx
      · rename_i hxr; rw [hxr]; exact famM_r _ _ _ _ _ hrb
      rename_i hxr
      split at hx
      · cases hx
      rename_i hxf
      split at hx
      · rename_i hxR
        rw [hxR, famM_lo _ _ _ _ _ hRb (Ne.symm hrR)]; exact hyn hx
      rename_i hxR
      rw [famM_lo _ _ _ _ _ hbx hxr]; exact h.rown x hx
end
end Go.Proofs.Ytmoamglpocjhgaa

/-! ## moves of a state -/
namespace Go.Proofs.Ytmoamglpocjhgaa
open Go.RowKit Go.Deep
set_option linter.unusedSimpArgs false
set_option linter.unusedVariables false
theorem PS.r_app {s s' : PS} {l : List (Nat × Option (TypeId × Sq))} (h : s'.row = l ++ s.row) (x : Nat) : s'.r x = match Nat.ble BIG x with | true => (match look l (FK + unF x) with | some y => famr (some y) (unK x) | none => s.r x) | false => (match look l x with | some y => y | none => s.r x) := by
  cases hb : Nat.ble BIG x with
  | true =>
    rw [PS.r_hi _ hb, PS.r_hi _ hb]
    unfold PS.inn
    rw [h, look_append]
    cases look l (FK + unF x) <;> rfl
  | false =>
    rw [PS.r_lo _ hb, PS.r_lo _ hb, h, look_append]
    cases look l x <;> rfl
def famOf : Sq → Fq
  | .intss X => .ints (X.map some) | .pairss X => .pairs (X.map some) | .boolss X => .bools (X.map some) | .raises X => .ints (X.map fun x => some x.2) | _ => .ints []
theorem dF_fam (q : Sq) : dF q = .fam (famOf q) := by cases q <;> rfl
theorem famOf_get {q : Sq} (hq : q.deep = true) (i : Nat) : (famOf q).get i = if i < q.len then some (q.nn i) else none := by
  have := famr_dF hq 0 i
  rw [dF_fam] at this
  simp only [famr] at this
  cases h : (famOf q).get i with
  | none => rw [h] at this; split at this <;> simp_all
  | some c => rw [h] at this; split at this <;> simp_all
theorem fk_ne {F r : Nat} (hF : F < 4294967296) (hr : notF r = true) : FK + F ≠ r := fun e => by
  have h2 := notF_fk (inn F 0)
  rw [fk_unF hF, e] at h2
  rw [h2] at hr; cases hr
theorem look_one' {α : Type} (k : Nat) (x : α) (i : Nat) : look [(k, x)] i = if k = i then some x else none := by
  by_cases h : k = i
  · subst h; rw [look_cons_self, if_pos rfl]
  · rw [look_cons_ne h, if_neg h]; rfl
theorem look_two' {α : Type} (k l : Nat) (x y : α) (i : Nat) : look [(k, x), (l, y)] i = if k = i then some x else if l = i then some y else none := by
  by_cases h : k = i
  · subst h; rw [look_cons_self, if_pos rfl]
  · rw [look_cons_ne h, if_neg h]; exact look_one' l y i
section
variable {C : Cx} {tm : List (Nat × D)} {rw' : List (Nat × Option (TypeId × Sq))} {bx : List (Nat × Option (List D))} {s' : PS}
end
end Go.Proofs.Ytmoamglpocjhgaa

namespace Go.Proofs.Ytmoamglpocjhgaa
open Go.RowKit Go.Deep
set_option linter.unusedSimpArgs false
set_option linter.unusedVariables false
/-- what an outer row says of a family, said anew in order -/
structure ReOK (F : Nat) (qR : Sq) (fq : Fq) (q' : Sq) : Prop where
  deep : q'.deep = true
  len : q'.len = qR.len
  sz : q'.sz = qR.sz
  κ : ∃ κ : Nat → Nat, (∀ i, i < q'.len → fq.get (κ i) = some (q'.nn i)) ∧ (∀ i j, i < q'.len → j < q'.len → κ i = κ j → i = j) ∧
    ∀ (i j n : Nat), i < q'.len → (((dR F q').relem i)[j]? = some (D.irow F i n) → (qR.relem i)[j]? = some (D.irow F (κ i) n)) ∧ ∀ x : Int, ((dR F q').relem i)[j]? = some (D.int x) → (qR.relem i)[j]? = some (D.int x)
section
variable {C : Cx} {tm : List (Nat × D)} {rw' : List (Nat × Option (TypeId × Sq))} {bx : List (Nat × Option (List D))} {s' : PS}
theorem En.re (R F : Nat) {et te : TypeId} {qR q' : Sq} {fq : Fq} (hR : PS.r ⟨tm, rw', bx⟩ R = some (et, qR)) (hf : PS.r ⟨tm, rw', bx⟩ (FK + F) = some (te, .fam fq)) (hre : ReOK F qR fq q') (hl : lone ⟨tm, rw', bx⟩ R F = true) (h9 : PS.r ⟨tm, rw', bx⟩ 999999 = none)
    (hnf : nf ⟨(PS.killX ⟨tm, rw', bx⟩ 999999).tmp, (R, some (et, dR F q')) :: (FK + F, some (te, dF q')) :: rw', (PS.killX ⟨tm, rw', bx⟩ 999999).box⟩ = some s') (hF : Nat.blt F 4294967296 = true := by rfl) (hFR : notF R = true := by rfl) (hrR : Nat.beq R 999999 = false := by rfl) : En C ⟨tm, rw', bx⟩ s' := ⟨fun M a w h => by
  rw [nf_ok hnf]
  rw [Nat.blt_eq] at hF
  obtain ⟨hq, hlen, hsz, κ, k1, k2, k3⟩ := hre
  have hne : (999999 : Nat) ≠ R := fun e => by rw [← e, Nat.beq_refl] at hrR; cases hrR
  have h9n : notF 999999 = true := notF_lo (by decide)
  let g : Nat → Nat := fun k => inn F (κ k)
  have hget := famOf_get hq
  have hown : ∀ k, (famM M 999999 F (famOf q') g).owned k → M.owned k := by
    rintro k (⟨b, hb⟩ | ⟨y, c, z, hy⟩)
    · exact .inl ⟨b, hb⟩
    · simp only [famM] at hy
      split at hy
      · split at hy
        · split at hy
          · exact .inr ⟨_, c, z, hy⟩
          · cases hy
        · exact .inr ⟨_, c, z, hy⟩
      · split at hy
        · cases hy
        · exact .inr ⟨_, c, z, hy⟩
  have hA : ∀ f b, b < w.heap.size → Ow (Fs C.w0 C.O0) M f b → Ow (Fs C.w0 C.O0) (famM M 999999 F (famOf q') g) f b ∧ b < w.heap.size ∧ w.heap[b]? = w.heap[b]? := fun f b h1 h2 => ⟨⟨fun h3 => h2.1 (hown b h3), h2.2⟩, h1, rfl⟩
  have hγ' : ∀ x y, x ≠ 999999 → notF x = true → (famM M 999999 F (famOf q') g).γ x = some y → M.γ x = some y := fun x y h1 h2 h3 => by rw [famM_lo _ _ _ _ _ (notF_big h2) h1] at h3; exact h3
  rw [dF_fam]
  refine ⟨_, h.refam 999999 R F hF (fq' := famOf q') g (yR := some (et, dR F q')) (by decide) hFR hne hf hl (fun k c' hc => ?_) (fun k k' c1 c2 h1 h2 h3 => ?_) (fun k c' hc => .inr ⟨κ k, rfl⟩) (fun x => ?_) (fun e p hx => ?_) (fun hx => by cases hx) (fun t' => ?_) fun b => ?_⟩
  · rw [hget] at hc
    split at hc
    · rename_i hk
      cases hc
      show PS.r _ (inn F (κ k)) = _
      rw [fam_r hF hf, k1 k hk]
    · cases hc
  · rw [hget] at h1 h2
    split at h1
    · split at h2
      · rename_i a1 a2; exact k2 k k' a1 a2 (inn_inj h3).2
      · cases h2
    · cases h1
  · rw [PS.r_app (s := ⟨tm, rw', bx⟩) (l := [(R, some (et, dR F q')), (FK + F, some (te, .fam (famOf q')))]) rfl, look_two', look_two']
    cases hbx : Nat.ble BIG x with
    | true =>
      have h1 : R ≠ FK + unF x := fun e => by have := notF_fk x; rw [← e, hFR] at this; cases this
      simp only [h1, if_false]
      by_cases hu : unF x = F
      · simp [hu]
      · simp [hu, Ne.symm hu]
    | false =>
      simp only
      by_cases hx9 : x = 999999
      · subst hx9
        have h2 : FK + F ≠ 999999 := fk_ne hF h9n
        simp [Ne.symm hne, h2, h9]
      · simp only [hx9, if_false]
        by_cases hxR : R = x
        · subst hxR
          have h2 : R ≠ FK + F := Ne.symm (fk_ne hF hFR)
          simp [h2]
        · simp only [hxR, if_false, Ne.symm hxR]
          by_cases hxf : FK + F = x
          · simp [hxf]
          · simp [hxf, Ne.symm hxf]
  · cases hx
    rcases h.row _ _ _ hR with ⟨g1, g2⟩ | ⟨gg, cap, cur, g1, g2, g3, g4, g5, g6⟩
    · exact .inl ⟨by rw [famM_lo _ _ _ _ _ (notF_big hFR) (Ne.symm hne)]; exact g1, by rw [dR_len, hlen]; exact g2⟩
    · refine .inr ⟨gg, cap, cur, by rw [famM_lo _ _ _ _ _ (notF_big hFR) (Ne.symm hne), dR_sz, hsz]; exact g1, g2, by rw [dR_len, hlen]; exact g3, g4, by rw [dR_sz, hsz]; exact g5, fun i j d hi hd => ?_⟩
      rw [dR_len] at hi
      rw [dR_sz, hsz]
      rcases dR_relem hq hi hd with ⟨rfl, _⟩ | ⟨x, rfl, _⟩
      · have h1 := (k3 i j _ hi).1 hd
        have hv := g6 i j _ (by omega) h1
        refine hv.irow_mv fun x hx => ?_
        rw [famM_inn _ _ _ _ _ hF, hget, if_pos hi] at hx
        exact hx
      · have h1 := (k3 i j 0 hi).2 x hd
        rw [(g6 i j _ (by omega) h1).int_inv]; exact .int _
  · have : PS.t ⟨(PS.killX ⟨tm, rw', bx⟩ 999999).tmp, (R, some (et, dR F q')) :: (FK + F, some (te, .fam (famOf q'))) :: rw', (PS.killX ⟨tm, rw', bx⟩ 999999).box⟩ t' = klX 999999 (PS.t ⟨tm, rw', bx⟩ t') := PS.t_killX ⟨tm, rw', bx⟩ 999999 t'
    rw [this]
    exact VR.klX hA hγ' (fun _ _ h => h) (h.tmp t')
  · exact PS.b_killX ⟨tm, rw', bx⟩ 999999 b⟩
end
end Go.Proofs.Ytmoamglpocjhgaa

/-! ## operations -/
namespace Go.Proofs.Ytmoamglpocjhgaa
open Go.RowKit Go.Deep
set_option linter.unusedSimpArgs false
set_option linter.unusedVariables false
section
variable {w0 : World} {O0 : Hd} {n : Nat} {M : Mp} {s : PS} {a : Act} {w : World}
end
section
variable {C : Cx} {ops : Array Oper} {K : PS → Prop} {o : Oper} {rest : List Oper} {s : PS} {TT : List (Nat × Ty)} {tm : List (Nat × D)} {rw' : List (Nat × Option (TypeId × Sq))} {bx : List (Nat × Option (List D))}
/-- another text for what a row holds -/
theorem En.eqR (R : Nat) {et : TypeId} {q q' : Sq} (hR : PS.r ⟨tm, rw', bx⟩ R = some (et, q)) (he : q = q') (hFR : Nat.blt R BIG = true := by rfl) : En C ⟨tm, rw', bx⟩ ⟨tm, (R, some (et, q')) :: rw', bx⟩ := ⟨fun M a w h => by
  subst he
  rw [Nat.blt_eq] at hFR
  have hRb : Nat.ble BIG R = false := by
    cases hb : Nat.ble BIG R with
    | false => rfl
    | true => have := Nat.le_of_ble_eq_true hb; omega
  have hrr : ∀ x, PS.r ⟨tm, (R, some (et, q)) :: rw', bx⟩ x = PS.r ⟨tm, rw', bx⟩ x := fun x => by
    rw [PS.r_app (s := ⟨tm, rw', bx⟩) (l := [(R, some (et, q))]) rfl, look_one', look_one']
    cases hbx : Nat.ble BIG x with
    | true =>
      by_cases hu : R = FK + unF x
      · simp only [hu, if_true]
        rw [PS.r_hi _ hbx, PS.inn_r, ← hu, hR]
      · simp [hu]
    | false =>
      by_cases hx : R = x
      · subst hx; simp [hR]
      · simp [hx]
  exact ⟨M, h.fr, h.dfr, h.sz, h.tmp, h.box, h.boxn, fun x e p hx => h.row x e p (by rw [← hrr]; exact hx), fun x hx => h.rown x (by rw [← hrr]; exact hx), h.low, h.inj1, h.inj2, h.inj3, h.nle, h.fxb, h.fxr⟩⟩
end
end Go.Proofs.Ytmoamglpocjhgaa

namespace Go.Proofs.Ytmoamglpocjhgaa
open Go.RowKit Go.Deep
set_option linter.unusedSimpArgs false
set_option linter.unusedVariables false
section
variable {P : Program} {w0 : World} {O0 : Hd} {n : Nat} {M : Mp} {s : PS} {a : Act} {w w' : World}
theorem fam_row {F : Nat} (hF : F < 4294967296) {te : TypeId} {fq' : Fq} (x : Nat) : PS.r ⟨s.tmp, (FK + F, some (te, .fam fq')) :: s.row, s.box⟩ x = match Nat.ble BIG x with | true => (if unF x = F then famr (some (some (te, .fam fq'))) (unK x) else s.r x) | false => if x = FK + F then some (te, .fam fq') else s.r x := by
  rw [PS.r_app (s := s) (l := [(FK + F, some (te, .fam fq'))]) rfl, look_one', look_one']
  cases hbx : Nat.ble BIG x with
  | true =>
    by_cases hu : unF x = F
    · simp [hu]
    · simp [hu, Ne.symm hu]
  | false =>
    by_cases hx : FK + F = x
    · simp [hx]
    · simp [hx, Ne.symm hx]
/-- The inner row k of a family holds something else: its block alone has turned. -/
theorem Rel.inPlace (h : Rel w0 O0 n M s a w) {F k g cap : Nat} (hF : F < 4294967296) {te : TypeId} {c c' : Sq} {fq fq' : Fq} {cur' : Array Value} (hf : s.r (FK + F) = some (te, .fam fq)) (hc : fq.get k = some c) (hfq : ∀ j, fq'.get j = if j = k then some c' else fq.get j)
    (hos : w'.os = w.os) (ht : w'.tape = w.tape) (ho : w'.output = w.output) (hs : w.heap.size ≤ w'.heap.size)
    (hcase : (M.γ (inn F k) = some none ∧ c'.len = 0 ∧ ∀ x, x < w.heap.size → w'.heap[x]? = w.heap[x]?) ∨
      (M.γ (inn F k) = some (some (g, cap, c'.sz)) ∧ (∀ x, x < w.heap.size → x ≠ g → w'.heap[x]? = w.heap[x]?) ∧ w'.heap[g]? = some (.cells cur' te (0, 0)) ∧ c'.len ≤ cap ∧ cap ≤ maxLen ∧ cur'.size = cap * c'.sz ∧ ∀ i j d, i < c'.len → (c'.relem i)[j]? = some d → VR M (Ow (Fs w0 O0) M) w' d (cur'.getD (i * c'.sz + j) undef))) :
    Rel w0 O0 n M ⟨s.tmp, (FK + F, some (te, .fam fq')) :: s.row, s.box⟩ a w' ∧ ∀ d v, VR M (Ow (Fs w0 O0) M) w d v → VR M (Ow (Fs w0 O0) M) w' d v := by
  have hinn : s.r (inn F k) = some (te, c) := by rw [fam_r hF hf, hc]
  have hoth : ∀ x y cp z, M.γ y = some (some (x, cp, z)) → y ≠ inn F k → w'.heap[x]? = w.heap[x]? := fun x y cp z hy hne => by
    have hlt := h.lt x (.inr ⟨y, cp, z, hy⟩)
    rcases hcase with ⟨_, _, h3⟩ | ⟨h1, h2, _⟩
    · exact h3 x hlt
    · exact h2 x hlt fun e => hne (h.inj2 _ _ _ _ _ _ _ hy (by rw [e]; exact h1))
  have hbox : ∀ x b, M.β b = some x → w'.heap[x]? = w.heap[x]? := fun x b hb => by
    have hlt := h.lt x (.inl ⟨b, hb⟩)
    rcases hcase with ⟨_, _, h3⟩ | ⟨h1, h2, _⟩
    · exact h3 x hlt
    · exact h2 x hlt fun e => h.inj3 _ _ _ _ _ hb (by rw [e]; exact h1)
  have hun : ∀ x, x < w.heap.size → ¬ M.owned x → w'.heap[x]? = w.heap[x]? := fun x hlt hx => by
    rcases hcase with ⟨_, _, h3⟩ | ⟨h1, h2, _⟩
    · exact h3 x hlt
    · exact h2 x hlt fun e => hx (.inr ⟨_, _, _, by rw [e]; exact h1⟩)
  have hA : ∀ f b, b < w.heap.size → Ow (Fs w0 O0) M f b → Ow (Fs w0 O0) M f b ∧ b < w'.heap.size ∧ w'.heap[b]? = w.heap[b]? := fun f b h1 h2 => ⟨h2, by omega, hun b h1 h2.1⟩
  have g4 : ∀ d v, VR M (Ow (Fs w0 O0) M) w d v → VR M (Ow (Fs w0 O0) M) w' d v := fun d v hv => hv.mono hA (fun _ _ h => h) (fun _ _ h => h)
  have keep : ∀ x e q, s.r x = some (e, q) → x ≠ inn F k → RowAt (Fs w0 O0) M w' x e q := fun x e q hx hne => by
    rcases h.row x e q hx with ⟨h1, h2⟩ | ⟨g', cap', cur2, b1, b2, b3, b4, b5, b6⟩
    · exact .inl ⟨h1, h2⟩
    · exact .inr ⟨g', cap', cur2, b1, (hoth _ _ _ _ b1 hne).trans b2, b3, b4, b5, fun i j d hi hd => g4 _ _ (b6 i j d hi hd)⟩
  refine ⟨⟨?_, h.dfr, h.sz, fun t => g4 _ _ (h.tmp t), fun x ds hx => ?_, h.boxn, fun x e q hx => ?_, fun x hx => ?_, h.low, h.inj1, h.inj2, h.inj3, h.nle, h.fxb, h.fxr⟩, g4⟩
  · refine h.fr.step hos ht ho hs fun x h1 h2 => hun x (Nat.lt_of_lt_of_le h1 h.fr.size) fun hx => ?_
    rcases h.low x hx with h3 | h3
    · omega
    · exact h2 h3
  · obtain ⟨k2, cur2, e2, b1, b2, b3, b4⟩ := h.box x ds hx
    exact ⟨k2, cur2, e2, b1, (hbox _ _ b1).trans b2, b3, fun i d' hd => g4 _ _ (b4 i d' hd)⟩
  · rw [fam_row hF] at hx
    cases hbx : Nat.ble BIG x with
    | true =>
      rw [hbx] at hx
      by_cases hu : unF x = F
      · have hxe : x = inn F (unK x) := by rw [← hu]; exact (inn_of hbx).symm
        simp only [hu, if_true, famr, hfq] at hx
        by_cases hk : unK x = k
        · simp only [hk, if_true, Option.some.injEq, Prod.mk.injEq] at hx
          obtain ⟨rfl, rfl⟩ := hx
          rw [hxe, hk]
          rcases hcase with ⟨h1, h2, _⟩ | ⟨h1, _, h3, h4, h5, h6, h7⟩
          · exact .inl ⟨h1, h2⟩
          · exact .inr ⟨g, cap, cur', h1, h3, h4, h5, h6, h7⟩
        · simp only [hk, if_false] at hx
          split at hx
          · rename_i c2 hc2
            cases hx
            refine keep x _ _ ?_ (fun e => hk (by rw [e, unK_inn]))
            rw [hxe, fam_r hF hf, hc2]
          · cases hx
      · simp only [hu, if_false] at hx
        exact keep x e q hx (fun e' => hu (by rw [e', unF_inn, Nat.mod_eq_of_lt hF]))
    | false =>
      rw [hbx] at hx
      have hxk : x ≠ inn F k := fun e => by rw [e, inn_hi] at hbx; cases hbx
      simp only at hx
      split at hx
      · rename_i hxf
        cases hx
        rw [hxf]
        rcases h.row _ _ _ hf with ⟨g1, g2⟩ | ⟨gg, cp, cur, g1, g2, g3, g4', g5, g6⟩
        · exact .inl ⟨g1, rfl⟩
        · exact .inr ⟨gg, cp, cur, g1, (hoth _ _ _ _ g1 (by rw [← hxf]; exact hxk)).trans g2, Nat.zero_le _, g4', g5, fun i j d hi hd => absurd hi (Nat.not_lt_zero _)⟩
      · exact keep x e q hx hxk
  · rw [fam_row hF] at hx
    cases hbx : Nat.ble BIG x with
    | true =>
      rw [hbx] at hx
      by_cases hu : unF x = F
      · have hxe : x = inn F (unK x) := by rw [← hu]; exact (inn_of hbx).symm
        simp only [hu, if_true, famr, hfq] at hx
        by_cases hk : unK x = k
        · simp only [hk, if_true] at hx; cases hx
        · simp only [hk, if_false] at hx
          refine h.rown x ?_
          rw [hxe, fam_r hF hf]
          split at hx
          · cases hx
          · rename_i h2; rw [h2]
      · simp only [hu, if_false] at hx
        exact h.rown x hx
    | false =>
      rw [hbx] at hx
      simp only at hx
      split at hx
      · cases hx
      · exact h.rown x hx
end
section
variable {C : Cx} {ops : Array Oper} {K : PS → Prop} {o : Oper} {rest : List Oper} {s : PS} {TT : List (Nat × Ty)} {tm : List (Nat × D)} {rw' : List (Nat × Option (TypeId × Sq))} {bx : List (Nat × Option (List D))} {cr B : List Nat} {j : Nat}
/-- an operation that yields a value, out of what its operands and families are known to hold -/
structure PurF (C : Cx) (o : Oper) (s : PS) (d : D) : Prop where
  out : ∀ s1, (∀ x ∈ o.op.operands, s1.ev x = s.ev x) → (∀ r, notF r = false → s1.r r = s.r r) → ∀ M a w, Rel C.w0 C.O0 C.n M s1 a w → ∃ v, (execOp a.eval o).run C.P w = .ok (.value v) w ∧ VR M (Ow (Fs C.w0 C.O0) M) w d v
theorem PurF.step {d : D} (h : PurF C o s d) (ho : dstOk C.n o.dst = true) {s1 : PS} (hs : ∀ x ∈ o.op.operands, s1.ev x = s.ev x) (hfk : ∀ r, notF r = false → s1.r r = s.r r) : Step C o s1 (fun s' => s' = s1.put o.dst d) := sRun (fun M a w hr => h.out s1 hs hfk M a w hr) ho rfl
end
end Go.Proofs.Ytmoamglpocjhgaa

/-! ## stores, calls, zeros -/
namespace Go.Proofs.Ytmoamglpocjhgaa
open Go.RowKit Go.Deep
set_option linter.unusedSimpArgs false
set_option linter.unusedVariables false
/-- rows q with the inner row k now c' (as long as it was) -/
structure SetIn (F : Nat) (q q' : Sq) (k : Nat) (c' : Sq) : Prop where
  get : ∀ j, (famOf q').get j = if j = k then some c' else (famOf q).get j
  dR : dR F q = dR F q'
section
variable {C : Cx} {ops : Array Oper} {K : PS → Prop} {o : Oper} {rest : List Oper} {s : PS} {TT : List (Nat × Ty)} {tm : List (Nat × D)} {rw' : List (Nat × Option (TypeId × Sq))} {bx : List (Nat × Option (List D))}
/-- the outer row said anew beside its family -/
theorem Rel.outer {w0 : World} {O0 : Hd} {n : Nat} {M : Mp} {a : Act} {w : World} {R F : Nat} {et : TypeId} {qo qo' : Sq} {z : Option (TypeId × Sq)} (hF : F < 4294967296) (hFR : notF R = true) (hR : PS.r ⟨tm, rw', bx⟩ R = some (et, qo)) (he : qo = qo') (h : Rel w0 O0 n M ⟨tm, (FK + F, z) :: rw', bx⟩ a w) :
    Rel w0 O0 n M ⟨tm, (R, some (et, qo')) :: (FK + F, z) :: rw', bx⟩ a w := by
  subst he
  have hne : FK + F ≠ R := fk_ne hF hFR
  have hrr : ∀ x, PS.r ⟨tm, (R, some (et, qo)) :: (FK + F, z) :: rw', bx⟩ x = PS.r ⟨tm, (FK + F, z) :: rw', bx⟩ x := fun x => by
    rw [PS.r_app (s := ⟨tm, rw', bx⟩) (s' := ⟨tm, (R, some (et, qo)) :: (FK + F, z) :: rw', bx⟩) (l := [(R, some (et, qo)), (FK + F, z)]) rfl, PS.r_app (s := ⟨tm, rw', bx⟩) (s' := ⟨tm, (FK + F, z) :: rw', bx⟩) (l := [(FK + F, z)]) rfl, look_two', look_two', look_one', look_one']
    cases hbx : Nat.ble BIG x with
    | true =>
      have h1 : R ≠ FK + unF x := fun e => by have := notF_fk x; rw [← e, hFR] at this; cases this
      simp [h1]
    | false =>
      by_cases hx : R = x
      · subst hx; simp [hR, hne]
      · simp [hx]
  exact ⟨h.fr, h.dfr, h.sz, h.tmp, h.box, h.boxn, fun x e p hx => h.row x e p (by rw [← hrr]; exact hx), fun x hx => h.rown x (by rw [← hrr]; exact hx), h.low, h.inj1, h.inj2, h.inj3, h.nle, h.fxb, h.fxr⟩
/-- a call that writes an inner row in place -/
theorem oMCallI (R : Nat) (q' : Sq) {f : FuncId} {x y : Operand} {ts : Array TypeId} {te et : TypeId} {q c' : Sq} {F k m : Nat} {i r : Int} (hp : MCall C.P f [.row 1000000 0 m, .int i] [1000000] [] [(te, q.nn k)] [(te, c')] [] [] (.int r)) (hg : o.guard = none) (hop : o.op = .call { callee := .value (.func f), args := #[x, y], argTypes := ts }) {b : Nat} (hd : o.dst = some b) (hn : Nat.blt b C.n = true)
    (hx : (PS.ev ⟨tm, rw', bx⟩ x) = .irow F k m) (hyy : (PS.ev ⟨tm, rw', bx⟩ y) = .int i) (hf : PS.r ⟨tm, rw', bx⟩ (FK + F) = some (te, dF q)) (hR : PS.r ⟨tm, rw', bx⟩ R = some (et, dR F q)) (hq : q.deep = true) (hk : k < q.len) (hin : SetIn F q q' k c') (hl : c'.len = (q.nn k).len) (hz : c'.sz = (q.nn k).sz) (hcf : c'.isRefs = false)
    (h : VO C ops K rest ⟨(b, .int r) :: tm, (R, some (et, dR F q')) :: (FK + F, some (te, dF q')) :: rw', bx⟩) (hF : Nat.blt F 4294967296 = true := by rfl) (hFR : notF R = true := by rfl) : VO C ops K (o :: rest) ⟨tm, rw', bx⟩ := by
  refine vOp hg ⟨fun M a w Q K' hr hkk => ?_⟩
  rw [Nat.blt_eq] at hF
  have hevx := hr.ev x
  rw [hx] at hevx
  have hevy := hr.ev y
  rw [hyy] at hevy
  have hinn := deep_r hF hq (s := ⟨tm, rw', bx⟩) hf k
  rw [if_pos hk] at hinn
  have hflat : (q.nn k).isRefs = false := nn_refs q k
  have hf' := hf
  rw [dF_fam] at hf'
  let N : Mp := ⟨fun _ => none, fun z => if z = 1000000 then M.γ (inn F k) else none⟩
  have n1 : N.γ 1000000 = M.γ (inn F k) := by simp [N]
  have n2 : ∀ z, z ≠ 1000000 → N.γ z = none := fun z hz => by simp [N, hz]
  have hNo : ∀ g, N.owned g → ∃ c z, M.γ (inn F k) = some (some (g, c, z)) := by
    rintro g (⟨b', hb'⟩ | ⟨z, c, zz, hz⟩)
    · cases hb'
    · by_cases hz1 : z = 1000000
      · rw [hz1, n1] at hz; exact ⟨c, zz, hz⟩
      · rw [n2 z hz1] at hz; cases hz
  have hNM : ∀ g, N.owned g → M.owned g := fun g hg => by obtain ⟨c, z, h1⟩ := hNo g hg; exact .inr ⟨_, c, z, h1⟩
  have hPS : ∀ (cc : Sq) (z : Nat), PS.r ⟨[], asL [1000000] [(te, cc)], asL [] []⟩ z = if z = 1000000 then some (te, cc) else none := fun cc z => by
    have hNF : notF 1000000 = true := by decide
    by_cases hz : z = 1000000
    · subst hz; rw [if_pos rfl, PS.r_lo _ (by decide)]; rfl
    · rw [if_neg hz]
      cases hb : Nat.ble BIG z with
      | true =>
        rw [PS.r_hi _ hb]
        unfold PS.inn
        have : (1000000 : Nat) ≠ FK + unF z := fun e => by have := notF_fk z; rw [← e, hNF] at this; cases this
        simp only [asL]
        rw [look_cons_ne this]; rfl
      | false =>
        rw [PS.r_lo _ hb]
        simp only [asL]
        rw [look_cons_ne (Ne.symm hz)]; rfl
  have hAm : ∀ f b, b < w.heap.size → Ow (Fs C.w0 C.O0) M f b → Ow (Fs C.w0 C.O0) M f b ∧ b < w.heap.size ∧ w.heap[b]? = w.heap[b]? := fun _ _ h1 h2 => ⟨h2, h1, rfl⟩
  have pre : HasM (Ow (Fs C.w0 C.O0) M) N ⟨[], asL [1000000] [(te, q.nn k)], asL [] []⟩ w := by
    refine ⟨fun b' cs hb' => by simp [PS.b, asL, look] at hb', fun _ _ => rfl, fun z e p hz => ?_, fun z hz => ?_, fun _ _ _ h1 => (by cases h1), fun z z' kk c zz c' zz' h1 h2 => ?_, fun _ _ _ _ _ h1 => by cases h1⟩
    · rw [hPS] at hz
      split at hz
      · rename_i hz1
        cases hz
        subst hz1
        rcases hr.row _ _ _ hinn with ⟨g1, g2⟩ | ⟨g, cap, cur, g1, g2, g3, g4, g5, g6⟩
        · exact .inl ⟨n1.trans g1, g2⟩
        · refine .inr ⟨g, cap, cur, n1.trans g1, g2, g3, g4, g5, fun i' j' d' hi' hd' => ?_⟩
          have hd2 := hd'
          rw [Sq.relem_eq hflat] at hd2
          exact (g6 i' j' d' hi' hd').elem_any hd2 hAm
      · cases hz
    · rw [hPS] at hz
      split at hz
      · cases hz
      · rename_i hz1; exact n2 z hz1
    · have e1 : z = 1000000 := by
        by_cases hz1 : z = 1000000
        · exact hz1
        · rw [n2 z hz1] at h1; cases h1
      have e2 : z' = 1000000 := by
        by_cases hz1 : z' = 1000000
        · exact hz1
        · rw [n2 z' hz1] at h2; cases h2
      rw [e1, e2]
  have hargs : ArgsM (Ow (Fs C.w0 C.O0) M) N w [.row 1000000 0 m, .int i] #[a.eval x, a.eval y] := by
    refine ⟨rfl, fun j d hj => ?_⟩
    rcases j with _ | _ | j
    · simp at hj
      subst hj
      show VR N _ w _ (a.eval x)
      generalize a.eval x = v at hevx
      cases hevx with
      | irow _ _ _ _ g1 g2 => exact .row _ _ _ _ g1 fun y hy => g2 y (by rw [← n1]; exact hy)
    · simp at hj
      subst hj
      show VR N _ w _ (a.eval y)
      rw [hevy.int_inv]; exact .int _
    · simp at hj
  have hrun : (execOp a.eval o).run C.P w = .ok (.enter f #[a.eval x, a.eval y]) w := by
    have := hp.enter #[a.eval x, a.eval y] w
    unfold execOp
    rw [hop]
    show ((do let d ← resolve a.eval _ o.type; invoke d.target d.args : Sem Next)).run C.P w = _
    simp only [resolve]
    show ((callFunc f ((#[] ++ #[x, y].map a.eval) ++ #[])) : Sem Next).run C.P w = _
    rw [show (#[] ++ #[x, y].map a.eval) ++ #[] = #[a.eval x, a.eval y] by simp]
    exact this
  unfold Oper.wp
  rw [hrun]
  refine (hp.run w N _ (Ow (Fs C.w0 C.O0) M) (fun f k ha ho => ha.1 (hNM _ ho)) Rel.mon pre hargs).mono ?_
  rintro e w' ⟨v, rfl, N', p1, p2, p3, p4, p5, p6, p7, p8, p9, p10⟩
  have hg1 : N'.γ 1000000 = M.γ (inn F k) := (p3 1000000 (Nat.le_refl _) (by decide)).trans n1
  have hpost := p1.row 1000000 te c' (by rw [hPS, if_pos rfl])
  have hcase : (M.γ (inn F k) = some none ∧ c'.len = 0 ∧ ∀ x, x < w.heap.size → w'.heap[x]? = w.heap[x]?) ∨ ∃ g cap cur', (M.γ (inn F k) = some (some (g, cap, c'.sz)) ∧ (∀ x, x < w.heap.size → x ≠ g → w'.heap[x]? = w.heap[x]?) ∧ w'.heap[g]? = some (.cells cur' te (0, 0)) ∧ c'.len ≤ cap ∧ cap ≤ maxLen ∧ cur'.size = cap * c'.sz ∧ ∀ i j d, i < c'.len → (c'.relem i)[j]? = some d → VR M (Ow (Fs C.w0 C.O0) M) w' d (cur'.getD (i * c'.sz + j) undef)) := by
    rcases hpost with ⟨g1, g2⟩ | ⟨g, cap, cur', g1, g2, g3, g4, g5, g6⟩
    · rw [hg1] at g1
      refine .inl ⟨g1, g2, fun x hx => p9 x hx fun ho => ?_⟩
      obtain ⟨c, z, h1⟩ := hNo x ho
      rw [g1] at h1; cases h1
    · rw [hg1] at g1
      refine .inr ⟨g, cap, cur', g1, fun x hx hxg => p9 x hx fun ho => ?_, g2, g3, g4, g5, fun i' j' d' hi' hd' => ?_⟩
      · obtain ⟨c, z, h1⟩ := hNo x ho
        rw [g1] at h1; cases h1; exact hxg rfl
      · have hv := g6 i' j' d' hi' hd'
        have hd2 := hd'
        rw [Sq.relem_eq hcf] at hd2
        refine hv.elem_any hd2 fun f b hb hA2 => ⟨?_, hb, rfl⟩
        obtain ⟨ha, hnb⟩ := hA2
        rcases ha with ha | ha | ha
        · exact ha
        · refine ⟨fun ho => ?_, .inl (Nat.le_trans hr.fr.size ha)⟩
          have := hr.lt b ho; omega
        · exfalso
          obtain ⟨c, z, h1⟩ := hNo b ha
          rw [g1] at h1
          cases h1
          exact hnb (.inr ⟨1000000, _, _, hg1.trans g1⟩)
  have hrel : Rel C.w0 C.O0 C.n M ⟨tm, (FK + F, some (te, .fam (famOf q'))) :: rw', bx⟩ a w' := by
    rcases hcase with hc | ⟨g, cap, cur', hc⟩
    · exact (hr.inPlace (g := 0) (cap := 0) (cur' := #[]) (w' := w') hF hf' (by rw [famOf_get hq, if_pos hk]) hin.get p5 p6 p7 p8 (.inl hc)).1
    · exact (hr.inPlace (w' := w') hF hf' (by rw [famOf_get hq, if_pos hk]) hin.get p5 p6 p7 p8 (.inr hc)).1
  refine hkk M _ _ _ h ?_
  rw [hd, dF_fam, p10.int_inv]
  exact (Rel.outer hF hFR hR hin.dR hrel).put (o := some b) hn (.int _)
end
end Go.Proofs.Ytmoamglpocjhgaa
