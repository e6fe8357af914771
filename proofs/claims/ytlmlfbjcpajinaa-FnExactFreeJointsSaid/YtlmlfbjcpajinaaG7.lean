/- Plain texts of functions, and that the program computes them (printed by gen.py). -/
import Derived.Test.YtlmlfbjcpajinaaShb
import Derived.Test.YtlmlfbjcpajinaaG1
import Derived.Test.YtlmlfbjcpajinaaG6
namespace Go.Proofs.Ytlmlfbjcpajinaa
open Go.RowKit
set_option linter.unusedVariables false
set_option linter.unusedSimpArgs false
def I_IsGraph_l1 (N : Nat) (g_0 : Grf) (k : Unit → Option (Bool)) : Nat → Int → Option (Bool)
  | 0, _ => none
  | n + 1, x8 =>
    cnd (decide (x8 < (g_0.bars.length : Int))) (
      grd (0 ≤ x8 ∧ x8 < (g_0.bars.length : Int)) <|
      cnd (decide (((g_0.bars.getD ((x8).toNat) (0, 0)).1) < (0 : Int))) (
        some false) (
        cnd (decide (((g_0.bars.getD ((x8).toNat) (0, 0)).1) ≥ ((g_0.bars.getD ((x8).toNat) (0, 0)).2))) (
          some false) (
          cnd (decide (((g_0.bars.getD ((x8).toNat) (0, 0)).2) ≥ g_0.n)) (
            some false) (
            cnd (decide (x8 > (0 : Int))) (
              grd (Rg64 (x8 - (1 : Int))) <|
              grd (0 ≤ (x8 - (1 : Int)) ∧ (x8 - (1 : Int)) < (g_0.bars.length : Int)) <|
              (I_compareBars N (g_0.bars.getD (((x8 - (1 : Int))).toNat) (0, 0)) (g_0.bars.getD ((x8).toNat) (0, 0))).bind fun v10 =>
              cnd (decide (v10 > (0 : Int))) (
                some false) (
                grd (Rg64 (x8 + (1 : Int))) <|
                I_IsGraph_l1 N g_0 k n (x8 + (1 : Int)))) (
              grd (Rg64 (x8 + (1 : Int))) <|
              I_IsGraph_l1 N g_0 k n (x8 + (1 : Int))))))) (
      k ())
def I_IsGraph (N : Nat) (g_0 : Grf) : Option (Bool) :=
  (I_within N g_0.n (1 : Int) (8 : Int)).bind fun v1 =>
  cnd (!v1) (
    some false) (
    cnd (decide ((g_0.bars.length : Int) > (24 : Int))) (
      some false) (
      I_IsGraph_l1 N g_0 (fun (_ : Unit) =>
            some true) N (0 : Int)))
set_option maxRecDepth 20000 in
set_option maxHeartbeats 1600000 in
theorem I_IsGraph_w (N : Nat) (g_0 : Grf) (r : Bool) (h : I_IsGraph N g_0 = some r) : PCall Try.prog 119 [gD g_0] [] (.bool r) := by
  unfold I_IsGraph at h
  refine pcall_intro (TT := TT) tt Try.func119 rfl rfl Try.ntmps119 (congrArg Array.toList Try.results119) rfl rfl fun w0 => ?_
  refine vSeq ?_
  refine vRegion ?_
  refine oBox rfl rfl rfl rfl rfl rfl rfl rfl rfl ?_
  refine oVal tt rfl rfl rfl rfl rfl trivial ?_
  refine vNil ?_
  change VC _ _ _ _
  iterate 2 refine vSeq ?_
  refine vRegion ?_
  iterate 2 refine oVal tt rfl rfl rfl rfl rfl trivial ?_
  obtain ⟨v1, hc1, h⟩ := bind_inv h
  refine oCall (I_within_w N g_0.n (1 : Int) (8 : Int) v1 hc1) rfl rfl rfl rfl rfl rfl rfl rfl ⟨rfl, rfl, rfl, trivial⟩ ?_
  iterate 2 refine oVal tt rfl rfl rfl rfl rfl trivial ?_
  refine oSplit rfl rfl rfl (fun hb2 => ?_) (fun hb2 => ?_)
  · replace h := cnd_t hb2 h
    iterate 4 refine oNoF rfl rfl rfl rfl hb2 rfl rfl ?_
    refine oPick rfl rfl rfl rfl rfl hb2 rfl ?_
    refine vNil ?_
    change VC _ _ _ _
    refine vCondT rfl rfl ?_
    refine vSeq ?_
    refine vRegion ?_
    refine oVal tt rfl rfl rfl rfl rfl trivial ?_
    refine vNil ?_
    change VC _ _ _ _
    refine vRet ?_
    change ∃ _, _
    cases h
    exact ⟨[], _, rfl, trivial, rfl, (.eq rfl), rfl⟩
  · replace h := cnd_f hb2 h
    iterate 4 refine oValG tt rfl rfl rfl rfl rfl hb2 rfl rfl rfl trivial ?_
    refine oPickF rfl rfl rfl rfl rfl hb2 rfl ?_
    refine vNil ?_
    change VC _ _ _ _
    refine vCond rfl (fun hb3 => ?_) (fun hb3 => ?_)
    · replace h := cnd_t hb3 h
      refine vSeq ?_
      refine vRegion ?_
      refine oVal tt rfl rfl rfl rfl rfl trivial ?_
      refine vNil ?_
      change VC _ _ _ _
      refine vRet ?_
      change ∃ _, _
      cases h
      exact ⟨[], _, rfl, trivial, rfl, (.eq rfl), rfl⟩
    · replace h := cnd_f hb3 h
      refine vSkip ?_
      change VC _ _ _ _
      iterate 2 refine vSeq ?_
      refine vRegion ?_
      iterate 4 refine oVal tt rfl rfl rfl rfl rfl trivial ?_
      refine vNil ?_
      change VC _ _ _ _
      refine vJoin (F := fun k => I_IsGraph_l1 N g_0 k) h (α := Unit) (J := fun (_ : Unit) => (⟨[], [], []⟩ : PS)) ?_ ?_
      · rintro ⟨⟩ h
        show VC _ _ _ (⟨[], [], []⟩ : PS)
        refine vSeq ?_
        refine vRegion ?_
        refine oVal tt rfl rfl rfl rfl rfl trivial ?_
        refine vNil ?_
        change VC _ _ _ _
        refine vRet ?_
        change ∃ _, _
        cases h
        exact ⟨[], _, rfl, trivial, rfl, (.eq rfl), rfl⟩
      · intro k h
        refine vBlock ?_
        refine vLoopS (α := Int) (fun (x8 : Int) => (⟨[(1, .ptr 1 0), (16, .ro false (.pairs g_0.bars)), (17, .int (g_0.bars.length : Int)), (18, .int x8)], [], [(1, some [.int g_0.n, .ro false (.pairs g_0.bars)])]⟩ : PS)) (I_IsGraph_l1 N g_0 k) h (En.of ⟨rfl, rfl, rfl, rfl, trivial⟩ trivial ⟨rfl, trivial⟩) (fun _ => rfl) ?_
        rintro n x8 h
        rw [I_IsGraph_l1] at h
        show VC _ _ _ (⟨[(1, .ptr 1 0), (16, .ro false (.pairs g_0.bars)), (17, .int (g_0.bars.length : Int)), (18, .int x8)], [], [(1, some [.int g_0.n, .ro false (.pairs g_0.bars)])]⟩ : PS)
        refine vSeq ?_
        refine vRegion ?_
        refine oVal tt rfl rfl rfl rfl rfl trivial ?_
        refine vNil ?_
        change VC _ _ _ _
        refine vSeq ?_
        refine vCond rfl (fun hb4 => ?_) (fun hb4 => ?_)
        · replace h := cnd_t hb4 h
          refine vSkip ?_
          change VC _ _ _ _
          refine vSeq ?_
          refine vBlock ?_
          refine vSeq ?_
          refine vRegion ?_
          refine oVal tt rfl rfl rfl rfl rfl trivial ?_
          obtain ⟨hg5, h⟩ := grd_inv h
          refine oVal tt rfl rfl rfl rfl rfl hg5 ?_
          refine oVal tt rfl rfl rfl rfl rfl trivial ?_
          refine oAlloc tt rfl rfl rfl rfl rfl rfl rfl rfl rfl ?_
          refine oVal tt rfl rfl rfl rfl rfl trivial ?_
          refine oStore tt rfl rfl rfl rfl rfl rfl rfl rfl rfl rfl rfl ⟨trivial, trivial, trivial⟩ ?_
          refine vNil ?_
          change VC _ _ _ _
          refine vSeq ?_
          refine vRegionD (by kernel_rfl) (by kernel_rfl) ?_
          iterate 4 refine cVal tt rfl (wNone rfl) rfl rfl rfl trivial ?_
          refine cSplit rfl rfl rfl (fun hb6 => ?_) (fun hb6 => ?_)
          · replace h := cnd_t hb6 h
            iterate 5 refine cNoF rfl rfl rfl rfl hb6 rfl rfl ?_
            refine cPickT rfl (wNone rfl) rfl rfl rfl hb6 rfl ?_
            refine cVal tt rfl (wNone rfl) rfl rfl rfl trivial ?_
            iterate 5 refine cNoF rfl rfl rfl rfl rfl rfl rfl ?_
            refine cPickT rfl (wNone rfl) rfl rfl rfl rfl rfl ?_
            refine cVal tt rfl (wNone rfl) rfl rfl rfl trivial ?_
            iterate 3 refine cNoF rfl rfl rfl rfl rfl rfl rfl ?_
            iterate 9 refine cNoU rfl rfl rfl rfl rfl ?_
            refine cNoF rfl rfl rfl rfl rfl rfl rfl ?_
            refine cPickT rfl (wNone rfl) rfl rfl rfl rfl rfl ?_
            refine cNil ?_
            change VC _ _ _ _
            refine vCondT rfl rfl ?_
            refine vSeq ?_
            refine vRegion ?_
            refine oVal tt rfl rfl rfl rfl rfl trivial ?_
            refine vNil ?_
            change VC _ _ _ _
            refine vRet ?_
            change ∃ _, _
            cases h
            exact ⟨[], _, rfl, trivial, rfl, (.eq rfl), rfl⟩
          · replace h := cnd_f hb6 h
            iterate 5 refine cVal tt rfl (wSome rfl rfl rfl rfl hb6) rfl rfl rfl trivial ?_
            refine cPickF rfl (wNone rfl) rfl rfl rfl hb6 rfl ?_
            refine cVal tt rfl (wNone rfl) rfl rfl rfl trivial ?_
            refine cSplit rfl rfl rfl (fun hb7 => ?_) (fun hb7 => ?_)
            · replace h := cnd_t hb7 h
              iterate 5 refine cNoF rfl rfl rfl rfl hb7 rfl rfl ?_
              refine cPickT rfl (wNone rfl) rfl rfl rfl hb7 rfl ?_
              refine cVal tt rfl (wNone rfl) rfl rfl rfl trivial ?_
              iterate 3 refine cNoF rfl rfl rfl rfl rfl rfl rfl ?_
              iterate 9 refine cNoU rfl rfl rfl rfl rfl ?_
              refine cNoF rfl rfl rfl rfl rfl rfl rfl ?_
              refine cPickT rfl (wNone rfl) rfl rfl rfl rfl rfl ?_
              refine cNil ?_
              change VC _ _ _ _
              refine vCondT rfl rfl ?_
              refine vSeq ?_
              refine vRegion ?_
              refine oVal tt rfl rfl rfl rfl rfl trivial ?_
              refine vNil ?_
              change VC _ _ _ _
              refine vRet ?_
              change ∃ _, _
              cases h
              exact ⟨[], _, rfl, trivial, rfl, (.eq rfl), rfl⟩
            · replace h := cnd_f hb7 h
              iterate 5 refine cVal tt rfl (wSome rfl rfl rfl rfl hb7) rfl rfl rfl trivial ?_
              refine cPickF rfl (wNone rfl) rfl rfl rfl hb7 rfl ?_
              refine cVal tt rfl (wNone rfl) rfl rfl rfl trivial ?_
              refine cSplit rfl rfl rfl (fun hb8 => ?_) (fun hb8 => ?_)
              · replace h := cnd_t hb8 h
                iterate 3 refine cNoF rfl rfl rfl rfl hb8 rfl rfl ?_
                iterate 9 refine cNoU rfl rfl rfl rfl rfl ?_
                refine cNoF rfl rfl rfl rfl hb8 rfl rfl ?_
                refine cPickT rfl (wNone rfl) rfl rfl rfl hb8 rfl ?_
                refine cNil ?_
                change VC _ _ _ _
                refine vCondT rfl rfl ?_
                refine vSeq ?_
                refine vRegion ?_
                refine oVal tt rfl rfl rfl rfl rfl trivial ?_
                refine vNil ?_
                change VC _ _ _ _
                refine vRet ?_
                change ∃ _, _
                cases h
                exact ⟨[], _, rfl, trivial, rfl, (.eq rfl), rfl⟩
              · replace h := cnd_f hb8 h
                iterate 3 refine cVal tt rfl (wSome rfl rfl rfl rfl hb8) rfl rfl rfl trivial ?_
                refine cSplit rfl rfl rfl (fun hb9 => ?_) (fun hb9 => ?_)
                · replace h := cnd_t hb9 h
                  iterate 3 refine cVal tt rfl (wSome rfl rfl rfl rfl hb9) rfl rfl rfl trivial ?_
                  obtain ⟨hg10, h⟩ := grd_inv h
                  refine cVal tt rfl (wSome rfl rfl rfl rfl hb9) rfl rfl rfl hg10 ?_
                  obtain ⟨hg11, h⟩ := grd_inv h
                  refine cVal tt rfl (wSome rfl rfl rfl rfl hb9) rfl rfl rfl hg11 ?_
                  iterate 2 refine cVal tt rfl (wSome rfl rfl rfl rfl hb9) rfl rfl rfl trivial ?_
                  obtain ⟨v10, hc12, h⟩ := bind_inv h
                  refine cCall (I_compareBars_w N (g_0.bars.getD (((x8 - (1 : Int))).toNat) (0, 0)) (g_0.bars.getD ((x8).toNat) (0, 0)) v10 hc12) rfl (wSome rfl rfl rfl rfl hb9) rfl rfl rfl rfl rfl rfl ⟨⟨rfl, rfl, trivial⟩, ⟨rfl, rfl, trivial⟩, trivial⟩ ?_
                  refine cVal tt rfl (wSome rfl rfl rfl rfl hb9) rfl rfl rfl trivial ?_
                  refine cPickT rfl (wSome rfl rfl rfl rfl hb8) rfl rfl rfl hb9 rfl ?_
                  refine cPickF rfl (wNone rfl) rfl rfl rfl hb8 rfl ?_
                  refine cNil ?_
                  change VC _ _ _ _
                  refine vCond rfl (fun hb13 => ?_) (fun hb13 => ?_)
                  · replace h := cnd_t hb13 h
                    refine vSeq ?_
                    refine vRegion ?_
                    refine oVal tt rfl rfl rfl rfl rfl trivial ?_
                    refine vNil ?_
                    change VC _ _ _ _
                    refine vRet ?_
                    change ∃ _, _
                    cases h
                    exact ⟨[], _, rfl, trivial, rfl, (.eq rfl), rfl⟩
                  · replace h := cnd_f hb13 h
                    refine vSkip ?_
                    change VC _ _ _ _
                    refine vRegion ?_
                    obtain ⟨hg14, h⟩ := grd_inv h
                    refine oVal tt rfl rfl rfl rfl rfl hg14 ?_
                    refine oVal tt rfl rfl rfl rfl rfl trivial ?_
                    refine vNil ?_
                    change ∃ _, _
                    exact ⟨(x8 + (1 : Int)), (En.of ⟨rfl, rfl, rfl, rfl, trivial⟩ trivial ⟨rfl, trivial⟩), h⟩
                · replace h := cnd_f hb9 h
                  iterate 9 refine cNoT rfl rfl rfl rfl hb9 rfl rfl ?_
                  refine cPickF rfl (wSome rfl rfl rfl rfl hb8) rfl rfl rfl hb9 rfl ?_
                  refine cPickF rfl (wNone rfl) rfl rfl rfl hb8 rfl ?_
                  refine cNil ?_
                  change VC _ _ _ _
                  refine vCondF rfl rfl ?_
                  refine vSkip ?_
                  change VC _ _ _ _
                  refine vRegion ?_
                  obtain ⟨hg15, h⟩ := grd_inv h
                  refine oVal tt rfl rfl rfl rfl rfl hg15 ?_
                  refine oVal tt rfl rfl rfl rfl rfl trivial ?_
                  refine vNil ?_
                  change ∃ _, _
                  exact ⟨(x8 + (1 : Int)), (En.of ⟨rfl, rfl, rfl, rfl, trivial⟩ trivial ⟨rfl, trivial⟩), h⟩
        · replace h := cnd_f hb4 h
          refine vExit ?_
          change ∃ _, _
          exact ⟨(), (En.of trivial trivial trivial), h⟩
def I_hasDoubles_l1 (N : Nat) (g_0 : Grf) (k : Unit → Option (Bool)) : Nat → Int → Option (Bool)
  | 0, _ => none
  | n + 1, i3 =>
    cnd (decide (i3 < (g_0.bars.length : Int))) (
      grd (Rg64 (i3 - (1 : Int))) <|
      grd (0 ≤ (i3 - (1 : Int)) ∧ (i3 - (1 : Int)) < (g_0.bars.length : Int)) <|
      grd (0 ≤ i3 ∧ i3 < (g_0.bars.length : Int)) <|
      cnd (((g_0.bars.getD (((i3 - (1 : Int))).toNat) (0, 0)).1 == (g_0.bars.getD ((i3).toNat) (0, 0)).1) && ((g_0.bars.getD (((i3 - (1 : Int))).toNat) (0, 0)).2 == (g_0.bars.getD ((i3).toNat) (0, 0)).2)) (
        some true) (
        grd (Rg64 (i3 + (1 : Int))) <|
        I_hasDoubles_l1 N g_0 k n (i3 + (1 : Int)))) (
      k ())
def I_hasDoubles (N : Nat) (g_0 : Grf) : Option (Bool) :=
  I_hasDoubles_l1 N g_0 (fun (_ : Unit) =>
        some false) N (1 : Int)
set_option maxRecDepth 20000 in
set_option maxHeartbeats 1600000 in
theorem I_hasDoubles_w (N : Nat) (g_0 : Grf) (r : Bool) (h : I_hasDoubles N g_0 = some r) : PCall Try.prog 120 [gD g_0] [] (.bool r) := by
  unfold I_hasDoubles at h
  refine pcall_intro (TT := TT) tt Try.func120 rfl rfl Try.ntmps120 (congrArg Array.toList Try.results120) rfl rfl fun w0 => ?_
  refine vSeq ?_
  refine vRegion ?_
  refine oBox rfl rfl rfl rfl rfl rfl rfl rfl rfl ?_
  refine oVal tt rfl rfl rfl rfl rfl trivial ?_
  refine vNil ?_
  change VC _ _ _ _
  iterate 2 refine vSeq ?_
  refine vRegion ?_
  refine oVal tt rfl rfl rfl rfl rfl trivial ?_
  refine vNil ?_
  change VC _ _ _ _
  refine vJoin (F := fun k => I_hasDoubles_l1 N g_0 k) h (α := Unit) (J := fun (_ : Unit) => (⟨[], [], []⟩ : PS)) ?_ ?_
  · rintro ⟨⟩ h
    show VC _ _ _ (⟨[], [], []⟩ : PS)
    refine vSeq ?_
    refine vRegion ?_
    refine oVal tt rfl rfl rfl rfl rfl trivial ?_
    refine vNil ?_
    change VC _ _ _ _
    refine vRet ?_
    change ∃ _, _
    cases h
    exact ⟨[], _, rfl, trivial, rfl, (.eq rfl), rfl⟩
  · intro k h
    refine vBlock ?_
    refine vLoopS (α := Int) (fun (i3 : Int) => (⟨[(1, .ptr 1 0), (3, .int i3)], [], [(1, some [.int g_0.n, .ro false (.pairs g_0.bars)])]⟩ : PS)) (I_hasDoubles_l1 N g_0 k) h (En.of ⟨rfl, rfl, trivial⟩ trivial ⟨rfl, trivial⟩) (fun _ => rfl) ?_
    rintro n i3 h
    rw [I_hasDoubles_l1] at h
    show VC _ _ _ (⟨[(1, .ptr 1 0), (3, .int i3)], [], [(1, some [.int g_0.n, .ro false (.pairs g_0.bars)])]⟩ : PS)
    iterate 2 refine vSeq ?_
    refine vRegion ?_
    iterate 5 refine oVal tt rfl rfl rfl rfl rfl trivial ?_
    refine vNil ?_
    change VC _ _ _ _
    refine vCond rfl (fun hb1 => ?_) (fun hb1 => ?_)
    · replace h := cnd_t hb1 h
      refine vSkip ?_
      change VC _ _ _ _
      refine vSeq ?_
      refine vBlock ?_
      refine vSeq ?_
      refine vRegionD (by kernel_rfl) (by kernel_rfl) ?_
      iterate 3 refine cVal tt rfl (wNone rfl) rfl rfl rfl trivial ?_
      obtain ⟨hg2, h⟩ := grd_inv h
      refine cVal tt rfl (wNone rfl) rfl rfl rfl hg2 ?_
      obtain ⟨hg3, h⟩ := grd_inv h
      refine cVal tt rfl (wNone rfl) rfl rfl rfl hg3 ?_
      iterate 4 refine cVal tt rfl (wNone rfl) rfl rfl rfl trivial ?_
      obtain ⟨hg4, h⟩ := grd_inv h
      refine cVal tt rfl (wNone rfl) rfl rfl rfl hg4 ?_
      refine cVal tt rfl (wNone rfl) rfl rfl rfl trivial ?_
      refine cPure (wNone rfl) (pEqP eqP_impl_Bar rfl rfl rfl) rfl rfl ?_
      refine cNil ?_
      change VC _ _ _ _
      refine vCond rfl (fun hb5 => ?_) (fun hb5 => ?_)
      · replace h := cnd_t hb5 h
        refine vSeq ?_
        refine vRegion ?_
        refine oVal tt rfl rfl rfl rfl rfl trivial ?_
        refine vNil ?_
        change VC _ _ _ _
        refine vRet ?_
        change ∃ _, _
        cases h
        exact ⟨[], _, rfl, trivial, rfl, (.eq rfl), rfl⟩
      · replace h := cnd_f hb5 h
        refine vSkip ?_
        change VC _ _ _ _
        refine vRegion ?_
        refine oVal tt rfl rfl rfl rfl rfl trivial ?_
        obtain ⟨hg6, h⟩ := grd_inv h
        refine oVal tt rfl rfl rfl rfl rfl hg6 ?_
        refine oVal tt rfl rfl rfl rfl rfl trivial ?_
        refine vNil ?_
        change ∃ _, _
        exact ⟨(i3 + (1 : Int)), (En.of ⟨rfl, rfl, trivial⟩ trivial ⟨rfl, trivial⟩), h⟩
    · replace h := cnd_f hb1 h
      refine vExit ?_
      change ∃ _, _
      exact ⟨(), (En.of trivial trivial trivial), h⟩
def I_areAnchors_l1 (N : Nat) (g_0 : Grf) (anchors_1 : List Int) (k : Unit → Option (Bool)) : Nat → Int → Option (Bool)
  | 0, _ => none
  | n + 1, x9 =>
    cnd (decide (x9 < (anchors_1.length : Int))) (
      grd (0 ≤ x9 ∧ x9 < (anchors_1.length : Int)) <|
      (M_Graph_has N g_0 (anchors_1.getD ((x9).toNat) 0)).bind fun v11 =>
      cnd (!v11) (
        some false) (
        cnd (decide (x9 > (0 : Int))) (
          grd (Rg64 (x9 - (1 : Int))) <|
          grd (0 ≤ (x9 - (1 : Int)) ∧ (x9 - (1 : Int)) < (anchors_1.length : Int)) <|
          cnd (decide ((anchors_1.getD (((x9 - (1 : Int))).toNat) 0) ≥ (anchors_1.getD ((x9).toNat) 0))) (
            some false) (
            grd (Rg64 (x9 + (1 : Int))) <|
            I_areAnchors_l1 N g_0 anchors_1 k n (x9 + (1 : Int)))) (
          grd (Rg64 (x9 + (1 : Int))) <|
          I_areAnchors_l1 N g_0 anchors_1 k n (x9 + (1 : Int))))) (
      k ())
def I_areAnchors (N : Nat) (g_0 : Grf) (anchors_1 : List Int) : Option (Bool) :=
  I_areAnchors_l1 N g_0 anchors_1 (fun (_ : Unit) =>
        (I_IsGraph N g_0).bind fun v5 =>
        cnd v5 (
          (I_hasDoubles N g_0).bind fun v6 =>
          some (!v6)) (
          some false)) N (0 : Int)
set_option maxRecDepth 20000 in
set_option maxHeartbeats 1600000 in
theorem I_areAnchors_w (N : Nat) (g_0 : Grf) (anchors_1 : List Int) (r : Bool) (h : I_areAnchors N g_0 anchors_1 = some r) : PCall Try.prog 79 [gD g_0, .ro false (.ints anchors_1)] [] (.bool r) := by
  unfold I_areAnchors at h
  refine pcall_intro (TT := TT) tt Try.func79 rfl rfl Try.ntmps79 (congrArg Array.toList Try.results79) rfl rfl fun w0 => ?_
  refine vSeq ?_
  refine vRegion ?_
  refine oBox rfl rfl rfl rfl rfl rfl rfl rfl rfl ?_
  refine oVal tt rfl rfl rfl rfl rfl trivial ?_
  refine vNil ?_
  change VC _ _ _ _
  iterate 2 refine vSeq ?_
  refine vRegion ?_
  iterate 3 refine oVal tt rfl rfl rfl rfl rfl trivial ?_
  refine vNil ?_
  change VC _ _ _ _
  refine vJoin (F := fun k => I_areAnchors_l1 N g_0 anchors_1 k) h (α := Unit) (J := fun (_ : Unit) => (⟨[(2, .ptr 2 0)], [], [(2, some [.int g_0.n, .ro false (.pairs g_0.bars)])]⟩ : PS)) ?_ ?_
  · rintro ⟨⟩ h
    show VC _ _ _ (⟨[(2, .ptr 2 0)], [], [(2, some [.int g_0.n, .ro false (.pairs g_0.bars)])]⟩ : PS)
    refine vSeq ?_
    refine vRegion ?_
    refine oVal tt rfl rfl rfl rfl rfl trivial ?_
    obtain ⟨v5, hc1, h⟩ := bind_inv h
    refine oCall (I_IsGraph_w N g_0 v5 hc1) rfl rfl rfl rfl rfl rfl rfl rfl ⟨⟨rfl, rfl, trivial⟩, trivial⟩ ?_
    refine oVal tt rfl rfl rfl rfl rfl trivial ?_
    refine oSplit rfl rfl rfl (fun hb2 => ?_) (fun hb2 => ?_)
    · replace h := cnd_t hb2 h
      refine oValG tt rfl rfl rfl rfl rfl hb2 rfl rfl rfl trivial ?_
      obtain ⟨v6, hc3, h⟩ := bind_inv h
      refine oCallG (I_hasDoubles_w N g_0 v6 hc3) rfl rfl rfl rfl hb2 rfl rfl rfl rfl rfl rfl rfl ⟨⟨rfl, rfl, trivial⟩, trivial⟩ ?_
      refine oValG tt rfl rfl rfl rfl rfl hb2 rfl rfl rfl trivial ?_
      refine oPick rfl rfl rfl rfl rfl hb2 rfl ?_
      refine oVal tt rfl rfl rfl rfl rfl trivial ?_
      refine vNil ?_
      change VC _ _ _ _
      refine vRet ?_
      change ∃ _, _
      cases h
      exact ⟨[], _, rfl, trivial, rfl, (.eq rfl), rfl⟩
    · replace h := cnd_f hb2 h
      iterate 3 refine oNoT rfl rfl rfl rfl hb2 rfl rfl ?_
      refine oPickF rfl rfl rfl rfl rfl hb2 rfl ?_
      refine oVal tt rfl rfl rfl rfl rfl trivial ?_
      refine vNil ?_
      change VC _ _ _ _
      refine vRet ?_
      change ∃ _, _
      cases h
      exact ⟨[], _, rfl, trivial, rfl, (.eq rfl), rfl⟩
  · intro k h
    refine vBlock ?_
    refine vLoopS (α := Int) (fun (x9 : Int) => (⟨[(1, .ro false (.ints anchors_1)), (2, .ptr 2 0), (7, .ro false (.ints anchors_1)), (8, .int (anchors_1.length : Int)), (9, .int x9)], [], [(2, some [.int g_0.n, .ro false (.pairs g_0.bars)])]⟩ : PS)) (I_areAnchors_l1 N g_0 anchors_1 k) h (En.of ⟨rfl, rfl, rfl, rfl, rfl, trivial⟩ trivial ⟨rfl, trivial⟩) (fun _ => rfl) ?_
    rintro n x9 h
    rw [I_areAnchors_l1] at h
    show VC _ _ _ (⟨[(1, .ro false (.ints anchors_1)), (2, .ptr 2 0), (7, .ro false (.ints anchors_1)), (8, .int (anchors_1.length : Int)), (9, .int x9)], [], [(2, some [.int g_0.n, .ro false (.pairs g_0.bars)])]⟩ : PS)
    refine vSeq ?_
    refine vRegion ?_
    refine oVal tt rfl rfl rfl rfl rfl trivial ?_
    refine vNil ?_
    change VC _ _ _ _
    refine vSeq ?_
    refine vCond rfl (fun hb4 => ?_) (fun hb4 => ?_)
    · replace h := cnd_t hb4 h
      refine vSkip ?_
      change VC _ _ _ _
      refine vSeq ?_
      refine vBlock ?_
      refine vSeq ?_
      refine vRegion ?_
      refine oVal tt rfl rfl rfl rfl rfl trivial ?_
      obtain ⟨hg5, h⟩ := grd_inv h
      refine oVal tt rfl rfl rfl rfl rfl hg5 ?_
      iterate 3 refine oVal tt rfl rfl rfl rfl rfl trivial ?_
      refine vNil ?_
      change VC _ _ _ _
      refine vSeq ?_
      refine vRegion ?_
      iterate 2 refine oVal tt rfl rfl rfl rfl rfl trivial ?_
      obtain ⟨v11, hc6, h⟩ := bind_inv h
      refine oCall (M_Graph_has_w N g_0 (anchors_1.getD ((x9).toNat) 0) v11 hc6) rfl rfl rfl rfl rfl rfl rfl rfl ⟨⟨rfl, rfl, trivial⟩, rfl, trivial⟩ ?_
      iterate 2 refine oVal tt rfl rfl rfl rfl rfl trivial ?_
      refine oSplit rfl rfl rfl (fun hb7 => ?_) (fun hb7 => ?_)
      · replace h := cnd_t hb7 h
        iterate 3 refine oNoF rfl rfl rfl rfl hb7 rfl rfl ?_
        iterate 7 refine oNoU rfl rfl rfl rfl rfl ?_
        refine oNoF rfl rfl rfl rfl hb7 rfl rfl ?_
        refine oPick rfl rfl rfl rfl rfl hb7 rfl ?_
        refine vNil ?_
        change VC _ _ _ _
        refine vCondT rfl rfl ?_
        refine vSeq ?_
        refine vRegion ?_
        refine oVal tt rfl rfl rfl rfl rfl trivial ?_
        refine vNil ?_
        change VC _ _ _ _
        refine vRet ?_
        change ∃ _, _
        cases h
        exact ⟨[], _, rfl, trivial, rfl, (.eq rfl), rfl⟩
      · replace h := cnd_f hb7 h
        iterate 3 refine oValG tt rfl rfl rfl rfl rfl hb7 rfl rfl rfl trivial ?_
        refine oSplit rfl rfl rfl (fun hb8 => ?_) (fun hb8 => ?_)
        · replace h := cnd_t hb8 h
          iterate 2 refine oValG tt rfl rfl rfl rfl rfl hb8 rfl rfl rfl trivial ?_
          obtain ⟨hg9, h⟩ := grd_inv h
          refine oValG tt rfl rfl rfl rfl rfl hb8 rfl rfl rfl hg9 ?_
          obtain ⟨hg10, h⟩ := grd_inv h
          refine oValG tt rfl rfl rfl rfl rfl hb8 rfl rfl rfl hg10 ?_
          iterate 3 refine oValG tt rfl rfl rfl rfl rfl hb8 rfl rfl rfl trivial ?_
          refine oPickGT rfl rfl rfl rfl hb7 rfl rfl rfl rfl hb8 rfl ?_
          refine oPickF rfl rfl rfl rfl rfl hb7 rfl ?_
          refine vNil ?_
          change VC _ _ _ _
          refine vCond rfl (fun hb11 => ?_) (fun hb11 => ?_)
          · replace h := cnd_t hb11 h
            refine vSeq ?_
            refine vRegion ?_
            refine oVal tt rfl rfl rfl rfl rfl trivial ?_
            refine vNil ?_
            change VC _ _ _ _
            refine vRet ?_
            change ∃ _, _
            cases h
            exact ⟨[], _, rfl, trivial, rfl, (.eq rfl), rfl⟩
          · replace h := cnd_f hb11 h
            refine vSkip ?_
            change VC _ _ _ _
            refine vRegion ?_
            obtain ⟨hg12, h⟩ := grd_inv h
            refine oVal tt rfl rfl rfl rfl rfl hg12 ?_
            refine oVal tt rfl rfl rfl rfl rfl trivial ?_
            refine vNil ?_
            change ∃ _, _
            exact ⟨(x9 + (1 : Int)), (En.of ⟨rfl, rfl, rfl, rfl, rfl, trivial⟩ trivial ⟨rfl, trivial⟩), h⟩
        · replace h := cnd_f hb8 h
          iterate 7 refine oNoT rfl rfl rfl rfl hb8 rfl rfl ?_
          refine oPickGF rfl rfl rfl rfl hb7 rfl rfl rfl rfl hb8 rfl ?_
          refine oPickF rfl rfl rfl rfl rfl hb7 rfl ?_
          refine vNil ?_
          change VC _ _ _ _
          refine vCondF rfl rfl ?_
          refine vSkip ?_
          change VC _ _ _ _
          refine vRegion ?_
          obtain ⟨hg13, h⟩ := grd_inv h
          refine oVal tt rfl rfl rfl rfl rfl hg13 ?_
          refine oVal tt rfl rfl rfl rfl rfl trivial ?_
          refine vNil ?_
          change ∃ _, _
          exact ⟨(x9 + (1 : Int)), (En.of ⟨rfl, rfl, rfl, rfl, rfl, trivial⟩ trivial ⟨rfl, trivial⟩), h⟩
    · replace h := cnd_f hb4 h
      refine vExit ?_
      change ∃ _, _
      exact ⟨(), (En.of ⟨rfl, trivial⟩ trivial ⟨rfl, trivial⟩), h⟩
def M_Bar_has (N : Nat) (x_0 : Int × Int) (v_1 : Int) : Option (Bool) :=
  cnd (x_0.1 == v_1) (
    some true) (
    some (x_0.2 == v_1))
set_option maxRecDepth 20000 in
set_option maxHeartbeats 1600000 in
theorem M_Bar_has_w (N : Nat) (x_0 : Int × Int) (v_1 : Int) (r : Bool) (h : M_Bar_has N x_0 v_1 = some r) : PCall Try.prog 83 [.agg [.int x_0.1, .int x_0.2], .int v_1] [] (.bool r) := by
  unfold M_Bar_has at h
  refine pcall_intro (TT := TT) tt Try.func83 rfl rfl Try.ntmps83 (congrArg Array.toList Try.results83) rfl rfl fun w0 => ?_
  refine vSeq ?_
  refine vRegion ?_
  refine oBox rfl rfl rfl rfl rfl rfl rfl rfl rfl ?_
  refine oVal tt rfl rfl rfl rfl rfl trivial ?_
  refine vNil ?_
  change VC _ _ _ _
  refine vSeq ?_
  refine vRegion ?_
  iterate 5 refine oVal tt rfl rfl rfl rfl rfl trivial ?_
  refine oSplit rfl rfl rfl (fun hb1 => ?_) (fun hb1 => ?_)
  · replace h := cnd_t hb1 h
    iterate 4 refine oNoF rfl rfl rfl rfl hb1 rfl rfl ?_
    refine oPick rfl rfl rfl rfl rfl hb1 rfl ?_
    refine oVal tt rfl rfl rfl rfl rfl trivial ?_
    refine vNil ?_
    change VC _ _ _ _
    refine vRet ?_
    change ∃ _, _
    cases h
    exact ⟨[], _, rfl, trivial, rfl, (.eq rfl), rfl⟩
  · replace h := cnd_f hb1 h
    iterate 4 refine oValG tt rfl rfl rfl rfl rfl hb1 rfl rfl rfl trivial ?_
    refine oPickF rfl rfl rfl rfl rfl hb1 rfl ?_
    refine oVal tt rfl rfl rfl rfl rfl trivial ?_
    refine vNil ?_
    change VC _ _ _ _
    refine vRet ?_
    change ∃ _, _
    cases h
    exact ⟨[], _, rfl, trivial, rfl, (.eq rfl), rfl⟩
def M_Bar_other (N : Nat) (x_0 : Int × Int) (v_1 : Int) : Option (Int) :=
  cnd (x_0.1 == v_1) (
    some x_0.2) (
    some x_0.1)
set_option maxRecDepth 20000 in
set_option maxHeartbeats 1600000 in
theorem M_Bar_other_w (N : Nat) (x_0 : Int × Int) (v_1 : Int) (r : Int) (h : M_Bar_other N x_0 v_1 = some r) : PCall Try.prog 84 [.agg [.int x_0.1, .int x_0.2], .int v_1] [] (.int r) := by
  unfold M_Bar_other at h
  refine pcall_intro (TT := TT) tt Try.func84 rfl rfl Try.ntmps84 (congrArg Array.toList Try.results84) rfl rfl fun w0 => ?_
  refine vSeq ?_
  refine vRegion ?_
  refine oBox rfl rfl rfl rfl rfl rfl rfl rfl rfl ?_
  refine oVal tt rfl rfl rfl rfl rfl trivial ?_
  refine vNil ?_
  change VC _ _ _ _
  iterate 2 refine vSeq ?_
  refine vRegion ?_
  iterate 4 refine oVal tt rfl rfl rfl rfl rfl trivial ?_
  refine vNil ?_
  change VC _ _ _ _
  refine vCond rfl (fun hb1 => ?_) (fun hb1 => ?_)
  · replace h := cnd_t hb1 h
    refine vSeq ?_
    refine vRegion ?_
    iterate 3 refine oVal tt rfl rfl rfl rfl rfl trivial ?_
    refine vNil ?_
    change VC _ _ _ _
    refine vRet ?_
    change ∃ _, _
    cases h
    exact ⟨[], _, rfl, trivial, rfl, (.eq rfl), rfl⟩
  · replace h := cnd_f hb1 h
    refine vSkip ?_
    change VC _ _ _ _
    refine vSeq ?_
    refine vRegion ?_
    iterate 3 refine oVal tt rfl rfl rfl rfl rfl trivial ?_
    refine vNil ?_
    change VC _ _ _ _
    refine vRet ?_
    change ∃ _, _
    cases h
    exact ⟨[], _, rfl, trivial, rfl, (.eq rfl), rfl⟩
def I_TrilaterationOrder_l2 (N : Nat) (g_0 : Grf) (l121 : List Bool) (v122 : Int) (k : Int → Option (List Int)) : Nat → (Int × Int) → Option (List Int)
  | 0, _ => none
  | n + 1, (n153, x154) =>
    cnd (decide (x154 < (g_0.bars.length : Int))) (
      grd (0 ≤ x154 ∧ x154 < (g_0.bars.length : Int)) <|
      (M_Bar_has N (g_0.bars.getD ((x154).toNat) (0, 0)) v122).bind fun v157 =>
      cnd v157 (
        (M_Bar_other N (g_0.bars.getD ((x154).toNat) (0, 0)) v122).bind fun v158 =>
        grd (0 ≤ v158 ∧ v158 < ((List.replicate ((g_0.n).toNat) (false : Bool)).length : Int)) <|
        grd (0 ≤ v158 ∧ v158 < (l121.length : Int)) <|
        cnd (l121.getD ((v158).toNat) false) (
          grd (Rg64 (n153 + (1 : Int))) <|
          grd (Rg64 (x154 + (1 : Int))) <|
          I_TrilaterationOrder_l2 N g_0 l121 v122 k n ((n153 + (1 : Int)), (x154 + (1 : Int)))) (
          grd (Rg64 (x154 + (1 : Int))) <|
          I_TrilaterationOrder_l2 N g_0 l121 v122 k n (n153, (x154 + (1 : Int))))) (
        grd (Rg64 (x154 + (1 : Int))) <|
        I_TrilaterationOrder_l2 N g_0 l121 v122 k n (n153, (x154 + (1 : Int))))) (
      k n153)
def I_TrilaterationOrder_l1 (N : Nat) (g_0 : Grf) (k : (List Int) → Option (List Int)) : Nat → ((List Int) × (List Bool) × Int) → Option (List Int)
  | 0, _ => none
  | n + 1, (l120, l121, v122) =>
    cnd (decide (v122 < g_0.n)) (
      I_TrilaterationOrder_l2 N g_0 l121 v122 (fun (n149 : Int) =>
            grd (0 ≤ v122 ∧ v122 < ((List.replicate ((g_0.n).toNat) (false : Bool)).length : Int)) <|
            grd (0 ≤ v122 ∧ v122 < (l121.length : Int)) <|
            cnd (!(l121.getD ((v122).toNat) false)) (
              cnd (decide (n149 ≥ (3 : Int))) (
                grd (l120.length + 1 ≤ 4294967296) <|
                grd (Rg64 ((-1 : Int) + (1 : Int))) <|
                I_TrilaterationOrder_l1 N g_0 k n ((l120 ++ ([v122] : List Int)), (l121.set ((v122).toNat) true), ((-1 : Int) + (1 : Int)))) (
                grd (Rg64 (v122 + (1 : Int))) <|
                I_TrilaterationOrder_l1 N g_0 k n (l120, l121, (v122 + (1 : Int))))) (
              grd (Rg64 (v122 + (1 : Int))) <|
              I_TrilaterationOrder_l1 N g_0 k n (l120, l121, (v122 + (1 : Int))))) N ((0 : Int), (0 : Int))) (
      k l120)
def I_TrilaterationOrder_l3 (N : Nat) (g_0 : Grf) (anchors_1 : List Int) (k : (List Bool) → Option (List Int)) : Nat → ((List Bool) × Int) → Option (List Int)
  | 0, _ => none
  | n + 1, (l160, x161) =>
    cnd (decide (x161 < (anchors_1.length : Int))) (
      grd (0 ≤ x161 ∧ x161 < (anchors_1.length : Int)) <|
      grd (0 ≤ (anchors_1.getD ((x161).toNat) 0) ∧ (anchors_1.getD ((x161).toNat) 0) < ((List.replicate ((g_0.n).toNat) (false : Bool)).length : Int)) <|
      grd (0 ≤ (anchors_1.getD ((x161).toNat) 0) ∧ (anchors_1.getD ((x161).toNat) 0) < (l160.length : Int)) <|
      grd (Rg64 (x161 + (1 : Int))) <|
      I_TrilaterationOrder_l3 N g_0 anchors_1 k n ((l160.set (((anchors_1.getD ((x161).toNat) 0)).toNat) true), (x161 + (1 : Int)))) (
      k l160)
def I_TrilaterationOrder (N : Nat) (g_0 : Grf) (anchors_1 : List Int) : Option (List Int) :=
  (I_areAnchors N g_0 anchors_1).bind fun v1 =>
  cnd (!v1) (
    some ([] : List Int)) (
    grd (0 ≤ g_0.n ∧ g_0.n ≤ 4294967296) <|
    I_TrilaterationOrder_l3 N g_0 anchors_1 (fun (l4 : List Bool) =>
          I_TrilaterationOrder_l1 N g_0 (fun (l81 : List Int) =>
                some l81) N (([] : List Int), l4, (0 : Int))) N ((List.replicate ((g_0.n).toNat) (false : Bool)), (0 : Int)))
set_option maxRecDepth 20000 in
set_option maxHeartbeats 1600000 in
theorem I_TrilaterationOrder_w (N : Nat) (g_0 : Grf) (anchors_1 : List Int) (r : List Int) (h : I_TrilaterationOrder N g_0 anchors_1 = some r) : PCall Try.prog 34 [gD g_0, .ro false (.ints anchors_1)] [(3, .ints r)] (.row 0 0 r.length) := by
  unfold I_TrilaterationOrder at h
  refine pcall_intro (TT := TT) tt Try.func34 rfl rfl Try.ntmps34 (congrArg Array.toList Try.results34) rfl rfl fun w0 => ?_
  refine vSeq ?_
  refine vRegion ?_
  refine oBox rfl rfl rfl rfl rfl rfl rfl rfl rfl ?_
  refine oVal tt rfl rfl rfl rfl rfl trivial ?_
  refine vNil ?_
  change VC _ _ _ _
  refine vSeq ?_
  refine vRegion ?_
  refine oEmpty tt (wNone rfl) rfl rfl rfl rfl ?_
  refine oVal tt rfl rfl rfl rfl rfl trivial ?_
  refine vNil ?_
  change VC _ _ _ _
  iterate 2 refine vSeq ?_
  refine vRegion ?_
  iterate 2 refine oVal tt rfl rfl rfl rfl rfl trivial ?_
  obtain ⟨v1, hc1, h⟩ := bind_inv h
  refine oCall (I_areAnchors_w N g_0 anchors_1 v1 hc1) rfl rfl rfl rfl rfl rfl rfl rfl ⟨⟨rfl, rfl, trivial⟩, rfl, trivial⟩ ?_
  refine oVal tt rfl rfl rfl rfl rfl trivial ?_
  refine vNil ?_
  change VC _ _ _ _
  refine vCond rfl (fun hb2 => ?_) (fun hb2 => ?_)
  · replace h := cnd_t hb2 h
    refine vSeq ?_
    refine vRegion ?_
    iterate 2 refine oVal tt rfl rfl rfl rfl rfl trivial ?_
    refine vNil ?_
    change VC _ _ _ _
    refine vNilT 4 9001 3 (.ints []) rfl rfl rfl rfl ?_
    refine vRet ?_
    change ∃ _, _
    cases h
    exact ⟨[9001], _, rfl, ⟨rfl, trivial⟩, rfl, (.eq rfl), rfl⟩
  · replace h := cnd_f hb2 h
    refine vSkip ?_
    change VC _ _ _ _
    refine vSeq ?_
    refine vRegion ?_
    iterate 2 refine oVal tt rfl rfl rfl rfl rfl trivial ?_
    obtain ⟨hg3, h⟩ := grd_inv h
    refine oMake tt rfl rfl rfl rfl rfl rfl rfl rfl rfl rfl rfl hg3 ?_
    refine oVal tt rfl rfl rfl rfl rfl trivial ?_
    refine vNil ?_
    change VC _ _ _ _
    iterate 2 refine vSeq ?_
    refine vRegion ?_
    iterate 3 refine oVal tt rfl rfl rfl rfl rfl trivial ?_
    refine vNil ?_
    change VC _ _ _ _
    refine vJoin (F := fun k => I_TrilaterationOrder_l3 N g_0 anchors_1 k) h (α := List Bool) (J := fun (l4 : List Bool) => (⟨[(2, .ptr 2 0), (5, .nil), (6, .row 21 0 ((List.replicate ((g_0.n).toNat) (false : Bool)).length))], [(21, some (4, .bools l4))], [(2, some [.int g_0.n, .ro false (.pairs g_0.bars)])]⟩ : PS)) ?_ ?_
    · rintro l4 h
      show VC _ _ _ (⟨[(2, .ptr 2 0), (5, .nil), (6, .row 21 0 ((List.replicate ((g_0.n).toNat) (false : Bool)).length))], [(21, some (4, .bools l4))], [(2, some [.int g_0.n, .ro false (.pairs g_0.bars)])]⟩ : PS)
      iterate 2 refine vSeq ?_
      refine vRegion ?_
      refine oVal tt rfl rfl rfl rfl rfl trivial ?_
      refine vNil ?_
      change VC _ _ _ _
      refine vJoin (F := fun k => I_TrilaterationOrder_l1 N g_0 k) h (α := List Int) (J := fun (l81 : List Int) => (⟨[(5, .row 74 0 l81.length)], [(74, some (3, .ints l81))], []⟩ : PS)) ?_ ?_
      · rintro l81 h
        show VC _ _ _ (⟨[(5, .row 74 0 l81.length)], [(74, some (3, .ints l81))], []⟩ : PS)
        refine vSeq ?_
        refine vRegion ?_
        iterate 2 refine oVal tt rfl rfl rfl rfl rfl trivial ?_
        refine vNil ?_
        change VC _ _ _ _
        refine vRet ?_
        change ∃ _, _
        cases h
        exact ⟨[74], _, rfl, ⟨rfl, trivial⟩, rfl, (.eq rfl), rfl⟩
      · intro k h
        refine vBlock ?_
        refine vNilT 5 74 3 (.ints []) rfl rfl rfl rfl ?_
        refine vLoopS (α := (List Int) × (List Bool) × Int) (fun | (l120, l121, v122) => (⟨[(2, .ptr 2 0), (5, .row 74 0 l120.length), (6, .row 21 0 ((List.replicate ((g_0.n).toNat) (false : Bool)).length)), (9, .int v122)], [(74, some (3, .ints l120)), (21, some (4, .bools l121))], [(2, some [.int g_0.n, .ro false (.pairs g_0.bars)])]⟩ : PS)) (I_TrilaterationOrder_l1 N g_0 k) h (En.of ⟨rfl, rfl, rfl, rfl, trivial⟩ ⟨rfl, rfl, trivial⟩ ⟨rfl, trivial⟩) (fun _ => rfl) ?_
        rintro n ⟨l120, l121, v122⟩ h
        rw [I_TrilaterationOrder_l1] at h
        show VC _ _ _ (⟨[(2, .ptr 2 0), (5, .row 74 0 l120.length), (6, .row 21 0 ((List.replicate ((g_0.n).toNat) (false : Bool)).length)), (9, .int v122)], [(74, some (3, .ints l120)), (21, some (4, .bools l121))], [(2, some [.int g_0.n, .ro false (.pairs g_0.bars)])]⟩ : PS)
        iterate 2 refine vSeq ?_
        refine vRegion ?_
        iterate 4 refine oVal tt rfl rfl rfl rfl rfl trivial ?_
        refine vNil ?_
        change VC _ _ _ _
        refine vCond rfl (fun hb4 => ?_) (fun hb4 => ?_)
        · replace h := cnd_t hb4 h
          refine vSkip ?_
          change VC _ _ _ _
          refine vSeq ?_
          refine vBlock ?_
          refine vSeq ?_
          refine vRegion ?_
          refine oVal tt rfl rfl rfl rfl rfl trivial ?_
          refine vNil ?_
          change VC _ _ _ _
          iterate 2 refine vSeq ?_
          refine vRegion ?_
          iterate 4 refine oVal tt rfl rfl rfl rfl rfl trivial ?_
          refine vNil ?_
          change VC _ _ _ _
          refine vJoin (F := fun k => I_TrilaterationOrder_l2 N g_0 l121 v122 k) h (α := Int) (J := fun (n149 : Int) => (⟨[(2, .ptr 2 0), (5, .row 74 0 l120.length), (6, .row 21 0 ((List.replicate ((g_0.n).toNat) (false : Bool)).length)), (9, .int v122), (10, .int n149)], [(74, some (3, .ints l120)), (21, some (4, .bools l121))], [(2, some [.int g_0.n, .ro false (.pairs g_0.bars)])]⟩ : PS)) ?_ ?_
          · rintro n149 h
            show VC _ _ _ (⟨[(2, .ptr 2 0), (5, .row 74 0 l120.length), (6, .row 21 0 ((List.replicate ((g_0.n).toNat) (false : Bool)).length)), (9, .int v122), (10, .int n149)], [(74, some (3, .ints l120)), (21, some (4, .bools l121))], [(2, some [.int g_0.n, .ro false (.pairs g_0.bars)])]⟩ : PS)
            refine vSeq ?_
            refine vRegion ?_
            iterate 2 refine oVal tt rfl rfl rfl rfl rfl trivial ?_
            obtain ⟨hg5, h⟩ := grd_inv h
            refine oVal tt rfl rfl rfl rfl rfl hg5 ?_
            obtain ⟨hg6, h⟩ := grd_inv h
            refine oVal tt rfl rfl rfl rfl rfl hg6 ?_
            iterate 2 refine oVal tt rfl rfl rfl rfl rfl trivial ?_
            refine oSplit rfl rfl rfl (fun hb7 => ?_) (fun hb7 => ?_)
            · replace h := cnd_t hb7 h
              iterate 2 refine oValG tt rfl rfl rfl rfl rfl hb7 rfl rfl rfl trivial ?_
              refine oPick rfl rfl rfl rfl rfl hb7 rfl ?_
              refine vNil ?_
              change VC _ _ _ _
              refine vCond rfl (fun hb8 => ?_) (fun hb8 => ?_)
              · replace h := cnd_t hb8 h
                refine vSeq ?_
                refine vRegion ?_
                iterate 2 refine oVal tt rfl rfl rfl rfl rfl trivial ?_
                refine oVal tt rfl rfl rfl rfl rfl hg5 ?_
                refine oStore tt rfl rfl rfl rfl rfl rfl rfl rfl rfl rfl ⟨_, _, rfl, hg6.1, hg6.2⟩ ⟨hg6, trivial⟩ ?_
                refine vNil ?_
                change VC _ _ _ _
                refine vSeq ?_
                refine vRegion ?_
                iterate 2 refine oVal tt rfl rfl rfl rfl rfl trivial ?_
                refine oBuild tt rfl rfl rfl rfl rfl rfl rfl rfl rfl rfl rfl ?_
                obtain ⟨hg9, h⟩ := grd_inv h
                refine oAppend tt rfl rfl rfl rfl rfl rfl rfl rfl rfl rfl rfl rfl rfl rfl rfl rfl (Nat.le_of_eq (Nat.zero_add _)) hg9 ?_
                refine oVal tt rfl rfl rfl rfl rfl trivial ?_
                refine vNil ?_
                change VC _ _ _ _
                refine vRegion ?_
                refine oVal tt rfl rfl rfl rfl rfl trivial ?_
                refine vNil ?_
                change VC _ _ _ _
                refine vRegion ?_
                refine oVal tt rfl rfl rfl rfl rfl trivial ?_
                obtain ⟨hg10, h⟩ := grd_inv h
                refine oVal tt rfl rfl rfl rfl rfl hg10 ?_
                refine oVal tt rfl rfl rfl rfl rfl trivial ?_
                refine vNil ?_
                change ∃ _, _
                exact ⟨((l120 ++ ([v122] : List Int)), (l121.set ((v122).toNat) true), ((-1 : Int) + (1 : Int))), (En.of ⟨rfl, rfl, rfl, rfl, trivial⟩ ⟨rfl, rfl, trivial⟩ ⟨rfl, trivial⟩), h⟩
              · replace h := cnd_f hb8 h
                refine vSkip ?_
                change VC _ _ _ _
                refine vRegion ?_
                refine oVal tt rfl rfl rfl rfl rfl trivial ?_
                obtain ⟨hg11, h⟩ := grd_inv h
                refine oVal tt rfl rfl rfl rfl rfl hg11 ?_
                refine oVal tt rfl rfl rfl rfl rfl trivial ?_
                refine vNil ?_
                change ∃ _, _
                exact ⟨(l120, l121, (v122 + (1 : Int))), (En.of ⟨rfl, rfl, rfl, rfl, trivial⟩ ⟨rfl, rfl, trivial⟩ ⟨rfl, trivial⟩), h⟩
            · replace h := cnd_f hb7 h
              iterate 2 refine oNoT rfl rfl rfl rfl hb7 rfl rfl ?_
              refine oPickF rfl rfl rfl rfl rfl hb7 rfl ?_
              refine vNil ?_
              change VC _ _ _ _
              refine vCondF rfl rfl ?_
              refine vSkip ?_
              change VC _ _ _ _
              refine vRegion ?_
              refine oVal tt rfl rfl rfl rfl rfl trivial ?_
              obtain ⟨hg12, h⟩ := grd_inv h
              refine oVal tt rfl rfl rfl rfl rfl hg12 ?_
              refine oVal tt rfl rfl rfl rfl rfl trivial ?_
              refine vNil ?_
              change ∃ _, _
              exact ⟨(l120, l121, (v122 + (1 : Int))), (En.of ⟨rfl, rfl, rfl, rfl, trivial⟩ ⟨rfl, rfl, trivial⟩ ⟨rfl, trivial⟩), h⟩
          · intro k h
            refine vBlock ?_
            refine vLoopS (α := Int × Int) (fun | (n153, x154) => (⟨[(2, .ptr 2 0), (5, .row 74 0 l120.length), (6, .row 21 0 ((List.replicate ((g_0.n).toNat) (false : Bool)).length)), (9, .int v122), (10, .int n153), (39, .ro false (.pairs g_0.bars)), (40, .int (g_0.bars.length : Int)), (41, .int x154)], [(74, some (3, .ints l120)), (21, some (4, .bools l121))], [(2, some [.int g_0.n, .ro false (.pairs g_0.bars)])]⟩ : PS)) (I_TrilaterationOrder_l2 N g_0 l121 v122 k) h (En.of ⟨rfl, rfl, rfl, rfl, rfl, rfl, rfl, rfl, trivial⟩ ⟨rfl, rfl, trivial⟩ ⟨rfl, trivial⟩) (fun _ => rfl) ?_
            rintro n ⟨n153, x154⟩ h
            rw [I_TrilaterationOrder_l2] at h
            show VC _ _ _ (⟨[(2, .ptr 2 0), (5, .row 74 0 l120.length), (6, .row 21 0 ((List.replicate ((g_0.n).toNat) (false : Bool)).length)), (9, .int v122), (10, .int n153), (39, .ro false (.pairs g_0.bars)), (40, .int (g_0.bars.length : Int)), (41, .int x154)], [(74, some (3, .ints l120)), (21, some (4, .bools l121))], [(2, some [.int g_0.n, .ro false (.pairs g_0.bars)])]⟩ : PS)
            refine vSeq ?_
            refine vRegion ?_
            refine oVal tt rfl rfl rfl rfl rfl trivial ?_
            refine vNil ?_
            change VC _ _ _ _
            refine vSeq ?_
            refine vCond rfl (fun hb13 => ?_) (fun hb13 => ?_)
            · replace h := cnd_t hb13 h
              refine vSkip ?_
              change VC _ _ _ _
              refine vSeq ?_
              refine vBlock ?_
              refine vSeq ?_
              refine vRegion ?_
              obtain ⟨hg14, h⟩ := grd_inv h
              refine oVal tt rfl rfl rfl rfl rfl hg14 ?_
              refine oVal tt rfl rfl rfl rfl rfl trivial ?_
              refine oAlloc tt rfl rfl rfl rfl rfl rfl rfl rfl rfl ?_
              refine oStore tt rfl rfl rfl rfl rfl rfl rfl rfl rfl rfl rfl ⟨trivial, trivial, trivial⟩ ?_
              refine vNil ?_
              change VC _ _ _ _
              refine vSeq ?_
              refine vRegion ?_
              iterate 2 refine oVal tt rfl rfl rfl rfl rfl trivial ?_
              obtain ⟨v157, hc15, h⟩ := bind_inv h
              refine oCall (M_Bar_has_w N (g_0.bars.getD ((x154).toNat) (0, 0)) v122 v157 hc15) rfl rfl rfl rfl rfl rfl rfl rfl ⟨⟨rfl, rfl, trivial⟩, rfl, trivial⟩ ?_
              refine oVal tt rfl rfl rfl rfl rfl trivial ?_
              refine oSplit rfl rfl rfl (fun hb16 => ?_) (fun hb16 => ?_)
              · replace h := cnd_t hb16 h
                iterate 3 refine oValG tt rfl rfl rfl rfl rfl hb16 rfl rfl rfl trivial ?_
                obtain ⟨v158, hc17, h⟩ := bind_inv h
                refine oCallG (M_Bar_other_w N (g_0.bars.getD ((x154).toNat) (0, 0)) v122 v158 hc17) rfl rfl rfl rfl hb16 rfl rfl rfl rfl rfl rfl rfl ⟨⟨rfl, rfl, trivial⟩, rfl, trivial⟩ ?_
                obtain ⟨hg18, h⟩ := grd_inv h
                refine oValG tt rfl rfl rfl rfl rfl hb16 rfl rfl rfl hg18 ?_
                obtain ⟨hg19, h⟩ := grd_inv h
                refine oValG tt rfl rfl rfl rfl rfl hb16 rfl rfl rfl hg19 ?_
                refine oPick rfl rfl rfl rfl rfl hb16 rfl ?_
                refine vNil ?_
                change VC _ _ _ _
                refine vCond rfl (fun hb20 => ?_) (fun hb20 => ?_)
                · replace h := cnd_t hb20 h
                  refine vRegion ?_
                  refine oVal tt rfl rfl rfl rfl rfl trivial ?_
                  obtain ⟨hg21, h⟩ := grd_inv h
                  refine oVal tt rfl rfl rfl rfl rfl hg21 ?_
                  refine oVal tt rfl rfl rfl rfl rfl trivial ?_
                  refine vNil ?_
                  change VC _ _ _ _
                  refine vRegion ?_
                  obtain ⟨hg22, h⟩ := grd_inv h
                  refine oVal tt rfl rfl rfl rfl rfl hg22 ?_
                  refine oVal tt rfl rfl rfl rfl rfl trivial ?_
                  refine vNil ?_
                  change ∃ _, _
                  exact ⟨((n153 + (1 : Int)), (x154 + (1 : Int))), (En.of ⟨rfl, rfl, rfl, rfl, rfl, rfl, rfl, rfl, trivial⟩ ⟨rfl, rfl, trivial⟩ ⟨rfl, trivial⟩), h⟩
                · replace h := cnd_f hb20 h
                  refine vSkip ?_
                  change VC _ _ _ _
                  refine vRegion ?_
                  obtain ⟨hg23, h⟩ := grd_inv h
                  refine oVal tt rfl rfl rfl rfl rfl hg23 ?_
                  refine oVal tt rfl rfl rfl rfl rfl trivial ?_
                  refine vNil ?_
                  change ∃ _, _
                  exact ⟨(n153, (x154 + (1 : Int))), (En.of ⟨rfl, rfl, rfl, rfl, rfl, rfl, rfl, rfl, trivial⟩ ⟨rfl, rfl, trivial⟩ ⟨rfl, trivial⟩), h⟩
              · replace h := cnd_f hb16 h
                iterate 6 refine oNoT rfl rfl rfl rfl hb16 rfl rfl ?_
                refine oPickF rfl rfl rfl rfl rfl hb16 rfl ?_
                refine vNil ?_
                change VC _ _ _ _
                refine vCondF rfl rfl ?_
                refine vSkip ?_
                change VC _ _ _ _
                refine vRegion ?_
                obtain ⟨hg24, h⟩ := grd_inv h
                refine oVal tt rfl rfl rfl rfl rfl hg24 ?_
                refine oVal tt rfl rfl rfl rfl rfl trivial ?_
                refine vNil ?_
                change ∃ _, _
                exact ⟨(n153, (x154 + (1 : Int))), (En.of ⟨rfl, rfl, rfl, rfl, rfl, rfl, rfl, rfl, trivial⟩ ⟨rfl, rfl, trivial⟩ ⟨rfl, trivial⟩), h⟩
            · replace h := cnd_f hb13 h
              refine vExit ?_
              change ∃ _, _
              exact ⟨n153, (En.of ⟨rfl, rfl, rfl, rfl, rfl, trivial⟩ ⟨rfl, rfl, trivial⟩ ⟨rfl, trivial⟩), h⟩
        · replace h := cnd_f hb4 h
          refine vExit ?_
          change ∃ _, _
          exact ⟨l120, (En.of ⟨rfl, trivial⟩ ⟨rfl, trivial⟩ trivial), h⟩
    · intro k h
      refine vBlock ?_
      refine vLoopS (α := (List Bool) × Int) (fun | (l160, x161) => (⟨[(2, .ptr 2 0), (5, .nil), (6, .row 21 0 ((List.replicate ((g_0.n).toNat) (false : Bool)).length)), (22, .ro false (.ints anchors_1)), (23, .int (anchors_1.length : Int)), (24, .int x161)], [(21, some (4, .bools l160))], [(2, some [.int g_0.n, .ro false (.pairs g_0.bars)])]⟩ : PS)) (I_TrilaterationOrder_l3 N g_0 anchors_1 k) h (En.of ⟨rfl, rfl, rfl, rfl, rfl, rfl, trivial⟩ ⟨rfl, trivial⟩ ⟨rfl, trivial⟩) (fun _ => rfl) ?_
      rintro n ⟨l160, x161⟩ h
      rw [I_TrilaterationOrder_l3] at h
      show VC _ _ _ (⟨[(2, .ptr 2 0), (5, .nil), (6, .row 21 0 ((List.replicate ((g_0.n).toNat) (false : Bool)).length)), (22, .ro false (.ints anchors_1)), (23, .int (anchors_1.length : Int)), (24, .int x161)], [(21, some (4, .bools l160))], [(2, some [.int g_0.n, .ro false (.pairs g_0.bars)])]⟩ : PS)
      refine vSeq ?_
      refine vRegion ?_
      refine oVal tt rfl rfl rfl rfl rfl trivial ?_
      refine vNil ?_
      change VC _ _ _ _
      refine vSeq ?_
      refine vCond rfl (fun hb25 => ?_) (fun hb25 => ?_)
      · replace h := cnd_t hb25 h
        refine vSkip ?_
        change VC _ _ _ _
        refine vSeq ?_
        refine vBlock ?_
        refine vSeq ?_
        refine vRegion ?_
        obtain ⟨hg26, h⟩ := grd_inv h
        refine oVal tt rfl rfl rfl rfl rfl hg26 ?_
        iterate 2 refine oVal tt rfl rfl rfl rfl rfl trivial ?_
        refine vNil ?_
        change VC _ _ _ _
        refine vRegion ?_
        iterate 2 refine oVal tt rfl rfl rfl rfl rfl trivial ?_
        obtain ⟨hg27, h⟩ := grd_inv h
        refine oVal tt rfl rfl rfl rfl rfl hg27 ?_
        obtain ⟨hg28, h⟩ := grd_inv h
        refine oStore tt rfl rfl rfl rfl rfl rfl rfl rfl rfl rfl ⟨_, _, rfl, hg28.1, hg28.2⟩ ⟨hg28, trivial⟩ ?_
        refine vNil ?_
        change VC _ _ _ _
        refine vRegion ?_
        obtain ⟨hg29, h⟩ := grd_inv h
        refine oVal tt rfl rfl rfl rfl rfl hg29 ?_
        refine oVal tt rfl rfl rfl rfl rfl trivial ?_
        refine vNil ?_
        change ∃ _, _
        exact ⟨((l160.set (((anchors_1.getD ((x161).toNat) 0)).toNat) true), (x161 + (1 : Int))), (En.of ⟨rfl, rfl, rfl, rfl, rfl, rfl, trivial⟩ ⟨rfl, trivial⟩ ⟨rfl, trivial⟩), h⟩
      · replace h := cnd_f hb25 h
        refine vExit ?_
        change ∃ _, _
        exact ⟨l160, (En.of ⟨rfl, rfl, rfl, trivial⟩ ⟨rfl, trivial⟩ ⟨rfl, trivial⟩), h⟩
end Go.Proofs.Ytlmlfbjcpajinaa
