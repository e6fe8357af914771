/- Texts that the proof needs, put together: G7 G11 G12 G5 G14 G15 Pb G24 G26 Pmk Pm Pc G32 G31 G33. -/
import Derived.Test.YtkklfgcelmeccaaBGa3
set_option linter.unusedVariables false
set_option linter.unusedSimpArgs false
namespace Go.Proofs.Ytkklfgcelmeccaa
open Go.RowKit
def I_IsGraph_l1 (N : Nat) (g_0 : Grf) (k : Unit → Option (Bool)) : Nat → Int → Option (Bool)
 | 0, _ => none
 | n + 1, x8 =>
  cnd (decide (x8 < (g_0.bars.length : Int))) (
   grd (0 ≤ x8 ∧ x8 < (g_0.bars.length : Int)) <|
   cnd (decide (((g_0.bars.getD ((x8).toNat) (0, 0)).1) < (0 : Int))) (
    some false) (
    cnd (decide (((g_0.bars.getD ((x8).toNat) (0, 0)).1) ≥ ((g_0.bars.getD ((x8).toNat) (0, 0)).2))) (
     some false) (
     cnd (decide (((g_0.bars.getD ((x8).toNat) (0, 0)).2) ≥ g_0.n)) (
      some false) (
      cnd (decide (x8 > (0 : Int))) (
       grd (Rg64 (x8 - (1 : Int))) <|
       grd (0 ≤ (x8 - (1 : Int)) ∧ (x8 - (1 : Int)) < (g_0.bars.length : Int)) <|
       (I_compareBars N (g_0.bars.getD (((x8 - (1 : Int))).toNat) (0, 0)) (g_0.bars.getD ((x8).toNat) (0, 0))).bind fun v10 =>
       cnd (decide (v10 > (0 : Int))) (
        some false) (
        grd (Rg64 (x8 + (1 : Int))) <|
        I_IsGraph_l1 N g_0 k n (x8 + (1 : Int)))) (
       grd (Rg64 (x8 + (1 : Int))) <|
       I_IsGraph_l1 N g_0 k n (x8 + (1 : Int))))))) (
   k ())
def I_IsGraph (N : Nat) (g_0 : Grf) : Option (Bool) :=
 (I_within N g_0.n (1 : Int) (8 : Int)).bind fun v1 =>
 cnd (!v1) (
  some false) (
  cnd (decide ((g_0.bars.length : Int) > (24 : Int))) (
   some false) (
   I_IsGraph_l1 N g_0 (fun (_ : Unit) =>
      some true) N (0 : Int)))
set_option maxRecDepth 20000 in
set_option maxHeartbeats 1600000 in
theorem I_IsGraph_w (N : Nat) (g_0 : Grf) (r : Bool) (h : I_IsGraph N g_0 = some r) : PCall Try.prog 97 [gD g_0] [] (.bool r) := by
 unfold I_IsGraph at h
 refine pcall_intro (TT := TT) tt Try.func97 rfl rfl Try.ntmps97 (congrArg Array.toList Try.results97) rfl rfl fun w0 => ?_
 refine vSeq ?_
 refine vRegion ?_
 refine oBox rfl rfl rfl rfl rfl rfl rfl rfl rfl ?_
 refine oVal tt rfl rfl rfl rfl rfl trivial ?_
 refine vNil ?_
 change VC _ _ _ _
 iterate 2 refine vSeq ?_
 refine vRegion ?_
 iterate 2 refine oVal tt rfl rfl rfl rfl rfl trivial ?_
 obtain ⟨v1, hc1, h⟩ := bind_inv h
 refine oCall (I_within_w N g_0.n (1 : Int) (8 : Int) v1 hc1) rfl rfl rfl rfl rfl rfl rfl rfl ⟨rfl, rfl, rfl, trivial⟩ ?_
 iterate 2 refine oVal tt rfl rfl rfl rfl rfl trivial ?_
 refine oSplit rfl rfl rfl (fun hb2 => ?_) (fun hb2 => ?_)
 ·replace h := cnd_t hb2 h
  iterate 4 refine oNoF rfl rfl rfl rfl hb2 rfl rfl ?_
  refine oPick rfl rfl rfl rfl rfl hb2 rfl ?_
  refine vNil ?_
  change VC _ _ _ _
  refine vCondT rfl rfl ?_
  refine vSeq ?_
  refine vRegion ?_
  refine oVal tt rfl rfl rfl rfl rfl trivial ?_
  refine vNil ?_
  change VC _ _ _ _
  refine vRet ?_
  change ∃ _, _
  cases h
  exact ⟨[], _, rfl, trivial, rfl, (.eq rfl), rfl⟩
 ·replace h := cnd_f hb2 h
  iterate 4 refine oValG tt rfl rfl rfl rfl rfl hb2 rfl rfl rfl trivial ?_
  refine oPickF rfl rfl rfl rfl rfl hb2 rfl ?_
  refine vNil ?_
  change VC _ _ _ _
  refine vCond rfl (fun hb3 => ?_) (fun hb3 => ?_)
  ·replace h := cnd_t hb3 h
   refine vSeq ?_
   refine vRegion ?_
   refine oVal tt rfl rfl rfl rfl rfl trivial ?_
   refine vNil ?_
   change VC _ _ _ _
   refine vRet ?_
   change ∃ _, _
   cases h
   exact ⟨[], _, rfl, trivial, rfl, (.eq rfl), rfl⟩
  ·replace h := cnd_f hb3 h
   refine vSkip ?_
   change VC _ _ _ _
   iterate 2 refine vSeq ?_
   refine vRegion ?_
   iterate 4 refine oVal tt rfl rfl rfl rfl rfl trivial ?_
   refine vNil ?_
   change VC _ _ _ _
   refine vJoin (F := fun k => I_IsGraph_l1 N g_0 k) h (α := Unit) (J := fun (_ : Unit) => (⟨[], [], []⟩ : PS)) ?_ ?_
   ·rintro ⟨⟩ h
    show VC _ _ _ (⟨[], [], []⟩ : PS)
    refine vSeq ?_
    refine vRegion ?_
    refine oVal tt rfl rfl rfl rfl rfl trivial ?_
    refine vNil ?_
    change VC _ _ _ _
    refine vRet ?_
    change ∃ _, _
    cases h
    exact ⟨[], _, rfl, trivial, rfl, (.eq rfl), rfl⟩
   ·intro k h
    refine vBlock ?_
    refine vLoopS (α := Int) (fun (x8 : Int) => (⟨[(1, .ptr 1 0), (16, .ro false (.pairs g_0.bars)), (17, .int (g_0.bars.length : Int)), (18, .int x8)], [], [(1, some [.int g_0.n, .ro false (.pairs g_0.bars)])]⟩ : PS)) (I_IsGraph_l1 N g_0 k) h (En.of ⟨rfl, rfl, rfl, rfl, trivial⟩ trivial ⟨rfl, trivial⟩) (fun _ => rfl) ?_
    rintro n x8 h
    rw [I_IsGraph_l1] at h
    show VC _ _ _ (⟨[(1, .ptr 1 0), (16, .ro false (.pairs g_0.bars)), (17, .int (g_0.bars.length : Int)), (18, .int x8)], [], [(1, some [.int g_0.n, .ro false (.pairs g_0.bars)])]⟩ : PS)
    refine vSeq ?_
    refine vRegion ?_
    refine oVal tt rfl rfl rfl rfl rfl trivial ?_
    refine vNil ?_
    change VC _ _ _ _
    refine vSeq ?_
    refine vCond rfl (fun hb4 => ?_) (fun hb4 => ?_)
    ·replace h := cnd_t hb4 h
     refine vSkip ?_
     change VC _ _ _ _
     refine vSeq ?_
     refine vBlock ?_
     refine vSeq ?_
     refine vRegion ?_
     refine oVal tt rfl rfl rfl rfl rfl trivial ?_
     obtain ⟨hg5, h⟩ := grd_inv h
     refine oVal tt rfl rfl rfl rfl rfl hg5 ?_
     refine oVal tt rfl rfl rfl rfl rfl trivial ?_
     refine oAlloc tt rfl rfl rfl rfl rfl rfl rfl rfl rfl ?_
     refine oVal tt rfl rfl rfl rfl rfl trivial ?_
     refine oStore tt rfl rfl rfl rfl rfl rfl rfl rfl rfl rfl rfl ⟨trivial, trivial, trivial⟩ ?_
     refine vNil ?_
     change VC _ _ _ _
     refine vSeq ?_
     refine vRegionD (by kernel_rfl) (by kernel_rfl) ?_
     iterate 4 refine cVal tt rfl (wNone rfl) rfl rfl rfl trivial ?_
     refine cSplit rfl rfl rfl (fun hb6 => ?_) (fun hb6 => ?_)
     ·replace h := cnd_t hb6 h
      iterate 5 refine cNoF rfl rfl rfl rfl hb6 rfl rfl ?_
      refine cPickT rfl (wNone rfl) rfl rfl rfl hb6 rfl ?_
      refine cVal tt rfl (wNone rfl) rfl rfl rfl trivial ?_
      iterate 5 refine cNoF rfl rfl rfl rfl rfl rfl rfl ?_
      refine cPickT rfl (wNone rfl) rfl rfl rfl rfl rfl ?_
      refine cVal tt rfl (wNone rfl) rfl rfl rfl trivial ?_
      iterate 3 refine cNoF rfl rfl rfl rfl rfl rfl rfl ?_
      iterate 9 refine cNoU rfl rfl rfl rfl rfl ?_
      refine cNoF rfl rfl rfl rfl rfl rfl rfl ?_
      refine cPickT rfl (wNone rfl) rfl rfl rfl rfl rfl ?_
      refine cNil ?_
      change VC _ _ _ _
      refine vCondT rfl rfl ?_
      refine vSeq ?_
      refine vRegion ?_
      refine oVal tt rfl rfl rfl rfl rfl trivial ?_
      refine vNil ?_
      change VC _ _ _ _
      refine vRet ?_
      change ∃ _, _
      cases h
      exact ⟨[], _, rfl, trivial, rfl, (.eq rfl), rfl⟩
     ·replace h := cnd_f hb6 h
      iterate 5 refine cVal tt rfl (wSome rfl rfl rfl rfl hb6) rfl rfl rfl trivial ?_
      refine cPickF rfl (wNone rfl) rfl rfl rfl hb6 rfl ?_
      refine cVal tt rfl (wNone rfl) rfl rfl rfl trivial ?_
      refine cSplit rfl rfl rfl (fun hb7 => ?_) (fun hb7 => ?_)
      ·replace h := cnd_t hb7 h
       iterate 5 refine cNoF rfl rfl rfl rfl hb7 rfl rfl ?_
       refine cPickT rfl (wNone rfl) rfl rfl rfl hb7 rfl ?_
       refine cVal tt rfl (wNone rfl) rfl rfl rfl trivial ?_
       iterate 3 refine cNoF rfl rfl rfl rfl rfl rfl rfl ?_
       iterate 9 refine cNoU rfl rfl rfl rfl rfl ?_
       refine cNoF rfl rfl rfl rfl rfl rfl rfl ?_
       refine cPickT rfl (wNone rfl) rfl rfl rfl rfl rfl ?_
       refine cNil ?_
       change VC _ _ _ _
       refine vCondT rfl rfl ?_
       refine vSeq ?_
       refine vRegion ?_
       refine oVal tt rfl rfl rfl rfl rfl trivial ?_
       refine vNil ?_
       change VC _ _ _ _
       refine vRet ?_
       change ∃ _, _
       cases h
       exact ⟨[], _, rfl, trivial, rfl, (.eq rfl), rfl⟩
      ·replace h := cnd_f hb7 h
       iterate 5 refine cVal tt rfl (wSome rfl rfl rfl rfl hb7) rfl rfl rfl trivial ?_
       refine cPickF rfl (wNone rfl) rfl rfl rfl hb7 rfl ?_
       refine cVal tt rfl (wNone rfl) rfl rfl rfl trivial ?_
       refine cSplit rfl rfl rfl (fun hb8 => ?_) (fun hb8 => ?_)
       ·replace h := cnd_t hb8 h
        iterate 3 refine cNoF rfl rfl rfl rfl hb8 rfl rfl ?_
        iterate 9 refine cNoU rfl rfl rfl rfl rfl ?_
        refine cNoF rfl rfl rfl rfl hb8 rfl rfl ?_
        refine cPickT rfl (wNone rfl) rfl rfl rfl hb8 rfl ?_
        refine cNil ?_
        change VC _ _ _ _
        refine vCondT rfl rfl ?_
        refine vSeq ?_
        refine vRegion ?_
        refine oVal tt rfl rfl rfl rfl rfl trivial ?_
        refine vNil ?_
        change VC _ _ _ _
        refine vRet ?_
        change ∃ _, _
        cases h
        exact ⟨[], _, rfl, trivial, rfl, (.eq rfl), rfl⟩
       ·replace h := cnd_f hb8 h
        iterate 3 refine cVal tt rfl (wSome rfl rfl rfl rfl hb8) rfl rfl rfl trivial ?_
        refine cSplit rfl rfl rfl (fun hb9 => ?_) (fun hb9 => ?_)
        ·replace h := cnd_t hb9 h
         iterate 3 refine cVal tt rfl (wSome rfl rfl rfl rfl hb9) rfl rfl rfl trivial ?_
         obtain ⟨hg10, h⟩ := grd_inv h
         refine cVal tt rfl (wSome rfl rfl rfl rfl hb9) rfl rfl rfl hg10 ?_
         obtain ⟨hg11, h⟩ := grd_inv h
         refine cVal tt rfl (wSome rfl rfl rfl rfl hb9) rfl rfl rfl hg11 ?_
         iterate 2 refine cVal tt rfl (wSome rfl rfl rfl rfl hb9) rfl rfl rfl trivial ?_
         obtain ⟨v10, hc12, h⟩ := bind_inv h
         refine cCall (I_compareBars_w N (g_0.bars.getD (((x8 - (1 : Int))).toNat) (0, 0)) (g_0.bars.getD ((x8).toNat) (0, 0)) v10 hc12) rfl (wSome rfl rfl rfl rfl hb9) rfl rfl rfl rfl rfl rfl ⟨⟨rfl, rfl, trivial⟩, ⟨rfl, rfl, trivial⟩, trivial⟩ ?_
         refine cVal tt rfl (wSome rfl rfl rfl rfl hb9) rfl rfl rfl trivial ?_
         refine cPickT rfl (wSome rfl rfl rfl rfl hb8) rfl rfl rfl hb9 rfl ?_
         refine cPickF rfl (wNone rfl) rfl rfl rfl hb8 rfl ?_
         refine cNil ?_
         change VC _ _ _ _
         refine vCond rfl (fun hb13 => ?_) (fun hb13 => ?_)
         ·replace h := cnd_t hb13 h
          refine vSeq ?_
          refine vRegion ?_
          refine oVal tt rfl rfl rfl rfl rfl trivial ?_
          refine vNil ?_
          change VC _ _ _ _
          refine vRet ?_
          change ∃ _, _
          cases h
          exact ⟨[], _, rfl, trivial, rfl, (.eq rfl), rfl⟩
         ·replace h := cnd_f hb13 h
          refine vSkip ?_
          change VC _ _ _ _
          refine vRegion ?_
          obtain ⟨hg14, h⟩ := grd_inv h
          refine oVal tt rfl rfl rfl rfl rfl hg14 ?_
          refine oVal tt rfl rfl rfl rfl rfl trivial ?_
          refine vNil ?_
          change ∃ _, _
          exact ⟨(x8 + (1 : Int)), (En.of ⟨rfl, rfl, rfl, rfl, trivial⟩ trivial ⟨rfl, trivial⟩), h⟩
        ·replace h := cnd_f hb9 h
         iterate 9 refine cNoT rfl rfl rfl rfl hb9 rfl rfl ?_
         refine cPickF rfl (wSome rfl rfl rfl rfl hb8) rfl rfl rfl hb9 rfl ?_
         refine cPickF rfl (wNone rfl) rfl rfl rfl hb8 rfl ?_
         refine cNil ?_
         change VC _ _ _ _
         refine vCondF rfl rfl ?_
         refine vSkip ?_
         change VC _ _ _ _
         refine vRegion ?_
         obtain ⟨hg15, h⟩ := grd_inv h
         refine oVal tt rfl rfl rfl rfl rfl hg15 ?_
         refine oVal tt rfl rfl rfl rfl rfl trivial ?_
         refine vNil ?_
         change ∃ _, _
         exact ⟨(x8 + (1 : Int)), (En.of ⟨rfl, rfl, rfl, rfl, trivial⟩ trivial ⟨rfl, trivial⟩), h⟩
    ·replace h := cnd_f hb4 h
     refine vExit ?_
     change ∃ _, _
     exact ⟨(), (En.of trivial trivial trivial), h⟩
def I_hasDoubles_l1 (N : Nat) (g_0 : Grf) (k : Unit → Option (Bool)) : Nat → Int → Option (Bool)
 | 0, _ => none
 | n + 1, i3 =>
  cnd (decide (i3 < (g_0.bars.length : Int))) (
   grd (Rg64 (i3 - (1 : Int))) <|
   grd (0 ≤ (i3 - (1 : Int)) ∧ (i3 - (1 : Int)) < (g_0.bars.length : Int)) <|
   grd (0 ≤ i3 ∧ i3 < (g_0.bars.length : Int)) <|
   cnd (((g_0.bars.getD (((i3 - (1 : Int))).toNat) (0, 0)).1 == (g_0.bars.getD ((i3).toNat) (0, 0)).1) && ((g_0.bars.getD (((i3 - (1 : Int))).toNat) (0, 0)).2 == (g_0.bars.getD ((i3).toNat) (0, 0)).2)) (
    some true) (
    grd (Rg64 (i3 + (1 : Int))) <|
    I_hasDoubles_l1 N g_0 k n (i3 + (1 : Int)))) (
   k ())
def I_hasDoubles (N : Nat) (g_0 : Grf) : Option (Bool) :=
 I_hasDoubles_l1 N g_0 (fun (_ : Unit) =>
    some false) N (1 : Int)
set_option maxRecDepth 20000 in
set_option maxHeartbeats 1600000 in
theorem I_hasDoubles_w (N : Nat) (g_0 : Grf) (r : Bool) (h : I_hasDoubles N g_0 = some r) : PCall Try.prog 98 [gD g_0] [] (.bool r) := by
 unfold I_hasDoubles at h
 refine pcall_intro (TT := TT) tt Try.func98 rfl rfl Try.ntmps98 (congrArg Array.toList Try.results98) rfl rfl fun w0 => ?_
 refine vSeq ?_
 refine vRegion ?_
 refine oBox rfl rfl rfl rfl rfl rfl rfl rfl rfl ?_
 refine oVal tt rfl rfl rfl rfl rfl trivial ?_
 refine vNil ?_
 change VC _ _ _ _
 iterate 2 refine vSeq ?_
 refine vRegion ?_
 refine oVal tt rfl rfl rfl rfl rfl trivial ?_
 refine vNil ?_
 change VC _ _ _ _
 refine vJoin (F := fun k => I_hasDoubles_l1 N g_0 k) h (α := Unit) (J := fun (_ : Unit) => (⟨[], [], []⟩ : PS)) ?_ ?_
 ·rintro ⟨⟩ h
  show VC _ _ _ (⟨[], [], []⟩ : PS)
  refine vSeq ?_
  refine vRegion ?_
  refine oVal tt rfl rfl rfl rfl rfl trivial ?_
  refine vNil ?_
  change VC _ _ _ _
  refine vRet ?_
  change ∃ _, _
  cases h
  exact ⟨[], _, rfl, trivial, rfl, (.eq rfl), rfl⟩
 ·intro k h
  refine vBlock ?_
  refine vLoopS (α := Int) (fun (i3 : Int) => (⟨[(1, .ptr 1 0), (3, .int i3)], [], [(1, some [.int g_0.n, .ro false (.pairs g_0.bars)])]⟩ : PS)) (I_hasDoubles_l1 N g_0 k) h (En.of ⟨rfl, rfl, trivial⟩ trivial ⟨rfl, trivial⟩) (fun _ => rfl) ?_
  rintro n i3 h
  rw [I_hasDoubles_l1] at h
  show VC _ _ _ (⟨[(1, .ptr 1 0), (3, .int i3)], [], [(1, some [.int g_0.n, .ro false (.pairs g_0.bars)])]⟩ : PS)
  iterate 2 refine vSeq ?_
  refine vRegion ?_
  iterate 5 refine oVal tt rfl rfl rfl rfl rfl trivial ?_
  refine vNil ?_
  change VC _ _ _ _
  refine vCond rfl (fun hb1 => ?_) (fun hb1 => ?_)
  ·replace h := cnd_t hb1 h
   refine vSkip ?_
   change VC _ _ _ _
   refine vSeq ?_
   refine vBlock ?_
   refine vSeq ?_
   refine vRegionD (by kernel_rfl) (by kernel_rfl) ?_
   iterate 3 refine cVal tt rfl (wNone rfl) rfl rfl rfl trivial ?_
   obtain ⟨hg2, h⟩ := grd_inv h
   refine cVal tt rfl (wNone rfl) rfl rfl rfl hg2 ?_
   obtain ⟨hg3, h⟩ := grd_inv h
   refine cVal tt rfl (wNone rfl) rfl rfl rfl hg3 ?_
   iterate 4 refine cVal tt rfl (wNone rfl) rfl rfl rfl trivial ?_
   obtain ⟨hg4, h⟩ := grd_inv h
   refine cVal tt rfl (wNone rfl) rfl rfl rfl hg4 ?_
   refine cVal tt rfl (wNone rfl) rfl rfl rfl trivial ?_
   refine cPure (wNone rfl) (pEqP eqP_impl_Bar rfl rfl rfl) rfl rfl ?_
   refine cNil ?_
   change VC _ _ _ _
   refine vCond rfl (fun hb5 => ?_) (fun hb5 => ?_)
   ·replace h := cnd_t hb5 h
    refine vSeq ?_
    refine vRegion ?_
    refine oVal tt rfl rfl rfl rfl rfl trivial ?_
    refine vNil ?_
    change VC _ _ _ _
    refine vRet ?_
    change ∃ _, _
    cases h
    exact ⟨[], _, rfl, trivial, rfl, (.eq rfl), rfl⟩
   ·replace h := cnd_f hb5 h
    refine vSkip ?_
    change VC _ _ _ _
    refine vRegion ?_
    refine oVal tt rfl rfl rfl rfl rfl trivial ?_
    obtain ⟨hg6, h⟩ := grd_inv h
    refine oVal tt rfl rfl rfl rfl rfl hg6 ?_
    refine oVal tt rfl rfl rfl rfl rfl trivial ?_
    refine vNil ?_
    change ∃ _, _
    exact ⟨(i3 + (1 : Int)), (En.of ⟨rfl, rfl, trivial⟩ trivial ⟨rfl, trivial⟩), h⟩
  ·replace h := cnd_f hb1 h
   refine vExit ?_
   change ∃ _, _
   exact ⟨(), (En.of trivial trivial trivial), h⟩
def I_areAnchors_l1 (N : Nat) (g_0 : Grf) (anchors_1 : List Int) (k : Unit → Option (Bool)) : Nat → Int → Option (Bool)
 | 0, _ => none
 | n + 1, x9 =>
  cnd (decide (x9 < (anchors_1.length : Int))) (
   grd (0 ≤ x9 ∧ x9 < (anchors_1.length : Int)) <|
   (M_Graph_has N g_0 (anchors_1.getD ((x9).toNat) 0)).bind fun v11 =>
   cnd (!v11) (
    some false) (
    cnd (decide (x9 > (0 : Int))) (
     grd (Rg64 (x9 - (1 : Int))) <|
     grd (0 ≤ (x9 - (1 : Int)) ∧ (x9 - (1 : Int)) < (anchors_1.length : Int)) <|
     cnd (decide ((anchors_1.getD (((x9 - (1 : Int))).toNat) 0) ≥ (anchors_1.getD ((x9).toNat) 0))) (
      some false) (
      grd (Rg64 (x9 + (1 : Int))) <|
      I_areAnchors_l1 N g_0 anchors_1 k n (x9 + (1 : Int)))) (
     grd (Rg64 (x9 + (1 : Int))) <|
     I_areAnchors_l1 N g_0 anchors_1 k n (x9 + (1 : Int))))) (
   k ())
def I_areAnchors (N : Nat) (g_0 : Grf) (anchors_1 : List Int) : Option (Bool) :=
 I_areAnchors_l1 N g_0 anchors_1 (fun (_ : Unit) =>
    (I_IsGraph N g_0).bind fun v5 =>
    cnd v5 (
     (I_hasDoubles N g_0).bind fun v6 =>
     some (!v6)) (
     some false)) N (0 : Int)
set_option maxRecDepth 20000 in
set_option maxHeartbeats 1600000 in
theorem I_areAnchors_w (N : Nat) (g_0 : Grf) (anchors_1 : List Int) (r : Bool) (h : I_areAnchors N g_0 anchors_1 = some r) : PCall Try.prog 68 [gD g_0, .ro false (.ints anchors_1)] [] (.bool r) := by
 unfold I_areAnchors at h
 refine pcall_intro (TT := TT) tt Try.func68 rfl rfl Try.ntmps68 (congrArg Array.toList Try.results68) rfl rfl fun w0 => ?_
 refine vSeq ?_
 refine vRegion ?_
 refine oBox rfl rfl rfl rfl rfl rfl rfl rfl rfl ?_
 refine oVal tt rfl rfl rfl rfl rfl trivial ?_
 refine vNil ?_
 change VC _ _ _ _
 iterate 2 refine vSeq ?_
 refine vRegion ?_
 iterate 3 refine oVal tt rfl rfl rfl rfl rfl trivial ?_
 refine vNil ?_
 change VC _ _ _ _
 refine vJoin (F := fun k => I_areAnchors_l1 N g_0 anchors_1 k) h (α := Unit) (J := fun (_ : Unit) => (⟨[(2, .ptr 2 0)], [], [(2, some [.int g_0.n, .ro false (.pairs g_0.bars)])]⟩ : PS)) ?_ ?_
 ·rintro ⟨⟩ h
  show VC _ _ _ (⟨[(2, .ptr 2 0)], [], [(2, some [.int g_0.n, .ro false (.pairs g_0.bars)])]⟩ : PS)
  refine vSeq ?_
  refine vRegion ?_
  refine oVal tt rfl rfl rfl rfl rfl trivial ?_
  obtain ⟨v5, hc1, h⟩ := bind_inv h
  refine oCall (I_IsGraph_w N g_0 v5 hc1) rfl rfl rfl rfl rfl rfl rfl rfl ⟨⟨rfl, rfl, trivial⟩, trivial⟩ ?_
  refine oVal tt rfl rfl rfl rfl rfl trivial ?_
  refine oSplit rfl rfl rfl (fun hb2 => ?_) (fun hb2 => ?_)
  ·replace h := cnd_t hb2 h
   refine oValG tt rfl rfl rfl rfl rfl hb2 rfl rfl rfl trivial ?_
   obtain ⟨v6, hc3, h⟩ := bind_inv h
   refine oCallG (I_hasDoubles_w N g_0 v6 hc3) rfl rfl rfl rfl hb2 rfl rfl rfl rfl rfl rfl rfl ⟨⟨rfl, rfl, trivial⟩, trivial⟩ ?_
   refine oValG tt rfl rfl rfl rfl rfl hb2 rfl rfl rfl trivial ?_
   refine oPick rfl rfl rfl rfl rfl hb2 rfl ?_
   refine oVal tt rfl rfl rfl rfl rfl trivial ?_
   refine vNil ?_
   change VC _ _ _ _
   refine vRet ?_
   change ∃ _, _
   cases h
   exact ⟨[], _, rfl, trivial, rfl, (.eq rfl), rfl⟩
  ·replace h := cnd_f hb2 h
   iterate 3 refine oNoT rfl rfl rfl rfl hb2 rfl rfl ?_
   refine oPickF rfl rfl rfl rfl rfl hb2 rfl ?_
   refine oVal tt rfl rfl rfl rfl rfl trivial ?_
   refine vNil ?_
   change VC _ _ _ _
   refine vRet ?_
   change ∃ _, _
   cases h
   exact ⟨[], _, rfl, trivial, rfl, (.eq rfl), rfl⟩
 ·intro k h
  refine vBlock ?_
  refine vLoopS (α := Int) (fun (x9 : Int) => (⟨[(1, .ro false (.ints anchors_1)), (2, .ptr 2 0), (7, .ro false (.ints anchors_1)), (8, .int (anchors_1.length : Int)), (9, .int x9)], [], [(2, some [.int g_0.n, .ro false (.pairs g_0.bars)])]⟩ : PS)) (I_areAnchors_l1 N g_0 anchors_1 k) h (En.of ⟨rfl, rfl, rfl, rfl, rfl, trivial⟩ trivial ⟨rfl, trivial⟩) (fun _ => rfl) ?_
  rintro n x9 h
  rw [I_areAnchors_l1] at h
  show VC _ _ _ (⟨[(1, .ro false (.ints anchors_1)), (2, .ptr 2 0), (7, .ro false (.ints anchors_1)), (8, .int (anchors_1.length : Int)), (9, .int x9)], [], [(2, some [.int g_0.n, .ro false (.pairs g_0.bars)])]⟩ : PS)
  refine vSeq ?_
  refine vRegion ?_
  refine oVal tt rfl rfl rfl rfl rfl trivial ?_
  refine vNil ?_
  change VC _ _ _ _
  refine vSeq ?_
  refine vCond rfl (fun hb4 => ?_) (fun hb4 => ?_)
  ·replace h := cnd_t hb4 h
   refine vSkip ?_
   change VC _ _ _ _
   refine vSeq ?_
   refine vBlock ?_
   refine vSeq ?_
   refine vRegion ?_
   refine oVal tt rfl rfl rfl rfl rfl trivial ?_
   obtain ⟨hg5, h⟩ := grd_inv h
   refine oVal tt rfl rfl rfl rfl rfl hg5 ?_
   iterate 3 refine oVal tt rfl rfl rfl rfl rfl trivial ?_
   refine vNil ?_
   change VC _ _ _ _
   refine vSeq ?_
   refine vRegion ?_
   iterate 2 refine oVal tt rfl rfl rfl rfl rfl trivial ?_
   obtain ⟨v11, hc6, h⟩ := bind_inv h
   refine oCall (M_Graph_has_w N g_0 (anchors_1.getD ((x9).toNat) 0) v11 hc6) rfl rfl rfl rfl rfl rfl rfl rfl ⟨⟨rfl, rfl, trivial⟩, rfl, trivial⟩ ?_
   iterate 2 refine oVal tt rfl rfl rfl rfl rfl trivial ?_
   refine oSplit rfl rfl rfl (fun hb7 => ?_) (fun hb7 => ?_)
   ·replace h := cnd_t hb7 h
    iterate 3 refine oNoF rfl rfl rfl rfl hb7 rfl rfl ?_
    iterate 7 refine oNoU rfl rfl rfl rfl rfl ?_
    refine oNoF rfl rfl rfl rfl hb7 rfl rfl ?_
    refine oPick rfl rfl rfl rfl rfl hb7 rfl ?_
    refine vNil ?_
    change VC _ _ _ _
    refine vCondT rfl rfl ?_
    refine vSeq ?_
    refine vRegion ?_
    refine oVal tt rfl rfl rfl rfl rfl trivial ?_
    refine vNil ?_
    change VC _ _ _ _
    refine vRet ?_
    change ∃ _, _
    cases h
    exact ⟨[], _, rfl, trivial, rfl, (.eq rfl), rfl⟩
   ·replace h := cnd_f hb7 h
    iterate 3 refine oValG tt rfl rfl rfl rfl rfl hb7 rfl rfl rfl trivial ?_
    refine oSplit rfl rfl rfl (fun hb8 => ?_) (fun hb8 => ?_)
    ·replace h := cnd_t hb8 h
     iterate 2 refine oValG tt rfl rfl rfl rfl rfl hb8 rfl rfl rfl trivial ?_
     obtain ⟨hg9, h⟩ := grd_inv h
     refine oValG tt rfl rfl rfl rfl rfl hb8 rfl rfl rfl hg9 ?_
     obtain ⟨hg10, h⟩ := grd_inv h
     refine oValG tt rfl rfl rfl rfl rfl hb8 rfl rfl rfl hg10 ?_
     iterate 3 refine oValG tt rfl rfl rfl rfl rfl hb8 rfl rfl rfl trivial ?_
     refine oPickGT rfl rfl rfl rfl hb7 rfl rfl rfl rfl hb8 rfl ?_
     refine oPickF rfl rfl rfl rfl rfl hb7 rfl ?_
     refine vNil ?_
     change VC _ _ _ _
     refine vCond rfl (fun hb11 => ?_) (fun hb11 => ?_)
     ·replace h := cnd_t hb11 h
      refine vSeq ?_
      refine vRegion ?_
      refine oVal tt rfl rfl rfl rfl rfl trivial ?_
      refine vNil ?_
      change VC _ _ _ _
      refine vRet ?_
      change ∃ _, _
      cases h
      exact ⟨[], _, rfl, trivial, rfl, (.eq rfl), rfl⟩
     ·replace h := cnd_f hb11 h
      refine vSkip ?_
      change VC _ _ _ _
      refine vRegion ?_
      obtain ⟨hg12, h⟩ := grd_inv h
      refine oVal tt rfl rfl rfl rfl rfl hg12 ?_
      refine oVal tt rfl rfl rfl rfl rfl trivial ?_
      refine vNil ?_
      change ∃ _, _
      exact ⟨(x9 + (1 : Int)), (En.of ⟨rfl, rfl, rfl, rfl, rfl, trivial⟩ trivial ⟨rfl, trivial⟩), h⟩
    ·replace h := cnd_f hb8 h
     iterate 7 refine oNoT rfl rfl rfl rfl hb8 rfl rfl ?_
     refine oPickGF rfl rfl rfl rfl hb7 rfl rfl rfl rfl hb8 rfl ?_
     refine oPickF rfl rfl rfl rfl rfl hb7 rfl ?_
     refine vNil ?_
     change VC _ _ _ _
     refine vCondF rfl rfl ?_
     refine vSkip ?_
     change VC _ _ _ _
     refine vRegion ?_
     obtain ⟨hg13, h⟩ := grd_inv h
     refine oVal tt rfl rfl rfl rfl rfl hg13 ?_
     refine oVal tt rfl rfl rfl rfl rfl trivial ?_
     refine vNil ?_
     change ∃ _, _
     exact ⟨(x9 + (1 : Int)), (En.of ⟨rfl, rfl, rfl, rfl, rfl, trivial⟩ trivial ⟨rfl, trivial⟩), h⟩
  ·replace h := cnd_f hb4 h
   refine vExit ?_
   change ∃ _, _
   exact ⟨(), (En.of ⟨rfl, trivial⟩ trivial ⟨rfl, trivial⟩), h⟩
def M_Bar_other (N : Nat) (x_0 : Int × Int) (v_1 : Int) : Option (Int) :=
 cnd (x_0.1 == v_1) (
  some x_0.2) (
  some x_0.1)
set_option maxRecDepth 20000 in
set_option maxHeartbeats 1600000 in
theorem M_Bar_other_w (N : Nat) (x_0 : Int × Int) (v_1 : Int) (r : Int) (h : M_Bar_other N x_0 v_1 = some r) : PCall Try.prog 114 [.agg [.int x_0.1, .int x_0.2], .int v_1] [] (.int r) := by
 unfold M_Bar_other at h
 refine pcall_intro (TT := TT) tt Try.func114 rfl rfl Try.ntmps114 (congrArg Array.toList Try.results114) rfl rfl fun w0 => ?_
 refine vSeq ?_
 refine vRegion ?_
 refine oBox rfl rfl rfl rfl rfl rfl rfl rfl rfl ?_
 refine oVal tt rfl rfl rfl rfl rfl trivial ?_
 refine vNil ?_
 change VC _ _ _ _
 iterate 2 refine vSeq ?_
 refine vRegion ?_
 iterate 4 refine oVal tt rfl rfl rfl rfl rfl trivial ?_
 refine vNil ?_
 change VC _ _ _ _
 refine vCond rfl (fun hb1 => ?_) (fun hb1 => ?_)
 ·replace h := cnd_t hb1 h
  refine vSeq ?_
  refine vRegion ?_
  iterate 3 refine oVal tt rfl rfl rfl rfl rfl trivial ?_
  refine vNil ?_
  change VC _ _ _ _
  refine vRet ?_
  change ∃ _, _
  cases h
  exact ⟨[], _, rfl, trivial, rfl, (.eq rfl), rfl⟩
 ·replace h := cnd_f hb1 h
  refine vSkip ?_
  change VC _ _ _ _
  refine vSeq ?_
  refine vRegion ?_
  iterate 3 refine oVal tt rfl rfl rfl rfl rfl trivial ?_
  refine vNil ?_
  change VC _ _ _ _
  refine vRet ?_
  change ∃ _, _
  cases h
  exact ⟨[], _, rfl, trivial, rfl, (.eq rfl), rfl⟩
end Go.Proofs.Ytkklfgcelmeccaa
namespace Go.Proofs.Ytkklfgcelmeccaa
open Go.RowKit
end Go.Proofs.Ytkklfgcelmeccaa
namespace Go.Proofs.Ytkklfgcelmeccaa
open Go.RowKit
end Go.Proofs.Ytkklfgcelmeccaa
namespace Go.Proofs.Ytkklfgcelmeccaa
open Go.RowKit
def S_l2Has_l1 (N : Nat) (l_0 : List Int) (x_1 : Int) (k : Unit → Option (Bool)) : Nat → Int → Option (Bool)
 | 0, _ => none
 | n + 1, i3 =>
  cnd (decide (i3 < (l_0.length : Int))) (
   grd (0 ≤ i3 ∧ i3 < (l_0.length : Int)) <|
   cnd ((l_0.getD ((i3).toNat) 0) == x_1) (
    some true) (
    grd (Rg64 (i3 + (1 : Int))) <|
    S_l2Has_l1 N l_0 x_1 k n (i3 + (1 : Int)))) (
   k ())
def S_l2Has (N : Nat) (l_0 : List Int) (x_1 : Int) : Option (Bool) :=
 S_l2Has_l1 N l_0 x_1 (fun (_ : Unit) =>
    some false) N (0 : Int)
set_option maxRecDepth 20000 in
set_option maxHeartbeats 1600000 in
theorem S_l2Has_w (N : Nat) (l_0 : List Int) (x_1 : Int) (r : Bool) (h : S_l2Has N l_0 x_1 = some r) : PCall Try.prog 55 [.ro false (.ints l_0), .int x_1] [] (.bool r) := by
 unfold S_l2Has at h
 refine pcall_intro (TT := TT) tt Try.func55 rfl rfl Try.ntmps55 (congrArg Array.toList Try.results55) rfl rfl fun w0 => ?_
 refine vSeq ?_
 refine vRegion ?_
 refine oVal tt rfl rfl rfl rfl rfl trivial ?_
 refine vNil ?_
 change VC _ _ _ _
 iterate 2 refine vSeq ?_
 refine vRegion ?_
 refine oVal tt rfl rfl rfl rfl rfl trivial ?_
 refine vNil ?_
 change VC _ _ _ _
 refine vJoin (F := fun k => S_l2Has_l1 N l_0 x_1 k) h (α := Unit) (J := fun (_ : Unit) => (⟨[], [], []⟩ : PS)) ?_ ?_
 ·rintro ⟨⟩ h
  show VC _ _ _ (⟨[], [], []⟩ : PS)
  refine vSeq ?_
  refine vRegion ?_
  refine oVal tt rfl rfl rfl rfl rfl trivial ?_
  refine vNil ?_
  change VC _ _ _ _
  refine vRet ?_
  change ∃ _, _
  cases h
  exact ⟨[], _, rfl, trivial, rfl, (.eq rfl), rfl⟩
 ·intro k h
  refine vBlock ?_
  refine vLoopS (α := Int) (fun (i3 : Int) => (⟨[(0, .ro false (.ints l_0)), (1, .int x_1), (5, .int i3)], [], []⟩ : PS)) (S_l2Has_l1 N l_0 x_1 k) h (En.of ⟨rfl, rfl, rfl, trivial⟩ trivial trivial) (fun _ => rfl) ?_
  rintro n i3 h
  rw [S_l2Has_l1] at h
  show VC _ _ _ (⟨[(0, .ro false (.ints l_0)), (1, .int x_1), (5, .int i3)], [], []⟩ : PS)
  iterate 2 refine vSeq ?_
  refine vRegion ?_
  iterate 4 refine oVal tt rfl rfl rfl rfl rfl trivial ?_
  refine vNil ?_
  change VC _ _ _ _
  refine vCond rfl (fun hb1 => ?_) (fun hb1 => ?_)
  ·replace h := cnd_t hb1 h
   refine vSkip ?_
   change VC _ _ _ _
   refine vSeq ?_
   refine vBlock ?_
   refine vSeq ?_
   refine vRegion ?_
   iterate 2 refine oVal tt rfl rfl rfl rfl rfl trivial ?_
   obtain ⟨hg2, h⟩ := grd_inv h
   refine oVal tt rfl rfl rfl rfl rfl hg2 ?_
   iterate 3 refine oVal tt rfl rfl rfl rfl rfl trivial ?_
   refine vNil ?_
   change VC _ _ _ _
   refine vCond rfl (fun hb3 => ?_) (fun hb3 => ?_)
   ·replace h := cnd_t hb3 h
    refine vSeq ?_
    refine vRegion ?_
    refine oVal tt rfl rfl rfl rfl rfl trivial ?_
    refine vNil ?_
    change VC _ _ _ _
    refine vRet ?_
    change ∃ _, _
    cases h
    exact ⟨[], _, rfl, trivial, rfl, (.eq rfl), rfl⟩
   ·replace h := cnd_f hb3 h
    refine vSkip ?_
    change VC _ _ _ _
    refine vRegion ?_
    refine oVal tt rfl rfl rfl rfl rfl trivial ?_
    obtain ⟨hg4, h⟩ := grd_inv h
    refine oVal tt rfl rfl rfl rfl rfl hg4 ?_
    refine oVal tt rfl rfl rfl rfl rfl trivial ?_
    refine vNil ?_
    change ∃ _, _
    exact ⟨(i3 + (1 : Int)), (En.of ⟨rfl, rfl, rfl, trivial⟩ trivial trivial), h⟩
  ·replace h := cnd_f hb1 h
   refine vExit ?_
   change ∃ _, _
   exact ⟨(), (En.of trivial trivial trivial), h⟩
def S_l4Other (N : Nat) (b_0 : Int × Int) (v_1 : Int) : Option (Int) :=
 grd (Rg64 (b_0.1 + b_0.2)) <|
 grd (Rg64 ((b_0.1 + b_0.2) - v_1)) <|
 some ((b_0.1 + b_0.2) - v_1)
set_option maxRecDepth 20000 in
set_option maxHeartbeats 1600000 in
theorem S_l4Other_w (N : Nat) (b_0 : Int × Int) (v_1 : Int) (r : Int) (h : S_l4Other N b_0 v_1 = some r) : PCall Try.prog 88 [.agg [.int b_0.1, .int b_0.2], .int v_1] [] (.int r) := by
 unfold S_l4Other at h
 refine pcall_intro (TT := TT) tt Try.func88 rfl rfl Try.ntmps88 (congrArg Array.toList Try.results88) rfl rfl fun w0 => ?_
 refine vSeq ?_
 refine vRegion ?_
 refine oBox rfl rfl rfl rfl rfl rfl rfl rfl rfl ?_
 refine oVal tt rfl rfl rfl rfl rfl trivial ?_
 refine vNil ?_
 change VC _ _ _ _
 refine vSeq ?_
 refine vRegion ?_
 iterate 4 refine oVal tt rfl rfl rfl rfl rfl trivial ?_
 obtain ⟨hg1, h⟩ := grd_inv h
 refine oVal tt rfl rfl rfl rfl rfl hg1 ?_
 refine oVal tt rfl rfl rfl rfl rfl trivial ?_
 obtain ⟨hg2, h⟩ := grd_inv h
 refine oVal tt rfl rfl rfl rfl rfl hg2 ?_
 refine oVal tt rfl rfl rfl rfl rfl trivial ?_
 refine vNil ?_
 change VC _ _ _ _
 refine vRet ?_
 change ∃ _, _
 cases h
 exact ⟨[], _, rfl, trivial, rfl, (.eq rfl), rfl⟩
end Go.Proofs.Ytkklfgcelmeccaa
namespace Go.Proofs.Ytkklfgcelmeccaa
open Go.RowKit
def S_IsPinned_l1 (N : Nat) (p_0 : Pin) (k : Unit → Option (Bool)) : Nat → Int → Option (Bool)
 | 0, _ => none
 | n + 1, i13 =>
  cnd (decide (i13 < (p_0.g.bars.length : Int))) (
   grd (0 ≤ i13 ∧ i13 < (p_0.g.bars.length : Int)) <|
   (S_l2Has N p_0.ground ((p_0.g.bars.getD ((i13).toNat) (0, 0)).1)).bind fun v16 =>
   cnd v16 (
    (S_l2Has N p_0.ground ((p_0.g.bars.getD ((i13).toNat) (0, 0)).2)).bind fun v17 =>
    cnd v17 (
     some false) (
     grd (Rg64 (i13 + (1 : Int))) <|
     S_IsPinned_l1 N p_0 k n (i13 + (1 : Int)))) (
    grd (Rg64 (i13 + (1 : Int))) <|
    S_IsPinned_l1 N p_0 k n (i13 + (1 : Int)))) (
   k ())
def G_Index_int_l1 (N : Nat) (s_0 : List Int) (v_1 : Int) (k : Unit → Option (Int)) : Nat → Int → Option (Int)
 | 0, _ => none
 | n + 1, x3 =>
  cnd (decide (x3 < (s_0.length : Int))) (
   grd (0 ≤ x3 ∧ x3 < (s_0.length : Int)) <|
   cnd (v_1 == (s_0.getD ((x3).toNat) 0)) (
    some x3) (
    grd (Rg64 (x3 + (1 : Int))) <|
    G_Index_int_l1 N s_0 v_1 k n (x3 + (1 : Int)))) (
   k ())
def G_Index_int (N : Nat) (s_0 : List Int) (v_1 : Int) : Option (Int) :=
 G_Index_int_l1 N s_0 v_1 (fun (_ : Unit) =>
    some (-1 : Int)) N (0 : Int)
set_option maxRecDepth 20000 in
set_option maxHeartbeats 1600000 in
theorem G_Index_int_w (N : Nat) (s_0 : List Int) (v_1 : Int) (r : Int) (h : G_Index_int N s_0 v_1 = some r) : PCall Try.prog 92 [.ro false (.ints s_0), .int v_1] [] (.int r) := by
 unfold G_Index_int at h
 refine pcall_intro (TT := TT) tt Try.func92 rfl rfl Try.ntmps92 (congrArg Array.toList Try.results92) rfl rfl fun w0 => ?_
 refine vSeq ?_
 refine vRegion ?_
 refine oVal tt rfl rfl rfl rfl rfl trivial ?_
 refine vNil ?_
 change VC _ _ _ _
 iterate 2 refine vSeq ?_
 refine vRegion ?_
 iterate 3 refine oVal tt rfl rfl rfl rfl rfl trivial ?_
 refine vNil ?_
 change VC _ _ _ _
 refine vJoin (F := fun k => G_Index_int_l1 N s_0 v_1 k) h (α := Unit) (J := fun (_ : Unit) => (⟨[], [], []⟩ : PS)) ?_ ?_
 ·rintro ⟨⟩ h
  show VC _ _ _ (⟨[], [], []⟩ : PS)
  refine vSeq ?_
  refine vRegion ?_
  refine oVal tt rfl rfl rfl rfl rfl trivial ?_
  refine vNil ?_
  change VC _ _ _ _
  refine vRet ?_
  change ∃ _, _
  cases h
  exact ⟨[], _, rfl, trivial, rfl, (.eq rfl), rfl⟩
 ·intro k h
  refine vBlock ?_
  refine vLoopS (α := Int) (fun (x3 : Int) => (⟨[(0, .ro false (.ints s_0)), (1, .int v_1), (7, .int (s_0.length : Int)), (8, .int x3)], [], []⟩ : PS)) (G_Index_int_l1 N s_0 v_1 k) h (En.of ⟨rfl, rfl, rfl, rfl, trivial⟩ trivial trivial) (fun _ => rfl) ?_
  rintro n x3 h
  rw [G_Index_int_l1] at h
  show VC _ _ _ (⟨[(0, .ro false (.ints s_0)), (1, .int v_1), (7, .int (s_0.length : Int)), (8, .int x3)], [], []⟩ : PS)
  refine vSeq ?_
  refine vRegion ?_
  refine oVal tt rfl rfl rfl rfl rfl trivial ?_
  refine vNil ?_
  change VC _ _ _ _
  refine vSeq ?_
  refine vCond rfl (fun hb1 => ?_) (fun hb1 => ?_)
  ·replace h := cnd_t hb1 h
   refine vSkip ?_
   change VC _ _ _ _
   refine vSeq ?_
   refine vBlock ?_
   refine vSeq ?_
   refine vRegion ?_
   iterate 2 refine oVal tt rfl rfl rfl rfl rfl trivial ?_
   refine vNil ?_
   change VC _ _ _ _
   refine vSeq ?_
   refine vRegion ?_
   iterate 3 refine oVal tt rfl rfl rfl rfl rfl trivial ?_
   obtain ⟨hg2, h⟩ := grd_inv h
   refine oVal tt rfl rfl rfl rfl rfl hg2 ?_
   iterate 2 refine oVal tt rfl rfl rfl rfl rfl trivial ?_
   refine vNil ?_
   change VC _ _ _ _
   refine vCond rfl (fun hb3 => ?_) (fun hb3 => ?_)
   ·replace h := cnd_t hb3 h
    refine vSeq ?_
    refine vRegion ?_
    iterate 2 refine oVal tt rfl rfl rfl rfl rfl trivial ?_
    refine vNil ?_
    change VC _ _ _ _
    refine vRet ?_
    change ∃ _, _
    cases h
    exact ⟨[], _, rfl, trivial, rfl, (.eq rfl), rfl⟩
   ·replace h := cnd_f hb3 h
    refine vSkip ?_
    change VC _ _ _ _
    refine vRegion ?_
    obtain ⟨hg4, h⟩ := grd_inv h
    refine oVal tt rfl rfl rfl rfl rfl hg4 ?_
    refine oVal tt rfl rfl rfl rfl rfl trivial ?_
    refine vNil ?_
    change ∃ _, _
    exact ⟨(x3 + (1 : Int)), (En.of ⟨rfl, rfl, rfl, rfl, trivial⟩ trivial trivial), h⟩
  ·replace h := cnd_f hb1 h
   refine vExit ?_
   change ∃ _, _
   exact ⟨(), (En.of trivial trivial trivial), h⟩
end Go.Proofs.Ytkklfgcelmeccaa
namespace Go.Proofs.Ytkklfgcelmeccaa
open Go.RowKit
def G_Contains_int (N : Nat) (s_0 : List Int) (v_1 : Int) : Option (Bool) :=
 (G_Index_int N s_0 v_1).bind fun v1 =>
 some (decide (v1 ≥ (0 : Int)))
set_option maxRecDepth 20000 in
set_option maxHeartbeats 1600000 in
theorem G_Contains_int_w (N : Nat) (s_0 : List Int) (v_1 : Int) (r : Bool) (h : G_Contains_int N s_0 v_1 = some r) : PCall Try.prog 59 [.ro false (.ints s_0), .int v_1] [] (.bool r) := by
 unfold G_Contains_int at h
 refine pcall_intro (TT := TT) tt Try.func59 rfl rfl Try.ntmps59 (congrArg Array.toList Try.results59) rfl rfl fun w0 => ?_
 refine vSeq ?_
 refine vRegion ?_
 refine oVal tt rfl rfl rfl rfl rfl trivial ?_
 refine vNil ?_
 change VC _ _ _ _
 refine vSeq ?_
 refine vRegion ?_
 iterate 2 refine oVal tt rfl rfl rfl rfl rfl trivial ?_
 obtain ⟨v1, hc1, h⟩ := bind_inv h
 refine oCall (G_Index_int_w N s_0 v_1 v1 hc1) rfl rfl rfl rfl rfl rfl rfl rfl ⟨rfl, rfl, trivial⟩ ?_
 iterate 2 refine oVal tt rfl rfl rfl rfl rfl trivial ?_
 refine vNil ?_
 change VC _ _ _ _
 refine vRet ?_
 change ∃ _, _
 cases h
 exact ⟨[], _, rfl, trivial, rfl, (.eq rfl), rfl⟩
end Go.Proofs.Ytkklfgcelmeccaa
namespace Go.Proofs.Ytkklfgcelmeccaa
variable (N : Nat)
def szv (left : Int) (n : Nat) : Int := if left < n then -1 else left - n
theorem szv_big {left : Int} {n : Nat} (h : left < n) : szv left n = -1 := if_pos h
theorem szv_ok {left : Int} {n : Nat} (h : ¬ left < n) : szv left n = left - n := if_neg h
abbrev B63 (n : Nat) : Prop := n ≤ 9223372036854775807
theorem toIntS_l {a : List Int} (ha : a.length ≤ 1048576) (k : List Int → Option (List Int)) : ∀ n i : Nat, i ≤ a.length → a.length < n + i → L_toIntS_l1 N a k n (cpy a 0 i, (i : Int)) = k a := by
 intro n
 induction n with
 | zero => intro i h1 h2; omega
 | succ n ih =>
  intro i h1 h2
  have hl := cpy_len a 0 i
  rw [L_toIntS_l1]
  by_cases hi : i < a.length
  ·simp (disch := omega) only [Int.toNat_natCast, tk0, List.length_cons, List.length_nil, grd_pos, grd_T, grd_R, cnd_dt, cnd_df, cnd_true, cnd_false, Option.bind_some, List.length_replicate, hl]
   rw [cpy_set a 0 0 i hi rfl]
   exact ih (i + 1) (by omega) (by omega)
  ·simp (disch := omega) only [Int.toNat_natCast, tk0, List.length_cons, List.length_nil, grd_pos, grd_T, grd_R, cnd_dt, cnd_df, cnd_true, cnd_false, Option.bind_some]
   obtain rfl : i = a.length := by omega
   rw [cpy_full]
theorem toIntS_s (hN : 4000000 ≤ N) {a : List Int} (ha : a.length ≤ 1048576) : L_toIntS N a = some a := by
 unfold L_toIntS
 have h := toIntS_l N ha (fun l9 => grd ((List.replicate (((a.length : Int)).toNat) (0 : Int)).length = l9.length) <| some l9) N 0 (by omega) (by omega)
 simp only [Int.toNat_natCast, cpy_zero] at h ⊢
 simp (disch := omega) only [Int.toNat_natCast, tk0, List.length_cons, List.length_nil, grd_pos, grd_T, grd_R, cnd_dt, cnd_df, cnd_true, cnd_false, Option.bind_some]
 refine h.trans ?_
 simp (disch := omega) only [Int.toNat_natCast, tk0, List.length_cons, List.length_nil, grd_pos, grd_T, grd_R, cnd_dt, cnd_df, cnd_true, cnd_false, Option.bind_some, cpy_len]
theorem eqIntS_l {a : List Int} (ha : a.length ≤ 1048576) (k : Unit → Option Bool) : ∀ n i : Nat, i ≤ a.length → a.length < n + i → L_eqIntS_l1 N a a k n (i : Int) = k () := by
 intro n
 induction n with
 | zero => intro i h1 h2; omega
 | succ n ih =>
  intro i h1 h2
  rw [L_eqIntS_l1]
  by_cases hi : i < a.length
  ·simp (disch := omega) only [Int.toNat_natCast, tk0, List.length_cons, List.length_nil, grd_pos, grd_T, grd_R, cnd_dt, cnd_df, cnd_true, cnd_false, Option.bind_some, bne_self_eq_false]
   exact ih (i + 1) (by omega) (by omega)
  ·simp (disch := omega) only [Int.toNat_natCast, tk0, List.length_cons, List.length_nil, grd_pos, grd_T, grd_R, cnd_dt, cnd_df, cnd_true, cnd_false, Option.bind_some]
theorem eqIntS_s (hN : 4000000 ≤ N) {a : List Int} (ha : a.length ≤ 1048576) : L_eqIntS N a a = some true := by
 unfold L_eqIntS
 simp (disch := omega) only [Int.toNat_natCast, tk0, List.length_cons, List.length_nil, grd_pos, grd_T, grd_R, cnd_dt, cnd_df, cnd_true, cnd_false, Option.bind_some, bne_self_eq_false]
 exact eqIntS_l N ha (fun _ => some true) N 0 (by omega) (by omega)
theorem szBarS_s {a : List (Int × Int)} (ha : B63 a.length) {left : Int} (h0 : 0 ≤ left) (h1 : left ≤ 1048576) : L_szBarS N a left = some (szv left a.length) := by
 unfold L_szBarS
 by_cases h : left < a.length
 ·rw [szv_big h]; simp (disch := omega) only [Int.toNat_natCast, tk0, List.length_cons, List.length_nil, grd_pos, grd_T, grd_R, cnd_dt, cnd_df, cnd_true, cnd_false, Option.bind_some]
 ·rw [szv_ok h]; simp (disch := omega) only [Int.toNat_natCast, tk0, List.length_cons, List.length_nil, grd_pos, grd_T, grd_R, cnd_dt, cnd_df, cnd_true, cnd_false, Option.bind_some]
theorem toBar_s (x : Int × Int) : L_toBar N x = some x := rfl
theorem toBarS_l {a : List (Int × Int)} (ha : a.length ≤ 1048576) (k : List (Int × Int) → Option (List (Int × Int))) : ∀ n i : Nat, i ≤ a.length → a.length < n + i → L_toBarS_l1 N a k n (cpy a (0, 0) i, (i : Int)) = k a := by
 intro n
 induction n with
 | zero => intro i h1 h2; omega
 | succ n ih =>
  intro i h1 h2
  have hl := cpy_len a (0, 0) i
  rw [L_toBarS_l1]
  by_cases hi : i < a.length
  ·simp (disch := omega) only [Int.toNat_natCast, tk0, List.length_cons, List.length_nil, grd_pos, grd_T, grd_R, cnd_dt, cnd_df, cnd_true, cnd_false, Option.bind_some, List.length_replicate, hl, toBar_s]
   rw [set_pair _ _ _ _ (by omega), cpy_set a (0, 0) (0, 0) i hi rfl]
   exact ih (i + 1) (by omega) (by omega)
  ·simp (disch := omega) only [Int.toNat_natCast, tk0, List.length_cons, List.length_nil, grd_pos, grd_T, grd_R, cnd_dt, cnd_df, cnd_true, cnd_false, Option.bind_some]
   obtain rfl : i = a.length := by omega
   rw [cpy_full]
theorem toBarS_s (hN : 4000000 ≤ N) {a : List (Int × Int)} (ha : a.length ≤ 1048576) : L_toBarS N a = some a := by
 unfold L_toBarS
 have h := toBarS_l N ha (fun l9 => grd ((List.replicate (((a.length : Int)).toNat) ((0, 0) : Int × Int)).length = l9.length) <| some l9) N 0 (by omega) (by omega)
 simp only [Int.toNat_natCast, cpy_zero] at h ⊢
 simp (disch := omega) only [Int.toNat_natCast, tk0, List.length_cons, List.length_nil, grd_pos, grd_T, grd_R, cnd_dt, cnd_df, cnd_true, cnd_false, Option.bind_some]
 refine h.trans ?_
 simp (disch := omega) only [Int.toNat_natCast, tk0, List.length_cons, List.length_nil, grd_pos, grd_T, grd_R, cnd_dt, cnd_df, cnd_true, cnd_false, Option.bind_some, cpy_len]
theorem eqBar_s (x : Int × Int) : L_eqBar N x x = some true := by
 unfold L_eqBar
 simp (disch := omega) only [Int.toNat_natCast, tk0, List.length_cons, List.length_nil, grd_pos, grd_T, grd_R, cnd_dt, cnd_df, cnd_true, cnd_false, Option.bind_some, bne_self_eq_false]
theorem eqBarS_l {a : List (Int × Int)} (ha : a.length ≤ 1048576) (k : Unit → Option Bool) : ∀ n i : Nat, i ≤ a.length → a.length < n + i → L_eqBarS_l1 N a a k n (i : Int) = k () := by
 intro n
 induction n with
 | zero => intro i h1 h2; omega
 | succ n ih =>
  intro i h1 h2
  rw [L_eqBarS_l1]
  by_cases hi : i < a.length
  ·simp (disch := omega) only [Int.toNat_natCast, tk0, List.length_cons, List.length_nil, grd_pos, grd_T, grd_R, cnd_dt, cnd_df, cnd_true, cnd_false, Option.bind_some, bne_self_eq_false, eqBar_s, Bool.not_true]
   exact ih (i + 1) (by omega) (by omega)
  ·simp (disch := omega) only [Int.toNat_natCast, tk0, List.length_cons, List.length_nil, grd_pos, grd_T, grd_R, cnd_dt, cnd_df, cnd_true, cnd_false, Option.bind_some]
theorem eqBarS_s (hN : 4000000 ≤ N) {a : List (Int × Int)} (ha : a.length ≤ 1048576) : L_eqBarS N a a = some true := by
 unfold L_eqBarS
 simp (disch := omega) only [Int.toNat_natCast, tk0, List.length_cons, List.length_nil, grd_pos, grd_T, grd_R, cnd_dt, cnd_df, cnd_true, cnd_false, Option.bind_some, bne_self_eq_false]
 exact eqBarS_l N ha (fun _ => some true) N 0 (by omega) (by omega)
abbrev lnGraph (a : Grf) : Nat := a.bars.length
abbrev BGraph (a : Grf) : Prop := B63 a.bars.length
theorem szGraph_s {a : Grf} (ha : BGraph a) {left : Int} (h0 : 0 ≤ left) (h1 : left ≤ 1048576) : L_szGraph N a left = some (szv left (lnGraph a)) := by
 unfold L_szGraph
 rw [szBarS_s N ha h0 h1]
 by_cases h : left < a.bars.length
 ·rw [szv_big h]; simp (disch := omega) only [Int.toNat_natCast, tk0, List.length_cons, List.length_nil, grd_pos, grd_T, grd_R, cnd_dt, cnd_df, cnd_true, cnd_false, Option.bind_some]
 ·rw [szv_ok h]; simp (disch := omega) only [Int.toNat_natCast, tk0, List.length_cons, List.length_nil, grd_pos, grd_T, grd_R, cnd_dt, cnd_df, cnd_true, cnd_false, Option.bind_some]
theorem toGraph_s (hN : 4000000 ≤ N) {a : Grf} (ha : lnGraph a ≤ 1048576) : L_toGraph N a = some a := by
 unfold L_toGraph
 rw [toBarS_s N hN (a := a.bars) (by have := ha; simp only [lnGraph] at this; omega)]
 rfl
theorem eqGraph_s (hN : 4000000 ≤ N) {a : Grf} (ha : lnGraph a ≤ 1048576) : L_eqGraph N a a = some true := by
 unfold L_eqGraph
 rw [eqBarS_s N hN (a := a.bars) (by have := ha; simp only [lnGraph] at this; omega)]
 simp only [bne_self_eq_false]; rfl
abbrev lnRaise (a : Rse) : Nat := a.bars.length
abbrev lnPinned (a : Pin) : Nat := a.g.bars.length + a.ground.length
abbrev lnFramework (a : Frm) : Nat := a.g.bars.length + a.places.length
abbrev lnLinkage (a : Lnk) : Nat := a.f.g.bars.length + a.f.places.length + a.ground.length
end Go.Proofs.Ytkklfgcelmeccaa
namespace Go.Proofs.Ytkklfgcelmeccaa
open Go.RowKit
def L_markIntS_l1 (N : Nat) (a_0 : List Int) (k : ((List Int) × Int) → Option (Int × (List Int))) : Nat → ((List Int) × Int × Int) → Option (Int × (List Int))
 | 0, _ => none
 | n + 1, (l7, k8, i9) =>
  cnd (decide (i9 < (a_0.length : Int))) (
   grd (0 ≤ i9 ∧ i9 < (a_0.length : Int)) <|
   grd (0 ≤ i9 ∧ i9 < (l7.length : Int)) <|
   grd (Rg64 (k8 + (1 : Int))) <|
   grd (Rg64 (i9 + (1 : Int))) <|
   L_markIntS_l1 N a_0 k n ((l7.set ((i9).toNat) k8), (k8 + (1 : Int)), (i9 + (1 : Int)))) (
   k (l7, k8))
def L_markIntS (N : Nat) (a_0 : List Int) (k_1 : Int) : Option (Int × (List Int)) :=
 L_markIntS_l1 N a_0 (fun (x : (List Int) × Int) =>
   match x with
   | (l4, k5) =>
    some (k5, l4)) N (a_0, k_1, (0 : Int))
set_option maxRecDepth 20000 in
set_option maxHeartbeats 1600000 in
theorem L_markIntS_w (N : Nat) (a_0 : List Int) (k_1 : Int) (r : Int × (List Int)) (h : L_markIntS N a_0 k_1 = some r) : MCall Try.prog 60 [.row 1000000 0 a_0.length, .int k_1] [1000000] [] [(3, .ints a_0)] [(3, .ints r.2)] [] [] (.int r.1) := by
 unfold L_markIntS at h
 refine mcall_intro (TT := TT) tt Try.func60 rfl rfl Try.ntmps60 (congrArg Array.toList Try.results60) rfl rfl rfl rfl rfl fun w0 O0 => ?_
 refine vSeq ?_
 refine vRegion ?_
 refine oVal tt rfl rfl rfl rfl rfl trivial ?_
 refine vNil ?_
 change VC _ _ _ _
 iterate 2 refine vSeq ?_
 refine vRegion ?_
 refine oVal tt rfl rfl rfl rfl rfl trivial ?_
 refine vNil ?_
 change VC _ _ _ _
 refine vJoin (F := fun k => L_markIntS_l1 N a_0 k) h (α := (List Int) × Int) (J := fun | (l4, k5) => (⟨[(1, .int k5)], [(1000000, some (3, .ints l4))], []⟩ : PS)) ?_ ?_
 ·rintro ⟨l4, k5⟩ h
  show VC _ _ _ (⟨[(1, .int k5)], [(1000000, some (3, .ints l4))], []⟩ : PS)
  refine vSeq ?_
  refine vRegion ?_
  iterate 2 refine oVal tt rfl rfl rfl rfl rfl trivial ?_
  refine vNil ?_
  change VC _ _ _ _
  refine vRet ?_
  change ∃ _, _
  cases h
  exact ⟨[1000000], rfl, ⟨rfl, trivial⟩, trivial, rfl⟩
 ·intro k h
  refine vBlock ?_
  refine vLoopS (α := (List Int) × Int × Int) (fun | (l7, k8, i9) => (⟨[(0, .row 1000000 0 a_0.length), (1, .int k8), (5, .int i9)], [(1000000, some (3, .ints l7))], []⟩ : PS)) (L_markIntS_l1 N a_0 k) h (En.of ⟨rfl, rfl, rfl, trivial⟩ ⟨rfl, trivial⟩ trivial) (fun _ => rfl) ?_
  rintro n ⟨l7, k8, i9⟩ h
  rw [L_markIntS_l1] at h
  show VC _ _ _ (⟨[(0, .row 1000000 0 a_0.length), (1, .int k8), (5, .int i9)], [(1000000, some (3, .ints l7))], []⟩ : PS)
  iterate 2 refine vSeq ?_
  refine vRegion ?_
  iterate 4 refine oVal tt rfl rfl rfl rfl rfl trivial ?_
  refine vNil ?_
  change VC _ _ _ _
  refine vCond rfl (fun hb1 => ?_) (fun hb1 => ?_)
  ·replace h := cnd_t hb1 h
   refine vSkip ?_
   change VC _ _ _ _
   refine vSeq ?_
   refine vBlock ?_
   refine vSeq ?_
   refine vRegion ?_
   iterate 3 refine oVal tt rfl rfl rfl rfl rfl trivial ?_
   obtain ⟨hg2, h⟩ := grd_inv h
   refine oVal tt rfl rfl rfl rfl rfl hg2 ?_
   obtain ⟨hg3, h⟩ := grd_inv h
   refine oStore tt rfl rfl rfl rfl rfl rfl rfl rfl rfl rfl ⟨_, _, rfl, hg3.1, hg3.2⟩ ⟨hg3, trivial⟩ ?_
   refine vNil ?_
   change VC _ _ _ _
   refine vRegion ?_
   refine oVal tt rfl rfl rfl rfl rfl trivial ?_
   obtain ⟨hg4, h⟩ := grd_inv h
   refine oVal tt rfl rfl rfl rfl rfl hg4 ?_
   refine oVal tt rfl rfl rfl rfl rfl trivial ?_
   refine vNil ?_
   change VC _ _ _ _
   refine vRegion ?_
   refine oVal tt rfl rfl rfl rfl rfl trivial ?_
   obtain ⟨hg5, h⟩ := grd_inv h
   refine oVal tt rfl rfl rfl rfl rfl hg5 ?_
   refine oVal tt rfl rfl rfl rfl rfl trivial ?_
   refine vNil ?_
   change ∃ _, _
   exact ⟨((l7.set ((i9).toNat) k8), (k8 + (1 : Int)), (i9 + (1 : Int))), (En.of ⟨rfl, rfl, rfl, trivial⟩ ⟨rfl, trivial⟩ trivial), h⟩
  ·replace h := cnd_f hb1 h
   refine vExit ?_
   change ∃ _, _
   exact ⟨(l7, k8), (En.of ⟨rfl, trivial⟩ ⟨rfl, trivial⟩ trivial), h⟩
def L_markBarS_l1 (N : Nat) (a_0 : List (Int × Int)) (k : ((List (Int × Int)) × Int) → Option (Int × (List (Int × Int)))) : Nat → ((List (Int × Int)) × Int × Int) → Option (Int × (List (Int × Int)))
 | 0, _ => none
 | n + 1, (l7, k8, i9) =>
  cnd (decide (i9 < (a_0.length : Int))) (
   grd (0 ≤ i9 ∧ i9 < (a_0.length : Int)) <|
   grd (0 ≤ i9 ∧ i9 < (l7.length : Int)) <|
   grd (Rg64 (k8 + (1 : Int))) <|
   grd (0 ≤ i9 ∧ i9 < ((l7.set ((i9).toNat) (k8, (l7.getD ((i9).toNat) (0, 0)).2)).length : Int)) <|
   grd (Rg64 ((k8 + (1 : Int)) + (1 : Int))) <|
   grd (Rg64 (i9 + (1 : Int))) <|
   L_markBarS_l1 N a_0 k n (((l7.set ((i9).toNat) (k8, (l7.getD ((i9).toNat) (0, 0)).2)).set ((i9).toNat) (((l7.set ((i9).toNat) (k8, (l7.getD ((i9).toNat) (0, 0)).2)).getD ((i9).toNat) (0, 0)).1, (k8 + (1 : Int)))), ((k8 + (1 : Int)) + (1 : Int)), (i9 + (1 : Int)))) (
   k (l7, k8))
def L_markBarS (N : Nat) (a_0 : List (Int × Int)) (k_1 : Int) : Option (Int × (List (Int × Int))) :=
 L_markBarS_l1 N a_0 (fun (x : (List (Int × Int)) × Int) =>
   match x with
   | (l4, k5) =>
    some (k5, l4)) N (a_0, k_1, (0 : Int))
set_option maxRecDepth 20000 in
set_option maxHeartbeats 1600000 in
theorem L_markBarS_w (N : Nat) (a_0 : List (Int × Int)) (k_1 : Int) (r : Int × (List (Int × Int))) (h : L_markBarS N a_0 k_1 = some r) : MCall Try.prog 74 [.row 1000000 0 a_0.length, .int k_1] [1000000] [] [(113, .pairs a_0)] [(113, .pairs r.2)] [] [] (.int r.1) := by
 unfold L_markBarS at h
 refine mcall_intro (TT := TT) tt Try.func74 rfl rfl Try.ntmps74 (congrArg Array.toList Try.results74) rfl rfl rfl rfl rfl fun w0 O0 => ?_
 refine vSeq ?_
 refine vRegion ?_
 refine oVal tt rfl rfl rfl rfl rfl trivial ?_
 refine vNil ?_
 change VC _ _ _ _
 iterate 2 refine vSeq ?_
 refine vRegion ?_
 refine oVal tt rfl rfl rfl rfl rfl trivial ?_
 refine vNil ?_
 change VC _ _ _ _
 refine vJoin (F := fun k => L_markBarS_l1 N a_0 k) h (α := (List (Int × Int)) × Int) (J := fun | (l4, k5) => (⟨[(1, .int k5)], [(1000000, some (113, .pairs l4))], []⟩ : PS)) ?_ ?_
 ·rintro ⟨l4, k5⟩ h
  show VC _ _ _ (⟨[(1, .int k5)], [(1000000, some (113, .pairs l4))], []⟩ : PS)
  refine vSeq ?_
  refine vRegion ?_
  iterate 2 refine oVal tt rfl rfl rfl rfl rfl trivial ?_
  refine vNil ?_
  change VC _ _ _ _
  refine vRet ?_
  change ∃ _, _
  cases h
  exact ⟨[1000000], rfl, ⟨rfl, trivial⟩, trivial, rfl⟩
 ·intro k h
  refine vBlock ?_
  refine vLoopS (α := (List (Int × Int)) × Int × Int) (fun | (l7, k8, i9) => (⟨[(0, .row 1000000 0 a_0.length), (1, .int k8), (5, .int i9)], [(1000000, some (113, .pairs l7))], []⟩ : PS)) (L_markBarS_l1 N a_0 k) h (En.of ⟨rfl, rfl, rfl, trivial⟩ ⟨rfl, trivial⟩ trivial) (fun _ => rfl) ?_
  rintro n ⟨l7, k8, i9⟩ h
  rw [L_markBarS_l1] at h
  show VC _ _ _ (⟨[(0, .row 1000000 0 a_0.length), (1, .int k8), (5, .int i9)], [(1000000, some (113, .pairs l7))], []⟩ : PS)
  iterate 2 refine vSeq ?_
  refine vRegion ?_
  iterate 4 refine oVal tt rfl rfl rfl rfl rfl trivial ?_
  refine vNil ?_
  change VC _ _ _ _
  refine vCond rfl (fun hb1 => ?_) (fun hb1 => ?_)
  ·replace h := cnd_t hb1 h
   refine vSkip ?_
   change VC _ _ _ _
   refine vSeq ?_
   refine vBlock ?_
   refine vSeq ?_
   refine vRegion ?_
   iterate 3 refine oVal tt rfl rfl rfl rfl rfl trivial ?_
   obtain ⟨hg2, h⟩ := grd_inv h
   refine oVal tt rfl rfl rfl rfl rfl hg2 ?_
   obtain ⟨hg3, h⟩ := grd_inv h
   refine oVal tt rfl rfl rfl rfl rfl hg3 ?_
   refine oStore tt rfl rfl rfl rfl rfl rfl rfl rfl rfl rfl ⟨_, _, rfl, hg3.1, hg3.2⟩ ⟨hg3, trivial⟩ ?_
   refine vNil ?_
   change VC _ _ _ _
   refine vSeq ?_
   refine vRegion ?_
   refine oVal tt rfl rfl rfl rfl rfl trivial ?_
   obtain ⟨hg4, h⟩ := grd_inv h
   refine oVal tt rfl rfl rfl rfl rfl hg4 ?_
   refine oVal tt rfl rfl rfl rfl rfl trivial ?_
   refine vNil ?_
   change VC _ _ _ _
   refine vSeq ?_
   refine vRegion ?_
   iterate 3 refine oVal tt rfl rfl rfl rfl rfl trivial ?_
   refine oVal tt rfl rfl rfl rfl rfl hg2 ?_
   obtain ⟨hg5, h⟩ := grd_inv h
   refine oVal tt rfl rfl rfl rfl rfl hg5 ?_
   refine oStore tt rfl rfl rfl rfl rfl rfl rfl rfl rfl rfl ⟨_, _, rfl, hg5.1, hg5.2⟩ ⟨hg5, trivial⟩ ?_
   refine vNil ?_
   change VC _ _ _ _
   refine vRegion ?_
   refine oVal tt rfl rfl rfl rfl rfl trivial ?_
   obtain ⟨hg6, h⟩ := grd_inv h
   refine oVal tt rfl rfl rfl rfl rfl hg6 ?_
   refine oVal tt rfl rfl rfl rfl rfl trivial ?_
   refine vNil ?_
   change VC _ _ _ _
   refine vRegion ?_
   refine oVal tt rfl rfl rfl rfl rfl trivial ?_
   obtain ⟨hg7, h⟩ := grd_inv h
   refine oVal tt rfl rfl rfl rfl rfl hg7 ?_
   refine oVal tt rfl rfl rfl rfl rfl trivial ?_
   refine vNil ?_
   change ∃ _, _
   exact ⟨(((l7.set ((i9).toNat) (k8, (l7.getD ((i9).toNat) (0, 0)).2)).set ((i9).toNat) (((l7.set ((i9).toNat) (k8, (l7.getD ((i9).toNat) (0, 0)).2)).getD ((i9).toNat) (0, 0)).1, (k8 + (1 : Int)))), ((k8 + (1 : Int)) + (1 : Int)), (i9 + (1 : Int))), (En.of ⟨rfl, rfl, rfl, trivial⟩ ⟨rfl, trivial⟩ trivial), h⟩
  ·replace h := cnd_f hb1 h
   refine vExit ?_
   change ∃ _, _
   exact ⟨(l7, k8), (En.of ⟨rfl, trivial⟩ ⟨rfl, trivial⟩ trivial), h⟩
def L_markGraph (N : Nat) (a_0 : Grf) (k_1 : Int) : Option (Int × (List (Int × Int))) :=
 (L_markBarS N a_0.bars k_1).bind fun v1 =>
 some (v1.1, v1.2)
set_option maxRecDepth 20000 in
set_option maxHeartbeats 1600000 in
theorem L_markGraph_w (N : Nat) (a_0 : Grf) (k_1 : Int) (r : Int × (List (Int × Int))) (h : L_markGraph N a_0 k_1 = some r) : MCall Try.prog 31 [.agg [.int a_0.n, .row 1000001 0 a_0.bars.length], .int k_1] [1000001] [] [(113, .pairs a_0.bars)] [(113, .pairs r.2)] [] [] (.int r.1) := by
 unfold L_markGraph at h
 refine mcall_intro (TT := TT) tt Try.func31 rfl rfl Try.ntmps31 (congrArg Array.toList Try.results31) rfl rfl rfl rfl rfl fun w0 O0 => ?_
 refine vSeq ?_
 refine vRegion ?_
 refine oBox rfl rfl rfl rfl rfl rfl rfl rfl rfl ?_
 refine oVal tt rfl rfl rfl rfl rfl trivial ?_
 refine vNil ?_
 change VC _ _ _ _
 refine vSeq ?_
 refine vRegion ?_
 iterate 3 refine oVal tt rfl rfl rfl rfl rfl trivial ?_
 obtain ⟨v1, hc1, h⟩ := bind_inv h
 refine oMCall (L_markBarS_w N a_0.bars k_1 v1 hc1) [1000001] [] [1000001] rfl rfl rfl rfl rfl rfl ⟨rfl, trivial⟩ trivial ⟨⟨rfl, rfl⟩, ⟨rfl, rfl⟩, trivial⟩ ?_
 refine oVal tt rfl rfl rfl rfl rfl trivial ?_
 refine vNil ?_
 change VC _ _ _ _
 refine vSeq ?_
 refine vRegion ?_
 iterate 2 refine oVal tt rfl rfl rfl rfl rfl trivial ?_
 refine vNil ?_
 change VC _ _ _ _
 refine vRet ?_
 change ∃ _, _
 cases h
 exact ⟨[1000001], rfl, ⟨rfl, trivial⟩, trivial, rfl⟩
end Go.Proofs.Ytkklfgcelmeccaa
namespace Go.Proofs.Ytkklfgcelmeccaa
open Go.RowKit
end Go.Proofs.Ytkklfgcelmeccaa
namespace Go.Proofs.Ytkklfgcelmeccaa
variable {N : Nat}
theorem grf_eta (g : Grf) : (⟨g.n, g.bars⟩ : Grf) = g := rfl
theorem pin_eta (p : Pin) : (⟨p.g, p.ground⟩ : Pin) = p := rfl
theorem frm_eta (p : Frm) : (⟨p.g, p.places⟩ : Frm) = p := rfl
theorem lnk_eta (p : Lnk) : (⟨p.f, p.ground⟩ : Lnk) = p := rfl
def mkI (k : Int) (m : Nat) : List Int := (List.range m).map fun (i : Nat) => k + (i : Int)
def mkP (k : Int) (m : Nat) : List (Int × Int) := (List.range m).map fun (i : Nat) => (k + 2 * (i : Int), k + 2 * (i : Int) + 1)
theorem mkI_len (k : Int) (m : Nat) : (mkI k m).length = m := by simp [mkI]
theorem mkP_len (k : Int) (m : Nat) : (mkP k m).length = m := by simp [mkP]
theorem mkI_succ (k : Int) (m : Nat) : mkI k (m + 1) = mkI k m ++ [k + (m : Int)] := by simp [mkI, List.range_succ]
theorem mkP_succ (k : Int) (m : Nat) : mkP k (m + 1) = mkP k m ++ [(k + 2 * (m : Int), k + 2 * (m : Int) + 1)] := by simp [mkP, List.range_succ]
theorem set_mid {α : Type} {a b : List α} {x : α} {i : Nat} (h : a.length = i) (hb : 0 < b.length) : (a ++ b).set i x = a ++ [x] ++ b.drop 1 := by
 subst h
 cases b with
 | nil => simp at hb
 | cons y b => simp
theorem getD_mid {α : Type} {a : List α} {x d : α} {b : List α} {i : Nat} (h : a.length = i) : (a ++ [x] ++ b).getD i d = x := by
 subst h; simp
theorem markIntS_l {a : List Int} {k0 : Int} (hk : 0 ≤ k0 ∧ k0 ≤ 100000000) (ha : a.length ≤ 1048576) (k : List Int × Int → Option (Int × List Int)) : ∀ n i : Nat, i ≤ a.length → a.length < n + i → L_markIntS_l1 N a k n (mkI k0 i ++ a.drop i, k0 + (i : Int), (i : Int)) = k (mkI k0 a.length, k0 + (a.length : Int)) := by
 intro n
 induction n with
 | zero => intro i h1 h2; omega
 | succ n ih =>
  intro i h1 h2
  rw [L_markIntS_l1]
  by_cases hi : i < a.length
  ·have e1 : ((mkI k0 i ++ a.drop i).set i (k0 + (i : Int))) = mkI k0 (i + 1) ++ a.drop (i + 1) := by
    rw [set_mid (mkI_len k0 i) (by simp; omega), mkI_succ]
    simp
   have e2 : ((mkI k0 i ++ a.drop i).length : Int) = (a.length : Int) := by simp [mkI_len]; omega
   rw [cnd_dt (by omega), grd_pos (by omega), grd_pos (by omega), grd_pos (by unfold Rg64; omega), grd_pos (by unfold Rg64; omega), Int.toNat_natCast, e1, show k0 + (i : Int) + 1 = k0 + ((i + 1 : Nat) : Int) from by omega, show (i : Int) + 1 = ((i + 1 : Nat) : Int) from by omega]
   exact ih (i + 1) (by omega) (by omega)
  ·have : i = a.length := by omega
   subst this
   rw [cnd_df (by omega)]
   simp
theorem markIntS_s (hN : 4000000 ≤ N) {a : List Int} {k0 : Int} (hk : 0 ≤ k0 ∧ k0 ≤ 100000000) (ha : a.length ≤ 1048576) : L_markIntS N a k0 = some (k0 + (a.length : Int), mkI k0 a.length) := by
 unfold L_markIntS
 have := markIntS_l (N := N) (a := a) hk ha (fun (x : (List Int) × Int) => match x with | (l, k) => some (k, l)) N 0 (by omega) (by omega)
 simpa [mkI] using this
theorem heldIntS_l {m : Nat} {k0 : Int} (hk : 0 ≤ k0 ∧ k0 ≤ 100000000) (ha : m ≤ 1048576) (k : Int → Option Int) : ∀ n i : Nat, i ≤ m → m < n + i → L_heldIntS_l1 N (mkI k0 m) k n (k0 + (i : Int), (i : Int)) = k (k0 + (m : Int)) := by
 intro n
 induction n with
 | zero => intro i h1 h2; omega
 | succ n ih =>
  intro i h1 h2
  rw [L_heldIntS_l1, mkI_len]
  by_cases hi : i < m
  ·have e1 : (mkI k0 m).getD i 0 = k0 + (i : Int) := by simp [mkI, hi]
   rw [cnd_dt (by omega), grd_pos (by omega), Int.toNat_natCast, e1, bne_self_eq_false, cnd_false, grd_pos (by unfold Rg64; omega), grd_pos (by unfold Rg64; omega), show k0 + (i : Int) + 1 = k0 + ((i + 1 : Nat) : Int) from by omega, show (i : Int) + 1 = ((i + 1 : Nat) : Int) from by omega]
   exact ih (i + 1) (by omega) (by omega)
  ·have : i = m := by omega
   subst this
   rw [cnd_df (by omega)]
theorem heldIntS_s (hN : 4000000 ≤ N) {m : Nat} {k0 : Int} (hk : 0 ≤ k0 ∧ k0 ≤ 100000000) (ha : m ≤ 1048576) : L_heldIntS N (mkI k0 m) k0 = some (k0 + (m : Int)) := by
 unfold L_heldIntS
 have := heldIntS_l (N := N) hk ha (fun k => some k) N 0 (by omega) (by omega)
 simpa using this
theorem markBarS_l {a : List (Int × Int)} {k0 : Int} (hk : 0 ≤ k0 ∧ k0 ≤ 100000000) (ha : a.length ≤ 1048576) (k : List (Int × Int) × Int → Option (Int × List (Int × Int))) : ∀ n i : Nat, i ≤ a.length → a.length < n + i → L_markBarS_l1 N a k n (mkP k0 i ++ a.drop i, k0 + 2 * (i : Int), (i : Int)) = k (mkP k0 a.length, k0 + 2 * (a.length : Int)) := by
 intro n
 induction n with
 | zero => intro i h1 h2; omega
 | succ n ih =>
  intro i h1 h2
  rw [L_markBarS_l1]
  by_cases hi : i < a.length
  ·have e2 : ((mkP k0 i ++ a.drop i).length : Int) = (a.length : Int) := by simp [mkP_len]; omega
   rw [cnd_dt (by omega), grd_pos (by omega), grd_pos (by omega), grd_pos (by unfold Rg64; omega), grd_pos (by rw [List.length_set]; omega), grd_pos (by unfold Rg64; omega), grd_pos (by unfold Rg64; omega), Int.toNat_natCast]
   rw [set_mid (mkP_len k0 i) (by simp; omega), getD_mid (mkP_len k0 i), List.append_assoc, set_mid (mkP_len k0 i) (by simp)]
   have e1 : mkP k0 i ++ [(k0 + 2 * (i : Int), k0 + 2 * (i : Int) + 1)] ++ List.drop 1 ([(k0 + 2 * (i : Int), ((mkP k0 i ++ a.drop i).getD i (0, 0)).2)] ++ List.drop 1 (a.drop i)) = mkP k0 (i + 1) ++ a.drop (i + 1) := by
    rw [mkP_succ]; simp
   rw [e1, show k0 + 2 * (i : Int) + 1 + 1 = k0 + 2 * ((i + 1 : Nat) : Int) from by omega, show (i : Int) + 1 = ((i + 1 : Nat) : Int) from by omega]
   exact ih (i + 1) (by omega) (by omega)
  ·have : i = a.length := by omega
   subst this
   rw [cnd_df (by omega)]
   simp
theorem markBarS_s (hN : 4000000 ≤ N) {a : List (Int × Int)} {k0 : Int} (hk : 0 ≤ k0 ∧ k0 ≤ 100000000) (ha : a.length ≤ 1048576) : L_markBarS N a k0 = some (k0 + 2 * (a.length : Int), mkP k0 a.length) := by
 unfold L_markBarS
 have := markBarS_l (N := N) (a := a) hk ha (fun (x : (List (Int × Int)) × Int) => match x with | (l, k) => some (k, l)) N 0 (by omega) (by omega)
 simpa [mkP] using this
theorem markGraph_s (hN : 4000000 ≤ N) {a : Grf} {k0 : Int} (hk : 0 ≤ k0 ∧ k0 ≤ 50000000) (ha : lnGraph a ≤ 1048576) : L_markGraph N a k0 = some (k0 + 2 * (a.bars.length : Int), mkP k0 a.bars.length) := by
 unfold L_markGraph
 rw [markBarS_s hN (by omega) ha]; rfl
end Go.Proofs.Ytkklfgcelmeccaa
namespace Go.Proofs.Ytkklfgcelmeccaa
abbrev VS := Int → Bool
def vsz (n : Nat) (X : VS) : Nat := (List.range n).countP fun (i : Nat) => X (i : Int)
def inX (X : VS) (e : Int × Int) : Bool := X e.1 && X e.2
def spn (X : VS) (L : List (Int × Int)) : Nat := L.countP (inX X)
def vU (X Y : VS) : VS := fun v => X v || Y v
def vI (X Y : VS) : VS := fun v => X v && Y v
def Spr (n : Nat) (L : List (Int × Int)) : Prop := ∀ X, 0 < spn X L → spn X L + 3 ≤ 2 * vsz n X
def Bok (n : Nat) (e : Int × Int) : Prop := 0 ≤ e.1 ∧ e.1 < n ∧ 0 ≤ e.2 ∧ e.2 < n ∧ e.1 ≠ e.2
def Tgt (n : Nat) (L : List (Int × Int)) (X : VS) : Prop := 2 ≤ vsz n X ∧ 2 * vsz n X ≤ spn X L + 3
theorem countP_or_and {α : Type} (p q : α → Bool) : ∀ l : List α, l.countP (fun x => p x || q x) + l.countP (fun x => p x && q x) = l.countP p + l.countP q
 | [] => rfl
 | x :: l => by
  have ih := countP_or_and p q l
  simp only [List.countP_cons]
  cases p x <;> cases q x <;> simp <;> omega
theorem vsz_UI (n : Nat) (X Y : VS) : vsz n (vU X Y) + vsz n (vI X Y) = vsz n X + vsz n Y := countP_or_and (fun i : Nat => X (i : Int)) (fun i : Nat => Y (i : Int)) _
theorem spn_cons (X : VS) (e : Int × Int) (L : List (Int × Int)) : spn X (e :: L) = spn X L + if inX X e then 1 else 0 := by simp [spn, List.countP_cons]
theorem spn_UI (X Y : VS) : ∀ L, spn X L + spn Y L ≤ spn (vU X Y) L + spn (vI X Y) L
 | [] => Nat.le_refl _
 | e :: L => by
  have ih := spn_UI X Y L
  rw [spn_cons, spn_cons, spn_cons, spn_cons]
  revert ih
  generalize spn X L = a
  generalize spn Y L = b
  generalize spn (vU X Y) L = c
  generalize spn (vI X Y) L = d
  intro ih
  have key : ∀ x y z w : Bool, (a + if (x && y) = true then 1 else 0) + (b + if (z && w) = true then 1 else 0) ≤ (c + if ((x || z) && (y || w)) = true then 1 else 0) + (d + if ((x && z) && (y && w)) = true then 1 else 0) := by
   intro x y z w
   cases x <;> cases y <;> cases z <;> cases w <;> simp <;> omega
  exact key (X e.1) (X e.2) (Y e.1) (Y e.2)
theorem spn_append (X : VS) (L L' : List (Int × Int)) : spn X (L ++ L') = spn X L + spn X L' := by simp [spn, List.countP_append]
theorem Tgt.eq {n : Nat} {L : List (Int × Int)} {X : VS} (hL : Spr n L) (h : Tgt n L X) : spn X L + 3 = 2 * vsz n X := by
 have h1 := h.1
 have h2 := h.2
 have := hL X (by omega)
 omega
theorem Tgt.union {n : Nat} {L : List (Int × Int)} {X Y : VS} (hL : Spr n L) (hX : Tgt n L X) (hY : Tgt n L Y) (h : 2 ≤ vsz n (vI X Y)) : Tgt n L (vU X Y) := by
 have a1 := vsz_UI n X Y
 have a2 := spn_UI X Y L
 have a3 := hX.eq hL
 have a4 := hY.eq hL
 have a5 : spn (vI X Y) L + 3 ≤ 2 * vsz n (vI X Y) := by
  by_cases h0 : 0 < spn (vI X Y) L
  ·exact hL _ h0
  ·omega
 have a6 := hX.1
 have a7 := hY.1
 refine ⟨?_, by omega⟩
 have : vsz n (vI X Y) ≤ vsz n X := List.countP_mono_left fun i _ h => by simp only [vI, Bool.and_eq_true] at h; exact h.1
 omega
theorem Tgt.grow {n : Nat} {L L' : List (Int × Int)} {X : VS} (h : Tgt n L X) (hs : spn X L ≤ spn X L') : Tgt n L' X := ⟨h.1, by have := h.2; omega⟩
theorem countP_two {n : Nat} {X : VS} {a b : Int} (ha : 0 ≤ a ∧ a < n) (hb : 0 ≤ b ∧ b < n) (hab : a ≠ b) (hXa : X a = true) (hXb : X b = true) : 2 ≤ vsz n X := by
 have key : ∀ (a b : Nat), a < b → b < n → X a = true → X b = true → 2 ≤ vsz n X := by
  intro a b h1 h2 h3 h4
  have e : List.range n = List.range b ++ b :: (List.range (n - b - 1)).map (· + (b + 1)) := by
   have := List.range_add (n := b + 1) (m := n - b - 1)
   rw [show b + 1 + (n - b - 1) = n from by omega, List.range_succ, List.append_assoc] at this
   rw [this]
   simp [Nat.add_comm]
  unfold vsz
  rw [e, List.countP_append, List.countP_cons]
  have : 0 < (List.range b).countP fun i : Nat => X (i : Int) := List.countP_pos_iff.2 ⟨a, by simpa using h1, h3⟩
  simp [h4]; omega
 obtain ⟨a', rfl⟩ := Int.eq_ofNat_of_zero_le ha.1
 obtain ⟨b', rfl⟩ := Int.eq_ofNat_of_zero_le hb.1
 rcases Nat.lt_or_gt_of_ne (fun h : a' = b' => hab (by rw [h])) with h | h
 ·exact key a' b' h (by omega) hXa hXb
 ·exact key b' a' h (by omega) hXb hXa
def v2 (a b : Int) : VS := fun v => v == a || v == b
theorem vsz_v2 {n : Nat} {a b : Int} (ha : 0 ≤ a ∧ a < n) (hb : 0 ≤ b ∧ b < n) (hab : a ≠ b) : vsz n (v2 a b) = 2 := by
 have h1 : 2 ≤ vsz n (v2 a b) := countP_two ha hb hab (by simp [v2]) (by simp [v2])
 have one : ∀ (a : Int) (m : Nat), (List.range m).countP (fun i : Nat => ((i : Int) == a)) ≤ 1 := by
  intro a m
  have : (List.range m).countP (fun i : Nat => ((i : Int) == a)) ≤ (List.range m).count a.toNat := by
   rw [List.count]
   refine List.countP_mono_left fun i _ h => ?_
   have : (i : Int) = a := by simpa using h
   simp [← this]
  have h2 := List.nodup_range.count (a := a.toNat) (l := List.range m)
  rw [h2] at this
  split at this <;> omega
 have h2 := countP_or_and (fun i : Nat => ((i : Int) == a)) (fun i : Nat => ((i : Int) == b)) (List.range n)
 have h3 := one a n
 have h4 := one b n
 simp only [vsz, v2] at h1 ⊢
 omega
theorem tgt_bar {n : Nat} {L : List (Int × Int)} {e : Int × Int} (he : e ∈ L) (hb : Bok n e) : Tgt n L (v2 e.1 e.2) := by
 obtain ⟨h1, h2, h3, h4, h5⟩ := hb
 have := vsz_v2 (n := n) ⟨h1, h2⟩ ⟨h3, h4⟩ h5
 refine ⟨by omega, ?_⟩
 have : 0 < spn (v2 e.1 e.2) L := List.countP_pos_iff.2 ⟨e, he, by simp [inX, v2]⟩
 omega
def Small (n : Nat) (X Y : VS) : Prop := vsz n (vI X Y) ≤ 1
theorem spn_two {n : Nat} {X Y : VS} (h : Small n X Y) {e : Int × Int} (hb : Bok n e) : (inX X e && inX Y e) = false := by
 cases h1 : inX X e <;> cases h2 : inX Y e <;> try rfl
 exfalso
 simp only [inX, Bool.and_eq_true] at h1 h2
 obtain ⟨g1, g2, g3, g4, g5⟩ := hb
 have := countP_two (n := n) (X := vI X Y) ⟨g1, g2⟩ ⟨g3, g4⟩ g5 (by simp [vI, h1.1, h2.1]) (by simp [vI, h1.2, h2.2])
 unfold Small at h; omega
structure Fam (n : Nat) (L : List (Int × Int)) (F : List VS) : Prop where
 tgt : ∀ X ∈ F, Tgt n L X
 sml : F.Pairwise (Small n)
theorem fam_add {n : Nat} {L : List (Int × Int)} (hL : Spr n L) : ∀ (k : Nat) (F : List VS) (X : VS), F.length = k → Fam n L F → Tgt n L X →
  ∃ F', Fam n L F' ∧ (∃ Y ∈ F', ∀ e, inX X e = true → inX Y e = true) ∧ ∀ Z ∈ F, ∃ Y ∈ F', ∀ e, inX Z e = true → inX Y e = true := by
 intro k
 induction k with
 | zero =>
  intro F X hk hF hX
  have : F = [] := List.eq_nil_of_length_eq_zero hk
  subst this
  exact ⟨[X], ⟨by simpa using hX, by simp⟩, ⟨X, by simp, fun e he => he⟩, by simp⟩
 | succ k ih =>
  intro F X hk hF hX
  by_cases hbig : ∃ Y ∈ F, 2 ≤ vsz n (vI X Y)
  ·obtain ⟨Y, hY, h2⟩ := hbig
   obtain ⟨l1, l2, rfl⟩ := List.append_of_mem hY
   have hF' : Fam n L (l1 ++ l2) := by
    refine ⟨fun Z hZ => hF.tgt Z (by simp at hZ ⊢; rcases hZ with h | h <;> simp [h]), ?_⟩
    exact hF.sml.sublist (by simp)
   obtain ⟨F', g1, ⟨W, hW, g2⟩, g3⟩ := ih (l1 ++ l2) (vU X Y) (by simp at hk ⊢; omega) hF' (hX.union hL (hF.tgt Y hY) h2)
   refine ⟨F', g1, ⟨W, hW, fun e he => g2 e ?_⟩, fun Z hZ => ?_⟩
   ·simp only [inX, vU, Bool.and_eq_true, Bool.or_eq_true] at he ⊢
    exact ⟨.inl he.1, .inl he.2⟩
   ·have hc : Z = Y ∨ Z ∈ l1 ++ l2 := by
     simp at hZ ⊢
     rcases hZ with h | h | h
     ·exact .inr (.inl h)
     ·exact .inl h
     ·exact .inr (.inr h)
    rcases hc with rfl | hc
    ·refine ⟨W, hW, fun e he => g2 e ?_⟩
     simp only [inX, vU, Bool.and_eq_true, Bool.or_eq_true] at he ⊢
     exact ⟨.inr he.1, .inr he.2⟩
    ·exact g3 Z hc
  ·refine ⟨X :: F, ⟨fun Z hZ => ?_, List.pairwise_cons.2 ⟨fun Z hZ => ?_, hF.sml⟩⟩, ⟨X, by simp, fun e he => he⟩, fun Z hZ => ⟨Z, by simp [hZ], fun e he => he⟩⟩
   ·rcases List.mem_cons.1 hZ with rfl | h
    ·exact hX
    ·exact hF.tgt Z h
   ·unfold Small
    by_cases h : vsz n (vI X Z) ≤ 1
    ·exact h
    ·exact absurd ⟨Z, hZ, by omega⟩ hbig
theorem fam_all {n : Nat} {I : List (Int × Int)} (hI : Spr n I) : ∀ J : List (Int × Int), (∀ e ∈ J, ∃ X, Tgt n I X ∧ inX X e = true) → ∃ F, Fam n I F ∧ ∀ e ∈ J, ∃ Y ∈ F, inX Y e = true
 | [], _ => ⟨[], ⟨by simp, by simp⟩, by simp⟩
 | e :: J, h => by
  obtain ⟨F, h1, h2⟩ := fam_all hI J fun x hx => h x (by simp [hx])
  obtain ⟨X, hX, he⟩ := h e (by simp)
  obtain ⟨F', g1, ⟨Y, hY, g2⟩, g3⟩ := fam_add hI F.length F X rfl h1 hX
  refine ⟨F', g1, fun x hx => ?_⟩
  rcases List.mem_cons.1 hx with rfl | hx
  ·exact ⟨Y, hY, g2 _ he⟩
  ·obtain ⟨Z, hZ, h3⟩ := h2 x hx
   obtain ⟨W, hW, h4⟩ := g3 Z hZ
   exact ⟨W, hW, h4 x h3⟩
def sumS (F : List VS) (L : List (Int × Int)) : Nat := (F.map fun X => spn X L).sum
theorem sumS_cons (X : VS) (F : List VS) (L : List (Int × Int)) : sumS (X :: F) L = spn X L + sumS F L := by simp [sumS]
theorem cover_le {F : List VS} : ∀ {J : List (Int × Int)}, (∀ e ∈ J, ∃ Y ∈ F, inX Y e = true) → J.length ≤ sumS F J
 | [], _ => by simp
 | e :: J, h => by
  have ih := cover_le (F := F) (J := J) fun x hx => h x (by simp [hx])
  have key : ∀ F : List VS, sumS F (e :: J) = sumS F J + F.countP fun Y => inX Y e := by
   intro F
   induction F with
   | nil => simp [sumS]
   | cons X F ihF => rw [sumS_cons, sumS_cons, ihF, spn_cons, List.countP_cons]; split <;> omega
  rw [key]
  obtain ⟨Y, hY, he⟩ := h e (by simp)
  have : 0 < F.countP fun Y => inX Y e := List.countP_pos_iff.2 ⟨Y, hY, he⟩
  simp; omega
theorem fam_le {n : Nat} {F : List VS} (hF : F.Pairwise (Small n)) : ∀ {I : List (Int × Int)}, (∀ e ∈ I, Bok n e) → sumS F I ≤ I.length
 | [], _ => by
  have : ∀ F : List VS, sumS F [] = 0 := fun F => by induction F with | nil => rfl | cons X F ih => rw [sumS_cons, ih]; rfl
  rw [this]; simp
 | e :: I, h => by
  have ih := fam_le hF (I := I) fun x hx => h x (by simp [hx])
  have key : ∀ F : List VS, sumS F (e :: I) = sumS F I + F.countP fun Y => inX Y e := by
   intro F
   induction F with
   | nil => simp [sumS]
   | cons X F ihF => rw [sumS_cons, sumS_cons, ihF, spn_cons, List.countP_cons]; split <;> omega
  have one : ∀ F : List VS, F.Pairwise (Small n) → (F.countP fun Y => inX Y e) ≤ 1 := by
   intro F
   induction F with
   | nil => simp
   | cons X F ihF =>
    intro hp
    obtain ⟨h1, h2⟩ := List.pairwise_cons.1 hp
    rw [List.countP_cons]
    by_cases hx : inX X e = true
    ·have : (F.countP fun Y => inX Y e) = 0 := List.countP_eq_zero.2 fun Y hY hy => by
      have := spn_two (h1 Y hY) (h e (by simp))
      rw [hx, hy] at this; cases this
     rw [if_pos hx]; omega
    ·rw [if_neg hx]; exact ihF h2
  rw [key]
  have := one F hF
  simp; omega
theorem spr_le {n : Nat} {I J : List (Int × Int)} (hI : Spr n I) (hJ : Spr n J) (hb : ∀ e ∈ I, Bok n e) (h : ∀ e ∈ J, ∃ X, Tgt n I X ∧ inX X e = true) : J.length ≤ I.length := by
 obtain ⟨F, h1, h2⟩ := fam_all hI J h
 refine Nat.le_trans (cover_le h2) (Nat.le_trans ?_ (fam_le h1.sml hb))
 have key : ∀ F : List VS, (∀ X ∈ F, Tgt n I X) → sumS F J ≤ sumS F I := by
  intro F
  induction F with
  | nil => intro _; simp [sumS]
  | cons X F ih =>
   intro hF
   have := ih fun Z hZ => hF Z (by simp [hZ])
   have a1 := (hF X (by simp)).eq hI
   have a2 : spn X J ≤ spn X I := by
    by_cases h0 : 0 < spn X J
    ·have := hJ X h0; omega
    ·omega
   rw [sumS_cons, sumS_cons]; omega
 exact key F h1.tgt
structure Bas (n : Nat) (L I : List (Int × Int)) : Prop where
 mem : ∀ e ∈ I, e ∈ L
 spr : Spr n I
 spn : ∀ e ∈ L, ∃ X, Tgt n I X ∧ inX X e = true
theorem Bas.len {n : Nat} {L L' I J : List (Int × Int)} (hL : ∀ e ∈ L, Bok n e) (hI : Bas n L I) (hJ : Bas n L' J) (hm : ∀ e ∈ J, e ∈ L) : J.length ≤ I.length :=
 spr_le hI.spr hJ.spr (fun e he => hL e (hI.mem e he)) fun e he => hI.spn e (hm e he)
end Go.Proofs.Ytkklfgcelmeccaa
namespace Go.Proofs.Ytkklfgcelmeccaa
def oth (e : Int × Int) (v : Int) : Int := e.1 + e.2 - v
def fsum (X : VS) (f : List Int) : Nat → Int
 | 0 => 0
 | m + 1 => fsum X f m + (if X (m : Int) = true then f.getD m 0 else 0)
theorem vsz_succ (m : Nat) (X : VS) : vsz (m + 1) X = vsz m X + (if X (m : Int) = true then 1 else 0) := by
 simp [vsz, List.range_succ, List.countP_append, List.countP_cons]
def pB (X : VS) (m : Nat) (t : Int) : Bool := X t && decide (0 ≤ t) && decide (t < (m : Int))
theorem cnt_succ (X : VS) (m : Nat) : ∀ T : List Int, T.countP (pB X (m + 1)) = T.countP (pB X m) + (if X (m : Int) = true then T.count (m : Int) else 0)
 | [] => by simp
 | t :: T => by
  have ih := cnt_succ X m T
  rw [List.countP_cons, List.countP_cons, List.count_cons, ih]
  by_cases h : t = (m : Int)
  ·subst h
   have e1 : pB X (m + 1) (m : Int) = X (m : Int) := by
    have : decide ((m : Int) < ((m + 1 : Nat) : Int)) = true := decide_eq_true (by omega)
    have h0 : decide (0 ≤ (m : Int)) = true := decide_eq_true (by omega)
    unfold pB; rw [this, h0]; simp
   have e2 : pB X m (m : Int) = false := by
    have : decide ((m : Int) < (m : Int)) = false := decide_eq_false (by omega)
    unfold pB; rw [this]; simp
   rw [e1, e2]
   cases X (m : Int) <;> simp <;> omega
  ·have e1 : pB X (m + 1) t = pB X m t := by
    have : decide (t < ((m + 1 : Nat) : Int)) = decide (t < (m : Int)) := decide_eq_decide.2 (by omega)
    unfold pB; rw [this]
   have e2 : (t == (m : Int)) = false := by simpa using h
   rw [e1, e2]
   cases X (m : Int) <;> simp <;> omega
theorem fsum_eq {n : Nat} {X : VS} {f T : List Int} (h : ∀ v : Nat, v < n → f.getD v 0 + (T.count (v : Int) : Int) = 2) : ∀ m, m ≤ n → fsum X f m + (T.countP (pB X m) : Int) = 2 * (vsz m X : Int)
 | 0, _ => by
  have : T.countP (pB X 0) = 0 := List.countP_eq_zero.2 fun t _ ht => by simp only [pB, Bool.and_eq_true, decide_eq_true_eq] at ht; omega
  rw [this]; simp [fsum, vsz]
 | m + 1, hm => by
  have ih := fsum_eq (X := X) h m (by omega)
  have := h m (by omega)
  rw [fsum, cnt_succ, vsz_succ]
  split <;> push_cast <;> omega
theorem spn_tails (X : VS) : ∀ {E : List (Int × Int)} {T : List Int}, T.length = E.length → (∀ i, i < E.length → T.getD i 0 = (E.getD i (0, 0)).1 ∨ T.getD i 0 = (E.getD i (0, 0)).2) → spn X E ≤ T.countP X
 | [], _, _, _ => by simp [spn]
 | e :: E, [], h, _ => by simp at h
 | e :: E, t :: T, h, he => by
  have ih := spn_tails X (E := E) (T := T) (by simpa using h) fun i hi => by simpa using he (i + 1) (by simpa using hi)
  have h0 := he 0 (by simp)
  simp at h0
  rw [spn_cons, List.countP_cons]
  by_cases hx : inX X e = true
  ·have : X t = true := by
    simp only [inX, Bool.and_eq_true] at hx
    rcases h0 with rfl | rfl
    ·exact hx.1
    ·exact hx.2
   rw [if_pos hx, if_pos this]; omega
  ·rw [if_neg hx]; omega
theorem tails_spn (R : VS) : ∀ {E : List (Int × Int)} {T : List Int}, T.length = E.length → (∀ i, i < E.length → R (T.getD i 0) = true → inX R (E.getD i (0, 0)) = true) → T.countP R ≤ spn R E
 | [], T, h, _ => by
  have : T = [] := List.eq_nil_of_length_eq_zero (by simpa using h)
  subst this; simp [spn]
 | e :: E, [], h, _ => by simp at h
 | e :: E, t :: T, h, he => by
  have ih := tails_spn R (E := E) (T := T) (by simpa using h) fun i hi => by simpa using he (i + 1) (by simpa using hi)
  have h0 := he 0 (by simp)
  simp at h0
  rw [spn_cons, List.countP_cons]
  by_cases hx : R t = true
  ·rw [if_pos hx, if_pos (h0 hx)]; omega
  ·rw [if_neg hx]; omega
theorem fsum_ge {n : Nat} {X : VS} {f : List Int} {a b : Nat} (hab : a ≠ b) (ha : X (a : Int) = true) (hb : X (b : Int) = true) (nn : ∀ v : Nat, v < n → 0 ≤ f.getD v 0) : ∀ m, m ≤ n → (if a < m then f.getD a 0 else 0) + (if b < m then f.getD b 0 else 0) ≤ fsum X f m
 | 0, _ => by simp [fsum]
 | m + 1, hm => by
  have ih := fsum_ge hab ha hb nn m (by omega)
  have h0 := nn m (by omega)
  rw [fsum]
  by_cases h1 : a = m
  ·subst h1
   rw [if_pos ha]
   revert ih
   repeat' split
   all_goals (intro ih; omega)
  ·by_cases h2 : b = m
   ·subst h2
    rw [if_pos hb]
    revert ih
    repeat' split
    all_goals (intro ih; omega)
   ·revert ih
    repeat' split
    all_goals (intro ih; omega)
theorem fsum_le {n : Nat} {X : VS} {f : List Int} {a b : Nat} (hab : a ≠ b) (nn : ∀ v : Nat, v < n → 0 ≤ f.getD v 0) (hz : ∀ v : Nat, v < n → X (v : Int) = true → v ≠ a → v ≠ b → f.getD v 0 = 0) : ∀ m, m ≤ n → fsum X f m ≤ (if a < m then f.getD a 0 else 0) + (if b < m then f.getD b 0 else 0)
 | 0, _ => by simp [fsum]
 | m + 1, hm => by
  have ih := fsum_le hab nn hz m (by omega)
  have h0 := nn m (by omega)
  have hz := hz m (by omega)
  rw [fsum]
  by_cases h1 : a = m
  ·subst h1
   revert ih
   repeat' split
   all_goals (intro ih; omega)
  ·by_cases h2 : b = m
   ·subst h2
    revert ih
    repeat' split
    all_goals (intro ih; omega)
   ·by_cases hx : X (m : Int) = true
    ·have := hz hx (fun e => h1 e.symm) (fun e => h2 e.symm)
     rw [if_pos hx, this]
     revert ih
     repeat' split
     all_goals (intro ih; omega)
    ·rw [if_neg hx]
     revert ih
     repeat' split
     all_goals (intro ih; omega)
structure PInv (n : Nat) (E : List (Int × Int)) (f T : List Int) : Prop where
 fl : f.length = n
 tl : T.length = E.length
 ok : ∀ e ∈ E, Bok n e
 en : ∀ i, i < E.length → T.getD i 0 = (E.getD i (0, 0)).1 ∨ T.getD i 0 = (E.getD i (0, 0)).2
 nn : ∀ v : Nat, v < n → 0 ≤ f.getD v 0
 sm : ∀ v : Nat, v < n → f.getD v 0 + (T.count (v : Int) : Int) = 2
variable {n : Nat} {E : List (Int × Int)} {f T : List Int}
theorem getD_mem {α : Type} {l : List α} {i : Nat} {d : α} (h : i < l.length) : l.getD i d ∈ l := by
 rw [List.getD_eq_getElem?_getD, List.getElem?_eq_getElem h]; exact List.getElem_mem h
theorem PInv.tail (h : PInv n E f T) {i : Nat} (hi : i < E.length) : 0 ≤ T.getD i 0 ∧ T.getD i 0 < n := by
 obtain ⟨h1, h2, h3, h4, h5⟩ := h.ok _ (getD_mem (d := (0, 0)) hi)
 rcases h.en i hi with e | e <;> rw [e] <;> omega
theorem PInv.sum (h : PInv n E f T) (X : VS) : fsum X f n + (T.countP X : Int) = 2 * (vsz n X : Int) := by
 rw [← fsum_eq (X := X) h.sm n (Nat.le_refl _)]
 have : T.countP (pB X n) = T.countP X := List.countP_congr fun t ht => by
  obtain ⟨i, hi, e⟩ := List.mem_iff_getElem.1 ht
  have := h.tail (i := i) (h.tl ▸ hi)
  rw [List.getD_eq_getElem?_getD, List.getElem?_eq_getElem hi] at this
  simp only [Option.getD_some] at this
  rw [e] at this
  have e1 : decide (0 ≤ t) = true := decide_eq_true this.1
  have e2 : decide (t < (n : Int)) = true := decide_eq_true this.2
  unfold pB; rw [e1, e2]; simp
 rw [this]
theorem PInv.le2 (h : PInv n E f T) {v : Nat} (hv : v < n) : f.getD v 0 ≤ 2 := by have := h.sm v hv; omega
theorem PInv.acc (h : PInv n E f T) (hE : Spr n E) {a b : Int} (hb : Bok n (a, b)) (h4 : 4 ≤ f.getD a.toNat 0 + f.getD b.toNat 0) : Spr n (E ++ [(a, b)]) := by
 obtain ⟨h1, h2, h3, h5, h6⟩ := hb
 simp only at h1 h2 h3 h5 h6
 obtain ⟨a, rfl⟩ := Int.eq_ofNat_of_zero_le h1
 obtain ⟨b, rfl⟩ := Int.eq_ofNat_of_zero_le h3
 intro X hX
 rw [spn_append] at hX ⊢
 have e1 : spn X [((a : Int), (b : Int))] = if inX X ((a : Int), (b : Int)) = true then 1 else 0 := by rw [spn_cons]; simp [spn]
 rw [e1] at hX ⊢
 by_cases hin : inX X ((a : Int), (b : Int)) = true
 ·rw [if_pos hin]
  simp only [inX, Bool.and_eq_true] at hin
  have g1 := fsum_ge (n := n) (f := f) (fun e => h6 (by rw [e])) hin.1 hin.2 h.nn n (Nat.le_refl _)
  rw [if_pos (by omega), if_pos (by omega)] at g1
  have g2 := h.sum X
  have g3 := spn_tails X h.tl h.en
  simp only [Int.toNat_natCast] at h4
  have : (spn X E : Int) ≤ T.countP X := by exact_mod_cast g3
  omega
 ·rw [if_neg hin] at hX ⊢
  have := hE X (by omega)
  omega
theorem getD_app {α : Type} (l : List α) (x d : α) (i : Nat) : (l ++ [x]).getD i d = if i < l.length then l.getD i d else if i = l.length then x else d := by
 simp only [List.getD_eq_getElem?_getD, List.getElem?_append]
 split
 ·rfl
 ·by_cases h : i = l.length
  ·subst h; simp
  ·rw [if_neg h]
   have : ([x] : List α)[i - l.length]? = none := by simp; omega
   rw [this]; rfl
theorem getD_set {α : Type} (l : List α) (i j : Nat) (x d : α) : (l.set i x).getD j d = if i = j ∧ j < l.length then x else l.getD j d := by
 simp only [List.getD_eq_getElem?_getD, List.getElem?_set]
 by_cases h : i = j
 ·subst h
  by_cases h2 : i < l.length
  ·simp [h2]
  ·simp [h2]
 ·simp [h]
theorem PInv.put (h : PInv n E f T) {a b t : Int} (hb : Bok n (a, b)) (ht : t = a ∨ t = b) (hf : 1 ≤ f.getD t.toNat 0) : PInv n (E ++ [(a, b)]) (f.set t.toNat (f.getD t.toNat 0 - 1)) (T ++ [t]) := by
 obtain ⟨h1, h2, h3, h5, h6⟩ := id hb
 simp only at h1 h2 h3 h5 h6
 have ht0 : 0 ≤ t ∧ t < n := by rcases ht with rfl | rfl <;> omega
 obtain ⟨t, rfl⟩ := Int.eq_ofNat_of_zero_le ht0.1
 simp only [Int.toNat_natCast] at hf ⊢
 refine ⟨by simp [h.fl], by simp [h.tl], fun e he => ?_, fun i hi => ?_, fun v hv => ?_, fun v hv => ?_⟩
 ·rcases List.mem_append.1 he with he | he
  ·exact h.ok e he
  ·simp at he; subst he; exact hb
 ·simp at hi
  rw [getD_app, getD_app, h.tl]
  by_cases hl : i < E.length
  ·rw [if_pos hl, if_pos hl]; exact h.en i hl
  ·rw [if_neg hl, if_neg hl, if_pos (by omega), if_pos (by omega)]; exact ht
 ·rw [getD_set]
  have := h.nn v hv
  split
  ·omega
  ·exact this
 ·rw [getD_set, List.count_append]
  have := h.sm v hv
  have hl := h.fl
  by_cases e : t = v
  ·subst e
   have hc : List.count (t : Int) [(t : Int)] = 1 := by simp
   rw [if_pos ⟨rfl, by omega⟩, hc]
   push_cast
   omega
  ·have hc : List.count (v : Int) [(t : Int)] = 0 := List.count_eq_zero.2 fun hm => by simp at hm; omega
   rw [if_neg (fun h => e h.1), hc]
   push_cast
   omega
theorem PInv.rej (h : PInv n E f T) {R : VS} {a b : Int} (hb : Bok n (a, b)) (hcl : ∀ i, i < E.length → R (T.getD i 0) = true → inX R (E.getD i (0, 0)) = true) (ha : R a = true) (hb' : R b = true)
  (hz : ∀ v : Nat, v < n → R (v : Int) = true → (v : Int) ≠ a → (v : Int) ≠ b → f.getD v 0 = 0) (h3 : f.getD a.toNat 0 + f.getD b.toNat 0 ≤ 3) : Tgt n E R := by
 obtain ⟨g1, g2, g3, g4, g5⟩ := id hb
 simp only at g1 g2 g3 g4 g5
 refine ⟨countP_two ⟨g1, g2⟩ ⟨g3, g4⟩ g5 ha hb', ?_⟩
 obtain ⟨a, rfl⟩ := Int.eq_ofNat_of_zero_le g1
 obtain ⟨b, rfl⟩ := Int.eq_ofNat_of_zero_le g3
 have a1 := fsum_le (n := n) (X := R) (f := f) (a := a) (b := b) (fun e => g5 (by rw [e])) h.nn (fun v hv hx h1 h2 => hz v hv hx (by omega) (by omega)) n (Nat.le_refl _)
 rw [if_pos (by omega), if_pos (by omega)] at a1
 have a2 := h.sum R
 have a3 := tails_spn R h.tl hcl
 simp only [Int.toNat_natCast] at h3
 have : (T.countP R : Int) ≤ spn R E := by exact_mod_cast a3
 omega
end Go.Proofs.Ytkklfgcelmeccaa
namespace Go.Proofs.Ytkklfgcelmeccaa
variable {n : Nat} {E : List (Int × Int)} {f T : List Int} {a b : Int} {q : List Int} {fr : Int → Int} {k m : Nat}
structure BI (n : Nat) (E : List (Int × Int)) (T : List Int) (a : Int) (q : List Int) (fr : Int → Int) : Prop where
 hd : q.getD 0 0 = a
 pos : 0 < q.length
 nd : q.Nodup
 rg : ∀ v ∈ q, 0 ≤ v ∧ v < n
 st : ∀ j, 0 < j → j < q.length → ∃ j' i : Nat, j' < j ∧ i < E.length ∧ fr (q.getD j 0) = i ∧ T.getD i 0 = q.getD j' 0 ∧ oth (E.getD i (0, 0)) (T.getD i 0) = q.getD j 0
def BZ (f : List Int) (a b : Int) (q : List Int) : Prop := ∀ v ∈ q, v ≠ a → v ≠ b → f.getD v.toNat 0 = 0
def Done (E : List (Int × Int)) (T q : List Int) (k m : Nat) : Prop := (∀ j i : Nat, j < k → i < E.length → T.getD i 0 = q.getD j 0 → oth (E.getD i (0, 0)) (q.getD j 0) ∈ q) ∧ ∀ i : Nat, i < m → i < E.length → T.getD i 0 = q.getD k 0 → oth (E.getD i (0, 0)) (q.getD k 0) ∈ q
theorem BI.start (ha : 0 ≤ a ∧ a < n) : BI n E T a [a] fr := ⟨rfl, by simp, by simp, by simpa using ha, fun j h1 h2 => by simp at h2; omega⟩
theorem Done.start : Done E T q 0 0 := ⟨fun j i h => by omega, fun i h => by omega⟩
theorem nodup_le : ∀ {n : Nat} {q : List Int}, q.Nodup → (∀ v ∈ q, 0 ≤ v ∧ v < n) → q.length ≤ n
 | 0, q, _, hr => by
  cases q with
  | nil => simp
  | cons x q => have := hr x (by simp); omega
 | n + 1, q, hn, hr => by
  by_cases hm : (n : Int) ∈ q
  ·have ih := nodup_le (n := n) (hn.erase (n : Int)) fun v hv => by
    have := (hn.mem_erase_iff).1 hv
    have h2 := hr v this.2
    have := this.1
    omega
   rw [List.length_erase_of_mem hm] at ih
   omega
  ·have ih := nodup_le (n := n) hn fun v hv => by
    have h2 := hr v hv
    have : v ≠ (n : Int) := fun e => hm (e ▸ hv)
    omega
   omega
theorem BI.len (h : BI n E T a q fr) : q.length ≤ n := nodup_le h.nd h.rg
theorem getD_appl {α : Type} {l : List α} {x d : α} {i : Nat} (h : i < l.length) : (l ++ [x]).getD i d = l.getD i d := by rw [getD_app, if_pos h]
theorem BI.push (h : BI n E T a q fr) {k i : Nat} {v : Int} (hk : k < q.length) (hi : i < E.length) (ht : T.getD i 0 = q.getD k 0) (hv : oth (E.getD i (0, 0)) (q.getD k 0) = v) (hr : 0 ≤ v ∧ v < n) (hn : v ∉ q) {fr' : Int → Int} (h1 : fr' v = i) (h2 : ∀ w ∈ q, fr' w = fr w) : BI n E T a (q ++ [v]) fr' := by
 refine ⟨by rw [getD_appl h.pos]; exact h.hd, by simp, List.nodup_append.2 ⟨h.nd, by simp, fun x hx y hy e => hn ?_⟩, fun w hw => ?_, fun j hj hl => ?_⟩
 ·simp at hy; subst hy; subst e; exact hx
 ·rcases List.mem_append.1 hw with hw | hw
  ·exact h.rg w hw
  ·simp at hw; subst hw; exact hr
 ·by_cases e : j = q.length
  ·subst e
   refine ⟨k, i, hk, hi, ?_, ?_, ?_⟩
   ·rw [getD_app]; simp [h1]
   ·rw [getD_appl hk]; exact ht
   ·rw [ht, hv, getD_app]; simp
  ·have hj' : j < q.length := by simp at hl; omega
   obtain ⟨j', i', g1, g2, g3, g4, g5⟩ := h.st j hj hj'
   have hm : q.getD j 0 ∈ q := getD_mem hj'
   exact ⟨j', i', g1, g2, by rw [getD_appl hj', h2 _ hm]; exact g3, by rw [getD_appl (by omega)]; exact g4, by rw [getD_appl hj']; exact g5⟩
theorem BZ.push (h : BZ f a b q) {v : Int} (hv : v = b ∨ f.getD v.toNat 0 = 0) : BZ f a b (q ++ [v]) := fun w hw h1 h2 => by
 rcases List.mem_append.1 hw with hw | hw
 ·exact h w hw h1 h2
 ·simp at hw; subst hw; exact hv.resolve_left h2
theorem Done.push (h : Done E T q k m) {v : Int} (hk : k < q.length) : Done E T (q ++ [v]) k m := ⟨fun j i hj hi ht => by
 rw [getD_appl (by omega)] at ht ⊢
 exact List.mem_append.2 (.inl (h.1 j i hj hi ht)), fun i hm hi ht => by
 rw [getD_appl hk] at ht ⊢
 exact List.mem_append.2 (.inl (h.2 i hm hi ht))⟩
theorem Done.step (h : Done E T q k m) (hm : m < E.length → T.getD m 0 = q.getD k 0 → oth (E.getD m (0, 0)) (q.getD k 0) ∈ q) : Done E T q k (m + 1) := ⟨h.1, fun i hi hl ht => by
 by_cases e : i = m
 ·subst e; exact hm hl ht
 ·exact h.2 i (by omega) hl ht⟩
theorem Done.next (h : Done E T q k E.length) : Done E T q (k + 1) 0 := ⟨fun j i hj hi ht => by
 by_cases e : j = k
 ·subst e; exact h.2 i hi hi ht
 ·exact h.1 j i (by omega) hi ht, fun i h => by omega⟩
def Shut (n : Nat) (E : List (Int × Int)) (f T : List Int) (a b : Int) : Prop := ∃ R : VS, R a = true ∧ (∀ i, i < E.length → R (T.getD i 0) = true → R (oth (E.getD i (0, 0)) (T.getD i 0)) = true) ∧ ∀ v : Nat, v < n → R (v : Int) = true → (v : Int) ≠ a → (v : Int) ≠ b → f.getD v 0 = 0
theorem BI.shut (h : BI n E T a q fr) (hz : BZ f a b q) (hd : Done E T q k 0) (hk : q.length ≤ k) : Shut n E f T a b := by
 refine ⟨fun v => q.contains v, ?_, fun i hi hR => ?_, fun v hv hR h1 h2 => ?_⟩
 ·have : q.getD 0 0 ∈ q := getD_mem h.pos
  rw [h.hd] at this
  simpa using this
 ·have hR : T.getD i 0 ∈ q := by simpa using hR
  obtain ⟨j, hj, e⟩ := List.mem_iff_getElem.1 hR
  have e' : q.getD j 0 = T.getD i 0 := by rw [List.getD_eq_getElem?_getD, List.getElem?_eq_getElem hj]; exact e
  have := hd.1 j i (by omega) hi e'.symm
  rw [e'] at this
  simpa using this
 ·have := hz v (by simpa using hR) h1 h2
  simpa using this
theorem Shut.tgt (hp : PInv n E f T) (hb : Bok n (a, b)) (h1 : Shut n E f T a b) (h2 : Shut n E f T b a) (h3 : f.getD a.toNat 0 + f.getD b.toNat 0 ≤ 3) : ∃ X, Tgt n E X ∧ inX X (a, b) = true := by
 obtain ⟨R, r1, r2, r3⟩ := h1
 obtain ⟨S, s1, s2, s3⟩ := h2
 have both : ∀ (R : VS) i, i < E.length → R (T.getD i 0) = true → R (oth (E.getD i (0, 0)) (T.getD i 0)) = true → inX R (E.getD i (0, 0)) = true := by
  intro R i hi g1 g2
  simp only [inX, Bool.and_eq_true]
  rcases hp.en i hi with e | e
  ·rw [e] at g1 g2
   simp only [oth] at g2
   exact ⟨g1, by rwa [show (E.getD i (0, 0)).1 + (E.getD i (0, 0)).2 - (E.getD i (0, 0)).1 = (E.getD i (0, 0)).2 from by omega] at g2⟩
  ·rw [e] at g1 g2
   simp only [oth] at g2
   exact ⟨by rwa [show (E.getD i (0, 0)).1 + (E.getD i (0, 0)).2 - (E.getD i (0, 0)).2 = (E.getD i (0, 0)).1 from by omega] at g2, g1⟩
 refine ⟨vU R S, hp.rej hb (fun i hi hR => ?_) (by simp [vU, r1]) (by simp [vU, s1]) (fun v hv hR g1 g2 => ?_) h3, by simp [inX, vU, r1, s1]⟩
 ·simp only [vU, Bool.or_eq_true] at hR
  rcases hR with hR | hR
  ·have := both R i hi hR (r2 i hi hR)
   simp only [inX, vU, Bool.and_eq_true, Bool.or_eq_true] at this ⊢
   exact ⟨.inl this.1, .inl this.2⟩
  ·have := both S i hi hR (s2 i hi hR)
   simp only [inX, vU, Bool.and_eq_true, Bool.or_eq_true] at this ⊢
   exact ⟨.inr this.1, .inr this.2⟩
 ·simp only [vU, Bool.or_eq_true] at hR
  rcases hR with hR | hR
  ·exact r3 v hv hR g1 g2
  ·exact s3 v hv hR g2 g1
structure Mv (E : List (Int × Int)) (T T' : List Int) (u at' : Int) : Prop where
 len : T'.length = T.length
 en : ∀ i, i < E.length → T'.getD i 0 = (E.getD i (0, 0)).1 ∨ T'.getD i 0 = (E.getD i (0, 0)).2
 cnt : ∀ v : Int, (T'.count v : Int) + (if v = at' then 1 else 0) = T.count v + (if v = u then 1 else 0)
theorem count_set' {l : List Int} {i : Nat} (h : i < l.length) (x v : Int) : ((l.set i x).count v : Int) = l.count v - (if l.getD i 0 = v then 1 else 0) + (if x = v then 1 else 0) := by
 induction l generalizing i with
 | nil => simp at h
 | cons y l ih =>
  cases i with
  | zero => simp [List.count_cons]; split <;> split <;> omega
  | succ i =>
   have := ih (i := i) (by simpa using h)
   simp only [List.set_cons_succ, List.count_cons, List.getD_cons_succ]
   push_cast
   omega
theorem BI.back (h : BI n E T a q fr) (hp : PInv n E f T) {u : Int} {j : Nat} (hj : 0 < j) (hl : j < q.length) {T' : List Int} (hm : Mv E T T' u (q.getD j 0)) (hun : ∀ j', 0 < j' → j' ≤ j → T'.getD (fr (q.getD j' 0)).toNat 0 = T.getD (fr (q.getD j' 0)).toNat 0) :
  ∃ j' i : Nat, j' < j ∧ i < E.length ∧ fr (q.getD j 0) = i ∧ oth (E.getD i (0, 0)) (q.getD j 0) = q.getD j' 0 ∧ T'.getD i 0 = q.getD j' 0 ∧ Mv E T (T'.set i (q.getD j 0)) u (q.getD j' 0) ∧ ∀ j'', 0 < j'' → j'' ≤ j' → (T'.set i (q.getD j 0)).getD (fr (q.getD j'' 0)).toNat 0 = T.getD (fr (q.getD j'' 0)).toNat 0 := by
 obtain ⟨j', i, g1, g2, g3, g4, g5⟩ := h.st j hj hl
 have e1 := hun j hj (Nat.le_refl _)
 rw [g3, Int.toNat_natCast, g4] at e1
 have e2 : oth (E.getD i (0, 0)) (q.getD j 0) = q.getD j' 0 := by rw [← g5, ← g4]; simp only [oth]; omega
 have hiT : i < T'.length := by rw [hm.len, hp.tl]; exact g2
 refine ⟨j', i, g1, g2, g3, e2, e1, ⟨by simp [hm.len], fun i' hi' => ?_, fun v => ?_⟩, fun j'' h1 h2 => ?_⟩
 ·rw [getD_set]
  by_cases e : i = i' ∧ i' < T'.length
  ·rw [if_pos e, ← e.1]
   rcases hp.en i g2 with t | t
   ·right; rw [← g5, t]; simp only [oth]; omega
   ·left; rw [← g5, t]; simp only [oth]; omega
  ·rw [if_neg e]; exact hm.en i' hi'
 ·have c1 := hm.cnt v
  rw [count_set' hiT, e1]
  revert c1
  generalize (T'.count v : Int) = x
  generalize (T.count v : Int) = y
  intro c1
  have s1 : (if q.getD j' 0 = v then (1 : Int) else 0) = if v = q.getD j' 0 then 1 else 0 := by split <;> split <;> simp_all
  have s2 : (if q.getD j 0 = v then (1 : Int) else 0) = if v = q.getD j 0 then 1 else 0 := by split <;> split <;> simp_all
  rw [s1, s2]
  omega
 ·obtain ⟨j3, i3, k1, k2, k3, k4, k5⟩ := h.st j'' h1 (by omega)
  have hne : i ≠ i3 := by
   rintro rfl
   have : q.getD j'' 0 = q.getD j 0 := by rw [← k5, ← g5]
   have hj'' : j'' < q.length := by omega
   rw [List.getD_eq_getElem?_getD, List.getD_eq_getElem?_getD, List.getElem?_eq_getElem hj'', List.getElem?_eq_getElem hl] at this
   have := (List.getElem_inj h.nd).1 this
   omega
  rw [k3, Int.toNat_natCast, getD_set, if_neg (fun e => hne e.1)]
  have := hun j'' h1 (by omega)
  rwa [k3, Int.toNat_natCast] at this
theorem Mv.start (hp : PInv n E f T) (u : Int) : Mv E T T u u := ⟨rfl, hp.en, fun v => rfl⟩
structure Won (n : Nat) (E : List (Int × Int)) (f f' T' : List Int) (a b : Int) : Prop where
 inv : PInv n E f' T'
 up : f'.getD a.toNat 0 = f.getD a.toNat 0 + 1
 keep : f'.getD b.toNat 0 = f.getD b.toNat 0
def fMove (f : List Int) (u a : Int) : List Int := (f.set u.toNat (f.getD u.toNat 0 - 1)).set a.toNat ((f.set u.toNat (f.getD u.toNat 0 - 1)).getD a.toNat 0 + 1)
theorem Mv.won (hp : PInv n E f T) {u : Int} {T' : List Int} (hm : Mv E T T' u a) (ha : 0 ≤ a ∧ a < n) (hu : 0 ≤ u ∧ u < n) (hb : 0 ≤ b ∧ b < n) (hua : u ≠ a) (hub : u ≠ b) (hab : a ≠ b) (hf : 1 ≤ f.getD u.toNat 0) : Won n E f (fMove f u a) T' a b := by
 obtain ⟨a, rfl⟩ := Int.eq_ofNat_of_zero_le ha.1
 obtain ⟨u, rfl⟩ := Int.eq_ofNat_of_zero_le hu.1
 obtain ⟨b, rfl⟩ := Int.eq_ofNat_of_zero_le hb.1
 have hl := hp.fl
 have key : ∀ v : Nat, v < n → (fMove f u a).getD v 0 = f.getD v 0 - (if v = u then 1 else 0) + (if v = a then 1 else 0) := by
  intro v hv
  simp only [fMove, Int.toNat_natCast] at hf ⊢
  rw [getD_set, getD_set, getD_set]
  simp only [List.length_set]
  have hua' : u ≠ a := fun e => hua (by rw [e])
  by_cases h1 : v = a
  ·subst h1
   have e1 : (if v = u then (1 : Int) else 0) = 0 := if_neg fun e => hua' e.symm
   rw [e1, if_pos ⟨rfl, by omega⟩, if_neg (fun h => hua' h.1), if_pos rfl]
   omega
  ·have e1 : (if v = a then (1 : Int) else 0) = 0 := if_neg h1
   rw [e1, if_neg (fun h => h1 h.1.symm)]
   by_cases h2 : v = u
   ·subst h2
    rw [if_pos ⟨rfl, by omega⟩, if_pos rfl]; omega
   ·rw [if_neg (fun h => h2 h.1.symm), if_neg h2]; omega
 refine ⟨⟨by simp [fMove, hl], hm.len.trans hp.tl, hp.ok, hm.en, fun v hv => ?_, fun v hv => ?_⟩, ?_, ?_⟩
 ·rw [key v hv]
  have := hp.nn v hv
  simp only [Int.toNat_natCast] at hf
  by_cases h1 : v = u
  ·subst h1; split <;> split <;> omega
  ·rw [if_neg h1]; split <;> omega
 ·rw [key v hv]
  have c := hm.cnt (v : Int)
  have s := hp.sm v hv
  have s1 : (if (v : Int) = (a : Int) then (1 : Int) else 0) = if v = a then 1 else 0 := by split <;> split <;> omega
  have s2 : (if (v : Int) = (u : Int) then (1 : Int) else 0) = if v = u then 1 else 0 := by split <;> split <;> omega
  rw [s1, s2] at c
  omega
 ·simp only [Int.toNat_natCast]
  rw [key a (by omega), if_neg (by omega), if_pos rfl]; omega
 ·simp only [Int.toNat_natCast]
  rw [key b (by omega), if_neg (by omega), if_neg (by omega)]; omega
end Go.Proofs.Ytkklfgcelmeccaa
namespace Go.Proofs.Ytkklfgcelmeccaa
variable {R σ : Type}
theorem srchA {F : Nat → Int → Option R} {len : Nat} {ok : Nat → Bool} {bad fin : Option R}
  (hs : ∀ n i : Nat, i < len → (∀ j, j < i → ok j = true) → F (n + 1) (i : Int) = cnd (ok i) (F n ((i + 1 : Nat) : Int)) bad) (hf : ∀ n : Nat, (∀ j, j < len → ok j = true) → F (n + 1) (len : Int) = fin) :
  ∀ n i : Nat, i ≤ len → len < n + i → (∀ j, j < i → ok j = true) → F n (i : Int) = cnd ((List.range len).all ok) fin bad := by
 intro n
 induction n with
 | zero => intro i h1 h2; omega
 | succ n ih =>
  intro i h1 h2 h3
  by_cases hi : i < len
  ·rw [hs n i hi h3]
   cases ho : ok i with
   | true =>
    exact ih (i + 1) (by omega) (by omega) fun j hj => by
     rcases Nat.lt_or_ge j i with h | h
     ·exact h3 j h
     ·rw [show j = i by omega]; exact ho
   | false =>
    have : (List.range len).all ok = false := by
     rw [List.all_eq_false]; exact ⟨i, by simpa using hi, by simp [ho]⟩
    rw [this]; rfl
  ·obtain rfl : i = len := by omega
   rw [hf n h3]
   have : (List.range i).all ok = true := by
    rw [List.all_eq_true]; intro j hj; exact h3 j (by simpa using hj)
   rw [this]; rfl
theorem srch {F : Nat → Int → Option R} {N len : Nat} {ok : Nat → Bool} {bad fin : Option R} (hN : len < N)
  (hs : ∀ n i : Nat, i < len → (∀ j, j < i → ok j = true) → F (n + 1) (i : Int) = cnd (ok i) (F n ((i + 1 : Nat) : Int)) bad) (hf : ∀ n : Nat, (∀ j, j < len → ok j = true) → F (n + 1) (len : Int) = fin) :
  F N (0 : Int) = cnd ((List.range len).all ok) fin bad :=
 srchA hs hf N 0 (by omega) (by omega) (by omega)
theorem srch1 {F : Nat → Int → Option R} {N len : Nat} {ok : Nat → Bool} {bad fin : Option R} (hN : len + 1 < N) (h0 : ok 0 = true)
  (hs : ∀ n i : Nat, 0 < i → i < len → F (n + 1) (i : Int) = cnd (ok i) (F n ((i + 1 : Nat) : Int)) bad) (hf : ∀ n i : Nat, len ≤ i → F (n + 1) (i : Int) = fin) :
  F N (1 : Int) = cnd ((List.range len).all ok) fin bad := by
 have key : ∀ n i : Nat, 0 < i → i ≤ len + 1 → len + 1 < n + i → (∀ j, j < i → j < len → ok j = true) → F n (i : Int) = cnd ((List.range len).all ok) fin bad := by
  intro n
  induction n with
  | zero => intro i h1 h2 h3 h4; omega
  | succ n ih =>
   intro i h1 h4 h2 h3
   by_cases hi : i < len
   ·rw [hs n i h1 hi]
    cases ho : ok i with
    | true =>
     exact ih (i + 1) (by omega) (by omega) (by omega) fun j hj hl => by
      rcases Nat.lt_or_ge j i with h | h
      ·exact h3 j h hl
      ·rw [show j = i by omega]; exact ho
    | false =>
     have : (List.range len).all ok = false := by
      rw [List.all_eq_false]; exact ⟨i, by simpa using hi, by simp [ho]⟩
     rw [this]; rfl
   ·rw [hf n i (by omega)]
    have : (List.range len).all ok = true := by
     rw [List.all_eq_true]; intro j hj; exact h3 j (by have := List.mem_range.1 hj; omega) (by simpa using hj)
    rw [this]; rfl
 exact key N 1 (by omega) (by omega) (by omega) fun j hj _ => by rw [show j = 0 by omega]; exact h0
theorem foldA {F : Nat → σ × Int → Option R} {len : Nat} {st : Nat → σ} {fin : Option R} (hs : ∀ n i : Nat, i < len → F (n + 1) (st i, (i : Int)) = F n (st (i + 1), ((i + 1 : Nat) : Int))) (hf : ∀ n : Nat, F (n + 1) (st len, (len : Int)) = fin) :
  ∀ n i : Nat, i ≤ len → len < n + i → F n (st i, (i : Int)) = fin := by
 intro n
 induction n with
 | zero => intro i h1 h2; omega
 | succ n ih =>
  intro i h1 h2
  by_cases hi : i < len
  ·rw [hs n i hi]; exact ih (i + 1) (by omega) (by omega)
  ·obtain rfl : i = len := by omega
   exact hf n
theorem fold {F : Nat → σ × Int → Option R} {N len : Nat} {st : Nat → σ} {fin : Option R} (hN : len < N) (hs : ∀ n i : Nat, i < len → F (n + 1) (st i, (i : Int)) = F n (st (i + 1), ((i + 1 : Nat) : Int))) (hf : ∀ n : Nat, F (n + 1) (st len, (len : Int)) = fin) :
  F N (st 0, (0 : Int)) = fin := foldA hs hf N 0 (by omega) (by omega)
theorem cnd_congr {α : Type} {a b : Bool} (h : a = b) (x y : α) : cnd a x y = cnd b x y := by rw [h]
theorem cnd_congr' {α : Type} {a b : Bool} (h : a = !b) (x y : α) : cnd a x y = cnd b y x := by subst h; cases b <;> rfl
theorem succ_cast (i : Nat) : ((i : Int) + 1) = ((i + 1 : Nat) : Int) := rfl
theorem range_all_not_contains (l : List Int) (x : Int) : ((List.range l.length).all fun i => !(l.getD i 0 == x)) = !l.contains x := by
 rw [Bool.eq_iff_iff, List.all_eq_true]
 simp only [List.mem_range, Bool.not_eq_true', beq_eq_false_iff_ne, List.contains_eq_mem, decide_eq_false_iff_not]
 constructor
 ·intro h hx
  obtain ⟨i, hi, he⟩ := List.mem_iff_getElem.1 hx
  exact h i hi (by simp [List.getD_eq_getElem?_getD, hi, he])
 ·intro h i hi he
  exact h (List.mem_iff_getElem.2 ⟨i, hi, by simpa [List.getD_eq_getElem?_getD, hi] using he⟩)
end Go.Proofs.Ytkklfgcelmeccaa
namespace Go.Proofs.Ytkklfgcelmeccaa
open Go.RowKit
def S_l4Copy (N : Nat) (p_0 : Pbl) : Option (Pbl) :=
 grd (p_0.free.length ≤ 4294967296) <|
 grd (p_0.tails.length ≤ 4294967296) <|
 grd (p_0.placed.length ≤ 4294967296) <|
 some (⟨(([] : List Int) ++ p_0.free), (([] : List Int) ++ p_0.tails), (([] : List Int) ++ p_0.placed)⟩ : Pbl)
set_option maxRecDepth 20000 in
set_option maxHeartbeats 1600000 in
theorem S_l4Copy_w (N : Nat) (p_0 : Pbl) (r : Pbl) (h : S_l4Copy N p_0 = some r) : PCall Try.prog 149 [bD p_0] [(3, .ints r.free), (3, .ints r.tails), (3, .ints r.placed)] (.agg [.row 0 0 r.free.length, .row 1 0 r.tails.length, .row 2 0 r.placed.length]) := by
 unfold S_l4Copy at h
 refine pcall_intro (TT := TT) tt Try.func149 rfl rfl Try.ntmps149 (congrArg Array.toList Try.results149) rfl rfl fun w0 => ?_
 refine vSeq ?_
 refine vRegion ?_
 refine oBox rfl rfl rfl rfl rfl rfl rfl rfl rfl ?_
 refine oAlloc tt rfl rfl rfl rfl rfl rfl rfl rfl rfl ?_
 refine vNil ?_
 change VC _ _ _ _
 refine vSeq ?_
 refine vRegionN 11 [3, 7] [0, 0, 2, 7, 0, 0, 32, 127, 0, 0, 512, 2047, 4095, 8191] (by kernel_rfl) (by kernel_rfl) (by kernel_rfl) (by kernel_rfl) (by kernel_rfl) rfl (by rfl) ?_
 refine nEmpty tt (wNone rfl) rfl rfl rfl rfl rfl ?_
 iterate 2 refine nVal tt rfl (wNone rfl) rfl rfl rfl rfl rfl trivial ?_
 obtain ⟨hg1, h⟩ := grd_inv h
 refine nAppNil tt (wNone rfl) rfl rfl rfl rfl rfl rfl rfl rfl (fun _ => rfl) rfl rfl rfl rfl rfl rfl hg1 ?_
 refine nEmpty tt (wNone rfl) rfl rfl rfl rfl rfl ?_
 iterate 2 refine nVal tt rfl (wNone rfl) rfl rfl rfl rfl rfl trivial ?_
 obtain ⟨hg2, h⟩ := grd_inv h
 refine nAppNil tt (wNone rfl) rfl rfl rfl rfl rfl rfl rfl rfl (fun _ => rfl) rfl rfl rfl rfl rfl rfl hg2 ?_
 refine nEmpty tt (wNone rfl) rfl rfl rfl rfl rfl ?_
 iterate 2 refine nVal tt rfl (wNone rfl) rfl rfl rfl rfl rfl trivial ?_
 refine nNil ?_
 change VO _ _ _ _ _
 obtain ⟨hg3, h⟩ := grd_inv h
 refine oAppNil tt (wNone rfl) rfl rfl rfl rfl rfl rfl rfl (fun _ => rfl) rfl rfl rfl rfl rfl hg3 ?_
 refine oPure (wNone rfl) (pBuild bld_impl_Pebbles rfl rfl) rfl rfl ?_
 refine oStore tt rfl rfl rfl rfl rfl rfl rfl rfl rfl rfl rfl ⟨trivial, trivial, trivial, trivial⟩ ?_
 refine vNil ?_
 change VC _ _ _ _
 refine vRet ?_
 change ∃ _, _
 cases h
 exact ⟨[6, 10, 14], _, rfl, ⟨rfl, rfl, rfl, trivial⟩, rfl, (.eq rfl), rfl⟩
def S_l4Shift_l1 (N : Nat) (g_0 : Grf) (p_1 : Pbl) (from_2 : List Int) (a_3 : Int) (v1 : Pbl) (k : (List Int) → Option (Pbl)) : Nat → ((List Int) × Int) → Option (Pbl)
 | 0, _ => none
 | n + 1, (l10, at11) =>
  cnd (at11 != a_3) (
   grd (0 ≤ at11 ∧ at11 < (from_2.length : Int)) <|
   grd (0 ≤ (from_2.getD ((at11).toNat) 0) ∧ (from_2.getD ((at11).toNat) 0) < (p_1.placed.length : Int)) <|
   grd (0 ≤ (p_1.placed.getD (((from_2.getD ((at11).toNat) 0)).toNat) 0) ∧ (p_1.placed.getD (((from_2.getD ((at11).toNat) 0)).toNat) 0) < (g_0.bars.length : Int)) <|
   (S_l4Other N (g_0.bars.getD (((p_1.placed.getD (((from_2.getD ((at11).toNat) 0)).toNat) 0)).toNat) (0, 0)) at11).bind fun v13 =>
   grd (0 ≤ (from_2.getD ((at11).toNat) 0) ∧ (from_2.getD ((at11).toNat) 0) < (v1.tails.length : Int)) <|
   grd (0 ≤ (from_2.getD ((at11).toNat) 0) ∧ (from_2.getD ((at11).toNat) 0) < (l10.length : Int)) <|
   S_l4Shift_l1 N g_0 p_1 from_2 a_3 v1 k n ((l10.set (((from_2.getD ((at11).toNat) 0)).toNat) at11), v13)) (
   k l10)
def S_l4Shift (N : Nat) (g_0 : Grf) (p_1 : Pbl) (from_2 : List Int) (a_3 : Int) (u_4 : Int) : Option (Pbl) :=
 (S_l4Copy N p_1).bind fun v1 =>
 grd (0 ≤ u_4 ∧ u_4 < (v1.free.length : Int)) <|
 grd (Rg64 ((v1.free.getD ((u_4).toNat) 0) - (1 : Int))) <|
 grd (0 ≤ a_3 ∧ a_3 < (v1.free.length : Int)) <|
 grd (0 ≤ a_3 ∧ a_3 < ((v1.free.set ((u_4).toNat) ((v1.free.getD ((u_4).toNat) 0) - (1 : Int))).length : Int)) <|
 grd (Rg64 (((v1.free.set ((u_4).toNat) ((v1.free.getD ((u_4).toNat) 0) - (1 : Int))).getD ((a_3).toNat) 0) + (1 : Int))) <|
 S_l4Shift_l1 N g_0 p_1 from_2 a_3 v1 (fun (l7 : List Int) =>
    grd (v1.free.length = ((v1.free.set ((u_4).toNat) ((v1.free.getD ((u_4).toNat) 0) - (1 : Int))).set ((a_3).toNat) (((v1.free.set ((u_4).toNat) ((v1.free.getD ((u_4).toNat) 0) - (1 : Int))).getD ((a_3).toNat) 0) + (1 : Int))).length) <|
    grd (v1.tails.length = l7.length) <|
    some (⟨((v1.free.set ((u_4).toNat) ((v1.free.getD ((u_4).toNat) 0) - (1 : Int))).set ((a_3).toNat) (((v1.free.set ((u_4).toNat) ((v1.free.getD ((u_4).toNat) 0) - (1 : Int))).getD ((a_3).toNat) 0) + (1 : Int))), l7, v1.placed⟩ : Pbl)) N (v1.tails, u_4)
set_option maxRecDepth 20000 in
set_option maxHeartbeats 1600000 in
theorem S_l4Shift_w (N : Nat) (g_0 : Grf) (p_1 : Pbl) (from_2 : List Int) (a_3 : Int) (u_4 : Int) (r : Pbl) (h : S_l4Shift N g_0 p_1 from_2 a_3 u_4 = some r) : PCall Try.prog 160 [gD g_0, bD p_1, .ro false (.ints from_2), .int a_3, .int u_4] [(3, .ints r.free), (3, .ints r.tails), (3, .ints r.placed)] (.agg [.row 0 0 r.free.length, .row 1 0 r.tails.length, .row 2 0 r.placed.length]) := by
 unfold S_l4Shift at h
 refine pcall_intro (TT := TT) tt Try.func160 rfl rfl Try.ntmps160 (congrArg Array.toList Try.results160) rfl rfl fun w0 => ?_
 refine vSeq ?_
 refine vRegion ?_
 iterate 2 refine oBox rfl rfl rfl rfl rfl rfl rfl rfl rfl ?_
 refine oAlloc tt rfl rfl rfl rfl rfl rfl rfl rfl rfl ?_
 refine vNil ?_
 change VC _ _ _ _
 refine vSeq ?_
 refine vRegion ?_
 refine oVal tt rfl rfl rfl rfl rfl trivial ?_
 obtain ⟨v1, hc1, h⟩ := bind_inv h
 refine oCall (S_l4Copy_w N p_1 v1 hc1) rfl rfl rfl rfl rfl rfl rfl rfl ⟨⟨rfl, rfl, rfl, trivial⟩, trivial⟩ ?_
 refine oAlloc tt rfl rfl rfl rfl rfl rfl rfl rfl rfl ?_
 refine oStore tt rfl rfl rfl rfl rfl rfl rfl rfl rfl rfl rfl ⟨trivial, trivial, trivial, trivial⟩ ?_
 refine vNil ?_
 change VC _ _ _ _
 refine vSeq ?_
 refine vRegionN 9 [] [0, 1, 0, 0, 8, 0, 56, 120, 248, 511, 1023] (by kernel_rfl) (by kernel_rfl) (by kernel_rfl) (by kernel_rfl) (by kernel_rfl) rfl (by rfl) ?_
 iterate 6 refine nVal tt rfl (wNone rfl) rfl rfl rfl rfl rfl trivial ?_
 obtain ⟨hg2, h⟩ := grd_inv h
 iterate 2 refine nVal tt rfl (wNone rfl) rfl rfl rfl rfl rfl hg2 ?_
 obtain ⟨hg3, h⟩ := grd_inv h
 refine nVal tt rfl (wNone rfl) rfl rfl rfl rfl rfl hg3 ?_
 refine nNil ?_
 change VO _ _ _ _ _
 refine oVal tt rfl rfl rfl rfl rfl hg2 ?_
 refine oStore tt rfl rfl rfl rfl rfl rfl rfl rfl rfl rfl ⟨_, _, rfl, hg2.1, hg2.2⟩ ⟨hg2, trivial⟩ ?_
 refine vNil ?_
 change VC _ _ _ _
 refine vSeq ?_
 refine vRegionN 9 [] [0, 1, 0, 0, 8, 0, 56, 120, 248, 511, 1023] (by kernel_rfl) (by kernel_rfl) (by kernel_rfl) (by kernel_rfl) (by kernel_rfl) rfl (by rfl) ?_
 iterate 6 refine nVal tt rfl (wNone rfl) rfl rfl rfl rfl rfl trivial ?_
 obtain ⟨hg4, h⟩ := grd_inv h
 refine nVal tt rfl (wNone rfl) rfl rfl rfl rfl rfl hg4 ?_
 obtain ⟨hg5, h⟩ := grd_inv h
 refine nVal tt rfl (wNone rfl) rfl rfl rfl rfl rfl hg5 ?_
 obtain ⟨hg6, h⟩ := grd_inv h
 refine nVal tt rfl (wNone rfl) rfl rfl rfl rfl rfl hg6 ?_
 refine nNil ?_
 change VO _ _ _ _ _
 refine oVal tt rfl rfl rfl rfl rfl hg4 ?_
 refine oStore tt rfl rfl rfl rfl rfl rfl rfl rfl rfl rfl ⟨_, _, rfl, hg5.1, hg5.2⟩ ⟨hg5, trivial⟩ ?_
 refine vNil ?_
 change VC _ _ _ _
 refine vSeq ?_
 refine vRegion ?_
 iterate 2 refine oVal tt rfl rfl rfl rfl rfl trivial ?_
 refine vNil ?_
 change VC _ _ _ _
 refine vSeq ?_
 refine vJoin (F := fun k => S_l4Shift_l1 N g_0 p_1 from_2 a_3 v1 k) h (α := List Int) (J := fun (l7 : List Int) => (⟨[(10, .ptr 10 0), (11, .ptr 11 0)], [(1160, some (3, .ints ((v1.free.set ((u_4).toNat) ((v1.free.getD ((u_4).toNat) 0) - (1 : Int))).set ((a_3).toNat) (((v1.free.set ((u_4).toNat) ((v1.free.getD ((u_4).toNat) 0) - (1 : Int))).getD ((a_3).toNat) 0) + (1 : Int))))), (1161, some (3, .ints l7)), (1162, some (3, .ints v1.placed))], [(10, some [.nil, .nil, .nil]), (11, some [.row 1160 0 v1.free.length, .row 1161 0 v1.tails.length, .row 1162 0 v1.placed.length])]⟩ : PS)) ?_ ?_
 ·rintro l7 h
  show VC _ _ _ (⟨[(10, .ptr 10 0), (11, .ptr 11 0)], [(1160, some (3, .ints ((v1.free.set ((u_4).toNat) ((v1.free.getD ((u_4).toNat) 0) - (1 : Int))).set ((a_3).toNat) (((v1.free.set ((u_4).toNat) ((v1.free.getD ((u_4).toNat) 0) - (1 : Int))).getD ((a_3).toNat) 0) + (1 : Int))))), (1161, some (3, .ints l7)), (1162, some (3, .ints v1.placed))], [(10, some [.nil, .nil, .nil]), (11, some [.row 1160 0 v1.free.length, .row 1161 0 v1.tails.length, .row 1162 0 v1.placed.length])]⟩ : PS)
  refine vSeq ?_
  refine vRegion ?_
  refine oVal tt rfl rfl rfl rfl rfl trivial ?_
  refine oStore tt rfl rfl rfl rfl rfl rfl rfl rfl rfl rfl rfl ⟨trivial, trivial, trivial, trivial⟩ ?_
  refine vNil ?_
  change VC _ _ _ _
  obtain ⟨hg7, h⟩ := grd_inv h
  obtain ⟨hg8, h⟩ := grd_inv h
  refine vRet ?_
  change ∃ _, _
  cases h
  exact ⟨[1160, 1161, 1162], _, rfl, ⟨rfl, rfl, rfl, trivial⟩, rfl, (.eq (by simp only [hg7, hg8]; rfl)), rfl⟩
 ·intro k h
  refine vBlock ?_
  refine vLoopS (α := (List Int) × Int) (fun | (l10, at11) => (⟨[(2, .ro false (.ints from_2)), (3, .int a_3), (5, .ptr 5 0), (6, .ptr 6 0), (10, .ptr 10 0), (11, .ptr 11 0), (12, .int at11)], [(1160, some (3, .ints ((v1.free.set ((u_4).toNat) ((v1.free.getD ((u_4).toNat) 0) - (1 : Int))).set ((a_3).toNat) (((v1.free.set ((u_4).toNat) ((v1.free.getD ((u_4).toNat) 0) - (1 : Int))).getD ((a_3).toNat) 0) + (1 : Int))))), (1161, some (3, .ints l10)), (1162, some (3, .ints v1.placed))], [(5, some [.int g_0.n, .ro false (.pairs g_0.bars)]), (6, some [.ro false (.ints p_1.free), .ro false (.ints p_1.tails), .ro false (.ints p_1.placed)]), (10, some [.nil, .nil, .nil]), (11, some [.row 1160 0 v1.free.length, .row 1161 0 v1.tails.length, .row 1162 0 v1.placed.length])]⟩ : PS)) (S_l4Shift_l1 N g_0 p_1 from_2 a_3 v1 k) h (En.of ⟨rfl, rfl, rfl, rfl, rfl, rfl, rfl, trivial⟩ ⟨rfl, rfl, rfl, trivial⟩ ⟨rfl, rfl, rfl, rfl, trivial⟩) (fun _ => rfl) ?_
  rintro n ⟨l10, at11⟩ h
  rw [S_l4Shift_l1] at h
  show VC _ _ _ (⟨[(2, .ro false (.ints from_2)), (3, .int a_3), (5, .ptr 5 0), (6, .ptr 6 0), (10, .ptr 10 0), (11, .ptr 11 0), (12, .int at11)], [(1160, some (3, .ints ((v1.free.set ((u_4).toNat) ((v1.free.getD ((u_4).toNat) 0) - (1 : Int))).set ((a_3).toNat) (((v1.free.set ((u_4).toNat) ((v1.free.getD ((u_4).toNat) 0) - (1 : Int))).getD ((a_3).toNat) 0) + (1 : Int))))), (1161, some (3, .ints l10)), (1162, some (3, .ints v1.placed))], [(5, some [.int g_0.n, .ro false (.pairs g_0.bars)]), (6, some [.ro false (.ints p_1.free), .ro false (.ints p_1.tails), .ro false (.ints p_1.placed)]), (10, some [.nil, .nil, .nil]), (11, some [.row 1160 0 v1.free.length, .row 1161 0 v1.tails.length, .row 1162 0 v1.placed.length])]⟩ : PS)
  iterate 2 refine vSeq ?_
  refine vRegion ?_
  iterate 3 refine oVal tt rfl rfl rfl rfl rfl trivial ?_
  refine vNil ?_
  change VC _ _ _ _
  refine vCond rfl (fun hb9 => ?_) (fun hb9 => ?_)
  ·replace h := cnd_t hb9 h
   refine vSkip ?_
   change VC _ _ _ _
   refine vBlock ?_
   refine vSeq ?_
   refine vRegion ?_
   iterate 2 refine oVal tt rfl rfl rfl rfl rfl trivial ?_
   obtain ⟨hg10, h⟩ := grd_inv h
   refine oVal tt rfl rfl rfl rfl rfl hg10 ?_
   iterate 2 refine oVal tt rfl rfl rfl rfl rfl trivial ?_
   refine vNil ?_
   change VC _ _ _ _
   refine vSeq ?_
   refine vRegionD (by kernel_rfl) (by kernel_rfl) ?_
   iterate 5 refine cVal tt rfl (wNone rfl) rfl rfl rfl trivial ?_
   obtain ⟨hg11, h⟩ := grd_inv h
   refine cVal tt rfl (wNone rfl) rfl rfl rfl hg11 ?_
   refine cVal tt rfl (wNone rfl) rfl rfl rfl trivial ?_
   obtain ⟨hg12, h⟩ := grd_inv h
   refine cVal tt rfl (wNone rfl) rfl rfl rfl hg12 ?_
   iterate 2 refine cVal tt rfl (wNone rfl) rfl rfl rfl trivial ?_
   obtain ⟨v13, hc13, h⟩ := bind_inv h
   refine cCall (S_l4Other_w N (g_0.bars.getD (((p_1.placed.getD (((from_2.getD ((at11).toNat) 0)).toNat) 0)).toNat) (0, 0)) at11 v13 hc13) rfl (wNone rfl) rfl rfl rfl rfl rfl rfl ⟨⟨rfl, rfl, trivial⟩, rfl, trivial⟩ ?_
   refine cVal tt rfl (wNone rfl) rfl rfl rfl trivial ?_
   refine cNil ?_
   change VC _ _ _ _
   refine vSeq ?_
   refine vRegion ?_
   iterate 4 refine oVal tt rfl rfl rfl rfl rfl trivial ?_
   obtain ⟨hg14, h⟩ := grd_inv h
   refine oVal tt rfl rfl rfl rfl rfl hg14 ?_
   obtain ⟨hg15, h⟩ := grd_inv h
   refine oStore tt rfl rfl rfl rfl rfl rfl rfl rfl rfl rfl ⟨_, _, rfl, hg15.1, hg15.2⟩ ⟨hg15, trivial⟩ ?_
   refine vNil ?_
   change VC _ _ _ _
   refine vRegion ?_
   iterate 2 refine oVal tt rfl rfl rfl rfl rfl trivial ?_
   refine vNil ?_
   change ∃ _, _
   exact ⟨((l10.set (((from_2.getD ((at11).toNat) 0)).toNat) at11), v13), (En.of ⟨rfl, rfl, rfl, rfl, rfl, rfl, rfl, trivial⟩ ⟨rfl, rfl, rfl, trivial⟩ ⟨rfl, rfl, rfl, rfl, trivial⟩), h⟩
  ·replace h := cnd_f hb9 h
   refine vExit ?_
   change ∃ _, _
   exact ⟨l10, (En.of ⟨rfl, rfl, trivial⟩ ⟨rfl, rfl, rfl, trivial⟩ ⟨rfl, rfl, trivial⟩), h⟩
def S_l2Copy (N : Nat) (g_0 : Grf) : Option (Grf) :=
 grd (g_0.bars.length ≤ 4294967296) <|
 some (⟨g_0.n, (([] : List (Int × Int)) ++ g_0.bars)⟩ : Grf)
set_option maxRecDepth 20000 in
set_option maxHeartbeats 1600000 in
theorem S_l2Copy_w (N : Nat) (g_0 : Grf) (r : Grf) (h : S_l2Copy N g_0 = some r) : PCall Try.prog 165 [gD g_0] [(113, .pairs r.bars)] (.agg [.int r.n, .row 0 0 r.bars.length]) := by
 unfold S_l2Copy at h
 refine pcall_intro (TT := TT) tt Try.func165 rfl rfl Try.ntmps165 (congrArg Array.toList Try.results165) rfl rfl fun w0 => ?_
 refine vSeq ?_
 refine vRegion ?_
 refine oBox rfl rfl rfl rfl rfl rfl rfl rfl rfl ?_
 refine oAlloc tt rfl rfl rfl rfl rfl rfl rfl rfl rfl ?_
 refine vNil ?_
 change VC _ _ _ _
 refine vSeq ?_
 refine vRegionN 6 [5] [0, 1, 0, 0, 8, 28, 63, 127] (by kernel_rfl) (by kernel_rfl) (by kernel_rfl) (by kernel_rfl) (by kernel_rfl) rfl (by rfl) ?_
 iterate 2 refine nVal tt rfl (wNone rfl) rfl rfl rfl rfl rfl trivial ?_
 refine nEmpty tt (wNone rfl) rfl rfl rfl rfl rfl ?_
 iterate 2 refine nVal tt rfl (wNone rfl) rfl rfl rfl rfl rfl trivial ?_
 obtain ⟨hg1, h⟩ := grd_inv h
 refine nAppNil tt (wNone rfl) rfl rfl rfl rfl rfl rfl rfl rfl (fun _ => rfl) rfl rfl rfl rfl rfl rfl hg1 ?_
 refine nNil ?_
 change VO _ _ _ _ _
 refine oPure (wNone rfl) (pBuild bld_impl_Graph rfl rfl) rfl rfl ?_
 refine oStore tt rfl rfl rfl rfl rfl rfl rfl rfl rfl rfl rfl ⟨trivial, trivial, trivial⟩ ?_
 refine vNil ?_
 change VC _ _ _ _
 refine vRet ?_
 change ∃ _, _
 cases h
 exact ⟨[8], _, rfl, ⟨rfl, trivial⟩, rfl, (.eq rfl), rfl⟩
def I_copyGraph (N : Nat) (g_0 : Grf) : Option (Grf) :=
 grd (g_0.bars.length ≤ 4294967296) <|
 some (⟨g_0.n, (([] : List (Int × Int)) ++ g_0.bars)⟩ : Grf)
set_option maxRecDepth 20000 in
set_option maxHeartbeats 1600000 in
theorem I_copyGraph_w (N : Nat) (g_0 : Grf) (r : Grf) (h : I_copyGraph N g_0 = some r) : PCall Try.prog 174 [gD g_0] [(113, .pairs r.bars)] (.agg [.int r.n, .row 0 0 r.bars.length]) := by
 unfold I_copyGraph at h
 refine pcall_intro (TT := TT) tt Try.func174 rfl rfl Try.ntmps174 (congrArg Array.toList Try.results174) rfl rfl fun w0 => ?_
 refine vSeq ?_
 refine vRegion ?_
 refine oBox rfl rfl rfl rfl rfl rfl rfl rfl rfl ?_
 refine oAlloc tt rfl rfl rfl rfl rfl rfl rfl rfl rfl ?_
 refine vNil ?_
 change VC _ _ _ _
 refine vSeq ?_
 refine vRegionN 6 [5] [0, 1, 0, 0, 8, 28, 63, 127] (by kernel_rfl) (by kernel_rfl) (by kernel_rfl) (by kernel_rfl) (by kernel_rfl) rfl (by rfl) ?_
 iterate 2 refine nVal tt rfl (wNone rfl) rfl rfl rfl rfl rfl trivial ?_
 refine nEmpty tt (wNone rfl) rfl rfl rfl rfl rfl ?_
 iterate 2 refine nVal tt rfl (wNone rfl) rfl rfl rfl rfl rfl trivial ?_
 obtain ⟨hg1, h⟩ := grd_inv h
 refine nAppNil tt (wNone rfl) rfl rfl rfl rfl rfl rfl rfl rfl (fun _ => rfl) rfl rfl rfl rfl rfl rfl hg1 ?_
 refine nNil ?_
 change VO _ _ _ _ _
 refine oPure (wNone rfl) (pBuild bld_impl_Graph rfl rfl) rfl rfl ?_
 refine oStore tt rfl rfl rfl rfl rfl rfl rfl rfl rfl rfl rfl ⟨trivial, trivial, trivial⟩ ?_
 refine vNil ?_
 change VC _ _ _ _
 refine vRet ?_
 change ∃ _, _
 cases h
 exact ⟨[8], _, rfl, ⟨rfl, trivial⟩, rfl, (.eq rfl), rfl⟩
end Go.Proofs.Ytkklfgcelmeccaa
namespace Go.Proofs.Ytkklfgcelmeccaa
open Go.RowKit
def I_copyPebbles (N : Nat) (p_0 : Pbl) : Option (Pbl) :=
 (I_copyInts N p_0.free).bind fun v1 =>
 (I_copyInts N p_0.tails).bind fun v2 =>
 (I_copyInts N p_0.placed).bind fun v3 =>
 some (⟨v1, v2, v3⟩ : Pbl)
set_option maxRecDepth 20000 in
set_option maxHeartbeats 1600000 in
theorem I_copyPebbles_w (N : Nat) (p_0 : Pbl) (r : Pbl) (h : I_copyPebbles N p_0 = some r) : PCall Try.prog 169 [bD p_0] [(3, .ints r.free), (3, .ints r.tails), (3, .ints r.placed)] (.agg [.row 0 0 r.free.length, .row 1 0 r.tails.length, .row 2 0 r.placed.length]) := by
 unfold I_copyPebbles at h
 refine pcall_intro (TT := TT) tt Try.func169 rfl rfl Try.ntmps169 (congrArg Array.toList Try.results169) rfl rfl fun w0 => ?_
 refine vSeq ?_
 refine vRegion ?_
 refine oBox rfl rfl rfl rfl rfl rfl rfl rfl rfl ?_
 refine oAlloc tt rfl rfl rfl rfl rfl rfl rfl rfl rfl ?_
 refine vNil ?_
 change VC _ _ _ _
 refine vSeq ?_
 refine vRegionN 8 [2, 5] [0, 1, 3, 0, 8, 31, 0, 64, 255, 511, 1023] (by kernel_rfl) (by kernel_rfl) (by kernel_rfl) (by kernel_rfl) (by kernel_rfl) rfl (by rfl) ?_
 iterate 2 refine nVal tt rfl (wNone rfl) rfl rfl rfl rfl rfl trivial ?_
 obtain ⟨v1, hc1, h⟩ := bind_inv h
 refine nCallR (I_copyInts_w N p_0.free v1 hc1) rfl (wNone rfl) rfl rfl rfl rfl rfl rfl (by first | rfl | kernel_rfl | (simp [nrL, nm, gdst, nmT, rowB]; done)) rfl (by first | rfl | kernel_rfl | (simp [chkE, nrL, nm, gdst, nmT, rowB, hid, ment, mentA, mentS]; done) | (simp [chkE, nrL, nm, gdst, nmT, rowB, hid, ment, mentA, mentS]; decide)) ⟨rfl, trivial⟩ ?_
 iterate 2 refine nVal tt rfl (wNone rfl) rfl rfl rfl rfl rfl trivial ?_
 obtain ⟨v2, hc2, h⟩ := bind_inv h
 refine nCallR (I_copyInts_w N p_0.tails v2 hc2) rfl (wNone rfl) rfl rfl rfl rfl rfl rfl (by first | rfl | kernel_rfl | (simp [nrL, nm, gdst, nmT, rowB]; done)) rfl (by first | rfl | kernel_rfl | (simp [chkE, nrL, nm, gdst, nmT, rowB, hid, ment, mentA, mentS]; done) | (simp [chkE, nrL, nm, gdst, nmT, rowB, hid, ment, mentA, mentS]; decide)) ⟨rfl, trivial⟩ ?_
 iterate 2 refine nVal tt rfl (wNone rfl) rfl rfl rfl rfl rfl trivial ?_
 refine nNil ?_
 change VO _ _ _ _ _
 obtain ⟨v3, hc3, h⟩ := bind_inv h
 refine oCall (I_copyInts_w N p_0.placed v3 hc3) rfl rfl rfl rfl rfl rfl rfl rfl ⟨rfl, trivial⟩ ?_
 refine oPure (wNone rfl) (pBuild bld_impl_Pebbles rfl rfl) rfl rfl ?_
 refine oStore tt rfl rfl rfl rfl rfl rfl rfl rfl rfl rfl rfl ⟨trivial, trivial, trivial, trivial⟩ ?_
 refine vNil ?_
 change VC _ _ _ _
 refine vRet ?_
 change ∃ _, _
 cases h
 exact ⟨[1050, 1080, 1110], _, rfl, ⟨rfl, rfl, rfl, trivial⟩, rfl, (.eq rfl), rfl⟩
end Go.Proofs.Ytkklfgcelmeccaa
namespace Go.Proofs.Ytkklfgcelmeccaa
open Go.RowKit
def I_moveTo_l3 (N : Nat) (p_1 : Pbl) (a_2 : Int) (from298 : List (Int × Int)) (x299 : Int) (v307 : Int) (k : (List Int) → Option (Bool × (List Int) × (List Int) × (List Int))) : Nat → ((List Int) × Int) → Option (Bool × (List Int) × (List Int) × (List Int))
 | 0, _ => none
 | n + 1, (l312, at313) =>
  cnd (at313 != a_2) (
   grd (0 ≤ (mget (mset from298 v307 x299) at313) ∧ (mget (mset from298 v307 x299) at313) < (p_1.tails.length : Int)) <|
   grd (0 ≤ (mget (mset from298 v307 x299) at313) ∧ (mget (mset from298 v307 x299) at313) < (l312.length : Int)) <|
   I_moveTo_l3 N p_1 a_2 from298 x299 v307 k n ((l312.set (((mget (mset from298 v307 x299) at313)).toNat) at313), (l312.getD (((mget (mset from298 v307 x299) at313)).toNat) 0))) (
   k l312)
def I_moveTo_l2 (N : Nat) (bars_0 : List (Int × Int)) (p_1 : Pbl) (a_2 : Int) (b_3 : Int) (i211 : Int) (k : ((List Int) × (List (Int × Int))) → Option (Bool × (List Int) × (List Int) × (List Int))) : Nat → ((List Int) × (List (Int × Int)) × Int) → Option (Bool × (List Int) × (List Int) × (List Int))
 | 0, _ => none
 | n + 1, (l297, from298, x299) =>
  cnd (decide (x299 < (p_1.placed.length : Int))) (
   grd (0 ≤ x299 ∧ x299 < (p_1.placed.length : Int)) <|
   grd (0 ≤ x299 ∧ x299 < (p_1.tails.length : Int)) <|
   grd (0 ≤ i211 ∧ i211 < (l297.length : Int)) <|
   cnd ((p_1.tails.getD ((x299).toNat) 0) != (l297.getD ((i211).toNat) 0)) (
    grd (Rg64 (x299 + (1 : Int))) <|
    I_moveTo_l2 N bars_0 p_1 a_2 b_3 i211 k n (l297, from298, (x299 + (1 : Int)))) (
    grd (0 ≤ (p_1.placed.getD ((x299).toNat) 0) ∧ (p_1.placed.getD ((x299).toNat) 0) < (bars_0.length : Int)) <|
    (M_Bar_other N (bars_0.getD (((p_1.placed.getD ((x299).toNat) 0)).toNat) (0, 0)) (l297.getD ((i211).toNat) 0)).bind fun v307 =>
    cnd (mhas from298 v307) (
     grd (Rg64 (x299 + (1 : Int))) <|
     I_moveTo_l2 N bars_0 p_1 a_2 b_3 i211 k n (l297, from298, (x299 + (1 : Int)))) (
     cnd (v307 == b_3) (
      grd (l297.length + 1 ≤ 4294967296) <|
      grd (Rg64 (x299 + (1 : Int))) <|
      I_moveTo_l2 N bars_0 p_1 a_2 b_3 i211 k n ((l297 ++ ([v307] : List Int)), (mset from298 v307 x299), (x299 + (1 : Int)))) (
      grd (0 ≤ v307 ∧ v307 < (p_1.free.length : Int)) <|
      cnd ((p_1.free.getD ((v307).toNat) 0) == (0 : Int)) (
       grd (l297.length + 1 ≤ 4294967296) <|
       grd (Rg64 (x299 + (1 : Int))) <|
       I_moveTo_l2 N bars_0 p_1 a_2 b_3 i211 k n ((l297 ++ ([v307] : List Int)), (mset from298 v307 x299), (x299 + (1 : Int)))) (
       grd (Rg64 ((p_1.free.getD ((v307).toNat) 0) - (1 : Int))) <|
       grd (0 ≤ a_2 ∧ a_2 < (p_1.free.length : Int)) <|
       grd (0 ≤ a_2 ∧ a_2 < ((p_1.free.set ((v307).toNat) ((p_1.free.getD ((v307).toNat) 0) - (1 : Int))).length : Int)) <|
       grd (Rg64 (((p_1.free.set ((v307).toNat) ((p_1.free.getD ((v307).toNat) 0) - (1 : Int))).getD ((a_2).toNat) 0) + (1 : Int))) <|
       I_moveTo_l3 N p_1 a_2 from298 x299 v307 (fun (l310 : List Int) =>
          grd (p_1.free.length = ((p_1.free.set ((v307).toNat) ((p_1.free.getD ((v307).toNat) 0) - (1 : Int))).set ((a_2).toNat) (((p_1.free.set ((v307).toNat) ((p_1.free.getD ((v307).toNat) 0) - (1 : Int))).getD ((a_2).toNat) 0) + (1 : Int))).length) <|
          grd (p_1.tails.length = l310.length) <|
          some (true, ((p_1.free.set ((v307).toNat) ((p_1.free.getD ((v307).toNat) 0) - (1 : Int))).set ((a_2).toNat) (((p_1.free.set ((v307).toNat) ((p_1.free.getD ((v307).toNat) 0) - (1 : Int))).getD ((a_2).toNat) 0) + (1 : Int))), l310, p_1.placed)) N (p_1.tails, v307)))))) (
   k (l297, from298))
def I_moveTo_l1 (N : Nat) (bars_0 : List (Int × Int)) (p_1 : Pbl) (a_2 : Int) (b_3 : Int) (k : Unit → Option (Bool × (List Int) × (List Int) × (List Int))) : Nat → ((List Int) × (List (Int × Int)) × Int) → Option (Bool × (List Int) × (List Int) × (List Int))
 | 0, _ => none
 | n + 1, (l209, from210, i211) =>
  cnd (decide (i211 < (l209.length : Int))) (
   I_moveTo_l2 N bars_0 p_1 a_2 b_3 i211 (fun (x : (List Int) × (List (Int × Int))) =>
     match x with
     | (l287, from288) =>
      grd (Rg64 (i211 + (1 : Int))) <|
      I_moveTo_l1 N bars_0 p_1 a_2 b_3 k n (l287, from288, (i211 + (1 : Int)))) N (l209, from210, (0 : Int))) (
   k ())
def I_moveTo (N : Nat) (bars_0 : List (Int × Int)) (p_1 : Pbl) (a_2 : Int) (b_3 : Int) : Option (Bool × (List Int) × (List Int) × (List Int)) :=
 I_moveTo_l1 N bars_0 p_1 a_2 b_3 (fun (_ : Unit) =>
    some (false, p_1.free, p_1.tails, p_1.placed)) N (([a_2] : List Int), (mset ([] : List (Int × Int)) a_2 (-1 : Int)), (0 : Int))
set_option maxRecDepth 20000 in
set_option maxHeartbeats 1600000 in
theorem I_moveTo_w (N : Nat) (bars_0 : List (Int × Int)) (p_1 : Pbl) (a_2 : Int) (b_3 : Int) (r : Bool × (List Int) × (List Int) × (List Int)) (h : I_moveTo N bars_0 p_1 a_2 b_3 = some r) : MCall Try.prog 177 [.ro false (.pairs bars_0), .ptr 1000001 0, .int a_2, .int b_3] [900010, 900011, 900012] [1000001] [(3, .ints p_1.free), (3, .ints p_1.tails), (3, .ints p_1.placed)] [(3, .ints r.2.1), (3, .ints r.2.2.1), (3, .ints r.2.2.2)] [[.row 900010 0 p_1.free.length, .row 900011 0 p_1.tails.length, .row 900012 0 p_1.placed.length]] [[.row 900010 0 r.2.1.length, .row 900011 0 r.2.2.1.length, .row 900012 0 r.2.2.2.length]] (.bool r.1) := by
 unfold I_moveTo at h
 refine mcall_intro (TT := TT) tt Try.func177 rfl rfl Try.ntmps177 (congrArg Array.toList Try.results177) rfl rfl rfl rfl rfl fun w0 O0 => ?_
 refine vSeq ?_
 refine vRegion ?_
 refine oVal tt rfl rfl rfl rfl rfl trivial ?_
 refine vNil ?_
 change VC _ _ _ _
 refine vSeq ?_
 refine vRegion ?_
 refine oMakeMap rfl rfl rfl rfl fun mk2 hmk2 => ?_
 refine oVal tt rfl rfl rfl rfl rfl trivial ?_
 refine oMapSet tt hmk2 rfl (by first | exact .inl rfl | exact .inr rfl) rfl rfl rfl rfl rfl rfl ?_
 repeat (first | refine mapC_nil ?_ | refine mapC_hit ?_ | refine mapC_same rfl ?_ | refine mapC_dead ?_)
 change VO _ _ _ _ _
 iterate 2 refine oVal tt rfl rfl rfl rfl rfl trivial ?_
 refine vNil ?_
 change VC _ _ _ _
 refine vSeq ?_
 refine vRegion ?_
 refine oVal tt rfl rfl rfl rfl rfl trivial ?_
 refine oBuild tt rfl rfl rfl rfl rfl rfl rfl rfl rfl rfl rfl ?_
 refine oVal tt rfl rfl rfl rfl rfl trivial ?_
 refine vNil ?_
 change VC _ _ _ _
 iterate 2 refine vSeq ?_
 refine vRegion ?_
 refine oVal tt rfl rfl rfl rfl rfl trivial ?_
 refine vNil ?_
 change VC _ _ _ _
 refine vJoin (F := fun k => I_moveTo_l1 N bars_0 p_1 a_2 b_3 k) h (α := Unit) (J := fun (_ : Unit) => (⟨[], [(900010, some (3, .ints p_1.free)), (900011, some (3, .ints p_1.tails)), (900012, some (3, .ints p_1.placed))], [(1000001, some [.row 900010 0 p_1.free.length, .row 900011 0 p_1.tails.length, .row 900012 0 p_1.placed.length])]⟩ : PS)) ?_ ?_
 ·rintro ⟨⟩ h
  show VC _ _ _ (⟨[], [(900010, some (3, .ints p_1.free)), (900011, some (3, .ints p_1.tails)), (900012, some (3, .ints p_1.placed))], [(1000001, some [.row 900010 0 p_1.free.length, .row 900011 0 p_1.tails.length, .row 900012 0 p_1.placed.length])]⟩ : PS)
  refine vSeq ?_
  refine vRegion ?_
  refine oVal tt rfl rfl rfl rfl rfl trivial ?_
  refine vNil ?_
  change VC _ _ _ _
  refine vRet ?_
  change ∃ _, _
  cases h
  exact ⟨[900010, 900011, 900012], rfl, ⟨rfl, rfl, rfl, trivial⟩, ⟨rfl, trivial⟩, rfl⟩
 ·intro k h
  refine vBlock ?_
  refine vLoopS (α := (List Int) × (List (Int × Int)) × Int) (fun | (l209, from210, i211) => (⟨[(0, .ro false (.pairs bars_0)), (1, .ptr 1000001 0), (2, .int a_2), (3, .int b_3), (9, .map mk2 from210), (10, .row 24 0 l209.length), (11, .int i211)], [(24, some (3, .ints l209)), (900010, some (3, .ints p_1.free)), (900011, some (3, .ints p_1.tails)), (900012, some (3, .ints p_1.placed))], [(1000001, some [.row 900010 0 p_1.free.length, .row 900011 0 p_1.tails.length, .row 900012 0 p_1.placed.length])]⟩ : PS)) (I_moveTo_l1 N bars_0 p_1 a_2 b_3 k) h (En.of ⟨rfl, rfl, rfl, rfl, rfl, rfl, rfl, trivial⟩ ⟨rfl, rfl, rfl, rfl, trivial⟩ ⟨rfl, trivial⟩) (fun _ => rfl) ?_
  rintro n ⟨l209, from210, i211⟩ h
  rw [I_moveTo_l1] at h
  show VC _ _ _ (⟨[(0, .ro false (.pairs bars_0)), (1, .ptr 1000001 0), (2, .int a_2), (3, .int b_3), (9, .map mk2 from210), (10, .row 24 0 l209.length), (11, .int i211)], [(24, some (3, .ints l209)), (900010, some (3, .ints p_1.free)), (900011, some (3, .ints p_1.tails)), (900012, some (3, .ints p_1.placed))], [(1000001, some [.row 900010 0 p_1.free.length, .row 900011 0 p_1.tails.length, .row 900012 0 p_1.placed.length])]⟩ : PS)
  iterate 2 refine vSeq ?_
  refine vRegion ?_
  iterate 4 refine oVal tt rfl rfl rfl rfl rfl trivial ?_
  refine vNil ?_
  change VC _ _ _ _
  refine vCond rfl (fun hb2 => ?_) (fun hb2 => ?_)
  ·replace h := cnd_t hb2 h
   refine vSkip ?_
   change VC _ _ _ _
   refine vSeq ?_
   refine vBlock ?_
   refine vSeq ?_
   refine vRegion ?_
   iterate 6 refine oVal tt rfl rfl rfl rfl rfl trivial ?_
   refine vNil ?_
   change VC _ _ _ _
   refine vJoin (F := fun k => I_moveTo_l2 N bars_0 p_1 a_2 b_3 i211 k) h (α := (List Int) × (List (Int × Int))) (J := fun | (l287, from288) => (⟨[(0, .ro false (.pairs bars_0)), (1, .ptr 1000001 0), (2, .int a_2), (3, .int b_3), (9, .map mk2 from288), (10, .row 24 0 l287.length), (11, .int i211)], [(24, some (3, .ints l287)), (900010, some (3, .ints p_1.free)), (900011, some (3, .ints p_1.tails)), (900012, some (3, .ints p_1.placed))], [(1000001, some [.row 900010 0 p_1.free.length, .row 900011 0 p_1.tails.length, .row 900012 0 p_1.placed.length])]⟩ : PS)) ?_ ?_
   ·rintro ⟨l287, from288⟩ h
    show VC _ _ _ (⟨[(0, .ro false (.pairs bars_0)), (1, .ptr 1000001 0), (2, .int a_2), (3, .int b_3), (9, .map mk2 from288), (10, .row 24 0 l287.length), (11, .int i211)], [(24, some (3, .ints l287)), (900010, some (3, .ints p_1.free)), (900011, some (3, .ints p_1.tails)), (900012, some (3, .ints p_1.placed))], [(1000001, some [.row 900010 0 p_1.free.length, .row 900011 0 p_1.tails.length, .row 900012 0 p_1.placed.length])]⟩ : PS)
    refine vRegion ?_
    refine oVal tt rfl rfl rfl rfl rfl trivial ?_
    obtain ⟨hg3, h⟩ := grd_inv h
    refine oVal tt rfl rfl rfl rfl rfl hg3 ?_
    refine oVal tt rfl rfl rfl rfl rfl trivial ?_
    refine vNil ?_
    change ∃ _, _
    exact ⟨(l287, from288, (i211 + (1 : Int))), (En.of ⟨rfl, rfl, rfl, rfl, rfl, rfl, rfl, trivial⟩ ⟨rfl, rfl, rfl, rfl, trivial⟩ ⟨rfl, trivial⟩), h⟩
   ·intro k h
    refine vBlock ?_
    refine vLoopS (α := (List Int) × (List (Int × Int)) × Int) (fun | (l297, from298, x299) => (⟨[(0, .ro false (.pairs bars_0)), (1, .ptr 1000001 0), (2, .int a_2), (3, .int b_3), (9, .map mk2 from298), (10, .row 24 0 l297.length), (11, .int i211), (34, .row 900012 0 p_1.placed.length), (35, .int (p_1.placed.length : Int)), (36, .int x299)], [(24, some (3, .ints l297)), (900012, some (3, .ints p_1.placed)), (900010, some (3, .ints p_1.free)), (900011, some (3, .ints p_1.tails))], [(1000001, some [.row 900010 0 p_1.free.length, .row 900011 0 p_1.tails.length, .row 900012 0 p_1.placed.length])]⟩ : PS)) (I_moveTo_l2 N bars_0 p_1 a_2 b_3 i211 k) h (En.of ⟨rfl, rfl, rfl, rfl, rfl, rfl, rfl, rfl, rfl, rfl, trivial⟩ ⟨rfl, rfl, rfl, rfl, trivial⟩ ⟨rfl, trivial⟩) (fun _ => rfl) ?_
    rintro n ⟨l297, from298, x299⟩ h
    rw [I_moveTo_l2] at h
    show VC _ _ _ (⟨[(0, .ro false (.pairs bars_0)), (1, .ptr 1000001 0), (2, .int a_2), (3, .int b_3), (9, .map mk2 from298), (10, .row 24 0 l297.length), (11, .int i211), (34, .row 900012 0 p_1.placed.length), (35, .int (p_1.placed.length : Int)), (36, .int x299)], [(24, some (3, .ints l297)), (900012, some (3, .ints p_1.placed)), (900010, some (3, .ints p_1.free)), (900011, some (3, .ints p_1.tails))], [(1000001, some [.row 900010 0 p_1.free.length, .row 900011 0 p_1.tails.length, .row 900012 0 p_1.placed.length])]⟩ : PS)
    refine vSeq ?_
    refine vRegion ?_
    refine oVal tt rfl rfl rfl rfl rfl trivial ?_
    refine vNil ?_
    change VC _ _ _ _
    refine vSeq ?_
    refine vCond rfl (fun hb4 => ?_) (fun hb4 => ?_)
    ·replace h := cnd_t hb4 h
     refine vSkip ?_
     change VC _ _ _ _
     refine vSeq ?_
     refine vBlock ?_
     refine vSeq ?_
     refine vRegion ?_
     refine oVal tt rfl rfl rfl rfl rfl trivial ?_
     obtain ⟨hg5, h⟩ := grd_inv h
     iterate 2 refine oVal tt rfl rfl rfl rfl rfl hg5 ?_
     iterate 2 refine oVal tt rfl rfl rfl rfl rfl trivial ?_
     refine vNil ?_
     change VC _ _ _ _
     iterate 2 refine vSeq ?_
     refine vRegionD (by kernel_rfl) (by kernel_rfl) ?_
     iterate 5 refine cVal tt rfl (wNone rfl) rfl rfl rfl trivial ?_
     obtain ⟨hg6, h⟩ := grd_inv h
     iterate 2 refine cVal tt rfl (wNone rfl) rfl rfl rfl hg6 ?_
     iterate 2 refine cVal tt rfl (wNone rfl) rfl rfl rfl trivial ?_
     obtain ⟨hg7, h⟩ := grd_inv h
     iterate 2 refine cVal tt rfl (wNone rfl) rfl rfl rfl hg7 ?_
     refine cVal tt rfl (wNone rfl) rfl rfl rfl trivial ?_
     refine cNil ?_
     change VC _ _ _ _
     refine vCond rfl (fun hb8 => ?_) (fun hb8 => ?_)
     ·replace h := cnd_t hb8 h
      refine vExit ?_
      change VC _ _ _ _
      refine vRegion ?_
      obtain ⟨hg9, h⟩ := grd_inv h
      refine oVal tt rfl rfl rfl rfl rfl hg9 ?_
      refine oVal tt rfl rfl rfl rfl rfl trivial ?_
      refine vNil ?_
      change ∃ _, _
      exact ⟨(l297, from298, (x299 + (1 : Int))), (En.of ⟨rfl, rfl, rfl, rfl, rfl, rfl, rfl, rfl, rfl, rfl, trivial⟩ ⟨rfl, rfl, rfl, rfl, trivial⟩ ⟨rfl, trivial⟩), h⟩
     ·replace h := cnd_f hb8 h
      refine vSkip ?_
      change VC _ _ _ _
      refine vSeq ?_
      refine vRegionD (by kernel_rfl) (by kernel_rfl) ?_
      iterate 2 refine cVal tt rfl (wNone rfl) rfl rfl rfl trivial ?_
      obtain ⟨hg10, h⟩ := grd_inv h
      refine cVal tt rfl (wNone rfl) rfl rfl rfl hg10 ?_
      iterate 3 refine cVal tt rfl (wNone rfl) rfl rfl rfl trivial ?_
      iterate 2 refine cVal tt rfl (wNone rfl) rfl rfl rfl hg7 ?_
      obtain ⟨v307, hc11, h⟩ := bind_inv h
      refine cCall (M_Bar_other_w N (bars_0.getD (((p_1.placed.getD ((x299).toNat) 0)).toNat) (0, 0)) (l297.getD ((i211).toNat) 0) v307 hc11) rfl (wNone rfl) rfl rfl rfl rfl rfl rfl ⟨⟨rfl, rfl, trivial⟩, rfl, trivial⟩ ?_
      refine cVal tt rfl (wNone rfl) rfl rfl rfl trivial ?_
      refine cNil ?_
      change VC _ _ _ _
      iterate 2 refine vSeq ?_
      refine vRegion ?_
      iterate 8 refine oVal tt rfl rfl rfl rfl rfl trivial ?_
      refine vNil ?_
      change VC _ _ _ _
      refine vSeq ?_
      refine vRegion ?_
      refine oVal tt rfl rfl rfl rfl rfl trivial ?_
      refine vNil ?_
      change VC _ _ _ _
      refine vCond rfl (fun hb12 => ?_) (fun hb12 => ?_)
      ·replace h := cnd_t hb12 h
       refine vExit ?_
       change VC _ _ _ _
       refine vRegion ?_
       obtain ⟨hg13, h⟩ := grd_inv h
       refine oVal tt rfl rfl rfl rfl rfl hg13 ?_
       refine oVal tt rfl rfl rfl rfl rfl trivial ?_
       refine vNil ?_
       change ∃ _, _
       exact ⟨(l297, from298, (x299 + (1 : Int))), (En.of ⟨rfl, rfl, rfl, rfl, rfl, rfl, rfl, rfl, rfl, rfl, trivial⟩ ⟨rfl, rfl, rfl, rfl, trivial⟩ ⟨rfl, trivial⟩), h⟩
      ·replace h := cnd_f hb12 h
       refine vSkip ?_
       change VC _ _ _ _
       refine vSeq ?_
       refine vRegion ?_
       iterate 3 refine oVal tt rfl rfl rfl rfl rfl trivial ?_
       refine oMapSet tt hmk2 rfl (by first | exact .inl rfl | exact .inr rfl) rfl rfl rfl rfl rfl rfl ?_
       repeat (first | refine mapC_nil ?_ | refine mapC_hit ?_ | refine mapC_same rfl ?_ | refine mapC_dead ?_)
       change VO _ _ _ _ _
       refine vNil ?_
       change VC _ _ _ _
       iterate 2 refine vSeq ?_
       refine vRegion ?_
       iterate 4 refine oVal tt rfl rfl rfl rfl rfl trivial ?_
       refine oSplit rfl rfl rfl (fun hb14 => ?_) (fun hb14 => ?_)
       ·replace h := cnd_t hb14 h
        iterate 8 refine oNoF rfl rfl rfl rfl hb14 rfl rfl ?_
        refine oPick rfl rfl rfl rfl rfl hb14 rfl ?_
        refine vNil ?_
        change VC _ _ _ _
        refine vCondT rfl rfl ?_
        refine vSeq ?_
        refine vRegion ?_
        iterate 2 refine oVal tt rfl rfl rfl rfl rfl trivial ?_
        refine oBuild tt rfl rfl rfl rfl rfl rfl rfl rfl rfl rfl rfl ?_
        obtain ⟨hg15, h⟩ := grd_inv h
        refine oAppend tt rfl rfl rfl rfl rfl rfl rfl rfl rfl rfl rfl rfl rfl rfl rfl rfl (Nat.le_of_eq (Nat.zero_add _)) hg15 ?_
        refine oVal tt rfl rfl rfl rfl rfl trivial ?_
        refine vNil ?_
        change VC _ _ _ _
        refine vExit ?_
        change VC _ _ _ _
        refine vRegion ?_
        obtain ⟨hg16, h⟩ := grd_inv h
        refine oVal tt rfl rfl rfl rfl rfl hg16 ?_
        refine oVal tt rfl rfl rfl rfl rfl trivial ?_
        refine vNil ?_
        change ∃ _, _
        exact ⟨((l297 ++ ([v307] : List Int)), (mset from298 v307 x299), (x299 + (1 : Int))), (En.of ⟨rfl, rfl, rfl, rfl, rfl, rfl, rfl, rfl, rfl, rfl, trivial⟩ ⟨rfl, rfl, rfl, rfl, trivial⟩ ⟨rfl, trivial⟩), h⟩
       ·replace h := cnd_f hb14 h
        iterate 5 refine oValG tt rfl rfl rfl rfl rfl hb14 rfl rfl rfl trivial ?_
        obtain ⟨hg17, h⟩ := grd_inv h
        iterate 2 refine oValG tt rfl rfl rfl rfl rfl hb14 rfl rfl rfl hg17 ?_
        refine oValG tt rfl rfl rfl rfl rfl hb14 rfl rfl rfl trivial ?_
        refine oPickF rfl rfl rfl rfl rfl hb14 rfl ?_
        refine vNil ?_
        change VC _ _ _ _
        refine vCond rfl (fun hb18 => ?_) (fun hb18 => ?_)
        ·replace h := cnd_t hb18 h
         refine vSeq ?_
         refine vRegion ?_
         iterate 2 refine oVal tt rfl rfl rfl rfl rfl trivial ?_
         refine oBuild tt rfl rfl rfl rfl rfl rfl rfl rfl rfl rfl rfl ?_
         obtain ⟨hg19, h⟩ := grd_inv h
         refine oAppend tt rfl rfl rfl rfl rfl rfl rfl rfl rfl rfl rfl rfl rfl rfl rfl rfl (Nat.le_of_eq (Nat.zero_add _)) hg19 ?_
         refine oVal tt rfl rfl rfl rfl rfl trivial ?_
         refine vNil ?_
         change VC _ _ _ _
         refine vExit ?_
         change VC _ _ _ _
         refine vRegion ?_
         obtain ⟨hg20, h⟩ := grd_inv h
         refine oVal tt rfl rfl rfl rfl rfl hg20 ?_
         refine oVal tt rfl rfl rfl rfl rfl trivial ?_
         refine vNil ?_
         change ∃ _, _
         exact ⟨((l297 ++ ([v307] : List Int)), (mset from298 v307 x299), (x299 + (1 : Int))), (En.of ⟨rfl, rfl, rfl, rfl, rfl, rfl, rfl, rfl, rfl, rfl, trivial⟩ ⟨rfl, rfl, rfl, rfl, trivial⟩ ⟨rfl, trivial⟩), h⟩
        ·replace h := cnd_f hb18 h
         refine vSkip ?_
         change VC _ _ _ _
         refine vSeq ?_
         refine vRegion ?_
         iterate 5 refine oVal tt rfl rfl rfl rfl rfl trivial ?_
         iterate 2 refine oVal tt rfl rfl rfl rfl rfl hg17 ?_
         obtain ⟨hg21, h⟩ := grd_inv h
         refine oVal tt rfl rfl rfl rfl rfl hg21 ?_
         refine oVal tt rfl rfl rfl rfl rfl hg17 ?_
         refine oStore tt rfl rfl rfl rfl rfl rfl rfl rfl rfl rfl ⟨_, _, rfl, hg17.1, hg17.2⟩ ⟨hg17, trivial⟩ ?_
         refine vNil ?_
         change VC _ _ _ _
         refine vSeq ?_
         refine vRegion ?_
         iterate 5 refine oVal tt rfl rfl rfl rfl rfl trivial ?_
         obtain ⟨hg22, h⟩ := grd_inv h
         refine oVal tt rfl rfl rfl rfl rfl hg22 ?_
         obtain ⟨hg23, h⟩ := grd_inv h
         refine oVal tt rfl rfl rfl rfl rfl hg23 ?_
         obtain ⟨hg24, h⟩ := grd_inv h
         refine oVal tt rfl rfl rfl rfl rfl hg24 ?_
         refine oVal tt rfl rfl rfl rfl rfl hg22 ?_
         refine oStore tt rfl rfl rfl rfl rfl rfl rfl rfl rfl rfl ⟨_, _, rfl, hg23.1, hg23.2⟩ ⟨hg23, trivial⟩ ?_
         refine vNil ?_
         change VC _ _ _ _
         iterate 2 refine vSeq ?_
         refine vRegion ?_
         iterate 2 refine oVal tt rfl rfl rfl rfl rfl trivial ?_
         refine vNil ?_
         change VC _ _ _ _
         refine vJoin (F := fun k => I_moveTo_l3 N p_1 a_2 from298 x299 v307 k) h (α := List Int) (J := fun (l310 : List Int) => (⟨[], [(900010, some (3, .ints ((p_1.free.set ((v307).toNat) ((p_1.free.getD ((v307).toNat) 0) - (1 : Int))).set ((a_2).toNat) (((p_1.free.set ((v307).toNat) ((p_1.free.getD ((v307).toNat) 0) - (1 : Int))).getD ((a_2).toNat) 0) + (1 : Int))))), (900011, some (3, .ints l310)), (900012, some (3, .ints p_1.placed))], [(1000001, some [.row 900010 0 p_1.free.length, .row 900011 0 p_1.tails.length, .row 900012 0 p_1.placed.length])]⟩ : PS)) ?_ ?_
         ·rintro l310 h
          show VC _ _ _ (⟨[], [(900010, some (3, .ints ((p_1.free.set ((v307).toNat) ((p_1.free.getD ((v307).toNat) 0) - (1 : Int))).set ((a_2).toNat) (((p_1.free.set ((v307).toNat) ((p_1.free.getD ((v307).toNat) 0) - (1 : Int))).getD ((a_2).toNat) 0) + (1 : Int))))), (900011, some (3, .ints l310)), (900012, some (3, .ints p_1.placed))], [(1000001, some [.row 900010 0 p_1.free.length, .row 900011 0 p_1.tails.length, .row 900012 0 p_1.placed.length])]⟩ : PS)
          refine vSeq ?_
          refine vRegion ?_
          refine oVal tt rfl rfl rfl rfl rfl trivial ?_
          refine vNil ?_
          change VC _ _ _ _
          obtain ⟨hg25, h⟩ := grd_inv h
          refine vRowB 1000001 0 900010 rfl rfl hg25 rfl ?_
          obtain ⟨hg26, h⟩ := grd_inv h
          refine vRowB 1000001 1 900011 rfl rfl hg26 rfl ?_
          refine vRet ?_
          change ∃ _, _
          cases h
          exact ⟨[900010, 900011, 900012], rfl, ⟨rfl, rfl, rfl, trivial⟩, ⟨rfl, trivial⟩, rfl⟩
         ·intro k h
          refine vBlock ?_
          refine vLoopS (α := (List Int) × Int) (fun | (l312, at313) => (⟨[(1, .ptr 1000001 0), (2, .int a_2), (9, .map mk2 (mset from298 v307 x299)), (17, .int at313)], [(900010, some (3, .ints ((p_1.free.set ((v307).toNat) ((p_1.free.getD ((v307).toNat) 0) - (1 : Int))).set ((a_2).toNat) (((p_1.free.set ((v307).toNat) ((p_1.free.getD ((v307).toNat) 0) - (1 : Int))).getD ((a_2).toNat) 0) + (1 : Int))))), (900011, some (3, .ints l312)), (900012, some (3, .ints p_1.placed))], [(1000001, some [.row 900010 0 p_1.free.length, .row 900011 0 p_1.tails.length, .row 900012 0 p_1.placed.length])]⟩ : PS)) (I_moveTo_l3 N p_1 a_2 from298 x299 v307 k) h (En.of ⟨rfl, rfl, rfl, rfl, trivial⟩ ⟨rfl, rfl, rfl, trivial⟩ ⟨rfl, trivial⟩) (fun _ => rfl) ?_
          rintro n ⟨l312, at313⟩ h
          rw [I_moveTo_l3] at h
          show VC _ _ _ (⟨[(1, .ptr 1000001 0), (2, .int a_2), (9, .map mk2 (mset from298 v307 x299)), (17, .int at313)], [(900010, some (3, .ints ((p_1.free.set ((v307).toNat) ((p_1.free.getD ((v307).toNat) 0) - (1 : Int))).set ((a_2).toNat) (((p_1.free.set ((v307).toNat) ((p_1.free.getD ((v307).toNat) 0) - (1 : Int))).getD ((a_2).toNat) 0) + (1 : Int))))), (900011, some (3, .ints l312)), (900012, some (3, .ints p_1.placed))], [(1000001, some [.row 900010 0 p_1.free.length, .row 900011 0 p_1.tails.length, .row 900012 0 p_1.placed.length])]⟩ : PS)
          iterate 2 refine vSeq ?_
          refine vRegion ?_
          iterate 3 refine oVal tt rfl rfl rfl rfl rfl trivial ?_
          refine vNil ?_
          change VC _ _ _ _
          refine vCond rfl (fun hb27 => ?_) (fun hb27 => ?_)
          ·replace h := cnd_t hb27 h
           refine vSkip ?_
           change VC _ _ _ _
           refine vBlock ?_
           refine vSeq ?_
           refine vRegion ?_
           iterate 4 refine oVal tt rfl rfl rfl rfl rfl trivial ?_
           refine vNil ?_
           change VC _ _ _ _
           refine vSeq ?_
           refine vRegion ?_
           iterate 5 refine oVal tt rfl rfl rfl rfl rfl trivial ?_
           obtain ⟨hg28, h⟩ := grd_inv h
           refine oVal tt rfl rfl rfl rfl rfl hg28 ?_
           obtain ⟨hg29, h⟩ := grd_inv h
           refine oVal tt rfl rfl rfl rfl rfl hg29 ?_
           refine oVal tt rfl rfl rfl rfl rfl trivial ?_
           refine vNil ?_
           change VC _ _ _ _
           refine vSeq ?_
           refine vRegion ?_
           iterate 6 refine oVal tt rfl rfl rfl rfl rfl trivial ?_
           refine oVal tt rfl rfl rfl rfl rfl hg28 ?_
           refine oStore tt rfl rfl rfl rfl rfl rfl rfl rfl rfl rfl ⟨_, _, rfl, hg29.1, hg29.2⟩ ⟨hg29, trivial⟩ ?_
           refine vNil ?_
           change VC _ _ _ _
           refine vRegion ?_
           iterate 2 refine oVal tt rfl rfl rfl rfl rfl trivial ?_
           refine vNil ?_
           change ∃ _, _
           exact ⟨((l312.set (((mget (mset from298 v307 x299) at313)).toNat) at313), (l312.getD (((mget (mset from298 v307 x299) at313)).toNat) 0)), (En.of ⟨rfl, rfl, rfl, rfl, trivial⟩ ⟨rfl, rfl, rfl, trivial⟩ ⟨rfl, trivial⟩), h⟩
          ·replace h := cnd_f hb27 h
           refine vExit ?_
           change ∃ _, _
           exact ⟨l312, (En.of trivial ⟨rfl, rfl, rfl, trivial⟩ ⟨rfl, trivial⟩), h⟩
    ·replace h := cnd_f hb4 h
     refine vExit ?_
     change ∃ _, _
     exact ⟨(l297, from298), (En.of ⟨rfl, rfl, rfl, rfl, rfl, rfl, rfl, trivial⟩ ⟨rfl, rfl, rfl, rfl, trivial⟩ ⟨rfl, trivial⟩), h⟩
  ·replace h := cnd_f hb2 h
   refine vExit ?_
   change ∃ _, _
   exact ⟨(), (En.of trivial ⟨rfl, rfl, rfl, trivial⟩ ⟨rfl, trivial⟩), h⟩
def I_gather_l1 (N : Nat) (bars_0 : List (Int × Int)) (a_2 : Int) (b_3 : Int) (want_4 : Int) (k : ((List Int) × (List Int) × (List Int)) → Option (Bool × (List Int) × (List Int) × (List Int))) : Nat → ((List Int) × (List Int) × (List Int)) → Option (Bool × (List Int) × (List Int) × (List Int))
 | 0, _ => none
 | n + 1, (l16, l17, l18) =>
  grd (0 ≤ a_2 ∧ a_2 < (l16.length : Int)) <|
  grd (0 ≤ b_3 ∧ b_3 < (l16.length : Int)) <|
  grd (Rg64 ((l16.getD ((a_2).toNat) 0) + (l16.getD ((b_3).toNat) 0))) <|
  cnd (decide (((l16.getD ((a_2).toNat) 0) + (l16.getD ((b_3).toNat) 0)) < want_4)) (
   (I_moveTo N bars_0 (⟨l16, l17, l18⟩ : Pbl) a_2 b_3).bind fun v21 =>
   cnd (!v21.1) (
    (I_moveTo N bars_0 (⟨v21.2.1, v21.2.2.1, v21.2.2.2⟩ : Pbl) b_3 a_2).bind fun v22 =>
    cnd (!v22.1) (
     some (false, v22.2.1, v22.2.2.1, v22.2.2.2)) (
     I_gather_l1 N bars_0 a_2 b_3 want_4 k n (v22.2.1, v22.2.2.1, v22.2.2.2))) (
    I_gather_l1 N bars_0 a_2 b_3 want_4 k n (v21.2.1, v21.2.2.1, v21.2.2.2))) (
   k (l16, l17, l18))
def I_gather (N : Nat) (bars_0 : List (Int × Int)) (p_1 : Pbl) (a_2 : Int) (b_3 : Int) (want_4 : Int) : Option (Bool × (List Int) × (List Int) × (List Int)) :=
 I_gather_l1 N bars_0 a_2 b_3 want_4 (fun (x : (List Int) × (List Int) × (List Int)) =>
   match x with
   | (l10, l11, l12) =>
    some (true, l10, l11, l12)) N (p_1.free, p_1.tails, p_1.placed)
set_option maxRecDepth 20000 in
set_option maxHeartbeats 1600000 in
theorem I_gather_w (N : Nat) (bars_0 : List (Int × Int)) (p_1 : Pbl) (a_2 : Int) (b_3 : Int) (want_4 : Int) (r : Bool × (List Int) × (List Int) × (List Int)) (h : I_gather N bars_0 p_1 a_2 b_3 want_4 = some r) : MCall Try.prog 175 [.ro false (.pairs bars_0), .ptr 1000001 0, .int a_2, .int b_3, .int want_4] [900010, 900011, 900012] [1000001] [(3, .ints p_1.free), (3, .ints p_1.tails), (3, .ints p_1.placed)] [(3, .ints r.2.1), (3, .ints r.2.2.1), (3, .ints r.2.2.2)] [[.row 900010 0 p_1.free.length, .row 900011 0 p_1.tails.length, .row 900012 0 p_1.placed.length]] [[.row 900010 0 r.2.1.length, .row 900011 0 r.2.2.1.length, .row 900012 0 r.2.2.2.length]] (.bool r.1) := by
 unfold I_gather at h
 refine mcall_intro (TT := TT) tt Try.func175 rfl rfl Try.ntmps175 (congrArg Array.toList Try.results175) rfl rfl rfl rfl rfl fun w0 O0 => ?_
 refine vSeq ?_
 refine vRegion ?_
 refine oVal tt rfl rfl rfl rfl rfl trivial ?_
 refine vNil ?_
 change VC _ _ _ _
 refine vSeq ?_
 refine vJoin (F := fun k => I_gather_l1 N bars_0 a_2 b_3 want_4 k) h (α := (List Int) × (List Int) × (List Int)) (J := fun | (l10, l11, l12) => (⟨[], [(900010, some (3, .ints l10)), (900011, some (3, .ints l11)), (900012, some (3, .ints l12))], [(1000001, some [.row 900010 0 l10.length, .row 900011 0 l11.length, .row 900012 0 l12.length])]⟩ : PS)) ?_ ?_
 ·rintro ⟨l10, l11, l12⟩ h
  show VC _ _ _ (⟨[], [(900010, some (3, .ints l10)), (900011, some (3, .ints l11)), (900012, some (3, .ints l12))], [(1000001, some [.row 900010 0 l10.length, .row 900011 0 l11.length, .row 900012 0 l12.length])]⟩ : PS)
  refine vSeq ?_
  refine vRegion ?_
  refine oVal tt rfl rfl rfl rfl rfl trivial ?_
  refine vNil ?_
  change VC _ _ _ _
  refine vRet ?_
  change ∃ _, _
  cases h
  exact ⟨[900010, 900011, 900012], rfl, ⟨rfl, rfl, rfl, trivial⟩, ⟨rfl, trivial⟩, rfl⟩
 ·intro k h
  refine vBlock ?_
  refine vLoopS (α := (List Int) × (List Int) × (List Int)) (fun | (l16, l17, l18) => (⟨[(0, .ro false (.pairs bars_0)), (1, .ptr 1000001 0), (2, .int a_2), (3, .int b_3), (4, .int want_4)], [(900010, some (3, .ints l16)), (900011, some (3, .ints l17)), (900012, some (3, .ints l18))], [(1000001, some [.row 900010 0 l16.length, .row 900011 0 l17.length, .row 900012 0 l18.length])]⟩ : PS)) (I_gather_l1 N bars_0 a_2 b_3 want_4 k) h (En.of ⟨rfl, rfl, rfl, rfl, rfl, trivial⟩ ⟨rfl, rfl, rfl, trivial⟩ ⟨rfl, trivial⟩) (fun _ => rfl) ?_
  rintro n ⟨l16, l17, l18⟩ h
  rw [I_gather_l1] at h
  show VC _ _ _ (⟨[(0, .ro false (.pairs bars_0)), (1, .ptr 1000001 0), (2, .int a_2), (3, .int b_3), (4, .int want_4)], [(900010, some (3, .ints l16)), (900011, some (3, .ints l17)), (900012, some (3, .ints l18))], [(1000001, some [.row 900010 0 l16.length, .row 900011 0 l17.length, .row 900012 0 l18.length])]⟩ : PS)
  iterate 2 refine vSeq ?_
  refine vRegionD (by kernel_rfl) (by kernel_rfl) ?_
  iterate 5 refine cVal tt rfl (wNone rfl) rfl rfl rfl trivial ?_
  obtain ⟨hg1, h⟩ := grd_inv h
  iterate 2 refine cVal tt rfl (wNone rfl) rfl rfl rfl hg1 ?_
  iterate 5 refine cVal tt rfl (wNone rfl) rfl rfl rfl trivial ?_
  obtain ⟨hg2, h⟩ := grd_inv h
  iterate 2 refine cVal tt rfl (wNone rfl) rfl rfl rfl hg2 ?_
  obtain ⟨hg3, h⟩ := grd_inv h
  refine cVal tt rfl (wNone rfl) rfl rfl rfl hg3 ?_
  iterate 2 refine cVal tt rfl (wNone rfl) rfl rfl rfl trivial ?_
  refine cNil ?_
  change VC _ _ _ _
  refine vCond rfl (fun hb4 => ?_) (fun hb4 => ?_)
  ·replace h := cnd_t hb4 h
   refine vSkip ?_
   change VC _ _ _ _
   refine vBlock ?_
   refine vSeq ?_
   refine vRegion ?_
   iterate 4 refine oVal tt rfl rfl rfl rfl rfl trivial ?_
   obtain ⟨v21, hc5, h⟩ := bind_inv h
   refine oMCall (I_moveTo_w N bars_0 (⟨l16, l17, l18⟩ : Pbl) a_2 b_3 v21 hc5) [900010, 900011, 900012] [1000001] [1320, 1321, 1322] rfl rfl rfl rfl rfl rfl ⟨rfl, rfl, rfl, trivial⟩ ⟨rfl, trivial⟩ ⟨.inl rfl, ⟨rfl, rfl⟩, ⟨rfl, rfl⟩, ⟨rfl, rfl⟩, trivial⟩ ?_
   iterate 2 refine oVal tt rfl rfl rfl rfl rfl trivial ?_
   refine oSplit rfl rfl rfl (fun hb6 => ?_) (fun hb6 => ?_)
   ·replace h := cnd_t hb6 h
    iterate 4 refine oValG tt rfl rfl rfl rfl rfl hb6 rfl rfl rfl trivial ?_
    obtain ⟨v22, hc7, h⟩ := bind_inv h
    refine oMCallG (I_moveTo_w N bars_0 (⟨v21.2.1, v21.2.2.1, v21.2.2.2⟩ : Pbl) b_3 a_2 v22 hc7) [1320, 1321, 1322] [1000001] [1390, 1391, 1392] rfl rfl rfl rfl hb6 rfl rfl rfl rfl rfl ⟨rfl, rfl, rfl, trivial⟩ ⟨rfl, trivial⟩ ⟨.inl rfl, ⟨rfl, rfl⟩, ⟨rfl, rfl⟩, ⟨rfl, rfl⟩, trivial⟩ ?_
    refine oValG tt rfl rfl rfl rfl rfl hb6 rfl rfl rfl trivial ?_
    refine oPick rfl rfl rfl rfl rfl hb6 rfl ?_
    refine vNil ?_
    change VC _ _ _ _
    refine vCond rfl (fun hb8 => ?_) (fun hb8 => ?_)
    ·replace h := cnd_t hb8 h
     refine vSeq ?_
     refine vRegion ?_
     refine oVal tt rfl rfl rfl rfl rfl trivial ?_
     refine vNil ?_
     change VC _ _ _ _
     refine vRet ?_
     change ∃ _, _
     cases h
     exact ⟨[1390, 1391, 1392], rfl, ⟨rfl, rfl, rfl, trivial⟩, ⟨rfl, trivial⟩, rfl⟩
    ·replace h := cnd_f hb8 h
     refine vSkip ?_
     change ∃ _, _
     exact ⟨(v22.2.1, v22.2.2.1, v22.2.2.2), (En.ren [900010, 900011, 900012] [1390, 1391, 1392] rfl ⟨.inr rfl, .inr rfl, .inr rfl, .inr rfl, .inr rfl, trivial⟩ ⟨.inr rfl, .inr rfl, .inr rfl, trivial⟩ ⟨.inr ⟨_, _, rfl, rfl, ⟨.inr rfl, .inr rfl, .inr rfl, trivial⟩⟩, trivial⟩), h⟩
   ·replace h := cnd_f hb6 h
    iterate 6 refine oNoT rfl rfl rfl rfl hb6 rfl rfl ?_
    refine oPickF rfl rfl rfl rfl rfl hb6 rfl ?_
    refine vNil ?_
    change VC _ _ _ _
    refine vCondF rfl rfl ?_
    refine vSkip ?_
    change ∃ _, _
    exact ⟨(v21.2.1, v21.2.2.1, v21.2.2.2), (En.ren [900010, 900011, 900012] [1320, 1321, 1322] rfl ⟨.inr rfl, .inr rfl, .inr rfl, .inr rfl, .inr rfl, trivial⟩ ⟨.inr rfl, .inr rfl, .inr rfl, trivial⟩ ⟨.inr ⟨_, _, rfl, rfl, ⟨.inr rfl, .inr rfl, .inr rfl, trivial⟩⟩, trivial⟩), h⟩
  ·replace h := cnd_f hb4 h
   refine vExit ?_
   change ∃ _, _
   exact ⟨(l16, l17, l18), (En.of trivial ⟨rfl, rfl, rfl, trivial⟩ ⟨rfl, trivial⟩), h⟩
def I_place (N : Nat) (bars_0 : List (Int × Int)) (l_1 : Int) (p_2 : Pbl) (e_3 : Int) : Option (Bool × (List Int) × (List Int) × (List Int)) :=
 grd (0 ≤ e_3 ∧ e_3 < (bars_0.length : Int)) <|
 grd (Rg64 (l_1 + (1 : Int))) <|
 (I_gather N bars_0 (⟨p_2.free, p_2.tails, p_2.placed⟩ : Pbl) ((bars_0.getD ((e_3).toNat) (0, 0)).1) ((bars_0.getD ((e_3).toNat) (0, 0)).2) (l_1 + (1 : Int))).bind fun v1 =>
 cnd (!v1.1) (
  some (false, v1.2.1, v1.2.2.1, v1.2.2.2)) (
  grd (0 ≤ ((bars_0.getD ((e_3).toNat) (0, 0)).1) ∧ ((bars_0.getD ((e_3).toNat) (0, 0)).1) < (v1.2.1.length : Int)) <|
  jn (fun (tail2 : Int) =>
     grd (0 ≤ tail2 ∧ tail2 < (v1.2.1.length : Int)) <|
     grd (Rg64 ((v1.2.1.getD ((tail2).toNat) 0) - (1 : Int))) <|
     grd (v1.2.2.1.length + 1 ≤ 4294967296) <|
     grd (v1.2.2.2.length + 1 ≤ 4294967296) <|
     grd (v1.2.1.length = (v1.2.1.set ((tail2).toNat) ((v1.2.1.getD ((tail2).toNat) 0) - (1 : Int))).length) <|
     some (true, (v1.2.1.set ((tail2).toNat) ((v1.2.1.getD ((tail2).toNat) 0) - (1 : Int))), (v1.2.2.1 ++ ([tail2] : List Int)), (v1.2.2.2 ++ ([e_3] : List Int)))) fun k3 =>
   cnd ((v1.2.1.getD (((bars_0.getD ((e_3).toNat) (0, 0)).1).toNat) 0) == (0 : Int)) (
    k3 ((bars_0.getD ((e_3).toNat) (0, 0)).2)) (
    k3 ((bars_0.getD ((e_3).toNat) (0, 0)).1)))
set_option maxRecDepth 20000 in
set_option maxHeartbeats 1600000 in
theorem I_place_w (N : Nat) (bars_0 : List (Int × Int)) (l_1 : Int) (p_2 : Pbl) (e_3 : Int) (r : Bool × (List Int) × (List Int) × (List Int)) (h : I_place N bars_0 l_1 p_2 e_3 = some r) : MCall Try.prog 170 [.ro false (.pairs bars_0), .int l_1, .ptr 1000002 0, .int e_3] [900020, 900021, 900022] [1000002] [(3, .ints p_2.free), (3, .ints p_2.tails), (3, .ints p_2.placed)] [(3, .ints r.2.1), (3, .ints r.2.2.1), (3, .ints r.2.2.2)] [[.row 900020 0 p_2.free.length, .row 900021 0 p_2.tails.length, .row 900022 0 p_2.placed.length]] [[.row 900020 0 r.2.1.length, .row 900021 0 r.2.2.1.length, .row 900022 0 r.2.2.2.length]] (.bool r.1) := by
 unfold I_place at h
 refine mcall_intro (TT := TT) tt Try.func170 rfl rfl Try.ntmps170 (congrArg Array.toList Try.results170) rfl rfl rfl rfl rfl fun w0 O0 => ?_
 refine vSeq ?_
 refine vRegion ?_
 refine oVal tt rfl rfl rfl rfl rfl trivial ?_
 refine vNil ?_
 change VC _ _ _ _
 refine vSeq ?_
 refine vRegion ?_
 iterate 2 refine oVal tt rfl rfl rfl rfl rfl trivial ?_
 obtain ⟨hg1, h⟩ := grd_inv h
 refine oVal tt rfl rfl rfl rfl rfl hg1 ?_
 refine oVal tt rfl rfl rfl rfl rfl trivial ?_
 refine oAlloc tt rfl rfl rfl rfl rfl rfl rfl rfl rfl ?_
 refine oStore tt rfl rfl rfl rfl rfl rfl rfl rfl rfl rfl rfl ⟨trivial, trivial, trivial⟩ ?_
 refine vNil ?_
 change VC _ _ _ _
 iterate 2 refine vSeq ?_
 refine vRegion ?_
 iterate 7 refine oVal tt rfl rfl rfl rfl rfl trivial ?_
 obtain ⟨hg2, h⟩ := grd_inv h
 refine oVal tt rfl rfl rfl rfl rfl hg2 ?_
 obtain ⟨v1, hc3, h⟩ := bind_inv h
 refine oMCall (I_gather_w N bars_0 (⟨p_2.free, p_2.tails, p_2.placed⟩ : Pbl) ((bars_0.getD ((e_3).toNat) (0, 0)).1) ((bars_0.getD ((e_3).toNat) (0, 0)).2) (l_1 + (1 : Int)) v1 hc3) [900020, 900021, 900022] [1000002] [1230, 1231, 1232] rfl rfl rfl rfl rfl rfl ⟨rfl, rfl, rfl, trivial⟩ ⟨rfl, trivial⟩ ⟨.inl rfl, ⟨rfl, rfl⟩, ⟨rfl, rfl⟩, ⟨rfl, rfl⟩, ⟨rfl, rfl⟩, trivial⟩ ?_
 refine oVal tt rfl rfl rfl rfl rfl trivial ?_
 refine vNil ?_
 change VC _ _ _ _
 refine vCond rfl (fun hb4 => ?_) (fun hb4 => ?_)
 ·replace h := cnd_t hb4 h
  refine vSeq ?_
  refine vRegion ?_
  refine oVal tt rfl rfl rfl rfl rfl trivial ?_
  refine vNil ?_
  change VC _ _ _ _
  refine vRet ?_
  change ∃ _, _
  cases h
  exact ⟨[1230, 1231, 1232], rfl, ⟨rfl, rfl, rfl, trivial⟩, ⟨rfl, trivial⟩, rfl⟩
 ·replace h := cnd_f hb4 h
  refine vSkip ?_
  change VC _ _ _ _
  refine vSeq ?_
  refine vRegion ?_
  iterate 3 refine oVal tt rfl rfl rfl rfl rfl trivial ?_
  refine vNil ?_
  change VC _ _ _ _
  iterate 2 refine vSeq ?_
  refine vRegionD (by kernel_rfl) (by kernel_rfl) ?_
  iterate 6 refine cVal tt rfl (wNone rfl) rfl rfl rfl trivial ?_
  obtain ⟨hg5, h⟩ := grd_inv h
  iterate 2 refine cVal tt rfl (wNone rfl) rfl rfl rfl hg5 ?_
  refine cVal tt rfl (wNone rfl) rfl rfl rfl trivial ?_
  refine cNil ?_
  change VC _ _ _ _
  refine vJoinN h (α := Int) (J := fun (tail2 : Int) => (⟨[(2, .ptr 1000002 0), (3, .int e_3), (10, .int tail2)], [(1230, some (3, .ints v1.2.1)), (1231, some (3, .ints v1.2.2.1)), (1232, some (3, .ints v1.2.2.2))], [(1000002, some [.row 1230 0 v1.2.1.length, .row 1231 0 v1.2.2.1.length, .row 1232 0 v1.2.2.2.length])]⟩ : PS)) ?_ ?_
  ·rintro tail2 h
   show VC _ _ _ (⟨[(2, .ptr 1000002 0), (3, .int e_3), (10, .int tail2)], [(1230, some (3, .ints v1.2.1)), (1231, some (3, .ints v1.2.2.1)), (1232, some (3, .ints v1.2.2.2))], [(1000002, some [.row 1230 0 v1.2.1.length, .row 1231 0 v1.2.2.1.length, .row 1232 0 v1.2.2.2.length])]⟩ : PS)
   refine vSeq ?_
   refine vRegion ?_
   iterate 5 refine oVal tt rfl rfl rfl rfl rfl trivial ?_
   obtain ⟨hg6, h⟩ := grd_inv h
   iterate 2 refine oVal tt rfl rfl rfl rfl rfl hg6 ?_
   obtain ⟨hg7, h⟩ := grd_inv h
   refine oVal tt rfl rfl rfl rfl rfl hg7 ?_
   refine oVal tt rfl rfl rfl rfl rfl hg6 ?_
   refine oStore tt rfl rfl rfl rfl rfl rfl rfl rfl rfl rfl ⟨_, _, rfl, hg6.1, hg6.2⟩ ⟨hg6, trivial⟩ ?_
   refine vNil ?_
   change VC _ _ _ _
   refine vSeq ?_
   refine vRegion ?_
   iterate 6 refine oVal tt rfl rfl rfl rfl rfl trivial ?_
   refine oBuild tt rfl rfl rfl rfl rfl rfl rfl rfl rfl rfl rfl ?_
   obtain ⟨hg8, h⟩ := grd_inv h
   refine oAppend tt rfl rfl rfl rfl rfl rfl rfl rfl rfl rfl rfl rfl rfl rfl rfl rfl (Nat.le_of_eq (Nat.zero_add _)) hg8 ?_
   iterate 2 refine oVal tt rfl rfl rfl rfl rfl trivial ?_
   refine oStore tt rfl rfl rfl rfl rfl rfl rfl rfl rfl rfl rfl ⟨trivial, trivial⟩ ?_
   refine vNil ?_
   change VC _ _ _ _
   refine vSeq ?_
   refine vRegion ?_
   iterate 6 refine oVal tt rfl rfl rfl rfl rfl trivial ?_
   refine oBuild tt rfl rfl rfl rfl rfl rfl rfl rfl rfl rfl rfl ?_
   obtain ⟨hg9, h⟩ := grd_inv h
   refine oAppend tt rfl rfl rfl rfl rfl rfl rfl rfl rfl rfl rfl rfl rfl rfl rfl rfl (Nat.le_of_eq (Nat.zero_add _)) hg9 ?_
   iterate 2 refine oVal tt rfl rfl rfl rfl rfl trivial ?_
   refine oStore tt rfl rfl rfl rfl rfl rfl rfl rfl rfl rfl rfl ⟨trivial, trivial⟩ ?_
   refine vNil ?_
   change VC _ _ _ _
   refine vSeq ?_
   refine vRegion ?_
   refine oVal tt rfl rfl rfl rfl rfl trivial ?_
   refine vNil ?_
   change VC _ _ _ _
   obtain ⟨hg10, h⟩ := grd_inv h
   refine vRowB 1000002 0 1230 rfl rfl hg10 rfl ?_
   refine vRet ?_
   change ∃ _, _
   cases h
   exact ⟨[1230, 1231, 1232], rfl, ⟨rfl, rfl, rfl, trivial⟩, ⟨rfl, trivial⟩, rfl⟩
  ·intro k3 h
   refine vCond rfl (fun hb11 => ?_) (fun hb11 => ?_)
   ·replace h := cnd_t hb11 h
    refine vRegion ?_
    iterate 3 refine oVal tt rfl rfl rfl rfl rfl trivial ?_
    refine vNil ?_
    change ∃ _, _
    exact ⟨(bars_0.getD ((e_3).toNat) (0, 0)).2, (En.of ⟨rfl, rfl, rfl, trivial⟩ ⟨rfl, rfl, rfl, trivial⟩ ⟨rfl, trivial⟩), h⟩
   ·replace h := cnd_f hb11 h
    refine vSkip ?_
    change ∃ _, _
    exact ⟨(bars_0.getD ((e_3).toNat) (0, 0)).1, (En.of ⟨rfl, rfl, rfl, trivial⟩ ⟨rfl, rfl, rfl, trivial⟩ ⟨rfl, trivial⟩), h⟩
def I_play_l1 (N : Nat) (bars_1 : List (Int × Int)) (l_3 : Int) (k : ((List Int) × (List Int) × (List Int)) → Option (Pbl)) : Nat → ((List Int) × (List Int) × (List Int) × Int) → Option (Pbl)
 | 0, _ => none
 | n + 1, (l39, l40, l41, x42) =>
  cnd (decide (x42 < (bars_1.length : Int))) (
   (I_copyPebbles N (⟨l39, l40, l41⟩ : Pbl)).bind fun v45 =>
   (I_place N bars_1 l_3 (⟨v45.free, v45.tails, v45.placed⟩ : Pbl) x42).bind fun v46 =>
   cnd v46.1 (
    grd (Rg64 (x42 + (1 : Int))) <|
    I_play_l1 N bars_1 l_3 k n (v46.2.1, v46.2.2.1, v46.2.2.2, (x42 + (1 : Int)))) (
    grd (Rg64 (x42 + (1 : Int))) <|
    I_play_l1 N bars_1 l_3 k n (l39, l40, l41, (x42 + (1 : Int))))) (
   k (l39, l40, l41))
def I_play_l2 (N : Nat) (points_0 : Int) (k_2 : Int) (k : (List Int) → Option (Pbl)) : Nat → ((List Int) × Int) → Option (Pbl)
 | 0, _ => none
 | n + 1, (l49, x50) =>
  cnd (decide (x50 < points_0)) (
   grd (l49.length + 1 ≤ 4294967296) <|
   grd (Rg64 (x50 + (1 : Int))) <|
   I_play_l2 N points_0 k_2 k n ((l49 ++ ([k_2] : List Int)), (x50 + (1 : Int)))) (
   k l49)
def I_play (N : Nat) (points_0 : Int) (bars_1 : List (Int × Int)) (k_2 : Int) (l_3 : Int) : Option (Pbl) :=
 I_play_l2 N points_0 k_2 (fun (l4 : List Int) =>
    I_play_l1 N bars_1 l_3 (fun (x : (List Int) × (List Int) × (List Int)) =>
      match x with
      | (l24, l25, l26) =>
       some (⟨l24, l25, l26⟩ : Pbl)) N (l4, ([] : List Int), ([] : List Int), (0 : Int))) N (([] : List Int), (0 : Int))
set_option maxRecDepth 20000 in
set_option maxHeartbeats 1600000 in
theorem I_play_w (N : Nat) (points_0 : Int) (bars_1 : List (Int × Int)) (k_2 : Int) (l_3 : Int) (r : Pbl) (h : I_play N points_0 bars_1 k_2 l_3 = some r) : PCall Try.prog 161 [.int points_0, .ro false (.pairs bars_1), .int k_2, .int l_3] [(3, .ints r.free), (3, .ints r.tails), (3, .ints r.placed)] (.agg [.row 0 0 r.free.length, .row 1 0 r.tails.length, .row 2 0 r.placed.length]) := by
 unfold I_play at h
 refine pcall_intro (TT := TT) tt Try.func161 rfl rfl Try.ntmps161 (congrArg Array.toList Try.results161) rfl rfl fun w0 => ?_
 refine vSeq ?_
 refine vRegion ?_
 refine oAlloc tt rfl rfl rfl rfl rfl rfl rfl rfl rfl ?_
 refine vNil ?_
 change VC _ _ _ _
 refine vSeq ?_
 refine vRegion ?_
 refine oPure (wNone rfl) (pBuild bld_impl_Pebbles rfl rfl) rfl rfl ?_
 refine oAlloc tt rfl rfl rfl rfl rfl rfl rfl rfl rfl ?_
 refine oStore tt rfl rfl rfl rfl rfl rfl rfl rfl rfl rfl rfl ⟨trivial, trivial, trivial, trivial⟩ ?_
 refine vNil ?_
 change VC _ _ _ _
 iterate 2 refine vSeq ?_
 refine vRegion ?_
 iterate 2 refine oVal tt rfl rfl rfl rfl rfl trivial ?_
 refine vNil ?_
 change VC _ _ _ _
 refine vJoin (F := fun k => I_play_l2 N points_0 k_2 k) h (α := List Int) (J := fun (l4 : List Int) => (⟨[(1, .ro false (.pairs bars_1)), (3, .int l_3), (8, .ptr 8 0), (9, .ptr 9 0)], [(20, some (3, .ints l4))], [(8, some [.nil, .nil, .nil]), (9, some [.row 20 0 l4.length, .nil, .nil])]⟩ : PS)) ?_ ?_
 ·rintro l4 h
  show VC _ _ _ (⟨[(1, .ro false (.pairs bars_1)), (3, .int l_3), (8, .ptr 8 0), (9, .ptr 9 0)], [(20, some (3, .ints l4))], [(8, some [.nil, .nil, .nil]), (9, some [.row 20 0 l4.length, .nil, .nil])]⟩ : PS)
  iterate 2 refine vSeq ?_
  refine vRegion ?_
  iterate 3 refine oVal tt rfl rfl rfl rfl rfl trivial ?_
  refine vNil ?_
  change VC _ _ _ _
  refine vJoin (F := fun k => I_play_l1 N bars_1 l_3 k) h (α := (List Int) × (List Int) × (List Int)) (J := fun | (l24, l25, l26) => (⟨[(8, .ptr 8 0), (9, .ptr 9 0)], [(20, some (3, .ints l24)), (9505, some (3, .ints l25)), (9506, some (3, .ints l26))], [(8, some [.nil, .nil, .nil]), (9, some [.row 20 0 l24.length, .row 9505 0 l25.length, .row 9506 0 l26.length])]⟩ : PS)) ?_ ?_
  ·rintro ⟨l24, l25, l26⟩ h
   show VC _ _ _ (⟨[(8, .ptr 8 0), (9, .ptr 9 0)], [(20, some (3, .ints l24)), (9505, some (3, .ints l25)), (9506, some (3, .ints l26))], [(8, some [.nil, .nil, .nil]), (9, some [.row 20 0 l24.length, .row 9505 0 l25.length, .row 9506 0 l26.length])]⟩ : PS)
   refine vSeq ?_
   refine vRegion ?_
   refine oVal tt rfl rfl rfl rfl rfl trivial ?_
   refine oStore tt rfl rfl rfl rfl rfl rfl rfl rfl rfl rfl rfl ⟨trivial, trivial, trivial, trivial⟩ ?_
   refine vNil ?_
   change VC _ _ _ _
   refine vRet ?_
   change ∃ _, _
   cases h
   exact ⟨[20, 9505, 9506], _, rfl, ⟨rfl, rfl, rfl, trivial⟩, rfl, (.eq rfl), rfl⟩
  ·intro k h
   refine vBlock ?_
   refine vNilB 9 1 9507 3 (.ints []) rfl rfl rfl rfl rfl ?_
   refine vNilB 9 2 9508 3 (.ints []) rfl rfl rfl rfl rfl ?_
   refine vLoopS (α := (List Int) × (List Int) × (List Int) × Int) (fun | (l39, l40, l41, x42) => (⟨[(1, .ro false (.pairs bars_1)), (3, .int l_3), (8, .ptr 8 0), (9, .ptr 9 0), (24, .int (bars_1.length : Int)), (25, .int x42)], [(20, some (3, .ints l39)), (9507, some (3, .ints l40)), (9508, some (3, .ints l41))], [(8, some [.nil, .nil, .nil]), (9, some [.row 20 0 l39.length, .row 9507 0 l40.length, .row 9508 0 l41.length])]⟩ : PS)) (I_play_l1 N bars_1 l_3 k) h (En.of ⟨rfl, rfl, rfl, rfl, rfl, rfl, trivial⟩ ⟨rfl, rfl, rfl, trivial⟩ ⟨rfl, rfl, trivial⟩) (fun _ => rfl) ?_
   rintro n ⟨l39, l40, l41, x42⟩ h
   rw [I_play_l1] at h
   show VC _ _ _ (⟨[(1, .ro false (.pairs bars_1)), (3, .int l_3), (8, .ptr 8 0), (9, .ptr 9 0), (24, .int (bars_1.length : Int)), (25, .int x42)], [(20, some (3, .ints l39)), (9507, some (3, .ints l40)), (9508, some (3, .ints l41))], [(8, some [.nil, .nil, .nil]), (9, some [.row 20 0 l39.length, .row 9507 0 l40.length, .row 9508 0 l41.length])]⟩ : PS)
   refine vSeq ?_
   refine vRegion ?_
   refine oVal tt rfl rfl rfl rfl rfl trivial ?_
   refine vNil ?_
   change VC _ _ _ _
   refine vSeq ?_
   refine vCond rfl (fun hb1 => ?_) (fun hb1 => ?_)
   ·replace h := cnd_t hb1 h
    refine vSkip ?_
    change VC _ _ _ _
    refine vSeq ?_
    refine vBlock ?_
    refine vSeq ?_
    refine vRegion ?_
    iterate 2 refine oVal tt rfl rfl rfl rfl rfl trivial ?_
    refine vNil ?_
    change VC _ _ _ _
    refine vSeq ?_
    refine vRegion ?_
    refine oVal tt rfl rfl rfl rfl rfl trivial ?_
    obtain ⟨v45, hc2, h⟩ := bind_inv h
    refine oCall (I_copyPebbles_w N (⟨l39, l40, l41⟩ : Pbl) v45 hc2) rfl rfl rfl rfl rfl rfl rfl rfl ⟨⟨(.inl ⟨rfl, rfl⟩), (.inl ⟨rfl, rfl⟩), (.inl ⟨rfl, rfl⟩), trivial⟩, trivial⟩ ?_
    refine oAlloc tt rfl rfl rfl rfl rfl rfl rfl rfl rfl ?_
    refine oStore tt rfl rfl rfl rfl rfl rfl rfl rfl rfl rfl rfl ⟨trivial, trivial, trivial, trivial⟩ ?_
    refine vNil ?_
    change VC _ _ _ _
    refine vSeq ?_
    refine vRegion ?_
    iterate 3 refine oVal tt rfl rfl rfl rfl rfl trivial ?_
    obtain ⟨v46, hc3, h⟩ := bind_inv h
    refine oMCall (I_place_w N bars_1 l_3 (⟨v45.free, v45.tails, v45.placed⟩ : Pbl) x42 v46 hc3) [1290, 1291, 1292] [11] [1330, 1331, 1332] rfl rfl rfl rfl rfl rfl ⟨rfl, rfl, rfl, trivial⟩ ⟨rfl, trivial⟩ ⟨.inl rfl, ⟨rfl, rfl⟩, ⟨rfl, rfl⟩, ⟨rfl, rfl⟩, trivial⟩ ?_
    refine vNil ?_
    change VC _ _ _ _
    refine vCond rfl (fun hb4 => ?_) (fun hb4 => ?_)
    ·replace h := cnd_t hb4 h
     refine vRegion ?_
     refine oVal tt rfl rfl rfl rfl rfl trivial ?_
     refine oStore tt rfl rfl rfl rfl rfl rfl rfl rfl rfl rfl rfl ⟨trivial, trivial, trivial, trivial⟩ ?_
     refine vNil ?_
     change VC _ _ _ _
     refine vRegion ?_
     obtain ⟨hg5, h⟩ := grd_inv h
     refine oVal tt rfl rfl rfl rfl rfl hg5 ?_
     refine oVal tt rfl rfl rfl rfl rfl trivial ?_
     refine vNil ?_
     change ∃ _, _
     exact ⟨(v46.2.1, v46.2.2.1, v46.2.2.2, (x42 + (1 : Int))), (En.ren [20, 9507, 9508] [1330, 1331, 1332] rfl ⟨.inr rfl, .inr rfl, .inr rfl, .inr rfl, .inr rfl, .inr rfl, trivial⟩ ⟨.inr rfl, .inr rfl, .inr rfl, trivial⟩ ⟨.inr ⟨_, _, rfl, rfl, ⟨.inr rfl, .inr rfl, .inr rfl, trivial⟩⟩, .inr ⟨_, _, rfl, rfl, ⟨.inr rfl, .inr rfl, .inr rfl, trivial⟩⟩, trivial⟩), h⟩
    ·replace h := cnd_f hb4 h
     refine vSkip ?_
     change VC _ _ _ _
     refine vRegion ?_
     obtain ⟨hg6, h⟩ := grd_inv h
     refine oVal tt rfl rfl rfl rfl rfl hg6 ?_
     refine oVal tt rfl rfl rfl rfl rfl trivial ?_
     refine vNil ?_
     change ∃ _, _
     exact ⟨(l39, l40, l41, (x42 + (1 : Int))), (En.of ⟨rfl, rfl, rfl, rfl, rfl, rfl, trivial⟩ ⟨rfl, rfl, rfl, trivial⟩ ⟨rfl, rfl, trivial⟩), h⟩
   ·replace h := cnd_f hb1 h
    refine vExit ?_
    change ∃ _, _
    exact ⟨(l39, l40, l41), (En.ren [9505, 9506] [9507, 9508] rfl ⟨.inr rfl, .inr rfl, trivial⟩ ⟨.inr rfl, .inr rfl, .inr rfl, trivial⟩ ⟨.inr ⟨_, _, rfl, rfl, ⟨.inr rfl, .inr rfl, .inr rfl, trivial⟩⟩, .inr ⟨_, _, rfl, rfl, ⟨.inr rfl, .inr rfl, .inr rfl, trivial⟩⟩, trivial⟩), h⟩
 ·intro k h
  refine vBlock ?_
  refine vNilB 9 0 20 3 (.ints []) rfl rfl rfl rfl rfl ?_
  refine vLoopS (α := (List Int) × Int) (fun | (l49, x50) => (⟨[(1, .ro false (.pairs bars_1)), (2, .int k_2), (3, .int l_3), (8, .ptr 8 0), (9, .ptr 9 0), (13, .int points_0), (14, .int x50)], [(20, some (3, .ints l49))], [(8, some [.nil, .nil, .nil]), (9, some [.row 20 0 l49.length, .nil, .nil])]⟩ : PS)) (I_play_l2 N points_0 k_2 k) h (En.of ⟨rfl, rfl, rfl, rfl, rfl, rfl, rfl, trivial⟩ ⟨rfl, trivial⟩ ⟨rfl, rfl, trivial⟩) (fun _ => rfl) ?_
  rintro n ⟨l49, x50⟩ h
  rw [I_play_l2] at h
  show VC _ _ _ (⟨[(1, .ro false (.pairs bars_1)), (2, .int k_2), (3, .int l_3), (8, .ptr 8 0), (9, .ptr 9 0), (13, .int points_0), (14, .int x50)], [(20, some (3, .ints l49))], [(8, some [.nil, .nil, .nil]), (9, some [.row 20 0 l49.length, .nil, .nil])]⟩ : PS)
  refine vSeq ?_
  refine vRegion ?_
  refine oVal tt rfl rfl rfl rfl rfl trivial ?_
  refine vNil ?_
  change VC _ _ _ _
  refine vSeq ?_
  refine vCond rfl (fun hb7 => ?_) (fun hb7 => ?_)
  ·replace h := cnd_t hb7 h
   refine vSkip ?_
   change VC _ _ _ _
   refine vSeq ?_
   refine vBlock ?_
   refine vRegion ?_
   iterate 3 refine oVal tt rfl rfl rfl rfl rfl trivial ?_
   refine oBuild tt rfl rfl rfl rfl rfl rfl rfl rfl rfl rfl rfl ?_
   obtain ⟨hg8, h⟩ := grd_inv h
   refine oAppend tt rfl rfl rfl rfl rfl rfl rfl rfl rfl rfl rfl rfl rfl rfl rfl rfl (Nat.le_of_eq (Nat.zero_add _)) hg8 ?_
   refine oVal tt rfl rfl rfl rfl rfl trivial ?_
   refine oStore tt rfl rfl rfl rfl rfl rfl rfl rfl rfl rfl rfl ⟨trivial, trivial⟩ ?_
   refine vNil ?_
   change VC _ _ _ _
   refine vRegion ?_
   obtain ⟨hg9, h⟩ := grd_inv h
   refine oVal tt rfl rfl rfl rfl rfl hg9 ?_
   refine oVal tt rfl rfl rfl rfl rfl trivial ?_
   refine vNil ?_
   change ∃ _, _
   exact ⟨((l49 ++ ([k_2] : List Int)), (x50 + (1 : Int))), (En.of ⟨rfl, rfl, rfl, rfl, rfl, rfl, rfl, trivial⟩ ⟨rfl, trivial⟩ ⟨rfl, rfl, trivial⟩), h⟩
  ·replace h := cnd_f hb7 h
   refine vExit ?_
   change ∃ _, _
   exact ⟨l49, (En.of ⟨rfl, rfl, rfl, rfl, trivial⟩ ⟨rfl, trivial⟩ ⟨rfl, rfl, trivial⟩), h⟩
end Go.Proofs.Ytkklfgcelmeccaa
