/- Texts that the proof needs, put together: G4 G5 G32 G6 G7 G31 G33 G34 G14 G8 G15. -/
import Derived.Test.YtcljhpldfanhkaaBJc3
set_option linter.unusedVariables false
set_option linter.unusedSimpArgs false
namespace Go.Proofs.Ytcljhpldfanhkaa
open Go.RowKit
def S_l2After (N : Nat) (a_0 : Int × Int) (b_1 : Int × Int) : Option (Bool) :=
 cnd (decide (a_0.1 < b_1.1)) (
  some true) (
  cnd (a_0.1 == b_1.1) (
   some (decide (a_0.2 ≤ b_1.2))) (
   some false))
set_option maxRecDepth 20000 in
set_option maxHeartbeats 1600000 in
theorem S_l2After_w (N : Nat) (a_0 : Int × Int) (b_1 : Int × Int) (r : Bool) (h : S_l2After N a_0 b_1 = some r) : PCall Try.prog 198 [.agg [.int a_0.1, .int a_0.2], .agg [.int b_1.1, .int b_1.2]] [] (.bool r) := by
 unfold S_l2After at h
 refine pcall_intro (TT := TT) tt Try.func198 rfl rfl Try.ntmps198 (congrArg Array.toList Try.results198) rfl rfl fun w0 => ?_
 refine vSeq ?_
 refine vRegion ?_
 iterate 2 refine oBox rfl rfl rfl rfl rfl rfl rfl rfl rfl ?_
 refine oVal tt rfl rfl rfl rfl rfl trivial ?_
 refine vNil ?_
 change VC _ _ _ _
 refine vSeq ?_
 refine vRegion ?_
 iterate 6 refine oVal tt rfl rfl rfl rfl rfl trivial ?_
 refine oSplit rfl rfl rfl (fun hb1 => ?_) (fun hb1 => ?_)
 ·replace h := cnd_t hb1 h
  iterate 6 refine oNoF rfl rfl rfl rfl hb1 rfl rfl ?_
  iterate 5 refine oNoU rfl rfl rfl rfl rfl ?_
  refine oNoF rfl rfl rfl rfl hb1 rfl rfl ?_
  refine oPick rfl rfl rfl rfl rfl hb1 rfl ?_
  refine oVal tt rfl rfl rfl rfl rfl trivial ?_
  refine vNil ?_
  change VC _ _ _ _
  refine vRet ?_
  change ∃ _, _
  cases h
  exact ⟨[], _, rfl, trivial, rfl, (.eq rfl), rfl⟩
 ·replace h := cnd_f hb1 h
  iterate 6 refine oValG tt rfl rfl rfl rfl rfl hb1 rfl rfl rfl trivial ?_
  refine oSplit rfl rfl rfl (fun hb2 => ?_) (fun hb2 => ?_)
  ·replace h := cnd_t hb2 h
   iterate 5 refine oValG tt rfl rfl rfl rfl rfl hb2 rfl rfl rfl trivial ?_
   refine oPickGT rfl rfl rfl rfl hb1 rfl rfl rfl rfl hb2 rfl ?_
   refine oPickF rfl rfl rfl rfl rfl hb1 rfl ?_
   refine oVal tt rfl rfl rfl rfl rfl trivial ?_
   refine vNil ?_
   change VC _ _ _ _
   refine vRet ?_
   change ∃ _, _
   cases h
   exact ⟨[], _, rfl, trivial, rfl, (.eq rfl), rfl⟩
  ·replace h := cnd_f hb2 h
   iterate 5 refine oNoT rfl rfl rfl rfl hb2 rfl rfl ?_
   refine oPickGF rfl rfl rfl rfl hb1 rfl rfl rfl rfl hb2 rfl ?_
   refine oPickF rfl rfl rfl rfl rfl hb1 rfl ?_
   refine oVal tt rfl rfl rfl rfl rfl trivial ?_
   refine vNil ?_
   change VC _ _ _ _
   refine vRet ?_
   change ∃ _, _
   cases h
   exact ⟨[], _, rfl, trivial, rfl, (.eq rfl), rfl⟩
def S_IsGraph_l1 (N : Nat) (g_0 : Grf) (k : Unit → Option (Bool)) : Nat → Int → Option (Bool)
 | 0, _ => none
 | n + 1, i8 =>
  cnd (decide (i8 < (g_0.bars.length : Int))) (
   grd (0 ≤ i8 ∧ i8 < (g_0.bars.length : Int)) <|
   cnd (decide (((g_0.bars.getD ((i8).toNat) (0, 0)).1) < (0 : Int))) (
    some false) (
    cnd (decide (((g_0.bars.getD ((i8).toNat) (0, 0)).1) ≥ ((g_0.bars.getD ((i8).toNat) (0, 0)).2))) (
     some false) (
     cnd (decide (((g_0.bars.getD ((i8).toNat) (0, 0)).2) ≥ g_0.n)) (
      some false) (
      cnd (decide (i8 > (0 : Int))) (
       grd (Rg64 (i8 - (1 : Int))) <|
       grd (0 ≤ (i8 - (1 : Int)) ∧ (i8 - (1 : Int)) < (g_0.bars.length : Int)) <|
       (S_l2After N (g_0.bars.getD (((i8 - (1 : Int))).toNat) (0, 0)) (g_0.bars.getD ((i8).toNat) (0, 0))).bind fun v10 =>
       cnd (!v10) (
        some false) (
        grd (Rg64 (i8 + (1 : Int))) <|
        S_IsGraph_l1 N g_0 k n (i8 + (1 : Int)))) (
       grd (Rg64 (i8 + (1 : Int))) <|
       S_IsGraph_l1 N g_0 k n (i8 + (1 : Int))))))) (
   k ())
def S_IsGraph (N : Nat) (g_0 : Grf) : Option (Bool) :=
 (S_l1In N g_0.n (1 : Int) (8 : Int)).bind fun v1 =>
 cnd (!v1) (
  some false) (
  cnd (decide ((g_0.bars.length : Int) > (24 : Int))) (
   some false) (
   S_IsGraph_l1 N g_0 (fun (_ : Unit) =>
      some true) N (0 : Int)))
set_option maxRecDepth 20000 in
set_option maxHeartbeats 1600000 in
theorem S_IsGraph_w (N : Nat) (g_0 : Grf) (r : Bool) (h : S_IsGraph N g_0 = some r) : PCall Try.prog 178 [gD g_0] [] (.bool r) := by
 unfold S_IsGraph at h
 refine pcall_intro (TT := TT) tt Try.func178 rfl rfl Try.ntmps178 (congrArg Array.toList Try.results178) rfl rfl fun w0 => ?_
 refine vSeq ?_
 refine vRegion ?_
 refine oBox rfl rfl rfl rfl rfl rfl rfl rfl rfl ?_
 refine oVal tt rfl rfl rfl rfl rfl trivial ?_
 refine vNil ?_
 change VC _ _ _ _
 iterate 2 refine vSeq ?_
 refine vRegion ?_
 iterate 2 refine oVal tt rfl rfl rfl rfl rfl trivial ?_
 obtain ⟨v1, hc1, h⟩ := bind_inv h
 refine oCall (S_l1In_w N g_0.n (1 : Int) (8 : Int) v1 hc1) rfl rfl rfl rfl rfl rfl rfl rfl ⟨rfl, rfl, rfl, trivial⟩ ?_
 iterate 2 refine oVal tt rfl rfl rfl rfl rfl trivial ?_
 refine oSplit rfl rfl rfl (fun hb2 => ?_) (fun hb2 => ?_)
 ·replace h := cnd_t hb2 h
  iterate 4 refine oNoF rfl rfl rfl rfl hb2 rfl rfl ?_
  refine oPick rfl rfl rfl rfl rfl hb2 rfl ?_
  refine vNil ?_
  change VC _ _ _ _
  refine vCondT rfl rfl ?_
  refine vSeq ?_
  refine vRegion ?_
  refine oVal tt rfl rfl rfl rfl rfl trivial ?_
  refine vNil ?_
  change VC _ _ _ _
  refine vRet ?_
  change ∃ _, _
  cases h
  exact ⟨[], _, rfl, trivial, rfl, (.eq rfl), rfl⟩
 ·replace h := cnd_f hb2 h
  iterate 4 refine oValG tt rfl rfl rfl rfl rfl hb2 rfl rfl rfl trivial ?_
  refine oPickF rfl rfl rfl rfl rfl hb2 rfl ?_
  refine vNil ?_
  change VC _ _ _ _
  refine vCond rfl (fun hb3 => ?_) (fun hb3 => ?_)
  ·replace h := cnd_t hb3 h
   refine vSeq ?_
   refine vRegion ?_
   refine oVal tt rfl rfl rfl rfl rfl trivial ?_
   refine vNil ?_
   change VC _ _ _ _
   refine vRet ?_
   change ∃ _, _
   cases h
   exact ⟨[], _, rfl, trivial, rfl, (.eq rfl), rfl⟩
  ·replace h := cnd_f hb3 h
   refine vSkip ?_
   change VC _ _ _ _
   iterate 2 refine vSeq ?_
   refine vRegion ?_
   refine oVal tt rfl rfl rfl rfl rfl trivial ?_
   refine vNil ?_
   change VC _ _ _ _
   refine vJoin (F := fun k => S_IsGraph_l1 N g_0 k) h (α := Unit) (J := fun (_ : Unit) => (⟨[], [], []⟩ : PS)) ?_ ?_
   ·rintro ⟨⟩ h
    show VC _ _ _ (⟨[], [], []⟩ : PS)
    refine vSeq ?_
    refine vRegion ?_
    refine oVal tt rfl rfl rfl rfl rfl trivial ?_
    refine vNil ?_
    change VC _ _ _ _
    refine vRet ?_
    change ∃ _, _
    cases h
    exact ⟨[], _, rfl, trivial, rfl, (.eq rfl), rfl⟩
   ·intro k h
    refine vBlock ?_
    refine vLoopS (α := Int) (fun (i8 : Int) => (⟨[(1, .ptr 1 0), (3, .int i8)], [], [(1, some [.int g_0.n, .ro false (.pairs g_0.bars)])]⟩ : PS)) (S_IsGraph_l1 N g_0 k) h (En.of ⟨rfl, rfl, trivial⟩ trivial ⟨rfl, trivial⟩) (fun _ => rfl) ?_
    rintro n i8 h
    rw [S_IsGraph_l1] at h
    show VC _ _ _ (⟨[(1, .ptr 1 0), (3, .int i8)], [], [(1, some [.int g_0.n, .ro false (.pairs g_0.bars)])]⟩ : PS)
    iterate 2 refine vSeq ?_
    refine vRegion ?_
    iterate 5 refine oVal tt rfl rfl rfl rfl rfl trivial ?_
    refine vNil ?_
    change VC _ _ _ _
    refine vCond rfl (fun hb4 => ?_) (fun hb4 => ?_)
    ·replace h := cnd_t hb4 h
     refine vSkip ?_
     change VC _ _ _ _
     refine vSeq ?_
     refine vBlock ?_
     refine vSeq ?_
     refine vRegion ?_
     iterate 3 refine oVal tt rfl rfl rfl rfl rfl trivial ?_
     obtain ⟨hg5, h⟩ := grd_inv h
     refine oVal tt rfl rfl rfl rfl rfl hg5 ?_
     refine oVal tt rfl rfl rfl rfl rfl trivial ?_
     refine oAlloc tt rfl rfl rfl rfl rfl rfl rfl rfl rfl ?_
     refine oStore tt rfl rfl rfl rfl rfl rfl rfl rfl rfl rfl rfl ⟨trivial, trivial, trivial⟩ ?_
     refine vNil ?_
     change VC _ _ _ _
     refine vSeq ?_
     refine vRegionD (by kernel_rfl) (by kernel_rfl) ?_
     iterate 4 refine cVal tt rfl (wNone rfl) rfl rfl rfl trivial ?_
     refine cSplit rfl rfl rfl (fun hb6 => ?_) (fun hb6 => ?_)
     ·replace h := cnd_t hb6 h
      iterate 5 refine cNoF rfl rfl rfl rfl hb6 rfl rfl ?_
      refine cPickT rfl (wNone rfl) rfl rfl rfl hb6 rfl ?_
      refine cVal tt rfl (wNone rfl) rfl rfl rfl trivial ?_
      iterate 5 refine cNoF rfl rfl rfl rfl rfl rfl rfl ?_
      refine cPickT rfl (wNone rfl) rfl rfl rfl rfl rfl ?_
      refine cVal tt rfl (wNone rfl) rfl rfl rfl trivial ?_
      iterate 3 refine cNoF rfl rfl rfl rfl rfl rfl rfl ?_
      iterate 9 refine cNoU rfl rfl rfl rfl rfl ?_
      refine cNoF rfl rfl rfl rfl rfl rfl rfl ?_
      refine cPickT rfl (wNone rfl) rfl rfl rfl rfl rfl ?_
      refine cNil ?_
      change VC _ _ _ _
      refine vCondT rfl rfl ?_
      refine vSeq ?_
      refine vRegion ?_
      refine oVal tt rfl rfl rfl rfl rfl trivial ?_
      refine vNil ?_
      change VC _ _ _ _
      refine vRet ?_
      change ∃ _, _
      cases h
      exact ⟨[], _, rfl, trivial, rfl, (.eq rfl), rfl⟩
     ·replace h := cnd_f hb6 h
      iterate 5 refine cVal tt rfl (wSome rfl rfl rfl rfl hb6) rfl rfl rfl trivial ?_
      refine cPickF rfl (wNone rfl) rfl rfl rfl hb6 rfl ?_
      refine cVal tt rfl (wNone rfl) rfl rfl rfl trivial ?_
      refine cSplit rfl rfl rfl (fun hb7 => ?_) (fun hb7 => ?_)
      ·replace h := cnd_t hb7 h
       iterate 5 refine cNoF rfl rfl rfl rfl hb7 rfl rfl ?_
       refine cPickT rfl (wNone rfl) rfl rfl rfl hb7 rfl ?_
       refine cVal tt rfl (wNone rfl) rfl rfl rfl trivial ?_
       iterate 3 refine cNoF rfl rfl rfl rfl rfl rfl rfl ?_
       iterate 9 refine cNoU rfl rfl rfl rfl rfl ?_
       refine cNoF rfl rfl rfl rfl rfl rfl rfl ?_
       refine cPickT rfl (wNone rfl) rfl rfl rfl rfl rfl ?_
       refine cNil ?_
       change VC _ _ _ _
       refine vCondT rfl rfl ?_
       refine vSeq ?_
       refine vRegion ?_
       refine oVal tt rfl rfl rfl rfl rfl trivial ?_
       refine vNil ?_
       change VC _ _ _ _
       refine vRet ?_
       change ∃ _, _
       cases h
       exact ⟨[], _, rfl, trivial, rfl, (.eq rfl), rfl⟩
      ·replace h := cnd_f hb7 h
       iterate 5 refine cVal tt rfl (wSome rfl rfl rfl rfl hb7) rfl rfl rfl trivial ?_
       refine cPickF rfl (wNone rfl) rfl rfl rfl hb7 rfl ?_
       refine cVal tt rfl (wNone rfl) rfl rfl rfl trivial ?_
       refine cSplit rfl rfl rfl (fun hb8 => ?_) (fun hb8 => ?_)
       ·replace h := cnd_t hb8 h
        iterate 3 refine cNoF rfl rfl rfl rfl hb8 rfl rfl ?_
        iterate 9 refine cNoU rfl rfl rfl rfl rfl ?_
        refine cNoF rfl rfl rfl rfl hb8 rfl rfl ?_
        refine cPickT rfl (wNone rfl) rfl rfl rfl hb8 rfl ?_
        refine cNil ?_
        change VC _ _ _ _
        refine vCondT rfl rfl ?_
        refine vSeq ?_
        refine vRegion ?_
        refine oVal tt rfl rfl rfl rfl rfl trivial ?_
        refine vNil ?_
        change VC _ _ _ _
        refine vRet ?_
        change ∃ _, _
        cases h
        exact ⟨[], _, rfl, trivial, rfl, (.eq rfl), rfl⟩
       ·replace h := cnd_f hb8 h
        iterate 3 refine cVal tt rfl (wSome rfl rfl rfl rfl hb8) rfl rfl rfl trivial ?_
        refine cSplit rfl rfl rfl (fun hb9 => ?_) (fun hb9 => ?_)
        ·replace h := cnd_t hb9 h
         iterate 3 refine cVal tt rfl (wSome rfl rfl rfl rfl hb9) rfl rfl rfl trivial ?_
         obtain ⟨hg10, h⟩ := grd_inv h
         refine cVal tt rfl (wSome rfl rfl rfl rfl hb9) rfl rfl rfl hg10 ?_
         obtain ⟨hg11, h⟩ := grd_inv h
         refine cVal tt rfl (wSome rfl rfl rfl rfl hb9) rfl rfl rfl hg11 ?_
         iterate 2 refine cVal tt rfl (wSome rfl rfl rfl rfl hb9) rfl rfl rfl trivial ?_
         obtain ⟨v10, hc12, h⟩ := bind_inv h
         refine cCall (S_l2After_w N (g_0.bars.getD (((i8 - (1 : Int))).toNat) (0, 0)) (g_0.bars.getD ((i8).toNat) (0, 0)) v10 hc12) rfl (wSome rfl rfl rfl rfl hb9) rfl rfl rfl rfl rfl rfl ⟨⟨rfl, rfl, trivial⟩, ⟨rfl, rfl, trivial⟩, trivial⟩ ?_
         refine cVal tt rfl (wSome rfl rfl rfl rfl hb9) rfl rfl rfl trivial ?_
         refine cPickT rfl (wSome rfl rfl rfl rfl hb8) rfl rfl rfl hb9 rfl ?_
         refine cPickF rfl (wNone rfl) rfl rfl rfl hb8 rfl ?_
         refine cNil ?_
         change VC _ _ _ _
         refine vCond rfl (fun hb13 => ?_) (fun hb13 => ?_)
         ·replace h := cnd_t hb13 h
          refine vSeq ?_
          refine vRegion ?_
          refine oVal tt rfl rfl rfl rfl rfl trivial ?_
          refine vNil ?_
          change VC _ _ _ _
          refine vRet ?_
          change ∃ _, _
          cases h
          exact ⟨[], _, rfl, trivial, rfl, (.eq rfl), rfl⟩
         ·replace h := cnd_f hb13 h
          refine vSkip ?_
          change VC _ _ _ _
          refine vRegion ?_
          refine oVal tt rfl rfl rfl rfl rfl trivial ?_
          obtain ⟨hg14, h⟩ := grd_inv h
          refine oVal tt rfl rfl rfl rfl rfl hg14 ?_
          refine oVal tt rfl rfl rfl rfl rfl trivial ?_
          refine vNil ?_
          change ∃ _, _
          exact ⟨(i8 + (1 : Int)), (En.of ⟨rfl, rfl, trivial⟩ trivial ⟨rfl, trivial⟩), h⟩
        ·replace h := cnd_f hb9 h
         iterate 9 refine cNoT rfl rfl rfl rfl hb9 rfl rfl ?_
         refine cPickF rfl (wSome rfl rfl rfl rfl hb8) rfl rfl rfl hb9 rfl ?_
         refine cPickF rfl (wNone rfl) rfl rfl rfl hb8 rfl ?_
         refine cNil ?_
         change VC _ _ _ _
         refine vCondF rfl rfl ?_
         refine vSkip ?_
         change VC _ _ _ _
         refine vRegion ?_
         refine oVal tt rfl rfl rfl rfl rfl trivial ?_
         obtain ⟨hg15, h⟩ := grd_inv h
         refine oVal tt rfl rfl rfl rfl rfl hg15 ?_
         refine oVal tt rfl rfl rfl rfl rfl trivial ?_
         refine vNil ?_
         change ∃ _, _
         exact ⟨(i8 + (1 : Int)), (En.of ⟨rfl, rfl, trivial⟩ trivial ⟨rfl, trivial⟩), h⟩
    ·replace h := cnd_f hb4 h
     refine vExit ?_
     change ∃ _, _
     exact ⟨(), (En.of trivial trivial trivial), h⟩
def S_l17Simple_l1 (N : Nat) (g_0 : Grf) (k : Unit → Option (Bool)) : Nat → Int → Option (Bool)
 | 0, _ => none
 | n + 1, i4 =>
  cnd (decide (i4 < (g_0.bars.length : Int))) (
   grd (Rg64 (i4 - (1 : Int))) <|
   grd (0 ≤ (i4 - (1 : Int)) ∧ (i4 - (1 : Int)) < (g_0.bars.length : Int)) <|
   grd (0 ≤ i4 ∧ i4 < (g_0.bars.length : Int)) <|
   cnd (((g_0.bars.getD (((i4 - (1 : Int))).toNat) (0, 0)).1 == (g_0.bars.getD ((i4).toNat) (0, 0)).1) && ((g_0.bars.getD (((i4 - (1 : Int))).toNat) (0, 0)).2 == (g_0.bars.getD ((i4).toNat) (0, 0)).2)) (
    some false) (
    grd (Rg64 (i4 + (1 : Int))) <|
    S_l17Simple_l1 N g_0 k n (i4 + (1 : Int)))) (
   k ())
def S_l17Simple (N : Nat) (g_0 : Grf) : Option (Bool) :=
 S_l17Simple_l1 N g_0 (fun (_ : Unit) =>
    (S_IsGraph N g_0).bind fun v2 =>
    some v2) N (1 : Int)
set_option maxRecDepth 20000 in
set_option maxHeartbeats 1600000 in
theorem S_l17Simple_w (N : Nat) (g_0 : Grf) (r : Bool) (h : S_l17Simple N g_0 = some r) : PCall Try.prog 150 [gD g_0] [] (.bool r) := by
 unfold S_l17Simple at h
 refine pcall_intro (TT := TT) tt Try.func150 rfl rfl Try.ntmps150 (congrArg Array.toList Try.results150) rfl rfl fun w0 => ?_
 refine vSeq ?_
 refine vRegion ?_
 refine oBox rfl rfl rfl rfl rfl rfl rfl rfl rfl ?_
 refine oVal tt rfl rfl rfl rfl rfl trivial ?_
 refine vNil ?_
 change VC _ _ _ _
 iterate 2 refine vSeq ?_
 refine vRegion ?_
 refine oVal tt rfl rfl rfl rfl rfl trivial ?_
 refine vNil ?_
 change VC _ _ _ _
 refine vJoin (F := fun k => S_l17Simple_l1 N g_0 k) h (α := Unit) (J := fun (_ : Unit) => (⟨[(1, .ptr 1 0)], [], [(1, some [.int g_0.n, .ro false (.pairs g_0.bars)])]⟩ : PS)) ?_ ?_
 ·rintro ⟨⟩ h
  show VC _ _ _ (⟨[(1, .ptr 1 0)], [], [(1, some [.int g_0.n, .ro false (.pairs g_0.bars)])]⟩ : PS)
  refine vSeq ?_
  refine vRegion ?_
  refine oVal tt rfl rfl rfl rfl rfl trivial ?_
  obtain ⟨v2, hc1, h⟩ := bind_inv h
  refine oCall (S_IsGraph_w N g_0 v2 hc1) rfl rfl rfl rfl rfl rfl rfl rfl ⟨⟨rfl, rfl, trivial⟩, trivial⟩ ?_
  refine oVal tt rfl rfl rfl rfl rfl trivial ?_
  refine vNil ?_
  change VC _ _ _ _
  refine vRet ?_
  change ∃ _, _
  cases h
  exact ⟨[], _, rfl, trivial, rfl, (.eq rfl), rfl⟩
 ·intro k h
  refine vBlock ?_
  refine vLoopS (α := Int) (fun (i4 : Int) => (⟨[(1, .ptr 1 0), (3, .int i4)], [], [(1, some [.int g_0.n, .ro false (.pairs g_0.bars)])]⟩ : PS)) (S_l17Simple_l1 N g_0 k) h (En.of ⟨rfl, rfl, trivial⟩ trivial ⟨rfl, trivial⟩) (fun _ => rfl) ?_
  rintro n i4 h
  rw [S_l17Simple_l1] at h
  show VC _ _ _ (⟨[(1, .ptr 1 0), (3, .int i4)], [], [(1, some [.int g_0.n, .ro false (.pairs g_0.bars)])]⟩ : PS)
  iterate 2 refine vSeq ?_
  refine vRegion ?_
  iterate 5 refine oVal tt rfl rfl rfl rfl rfl trivial ?_
  refine vNil ?_
  change VC _ _ _ _
  refine vCond rfl (fun hb2 => ?_) (fun hb2 => ?_)
  ·replace h := cnd_t hb2 h
   refine vSkip ?_
   change VC _ _ _ _
   refine vSeq ?_
   refine vBlock ?_
   refine vSeq ?_
   refine vRegionD (by kernel_rfl) (by kernel_rfl) ?_
   iterate 3 refine cVal tt rfl (wNone rfl) rfl rfl rfl trivial ?_
   obtain ⟨hg3, h⟩ := grd_inv h
   refine cVal tt rfl (wNone rfl) rfl rfl rfl hg3 ?_
   obtain ⟨hg4, h⟩ := grd_inv h
   refine cVal tt rfl (wNone rfl) rfl rfl rfl hg4 ?_
   iterate 4 refine cVal tt rfl (wNone rfl) rfl rfl rfl trivial ?_
   obtain ⟨hg5, h⟩ := grd_inv h
   refine cVal tt rfl (wNone rfl) rfl rfl rfl hg5 ?_
   refine cVal tt rfl (wNone rfl) rfl rfl rfl trivial ?_
   refine cPure (wNone rfl) (pEqP eqP_impl_Bar rfl rfl rfl) rfl rfl ?_
   refine cNil ?_
   change VC _ _ _ _
   refine vCond rfl (fun hb6 => ?_) (fun hb6 => ?_)
   ·replace h := cnd_t hb6 h
    refine vSeq ?_
    refine vRegion ?_
    refine oVal tt rfl rfl rfl rfl rfl trivial ?_
    refine vNil ?_
    change VC _ _ _ _
    refine vRet ?_
    change ∃ _, _
    cases h
    exact ⟨[], _, rfl, trivial, rfl, (.eq rfl), rfl⟩
   ·replace h := cnd_f hb6 h
    refine vSkip ?_
    change VC _ _ _ _
    refine vRegion ?_
    refine oVal tt rfl rfl rfl rfl rfl trivial ?_
    obtain ⟨hg7, h⟩ := grd_inv h
    refine oVal tt rfl rfl rfl rfl rfl hg7 ?_
    refine oVal tt rfl rfl rfl rfl rfl trivial ?_
    refine vNil ?_
    change ∃ _, _
    exact ⟨(i4 + (1 : Int)), (En.of ⟨rfl, rfl, trivial⟩ trivial ⟨rfl, trivial⟩), h⟩
  ·replace h := cnd_f hb2 h
   refine vExit ?_
   change ∃ _, _
   exact ⟨(), (En.of ⟨rfl, trivial⟩ trivial ⟨rfl, trivial⟩), h⟩
end Go.Proofs.Ytcljhpldfanhkaa
namespace Go.Proofs.Ytcljhpldfanhkaa
open Go.RowKit
def S_l2Has_l1 (N : Nat) (l_0 : List Int) (x_1 : Int) (k : Unit → Option (Bool)) : Nat → Int → Option (Bool)
 | 0, _ => none
 | n + 1, i3 =>
  cnd (decide (i3 < (l_0.length : Int))) (
   grd (0 ≤ i3 ∧ i3 < (l_0.length : Int)) <|
   cnd ((l_0.getD ((i3).toNat) 0) == x_1) (
    some true) (
    grd (Rg64 (i3 + (1 : Int))) <|
    S_l2Has_l1 N l_0 x_1 k n (i3 + (1 : Int)))) (
   k ())
def S_l2Has (N : Nat) (l_0 : List Int) (x_1 : Int) : Option (Bool) :=
 S_l2Has_l1 N l_0 x_1 (fun (_ : Unit) =>
    some false) N (0 : Int)
set_option maxRecDepth 20000 in
set_option maxHeartbeats 1600000 in
theorem S_l2Has_w (N : Nat) (l_0 : List Int) (x_1 : Int) (r : Bool) (h : S_l2Has N l_0 x_1 = some r) : PCall Try.prog 113 [.ro false (.ints l_0), .int x_1] [] (.bool r) := by
 unfold S_l2Has at h
 refine pcall_intro (TT := TT) tt Try.func113 rfl rfl Try.ntmps113 (congrArg Array.toList Try.results113) rfl rfl fun w0 => ?_
 refine vSeq ?_
 refine vRegion ?_
 refine oVal tt rfl rfl rfl rfl rfl trivial ?_
 refine vNil ?_
 change VC _ _ _ _
 iterate 2 refine vSeq ?_
 refine vRegion ?_
 refine oVal tt rfl rfl rfl rfl rfl trivial ?_
 refine vNil ?_
 change VC _ _ _ _
 refine vJoin (F := fun k => S_l2Has_l1 N l_0 x_1 k) h (α := Unit) (J := fun (_ : Unit) => (⟨[], [], []⟩ : PS)) ?_ ?_
 ·rintro ⟨⟩ h
  show VC _ _ _ (⟨[], [], []⟩ : PS)
  refine vSeq ?_
  refine vRegion ?_
  refine oVal tt rfl rfl rfl rfl rfl trivial ?_
  refine vNil ?_
  change VC _ _ _ _
  refine vRet ?_
  change ∃ _, _
  cases h
  exact ⟨[], _, rfl, trivial, rfl, (.eq rfl), rfl⟩
 ·intro k h
  refine vBlock ?_
  refine vLoopS (α := Int) (fun (i3 : Int) => (⟨[(0, .ro false (.ints l_0)), (1, .int x_1), (5, .int i3)], [], []⟩ : PS)) (S_l2Has_l1 N l_0 x_1 k) h (En.of ⟨rfl, rfl, rfl, trivial⟩ trivial trivial) (fun _ => rfl) ?_
  rintro n i3 h
  rw [S_l2Has_l1] at h
  show VC _ _ _ (⟨[(0, .ro false (.ints l_0)), (1, .int x_1), (5, .int i3)], [], []⟩ : PS)
  iterate 2 refine vSeq ?_
  refine vRegion ?_
  iterate 4 refine oVal tt rfl rfl rfl rfl rfl trivial ?_
  refine vNil ?_
  change VC _ _ _ _
  refine vCond rfl (fun hb1 => ?_) (fun hb1 => ?_)
  ·replace h := cnd_t hb1 h
   refine vSkip ?_
   change VC _ _ _ _
   refine vSeq ?_
   refine vBlock ?_
   refine vSeq ?_
   refine vRegion ?_
   iterate 2 refine oVal tt rfl rfl rfl rfl rfl trivial ?_
   obtain ⟨hg2, h⟩ := grd_inv h
   refine oVal tt rfl rfl rfl rfl rfl hg2 ?_
   iterate 3 refine oVal tt rfl rfl rfl rfl rfl trivial ?_
   refine vNil ?_
   change VC _ _ _ _
   refine vCond rfl (fun hb3 => ?_) (fun hb3 => ?_)
   ·replace h := cnd_t hb3 h
    refine vSeq ?_
    refine vRegion ?_
    refine oVal tt rfl rfl rfl rfl rfl trivial ?_
    refine vNil ?_
    change VC _ _ _ _
    refine vRet ?_
    change ∃ _, _
    cases h
    exact ⟨[], _, rfl, trivial, rfl, (.eq rfl), rfl⟩
   ·replace h := cnd_f hb3 h
    refine vSkip ?_
    change VC _ _ _ _
    refine vRegion ?_
    refine oVal tt rfl rfl rfl rfl rfl trivial ?_
    obtain ⟨hg4, h⟩ := grd_inv h
    refine oVal tt rfl rfl rfl rfl rfl hg4 ?_
    refine oVal tt rfl rfl rfl rfl rfl trivial ?_
    refine vNil ?_
    change ∃ _, _
    exact ⟨(i3 + (1 : Int)), (En.of ⟨rfl, rfl, rfl, trivial⟩ trivial trivial), h⟩
  ·replace h := cnd_f hb1 h
   refine vExit ?_
   change ∃ _, _
   exact ⟨(), (En.of trivial trivial trivial), h⟩
def S_l4Other (N : Nat) (b_0 : Int × Int) (v_1 : Int) : Option (Int) :=
 grd (Rg64 (b_0.1 + b_0.2)) <|
 grd (Rg64 ((b_0.1 + b_0.2) - v_1)) <|
 some ((b_0.1 + b_0.2) - v_1)
set_option maxRecDepth 20000 in
set_option maxHeartbeats 1600000 in
theorem S_l4Other_w (N : Nat) (b_0 : Int × Int) (v_1 : Int) (r : Int) (h : S_l4Other N b_0 v_1 = some r) : PCall Try.prog 175 [.agg [.int b_0.1, .int b_0.2], .int v_1] [] (.int r) := by
 unfold S_l4Other at h
 refine pcall_intro (TT := TT) tt Try.func175 rfl rfl Try.ntmps175 (congrArg Array.toList Try.results175) rfl rfl fun w0 => ?_
 refine vSeq ?_
 refine vRegion ?_
 refine oBox rfl rfl rfl rfl rfl rfl rfl rfl rfl ?_
 refine oVal tt rfl rfl rfl rfl rfl trivial ?_
 refine vNil ?_
 change VC _ _ _ _
 refine vSeq ?_
 refine vRegion ?_
 iterate 4 refine oVal tt rfl rfl rfl rfl rfl trivial ?_
 obtain ⟨hg1, h⟩ := grd_inv h
 refine oVal tt rfl rfl rfl rfl rfl hg1 ?_
 refine oVal tt rfl rfl rfl rfl rfl trivial ?_
 obtain ⟨hg2, h⟩ := grd_inv h
 refine oVal tt rfl rfl rfl rfl rfl hg2 ?_
 refine oVal tt rfl rfl rfl rfl rfl trivial ?_
 refine vNil ?_
 change VC _ _ _ _
 refine vRet ?_
 change ∃ _, _
 cases h
 exact ⟨[], _, rfl, trivial, rfl, (.eq rfl), rfl⟩
end Go.Proofs.Ytcljhpldfanhkaa
namespace Go.Proofs.Ytcljhpldfanhkaa
open Go.RowKit
def S_l4Copy (N : Nat) (p_0 : Pbl) : Option (Pbl) :=
 grd (p_0.free.length ≤ 4294967296) <|
 grd (p_0.tails.length ≤ 4294967296) <|
 grd (p_0.placed.length ≤ 4294967296) <|
 some (⟨(([] : List Int) ++ p_0.free), (([] : List Int) ++ p_0.tails), (([] : List Int) ++ p_0.placed)⟩ : Pbl)
set_option maxRecDepth 20000 in
set_option maxHeartbeats 1600000 in
theorem S_l4Copy_w (N : Nat) (p_0 : Pbl) (r : Pbl) (h : S_l4Copy N p_0 = some r) : PCall Try.prog 203 [bD p_0] [(3, .ints r.free), (3, .ints r.tails), (3, .ints r.placed)] (.agg [.row 0 0 r.free.length, .row 1 0 r.tails.length, .row 2 0 r.placed.length]) := by
 unfold S_l4Copy at h
 refine pcall_intro (TT := TT) tt Try.func203 rfl rfl Try.ntmps203 (congrArg Array.toList Try.results203) rfl rfl fun w0 => ?_
 refine vSeq ?_
 refine vRegion ?_
 refine oBox rfl rfl rfl rfl rfl rfl rfl rfl rfl ?_
 refine oAlloc tt rfl rfl rfl rfl rfl rfl rfl rfl rfl ?_
 refine vNil ?_
 change VC _ _ _ _
 refine vSeq ?_
 refine vRegionN 11 [3, 7] [0, 0, 2, 7, 0, 0, 32, 127, 0, 0, 512, 2047, 4095, 8191] (by kernel_rfl) (by kernel_rfl) (by kernel_rfl) (by kernel_rfl) (by kernel_rfl) rfl (by rfl) ?_
 refine nEmpty tt (wNone rfl) rfl rfl rfl rfl rfl ?_
 iterate 2 refine nVal tt rfl (wNone rfl) rfl rfl rfl rfl rfl trivial ?_
 obtain ⟨hg1, h⟩ := grd_inv h
 refine nAppNil tt (wNone rfl) rfl rfl rfl rfl rfl rfl rfl rfl (fun _ => rfl) rfl rfl rfl rfl rfl rfl hg1 ?_
 refine nEmpty tt (wNone rfl) rfl rfl rfl rfl rfl ?_
 iterate 2 refine nVal tt rfl (wNone rfl) rfl rfl rfl rfl rfl trivial ?_
 obtain ⟨hg2, h⟩ := grd_inv h
 refine nAppNil tt (wNone rfl) rfl rfl rfl rfl rfl rfl rfl rfl (fun _ => rfl) rfl rfl rfl rfl rfl rfl hg2 ?_
 refine nEmpty tt (wNone rfl) rfl rfl rfl rfl rfl ?_
 iterate 2 refine nVal tt rfl (wNone rfl) rfl rfl rfl rfl rfl trivial ?_
 refine nNil ?_
 change VO _ _ _ _ _
 obtain ⟨hg3, h⟩ := grd_inv h
 refine oAppNil tt (wNone rfl) rfl rfl rfl rfl rfl rfl rfl (fun _ => rfl) rfl rfl rfl rfl rfl hg3 ?_
 refine oPure (wNone rfl) (pBuild bld_impl_Pebbles rfl rfl) rfl rfl ?_
 refine oStore tt rfl rfl rfl rfl rfl rfl rfl rfl rfl rfl rfl ⟨trivial, trivial, trivial, trivial⟩ ?_
 refine vNil ?_
 change VC _ _ _ _
 refine vRet ?_
 change ∃ _, _
 cases h
 exact ⟨[6, 10, 14], _, rfl, ⟨rfl, rfl, rfl, trivial⟩, rfl, (.eq rfl), rfl⟩
def S_l4Shift_l1 (N : Nat) (g_0 : Grf) (p_1 : Pbl) (from_2 : List Int) (a_3 : Int) (v1 : Pbl) (k : (List Int) → Option (Pbl)) : Nat → ((List Int) × Int) → Option (Pbl)
 | 0, _ => none
 | n + 1, (l10, at11) =>
  cnd (at11 != a_3) (
   grd (0 ≤ at11 ∧ at11 < (from_2.length : Int)) <|
   grd (0 ≤ (from_2.getD ((at11).toNat) 0) ∧ (from_2.getD ((at11).toNat) 0) < (p_1.placed.length : Int)) <|
   grd (0 ≤ (p_1.placed.getD (((from_2.getD ((at11).toNat) 0)).toNat) 0) ∧ (p_1.placed.getD (((from_2.getD ((at11).toNat) 0)).toNat) 0) < (g_0.bars.length : Int)) <|
   (S_l4Other N (g_0.bars.getD (((p_1.placed.getD (((from_2.getD ((at11).toNat) 0)).toNat) 0)).toNat) (0, 0)) at11).bind fun v13 =>
   grd (0 ≤ (from_2.getD ((at11).toNat) 0) ∧ (from_2.getD ((at11).toNat) 0) < (v1.tails.length : Int)) <|
   grd (0 ≤ (from_2.getD ((at11).toNat) 0) ∧ (from_2.getD ((at11).toNat) 0) < (l10.length : Int)) <|
   S_l4Shift_l1 N g_0 p_1 from_2 a_3 v1 k n ((l10.set (((from_2.getD ((at11).toNat) 0)).toNat) at11), v13)) (
   k l10)
def S_l4Shift (N : Nat) (g_0 : Grf) (p_1 : Pbl) (from_2 : List Int) (a_3 : Int) (u_4 : Int) : Option (Pbl) :=
 (S_l4Copy N p_1).bind fun v1 =>
 grd (0 ≤ u_4 ∧ u_4 < (v1.free.length : Int)) <|
 grd (Rg64 ((v1.free.getD ((u_4).toNat) 0) - (1 : Int))) <|
 grd (0 ≤ a_3 ∧ a_3 < (v1.free.length : Int)) <|
 grd (0 ≤ a_3 ∧ a_3 < ((v1.free.set ((u_4).toNat) ((v1.free.getD ((u_4).toNat) 0) - (1 : Int))).length : Int)) <|
 grd (Rg64 (((v1.free.set ((u_4).toNat) ((v1.free.getD ((u_4).toNat) 0) - (1 : Int))).getD ((a_3).toNat) 0) + (1 : Int))) <|
 S_l4Shift_l1 N g_0 p_1 from_2 a_3 v1 (fun (l7 : List Int) =>
    grd (v1.free.length = ((v1.free.set ((u_4).toNat) ((v1.free.getD ((u_4).toNat) 0) - (1 : Int))).set ((a_3).toNat) (((v1.free.set ((u_4).toNat) ((v1.free.getD ((u_4).toNat) 0) - (1 : Int))).getD ((a_3).toNat) 0) + (1 : Int))).length) <|
    grd (v1.tails.length = l7.length) <|
    some (⟨((v1.free.set ((u_4).toNat) ((v1.free.getD ((u_4).toNat) 0) - (1 : Int))).set ((a_3).toNat) (((v1.free.set ((u_4).toNat) ((v1.free.getD ((u_4).toNat) 0) - (1 : Int))).getD ((a_3).toNat) 0) + (1 : Int))), l7, v1.placed⟩ : Pbl)) N (v1.tails, u_4)
set_option maxRecDepth 20000 in
set_option maxHeartbeats 1600000 in
theorem S_l4Shift_w (N : Nat) (g_0 : Grf) (p_1 : Pbl) (from_2 : List Int) (a_3 : Int) (u_4 : Int) (r : Pbl) (h : S_l4Shift N g_0 p_1 from_2 a_3 u_4 = some r) : PCall Try.prog 211 [gD g_0, bD p_1, .ro false (.ints from_2), .int a_3, .int u_4] [(3, .ints r.free), (3, .ints r.tails), (3, .ints r.placed)] (.agg [.row 0 0 r.free.length, .row 1 0 r.tails.length, .row 2 0 r.placed.length]) := by
 unfold S_l4Shift at h
 refine pcall_intro (TT := TT) tt Try.func211 rfl rfl Try.ntmps211 (congrArg Array.toList Try.results211) rfl rfl fun w0 => ?_
 refine vSeq ?_
 refine vRegion ?_
 iterate 2 refine oBox rfl rfl rfl rfl rfl rfl rfl rfl rfl ?_
 refine oAlloc tt rfl rfl rfl rfl rfl rfl rfl rfl rfl ?_
 refine vNil ?_
 change VC _ _ _ _
 refine vSeq ?_
 refine vRegion ?_
 refine oVal tt rfl rfl rfl rfl rfl trivial ?_
 obtain ⟨v1, hc1, h⟩ := bind_inv h
 refine oCall (S_l4Copy_w N p_1 v1 hc1) rfl rfl rfl rfl rfl rfl rfl rfl ⟨⟨rfl, rfl, rfl, trivial⟩, trivial⟩ ?_
 refine oAlloc tt rfl rfl rfl rfl rfl rfl rfl rfl rfl ?_
 refine oStore tt rfl rfl rfl rfl rfl rfl rfl rfl rfl rfl rfl ⟨trivial, trivial, trivial, trivial⟩ ?_
 refine vNil ?_
 change VC _ _ _ _
 refine vSeq ?_
 refine vRegionN 9 [] [0, 1, 0, 0, 8, 0, 56, 120, 248, 511, 1023] (by kernel_rfl) (by kernel_rfl) (by kernel_rfl) (by kernel_rfl) (by kernel_rfl) rfl (by rfl) ?_
 iterate 6 refine nVal tt rfl (wNone rfl) rfl rfl rfl rfl rfl trivial ?_
 obtain ⟨hg2, h⟩ := grd_inv h
 iterate 2 refine nVal tt rfl (wNone rfl) rfl rfl rfl rfl rfl hg2 ?_
 obtain ⟨hg3, h⟩ := grd_inv h
 refine nVal tt rfl (wNone rfl) rfl rfl rfl rfl rfl hg3 ?_
 refine nNil ?_
 change VO _ _ _ _ _
 refine oVal tt rfl rfl rfl rfl rfl hg2 ?_
 refine oStore tt rfl rfl rfl rfl rfl rfl rfl rfl rfl rfl ⟨_, _, rfl, hg2.1, hg2.2⟩ ⟨hg2, trivial⟩ ?_
 refine vNil ?_
 change VC _ _ _ _
 refine vSeq ?_
 refine vRegionN 9 [] [0, 1, 0, 0, 8, 0, 56, 120, 248, 511, 1023] (by kernel_rfl) (by kernel_rfl) (by kernel_rfl) (by kernel_rfl) (by kernel_rfl) rfl (by rfl) ?_
 iterate 6 refine nVal tt rfl (wNone rfl) rfl rfl rfl rfl rfl trivial ?_
 obtain ⟨hg4, h⟩ := grd_inv h
 refine nVal tt rfl (wNone rfl) rfl rfl rfl rfl rfl hg4 ?_
 obtain ⟨hg5, h⟩ := grd_inv h
 refine nVal tt rfl (wNone rfl) rfl rfl rfl rfl rfl hg5 ?_
 obtain ⟨hg6, h⟩ := grd_inv h
 refine nVal tt rfl (wNone rfl) rfl rfl rfl rfl rfl hg6 ?_
 refine nNil ?_
 change VO _ _ _ _ _
 refine oVal tt rfl rfl rfl rfl rfl hg4 ?_
 refine oStore tt rfl rfl rfl rfl rfl rfl rfl rfl rfl rfl ⟨_, _, rfl, hg5.1, hg5.2⟩ ⟨hg5, trivial⟩ ?_
 refine vNil ?_
 change VC _ _ _ _
 refine vSeq ?_
 refine vRegion ?_
 iterate 2 refine oVal tt rfl rfl rfl rfl rfl trivial ?_
 refine vNil ?_
 change VC _ _ _ _
 refine vSeq ?_
 refine vJoin (F := fun k => S_l4Shift_l1 N g_0 p_1 from_2 a_3 v1 k) h (α := List Int) (J := fun (l7 : List Int) => (⟨[(10, .ptr 10 0), (11, .ptr 11 0)], [(1160, some (3, .ints ((v1.free.set ((u_4).toNat) ((v1.free.getD ((u_4).toNat) 0) - (1 : Int))).set ((a_3).toNat) (((v1.free.set ((u_4).toNat) ((v1.free.getD ((u_4).toNat) 0) - (1 : Int))).getD ((a_3).toNat) 0) + (1 : Int))))), (1161, some (3, .ints l7)), (1162, some (3, .ints v1.placed))], [(10, some [.nil, .nil, .nil]), (11, some [.row 1160 0 v1.free.length, .row 1161 0 v1.tails.length, .row 1162 0 v1.placed.length])]⟩ : PS)) ?_ ?_
 ·rintro l7 h
  show VC _ _ _ (⟨[(10, .ptr 10 0), (11, .ptr 11 0)], [(1160, some (3, .ints ((v1.free.set ((u_4).toNat) ((v1.free.getD ((u_4).toNat) 0) - (1 : Int))).set ((a_3).toNat) (((v1.free.set ((u_4).toNat) ((v1.free.getD ((u_4).toNat) 0) - (1 : Int))).getD ((a_3).toNat) 0) + (1 : Int))))), (1161, some (3, .ints l7)), (1162, some (3, .ints v1.placed))], [(10, some [.nil, .nil, .nil]), (11, some [.row 1160 0 v1.free.length, .row 1161 0 v1.tails.length, .row 1162 0 v1.placed.length])]⟩ : PS)
  refine vSeq ?_
  refine vRegion ?_
  refine oVal tt rfl rfl rfl rfl rfl trivial ?_
  refine oStore tt rfl rfl rfl rfl rfl rfl rfl rfl rfl rfl rfl ⟨trivial, trivial, trivial, trivial⟩ ?_
  refine vNil ?_
  change VC _ _ _ _
  obtain ⟨hg7, h⟩ := grd_inv h
  obtain ⟨hg8, h⟩ := grd_inv h
  refine vRet ?_
  change ∃ _, _
  cases h
  exact ⟨[1160, 1161, 1162], _, rfl, ⟨rfl, rfl, rfl, trivial⟩, rfl, (.eq (by simp only [hg7, hg8]; rfl)), rfl⟩
 ·intro k h
  refine vBlock ?_
  refine vLoopS (α := (List Int) × Int) (fun | (l10, at11) => (⟨[(2, .ro false (.ints from_2)), (3, .int a_3), (5, .ptr 5 0), (6, .ptr 6 0), (10, .ptr 10 0), (11, .ptr 11 0), (12, .int at11)], [(1160, some (3, .ints ((v1.free.set ((u_4).toNat) ((v1.free.getD ((u_4).toNat) 0) - (1 : Int))).set ((a_3).toNat) (((v1.free.set ((u_4).toNat) ((v1.free.getD ((u_4).toNat) 0) - (1 : Int))).getD ((a_3).toNat) 0) + (1 : Int))))), (1161, some (3, .ints l10)), (1162, some (3, .ints v1.placed))], [(5, some [.int g_0.n, .ro false (.pairs g_0.bars)]), (6, some [.ro false (.ints p_1.free), .ro false (.ints p_1.tails), .ro false (.ints p_1.placed)]), (10, some [.nil, .nil, .nil]), (11, some [.row 1160 0 v1.free.length, .row 1161 0 v1.tails.length, .row 1162 0 v1.placed.length])]⟩ : PS)) (S_l4Shift_l1 N g_0 p_1 from_2 a_3 v1 k) h (En.of ⟨rfl, rfl, rfl, rfl, rfl, rfl, rfl, trivial⟩ ⟨rfl, rfl, rfl, trivial⟩ ⟨rfl, rfl, rfl, rfl, trivial⟩) (fun _ => rfl) ?_
  rintro n ⟨l10, at11⟩ h
  rw [S_l4Shift_l1] at h
  show VC _ _ _ (⟨[(2, .ro false (.ints from_2)), (3, .int a_3), (5, .ptr 5 0), (6, .ptr 6 0), (10, .ptr 10 0), (11, .ptr 11 0), (12, .int at11)], [(1160, some (3, .ints ((v1.free.set ((u_4).toNat) ((v1.free.getD ((u_4).toNat) 0) - (1 : Int))).set ((a_3).toNat) (((v1.free.set ((u_4).toNat) ((v1.free.getD ((u_4).toNat) 0) - (1 : Int))).getD ((a_3).toNat) 0) + (1 : Int))))), (1161, some (3, .ints l10)), (1162, some (3, .ints v1.placed))], [(5, some [.int g_0.n, .ro false (.pairs g_0.bars)]), (6, some [.ro false (.ints p_1.free), .ro false (.ints p_1.tails), .ro false (.ints p_1.placed)]), (10, some [.nil, .nil, .nil]), (11, some [.row 1160 0 v1.free.length, .row 1161 0 v1.tails.length, .row 1162 0 v1.placed.length])]⟩ : PS)
  iterate 2 refine vSeq ?_
  refine vRegion ?_
  iterate 3 refine oVal tt rfl rfl rfl rfl rfl trivial ?_
  refine vNil ?_
  change VC _ _ _ _
  refine vCond rfl (fun hb9 => ?_) (fun hb9 => ?_)
  ·replace h := cnd_t hb9 h
   refine vSkip ?_
   change VC _ _ _ _
   refine vBlock ?_
   refine vSeq ?_
   refine vRegion ?_
   iterate 2 refine oVal tt rfl rfl rfl rfl rfl trivial ?_
   obtain ⟨hg10, h⟩ := grd_inv h
   refine oVal tt rfl rfl rfl rfl rfl hg10 ?_
   iterate 2 refine oVal tt rfl rfl rfl rfl rfl trivial ?_
   refine vNil ?_
   change VC _ _ _ _
   refine vSeq ?_
   refine vRegionD (by kernel_rfl) (by kernel_rfl) ?_
   iterate 5 refine cVal tt rfl (wNone rfl) rfl rfl rfl trivial ?_
   obtain ⟨hg11, h⟩ := grd_inv h
   refine cVal tt rfl (wNone rfl) rfl rfl rfl hg11 ?_
   refine cVal tt rfl (wNone rfl) rfl rfl rfl trivial ?_
   obtain ⟨hg12, h⟩ := grd_inv h
   refine cVal tt rfl (wNone rfl) rfl rfl rfl hg12 ?_
   iterate 2 refine cVal tt rfl (wNone rfl) rfl rfl rfl trivial ?_
   obtain ⟨v13, hc13, h⟩ := bind_inv h
   refine cCall (S_l4Other_w N (g_0.bars.getD (((p_1.placed.getD (((from_2.getD ((at11).toNat) 0)).toNat) 0)).toNat) (0, 0)) at11 v13 hc13) rfl (wNone rfl) rfl rfl rfl rfl rfl rfl ⟨⟨rfl, rfl, trivial⟩, rfl, trivial⟩ ?_
   refine cVal tt rfl (wNone rfl) rfl rfl rfl trivial ?_
   refine cNil ?_
   change VC _ _ _ _
   refine vSeq ?_
   refine vRegion ?_
   iterate 4 refine oVal tt rfl rfl rfl rfl rfl trivial ?_
   obtain ⟨hg14, h⟩ := grd_inv h
   refine oVal tt rfl rfl rfl rfl rfl hg14 ?_
   obtain ⟨hg15, h⟩ := grd_inv h
   refine oStore tt rfl rfl rfl rfl rfl rfl rfl rfl rfl rfl ⟨_, _, rfl, hg15.1, hg15.2⟩ ⟨hg15, trivial⟩ ?_
   refine vNil ?_
   change VC _ _ _ _
   refine vRegion ?_
   iterate 2 refine oVal tt rfl rfl rfl rfl rfl trivial ?_
   refine vNil ?_
   change ∃ _, _
   exact ⟨((l10.set (((from_2.getD ((at11).toNat) 0)).toNat) at11), v13), (En.of ⟨rfl, rfl, rfl, rfl, rfl, rfl, rfl, trivial⟩ ⟨rfl, rfl, rfl, trivial⟩ ⟨rfl, rfl, rfl, rfl, trivial⟩), h⟩
  ·replace h := cnd_f hb9 h
   refine vExit ?_
   change ∃ _, _
   exact ⟨l10, (En.of ⟨rfl, rfl, trivial⟩ ⟨rfl, rfl, rfl, trivial⟩ ⟨rfl, rfl, trivial⟩), h⟩
def S_l2Copy (N : Nat) (g_0 : Grf) : Option (Grf) :=
 grd (g_0.bars.length ≤ 4294967296) <|
 some (⟨g_0.n, (([] : List (Int × Int)) ++ g_0.bars)⟩ : Grf)
set_option maxRecDepth 20000 in
set_option maxHeartbeats 1600000 in
theorem S_l2Copy_w (N : Nat) (g_0 : Grf) (r : Grf) (h : S_l2Copy N g_0 = some r) : PCall Try.prog 167 [gD g_0] [(111, .pairs r.bars)] (.agg [.int r.n, .row 0 0 r.bars.length]) := by
 unfold S_l2Copy at h
 refine pcall_intro (TT := TT) tt Try.func167 rfl rfl Try.ntmps167 (congrArg Array.toList Try.results167) rfl rfl fun w0 => ?_
 refine vSeq ?_
 refine vRegion ?_
 refine oBox rfl rfl rfl rfl rfl rfl rfl rfl rfl ?_
 refine oAlloc tt rfl rfl rfl rfl rfl rfl rfl rfl rfl ?_
 refine vNil ?_
 change VC _ _ _ _
 refine vSeq ?_
 refine vRegionN 6 [5] [0, 1, 0, 0, 8, 28, 63, 127] (by kernel_rfl) (by kernel_rfl) (by kernel_rfl) (by kernel_rfl) (by kernel_rfl) rfl (by rfl) ?_
 iterate 2 refine nVal tt rfl (wNone rfl) rfl rfl rfl rfl rfl trivial ?_
 refine nEmpty tt (wNone rfl) rfl rfl rfl rfl rfl ?_
 iterate 2 refine nVal tt rfl (wNone rfl) rfl rfl rfl rfl rfl trivial ?_
 obtain ⟨hg1, h⟩ := grd_inv h
 refine nAppNil tt (wNone rfl) rfl rfl rfl rfl rfl rfl rfl rfl (fun _ => rfl) rfl rfl rfl rfl rfl rfl hg1 ?_
 refine nNil ?_
 change VO _ _ _ _ _
 refine oPure (wNone rfl) (pBuild bld_impl_Graph rfl rfl) rfl rfl ?_
 refine oStore tt rfl rfl rfl rfl rfl rfl rfl rfl rfl rfl rfl ⟨trivial, trivial, trivial⟩ ?_
 refine vNil ?_
 change VC _ _ _ _
 refine vRet ?_
 change ∃ _, _
 cases h
 exact ⟨[8], _, rfl, ⟨rfl, trivial⟩, rfl, (.eq rfl), rfl⟩
def I_copyGraph (N : Nat) (g_0 : Grf) : Option (Grf) :=
 grd (g_0.bars.length ≤ 4294967296) <|
 some (⟨g_0.n, (([] : List (Int × Int)) ++ g_0.bars)⟩ : Grf)
set_option maxRecDepth 20000 in
set_option maxHeartbeats 1600000 in
theorem I_copyGraph_w (N : Nat) (g_0 : Grf) (r : Grf) (h : I_copyGraph N g_0 = some r) : PCall Try.prog 196 [gD g_0] [(111, .pairs r.bars)] (.agg [.int r.n, .row 0 0 r.bars.length]) := by
 unfold I_copyGraph at h
 refine pcall_intro (TT := TT) tt Try.func196 rfl rfl Try.ntmps196 (congrArg Array.toList Try.results196) rfl rfl fun w0 => ?_
 refine vSeq ?_
 refine vRegion ?_
 refine oBox rfl rfl rfl rfl rfl rfl rfl rfl rfl ?_
 refine oAlloc tt rfl rfl rfl rfl rfl rfl rfl rfl rfl ?_
 refine vNil ?_
 change VC _ _ _ _
 refine vSeq ?_
 refine vRegionN 6 [5] [0, 1, 0, 0, 8, 28, 63, 127] (by kernel_rfl) (by kernel_rfl) (by kernel_rfl) (by kernel_rfl) (by kernel_rfl) rfl (by rfl) ?_
 iterate 2 refine nVal tt rfl (wNone rfl) rfl rfl rfl rfl rfl trivial ?_
 refine nEmpty tt (wNone rfl) rfl rfl rfl rfl rfl ?_
 iterate 2 refine nVal tt rfl (wNone rfl) rfl rfl rfl rfl rfl trivial ?_
 obtain ⟨hg1, h⟩ := grd_inv h
 refine nAppNil tt (wNone rfl) rfl rfl rfl rfl rfl rfl rfl rfl (fun _ => rfl) rfl rfl rfl rfl rfl rfl hg1 ?_
 refine nNil ?_
 change VO _ _ _ _ _
 refine oPure (wNone rfl) (pBuild bld_impl_Graph rfl rfl) rfl rfl ?_
 refine oStore tt rfl rfl rfl rfl rfl rfl rfl rfl rfl rfl rfl ⟨trivial, trivial, trivial⟩ ?_
 refine vNil ?_
 change VC _ _ _ _
 refine vRet ?_
 change ∃ _, _
 cases h
 exact ⟨[8], _, rfl, ⟨rfl, trivial⟩, rfl, (.eq rfl), rfl⟩
def I_copyPinned (N : Nat) (p_0 : Pin) : Option (Pin) :=
 (I_copyGraph N p_0.g).bind fun v1 =>
 (I_copyInts N p_0.ground).bind fun v2 =>
 some (⟨⟨v1.n, v1.bars⟩, v2⟩ : Pin)
set_option maxRecDepth 20000 in
set_option maxHeartbeats 1600000 in
theorem I_copyPinned_w (N : Nat) (p_0 : Pin) (r : Pin) (h : I_copyPinned N p_0 = some r) : PCall Try.prog 166 [pD p_0] [(111, .pairs r.g.bars), (3, .ints r.ground)] (.agg [.int r.g.n, .row 0 0 r.g.bars.length, .row 1 0 r.ground.length]) := by
 unfold I_copyPinned at h
 refine pcall_intro (TT := TT) tt Try.func166 rfl rfl Try.ntmps166 (congrArg Array.toList Try.results166) rfl rfl fun w0 => ?_
 refine vSeq ?_
 refine vRegion ?_
 refine oBox rfl rfl rfl rfl rfl rfl rfl rfl rfl ?_
 refine oAlloc tt rfl rfl rfl rfl rfl rfl rfl rfl rfl ?_
 refine vNil ?_
 change VC _ _ _ _
 refine vSeq ?_
 refine vRegionN 5 [2] [0, 1, 3, 0, 8, 31, 63, 127] (by kernel_rfl) (by kernel_rfl) (by kernel_rfl) (by kernel_rfl) (by kernel_rfl) rfl (by rfl) ?_
 iterate 2 refine nVal tt rfl (wNone rfl) rfl rfl rfl rfl rfl trivial ?_
 obtain ⟨v1, hc1, h⟩ := bind_inv h
 refine nCallR (I_copyGraph_w N p_0.g v1 hc1) rfl (wNone rfl) rfl rfl rfl rfl rfl rfl (by first | rfl | kernel_rfl | (simp [nrL, nm, gdst, nmT, rowB]; done)) rfl (by first | rfl | kernel_rfl | (simp [chkE, nrL, nm, gdst, nmT, rowB, hid, ment, mentA, mentS]; done) | (simp [chkE, nrL, nm, gdst, nmT, rowB, hid, ment, mentA, mentS]; decide)) ⟨⟨rfl, rfl, trivial⟩, trivial⟩ ?_
 iterate 2 refine nVal tt rfl (wNone rfl) rfl rfl rfl rfl rfl trivial ?_
 refine nNil ?_
 change VO _ _ _ _ _
 obtain ⟨v2, hc2, h⟩ := bind_inv h
 refine oCall (I_copyInts_w N p_0.ground v2 hc2) rfl rfl rfl rfl rfl rfl rfl rfl ⟨rfl, trivial⟩ ?_
 refine oPure (wNone rfl) (pBuild bld_impl_Pinned rfl rfl) rfl rfl ?_
 refine oStore tt rfl rfl rfl rfl rfl rfl rfl rfl rfl rfl rfl ⟨trivial, trivial, trivial, trivial⟩ ?_
 refine vNil ?_
 change VC _ _ _ _
 refine vRet ?_
 change ∃ _, _
 cases h
 exact ⟨[1050, 1080], _, rfl, ⟨rfl, rfl, trivial⟩, rfl, (.eq rfl), rfl⟩
end Go.Proofs.Ytcljhpldfanhkaa
namespace Go.Proofs.Ytcljhpldfanhkaa
open Go.RowKit
def M_Graph_has (N : Nat) (g_0 : Grf) (v_1 : Int) : Option (Bool) :=
 (I_within N v_1 (0 : Int) (w64 (g_0.n - (1 : Int)))).bind fun v1 =>
 some v1
set_option maxRecDepth 20000 in
set_option maxHeartbeats 1600000 in
theorem M_Graph_has_w (N : Nat) (g_0 : Grf) (v_1 : Int) (r : Bool) (h : M_Graph_has N g_0 v_1 = some r) : PCall Try.prog 149 [gD g_0, .int v_1] [] (.bool r) := by
 unfold M_Graph_has at h
 refine pcall_intro (TT := TT) tt Try.func149 rfl rfl Try.ntmps149 (congrArg Array.toList Try.results149) rfl rfl fun w0 => ?_
 refine vSeq ?_
 refine vRegion ?_
 refine oBox rfl rfl rfl rfl rfl rfl rfl rfl rfl ?_
 refine oVal tt rfl rfl rfl rfl rfl trivial ?_
 refine vNil ?_
 change VC _ _ _ _
 refine vSeq ?_
 refine vRegion ?_
 iterate 3 refine oVal tt rfl rfl rfl rfl rfl trivial ?_
 refine oPure (wNone rfl) (pSubW rfl rfl rfl) rfl rfl ?_
 obtain ⟨v1, hc1, h⟩ := bind_inv h
 refine oCall (I_within_w N v_1 (0 : Int) (w64 (g_0.n - (1 : Int))) v1 hc1) rfl rfl rfl rfl rfl rfl rfl rfl ⟨rfl, rfl, rfl, trivial⟩ ?_
 refine oVal tt rfl rfl rfl rfl rfl trivial ?_
 refine vNil ?_
 change VC _ _ _ _
 refine vRet ?_
 change ∃ _, _
 cases h
 exact ⟨[], _, rfl, trivial, rfl, (.eq rfl), rfl⟩
def I_compareInts (N : Nat) (a_0 : Int) (b_1 : Int) : Option (Int) :=
 cnd (decide (a_0 < b_1)) (
  some (-1 : Int)) (
  cnd (decide (a_0 > b_1)) (
   some (1 : Int)) (
   some (0 : Int)))
set_option maxRecDepth 20000 in
set_option maxHeartbeats 1600000 in
theorem I_compareInts_w (N : Nat) (a_0 : Int) (b_1 : Int) (r : Int) (h : I_compareInts N a_0 b_1 = some r) : PCall Try.prog 205 [.int a_0, .int b_1] [] (.int r) := by
 unfold I_compareInts at h
 refine pcall_intro (TT := TT) tt Try.func205 rfl rfl Try.ntmps205 (congrArg Array.toList Try.results205) rfl rfl fun w0 => ?_
 refine vSeq ?_
 refine vRegion ?_
 refine oVal tt rfl rfl rfl rfl rfl trivial ?_
 refine vNil ?_
 change VC _ _ _ _
 refine vSeq ?_
 refine vBlock ?_
 refine vSeq ?_
 refine vRegion ?_
 iterate 4 refine oVal tt rfl rfl rfl rfl rfl trivial ?_
 refine vNil ?_
 change VC _ _ _ _
 refine vCond rfl (fun hb1 => ?_) (fun hb1 => ?_)
 ·replace h := cnd_t hb1 h
  refine vSeq ?_
  refine vRegion ?_
  refine oVal tt rfl rfl rfl rfl rfl trivial ?_
  refine vNil ?_
  change VC _ _ _ _
  refine vRet ?_
  change ∃ _, _
  cases h
  exact ⟨[], _, rfl, trivial, rfl, (.eq rfl), rfl⟩
 ·replace h := cnd_f hb1 h
  refine vSeq ?_
  refine vRegion ?_
  iterate 4 refine oVal tt rfl rfl rfl rfl rfl trivial ?_
  refine vNil ?_
  change VC _ _ _ _
  refine vCond rfl (fun hb2 => ?_) (fun hb2 => ?_)
  ·replace h := cnd_t hb2 h
   refine vSeq ?_
   refine vRegion ?_
   refine oVal tt rfl rfl rfl rfl rfl trivial ?_
   refine vNil ?_
   change VC _ _ _ _
   refine vRet ?_
   change ∃ _, _
   cases h
   exact ⟨[], _, rfl, trivial, rfl, (.eq rfl), rfl⟩
  ·replace h := cnd_f hb2 h
   refine vSkip ?_
   change VC _ _ _ _
   refine vSeq ?_
   refine vRegion ?_
   refine oVal tt rfl rfl rfl rfl rfl trivial ?_
   refine vNil ?_
   change VC _ _ _ _
   refine vRet ?_
   change ∃ _, _
   cases h
   exact ⟨[], _, rfl, trivial, rfl, (.eq rfl), rfl⟩
def I_compareBars (N : Nat) (x_0 : Int × Int) (y_1 : Int × Int) : Option (Int) :=
 (I_compareInts N x_0.1 y_1.1).bind fun v1 =>
 cnd (v1 != (0 : Int)) (
  some v1) (
  (I_compareInts N x_0.2 y_1.2).bind fun v2 =>
  some v2)
set_option maxRecDepth 20000 in
set_option maxHeartbeats 1600000 in
theorem I_compareBars_w (N : Nat) (x_0 : Int × Int) (y_1 : Int × Int) (r : Int) (h : I_compareBars N x_0 y_1 = some r) : PCall Try.prog 186 [.agg [.int x_0.1, .int x_0.2], .agg [.int y_1.1, .int y_1.2]] [] (.int r) := by
 unfold I_compareBars at h
 refine pcall_intro (TT := TT) tt Try.func186 rfl rfl Try.ntmps186 (congrArg Array.toList Try.results186) rfl rfl fun w0 => ?_
 refine vSeq ?_
 refine vRegion ?_
 iterate 2 refine oBox rfl rfl rfl rfl rfl rfl rfl rfl rfl ?_
 refine oVal tt rfl rfl rfl rfl rfl trivial ?_
 refine vNil ?_
 change VC _ _ _ _
 iterate 2 refine vSeq ?_
 refine vRegion ?_
 iterate 4 refine oVal tt rfl rfl rfl rfl rfl trivial ?_
 obtain ⟨v1, hc1, h⟩ := bind_inv h
 refine oCall (I_compareInts_w N x_0.1 y_1.1 v1 hc1) rfl rfl rfl rfl rfl rfl rfl rfl ⟨rfl, rfl, trivial⟩ ?_
 refine oVal tt rfl rfl rfl rfl rfl trivial ?_
 refine vNil ?_
 change VC _ _ _ _
 refine vSeq ?_
 refine vRegion ?_
 iterate 2 refine oVal tt rfl rfl rfl rfl rfl trivial ?_
 refine vNil ?_
 change VC _ _ _ _
 refine vCond rfl (fun hb2 => ?_) (fun hb2 => ?_)
 ·replace h := cnd_t hb2 h
  refine vSeq ?_
  refine vRegion ?_
  iterate 2 refine oVal tt rfl rfl rfl rfl rfl trivial ?_
  refine vNil ?_
  change VC _ _ _ _
  refine vRet ?_
  change ∃ _, _
  cases h
  exact ⟨[], _, rfl, trivial, rfl, (.eq rfl), rfl⟩
 ·replace h := cnd_f hb2 h
  refine vSkip ?_
  change VC _ _ _ _
  refine vSeq ?_
  refine vRegion ?_
  iterate 4 refine oVal tt rfl rfl rfl rfl rfl trivial ?_
  obtain ⟨v2, hc3, h⟩ := bind_inv h
  refine oCall (I_compareInts_w N x_0.2 y_1.2 v2 hc3) rfl rfl rfl rfl rfl rfl rfl rfl ⟨rfl, rfl, trivial⟩ ?_
  refine oVal tt rfl rfl rfl rfl rfl trivial ?_
  refine vNil ?_
  change VC _ _ _ _
  refine vRet ?_
  change ∃ _, _
  cases h
  exact ⟨[], _, rfl, trivial, rfl, (.eq rfl), rfl⟩
end Go.Proofs.Ytcljhpldfanhkaa
namespace Go.Proofs.Ytcljhpldfanhkaa
open Go.RowKit
def I_IsGraph_l1 (N : Nat) (g_0 : Grf) (k : Unit → Option (Bool)) : Nat → Int → Option (Bool)
 | 0, _ => none
 | n + 1, x8 =>
  cnd (decide (x8 < (g_0.bars.length : Int))) (
   grd (0 ≤ x8 ∧ x8 < (g_0.bars.length : Int)) <|
   cnd (decide (((g_0.bars.getD ((x8).toNat) (0, 0)).1) < (0 : Int))) (
    some false) (
    cnd (decide (((g_0.bars.getD ((x8).toNat) (0, 0)).1) ≥ ((g_0.bars.getD ((x8).toNat) (0, 0)).2))) (
     some false) (
     cnd (decide (((g_0.bars.getD ((x8).toNat) (0, 0)).2) ≥ g_0.n)) (
      some false) (
      cnd (decide (x8 > (0 : Int))) (
       grd (Rg64 (x8 - (1 : Int))) <|
       grd (0 ≤ (x8 - (1 : Int)) ∧ (x8 - (1 : Int)) < (g_0.bars.length : Int)) <|
       (I_compareBars N (g_0.bars.getD (((x8 - (1 : Int))).toNat) (0, 0)) (g_0.bars.getD ((x8).toNat) (0, 0))).bind fun v10 =>
       cnd (decide (v10 > (0 : Int))) (
        some false) (
        grd (Rg64 (x8 + (1 : Int))) <|
        I_IsGraph_l1 N g_0 k n (x8 + (1 : Int)))) (
       grd (Rg64 (x8 + (1 : Int))) <|
       I_IsGraph_l1 N g_0 k n (x8 + (1 : Int))))))) (
   k ())
def I_IsGraph (N : Nat) (g_0 : Grf) : Option (Bool) :=
 (I_within N g_0.n (1 : Int) (8 : Int)).bind fun v1 =>
 cnd (!v1) (
  some false) (
  cnd (decide ((g_0.bars.length : Int) > (24 : Int))) (
   some false) (
   I_IsGraph_l1 N g_0 (fun (_ : Unit) =>
      some true) N (0 : Int)))
set_option maxRecDepth 20000 in
set_option maxHeartbeats 1600000 in
theorem I_IsGraph_w (N : Nat) (g_0 : Grf) (r : Bool) (h : I_IsGraph N g_0 = some r) : PCall Try.prog 147 [gD g_0] [] (.bool r) := by
 unfold I_IsGraph at h
 refine pcall_intro (TT := TT) tt Try.func147 rfl rfl Try.ntmps147 (congrArg Array.toList Try.results147) rfl rfl fun w0 => ?_
 refine vSeq ?_
 refine vRegion ?_
 refine oBox rfl rfl rfl rfl rfl rfl rfl rfl rfl ?_
 refine oVal tt rfl rfl rfl rfl rfl trivial ?_
 refine vNil ?_
 change VC _ _ _ _
 iterate 2 refine vSeq ?_
 refine vRegion ?_
 iterate 2 refine oVal tt rfl rfl rfl rfl rfl trivial ?_
 obtain ⟨v1, hc1, h⟩ := bind_inv h
 refine oCall (I_within_w N g_0.n (1 : Int) (8 : Int) v1 hc1) rfl rfl rfl rfl rfl rfl rfl rfl ⟨rfl, rfl, rfl, trivial⟩ ?_
 iterate 2 refine oVal tt rfl rfl rfl rfl rfl trivial ?_
 refine oSplit rfl rfl rfl (fun hb2 => ?_) (fun hb2 => ?_)
 ·replace h := cnd_t hb2 h
  iterate 4 refine oNoF rfl rfl rfl rfl hb2 rfl rfl ?_
  refine oPick rfl rfl rfl rfl rfl hb2 rfl ?_
  refine vNil ?_
  change VC _ _ _ _
  refine vCondT rfl rfl ?_
  refine vSeq ?_
  refine vRegion ?_
  refine oVal tt rfl rfl rfl rfl rfl trivial ?_
  refine vNil ?_
  change VC _ _ _ _
  refine vRet ?_
  change ∃ _, _
  cases h
  exact ⟨[], _, rfl, trivial, rfl, (.eq rfl), rfl⟩
 ·replace h := cnd_f hb2 h
  iterate 4 refine oValG tt rfl rfl rfl rfl rfl hb2 rfl rfl rfl trivial ?_
  refine oPickF rfl rfl rfl rfl rfl hb2 rfl ?_
  refine vNil ?_
  change VC _ _ _ _
  refine vCond rfl (fun hb3 => ?_) (fun hb3 => ?_)
  ·replace h := cnd_t hb3 h
   refine vSeq ?_
   refine vRegion ?_
   refine oVal tt rfl rfl rfl rfl rfl trivial ?_
   refine vNil ?_
   change VC _ _ _ _
   refine vRet ?_
   change ∃ _, _
   cases h
   exact ⟨[], _, rfl, trivial, rfl, (.eq rfl), rfl⟩
  ·replace h := cnd_f hb3 h
   refine vSkip ?_
   change VC _ _ _ _
   iterate 2 refine vSeq ?_
   refine vRegion ?_
   iterate 4 refine oVal tt rfl rfl rfl rfl rfl trivial ?_
   refine vNil ?_
   change VC _ _ _ _
   refine vJoin (F := fun k => I_IsGraph_l1 N g_0 k) h (α := Unit) (J := fun (_ : Unit) => (⟨[], [], []⟩ : PS)) ?_ ?_
   ·rintro ⟨⟩ h
    show VC _ _ _ (⟨[], [], []⟩ : PS)
    refine vSeq ?_
    refine vRegion ?_
    refine oVal tt rfl rfl rfl rfl rfl trivial ?_
    refine vNil ?_
    change VC _ _ _ _
    refine vRet ?_
    change ∃ _, _
    cases h
    exact ⟨[], _, rfl, trivial, rfl, (.eq rfl), rfl⟩
   ·intro k h
    refine vBlock ?_
    refine vLoopS (α := Int) (fun (x8 : Int) => (⟨[(1, .ptr 1 0), (16, .ro false (.pairs g_0.bars)), (17, .int (g_0.bars.length : Int)), (18, .int x8)], [], [(1, some [.int g_0.n, .ro false (.pairs g_0.bars)])]⟩ : PS)) (I_IsGraph_l1 N g_0 k) h (En.of ⟨rfl, rfl, rfl, rfl, trivial⟩ trivial ⟨rfl, trivial⟩) (fun _ => rfl) ?_
    rintro n x8 h
    rw [I_IsGraph_l1] at h
    show VC _ _ _ (⟨[(1, .ptr 1 0), (16, .ro false (.pairs g_0.bars)), (17, .int (g_0.bars.length : Int)), (18, .int x8)], [], [(1, some [.int g_0.n, .ro false (.pairs g_0.bars)])]⟩ : PS)
    refine vSeq ?_
    refine vRegion ?_
    refine oVal tt rfl rfl rfl rfl rfl trivial ?_
    refine vNil ?_
    change VC _ _ _ _
    refine vSeq ?_
    refine vCond rfl (fun hb4 => ?_) (fun hb4 => ?_)
    ·replace h := cnd_t hb4 h
     refine vSkip ?_
     change VC _ _ _ _
     refine vSeq ?_
     refine vBlock ?_
     refine vSeq ?_
     refine vRegion ?_
     refine oVal tt rfl rfl rfl rfl rfl trivial ?_
     obtain ⟨hg5, h⟩ := grd_inv h
     refine oVal tt rfl rfl rfl rfl rfl hg5 ?_
     refine oVal tt rfl rfl rfl rfl rfl trivial ?_
     refine oAlloc tt rfl rfl rfl rfl rfl rfl rfl rfl rfl ?_
     refine oVal tt rfl rfl rfl rfl rfl trivial ?_
     refine oStore tt rfl rfl rfl rfl rfl rfl rfl rfl rfl rfl rfl ⟨trivial, trivial, trivial⟩ ?_
     refine vNil ?_
     change VC _ _ _ _
     refine vSeq ?_
     refine vRegionD (by kernel_rfl) (by kernel_rfl) ?_
     iterate 4 refine cVal tt rfl (wNone rfl) rfl rfl rfl trivial ?_
     refine cSplit rfl rfl rfl (fun hb6 => ?_) (fun hb6 => ?_)
     ·replace h := cnd_t hb6 h
      iterate 5 refine cNoF rfl rfl rfl rfl hb6 rfl rfl ?_
      refine cPickT rfl (wNone rfl) rfl rfl rfl hb6 rfl ?_
      refine cVal tt rfl (wNone rfl) rfl rfl rfl trivial ?_
      iterate 5 refine cNoF rfl rfl rfl rfl rfl rfl rfl ?_
      refine cPickT rfl (wNone rfl) rfl rfl rfl rfl rfl ?_
      refine cVal tt rfl (wNone rfl) rfl rfl rfl trivial ?_
      iterate 3 refine cNoF rfl rfl rfl rfl rfl rfl rfl ?_
      iterate 9 refine cNoU rfl rfl rfl rfl rfl ?_
      refine cNoF rfl rfl rfl rfl rfl rfl rfl ?_
      refine cPickT rfl (wNone rfl) rfl rfl rfl rfl rfl ?_
      refine cNil ?_
      change VC _ _ _ _
      refine vCondT rfl rfl ?_
      refine vSeq ?_
      refine vRegion ?_
      refine oVal tt rfl rfl rfl rfl rfl trivial ?_
      refine vNil ?_
      change VC _ _ _ _
      refine vRet ?_
      change ∃ _, _
      cases h
      exact ⟨[], _, rfl, trivial, rfl, (.eq rfl), rfl⟩
     ·replace h := cnd_f hb6 h
      iterate 5 refine cVal tt rfl (wSome rfl rfl rfl rfl hb6) rfl rfl rfl trivial ?_
      refine cPickF rfl (wNone rfl) rfl rfl rfl hb6 rfl ?_
      refine cVal tt rfl (wNone rfl) rfl rfl rfl trivial ?_
      refine cSplit rfl rfl rfl (fun hb7 => ?_) (fun hb7 => ?_)
      ·replace h := cnd_t hb7 h
       iterate 5 refine cNoF rfl rfl rfl rfl hb7 rfl rfl ?_
       refine cPickT rfl (wNone rfl) rfl rfl rfl hb7 rfl ?_
       refine cVal tt rfl (wNone rfl) rfl rfl rfl trivial ?_
       iterate 3 refine cNoF rfl rfl rfl rfl rfl rfl rfl ?_
       iterate 9 refine cNoU rfl rfl rfl rfl rfl ?_
       refine cNoF rfl rfl rfl rfl rfl rfl rfl ?_
       refine cPickT rfl (wNone rfl) rfl rfl rfl rfl rfl ?_
       refine cNil ?_
       change VC _ _ _ _
       refine vCondT rfl rfl ?_
       refine vSeq ?_
       refine vRegion ?_
       refine oVal tt rfl rfl rfl rfl rfl trivial ?_
       refine vNil ?_
       change VC _ _ _ _
       refine vRet ?_
       change ∃ _, _
       cases h
       exact ⟨[], _, rfl, trivial, rfl, (.eq rfl), rfl⟩
      ·replace h := cnd_f hb7 h
       iterate 5 refine cVal tt rfl (wSome rfl rfl rfl rfl hb7) rfl rfl rfl trivial ?_
       refine cPickF rfl (wNone rfl) rfl rfl rfl hb7 rfl ?_
       refine cVal tt rfl (wNone rfl) rfl rfl rfl trivial ?_
       refine cSplit rfl rfl rfl (fun hb8 => ?_) (fun hb8 => ?_)
       ·replace h := cnd_t hb8 h
        iterate 3 refine cNoF rfl rfl rfl rfl hb8 rfl rfl ?_
        iterate 9 refine cNoU rfl rfl rfl rfl rfl ?_
        refine cNoF rfl rfl rfl rfl hb8 rfl rfl ?_
        refine cPickT rfl (wNone rfl) rfl rfl rfl hb8 rfl ?_
        refine cNil ?_
        change VC _ _ _ _
        refine vCondT rfl rfl ?_
        refine vSeq ?_
        refine vRegion ?_
        refine oVal tt rfl rfl rfl rfl rfl trivial ?_
        refine vNil ?_
        change VC _ _ _ _
        refine vRet ?_
        change ∃ _, _
        cases h
        exact ⟨[], _, rfl, trivial, rfl, (.eq rfl), rfl⟩
       ·replace h := cnd_f hb8 h
        iterate 3 refine cVal tt rfl (wSome rfl rfl rfl rfl hb8) rfl rfl rfl trivial ?_
        refine cSplit rfl rfl rfl (fun hb9 => ?_) (fun hb9 => ?_)
        ·replace h := cnd_t hb9 h
         iterate 3 refine cVal tt rfl (wSome rfl rfl rfl rfl hb9) rfl rfl rfl trivial ?_
         obtain ⟨hg10, h⟩ := grd_inv h
         refine cVal tt rfl (wSome rfl rfl rfl rfl hb9) rfl rfl rfl hg10 ?_
         obtain ⟨hg11, h⟩ := grd_inv h
         refine cVal tt rfl (wSome rfl rfl rfl rfl hb9) rfl rfl rfl hg11 ?_
         iterate 2 refine cVal tt rfl (wSome rfl rfl rfl rfl hb9) rfl rfl rfl trivial ?_
         obtain ⟨v10, hc12, h⟩ := bind_inv h
         refine cCall (I_compareBars_w N (g_0.bars.getD (((x8 - (1 : Int))).toNat) (0, 0)) (g_0.bars.getD ((x8).toNat) (0, 0)) v10 hc12) rfl (wSome rfl rfl rfl rfl hb9) rfl rfl rfl rfl rfl rfl ⟨⟨rfl, rfl, trivial⟩, ⟨rfl, rfl, trivial⟩, trivial⟩ ?_
         refine cVal tt rfl (wSome rfl rfl rfl rfl hb9) rfl rfl rfl trivial ?_
         refine cPickT rfl (wSome rfl rfl rfl rfl hb8) rfl rfl rfl hb9 rfl ?_
         refine cPickF rfl (wNone rfl) rfl rfl rfl hb8 rfl ?_
         refine cNil ?_
         change VC _ _ _ _
         refine vCond rfl (fun hb13 => ?_) (fun hb13 => ?_)
         ·replace h := cnd_t hb13 h
          refine vSeq ?_
          refine vRegion ?_
          refine oVal tt rfl rfl rfl rfl rfl trivial ?_
          refine vNil ?_
          change VC _ _ _ _
          refine vRet ?_
          change ∃ _, _
          cases h
          exact ⟨[], _, rfl, trivial, rfl, (.eq rfl), rfl⟩
         ·replace h := cnd_f hb13 h
          refine vSkip ?_
          change VC _ _ _ _
          refine vRegion ?_
          obtain ⟨hg14, h⟩ := grd_inv h
          refine oVal tt rfl rfl rfl rfl rfl hg14 ?_
          refine oVal tt rfl rfl rfl rfl rfl trivial ?_
          refine vNil ?_
          change ∃ _, _
          exact ⟨(x8 + (1 : Int)), (En.of ⟨rfl, rfl, rfl, rfl, trivial⟩ trivial ⟨rfl, trivial⟩), h⟩
        ·replace h := cnd_f hb9 h
         iterate 9 refine cNoT rfl rfl rfl rfl hb9 rfl rfl ?_
         refine cPickF rfl (wSome rfl rfl rfl rfl hb8) rfl rfl rfl hb9 rfl ?_
         refine cPickF rfl (wNone rfl) rfl rfl rfl hb8 rfl ?_
         refine cNil ?_
         change VC _ _ _ _
         refine vCondF rfl rfl ?_
         refine vSkip ?_
         change VC _ _ _ _
         refine vRegion ?_
         obtain ⟨hg15, h⟩ := grd_inv h
         refine oVal tt rfl rfl rfl rfl rfl hg15 ?_
         refine oVal tt rfl rfl rfl rfl rfl trivial ?_
         refine vNil ?_
         change ∃ _, _
         exact ⟨(x8 + (1 : Int)), (En.of ⟨rfl, rfl, rfl, rfl, trivial⟩ trivial ⟨rfl, trivial⟩), h⟩
    ·replace h := cnd_f hb4 h
     refine vExit ?_
     change ∃ _, _
     exact ⟨(), (En.of trivial trivial trivial), h⟩
def I_hasDoubles_l1 (N : Nat) (g_0 : Grf) (k : Unit → Option (Bool)) : Nat → Int → Option (Bool)
 | 0, _ => none
 | n + 1, i3 =>
  cnd (decide (i3 < (g_0.bars.length : Int))) (
   grd (Rg64 (i3 - (1 : Int))) <|
   grd (0 ≤ (i3 - (1 : Int)) ∧ (i3 - (1 : Int)) < (g_0.bars.length : Int)) <|
   grd (0 ≤ i3 ∧ i3 < (g_0.bars.length : Int)) <|
   cnd (((g_0.bars.getD (((i3 - (1 : Int))).toNat) (0, 0)).1 == (g_0.bars.getD ((i3).toNat) (0, 0)).1) && ((g_0.bars.getD (((i3 - (1 : Int))).toNat) (0, 0)).2 == (g_0.bars.getD ((i3).toNat) (0, 0)).2)) (
    some true) (
    grd (Rg64 (i3 + (1 : Int))) <|
    I_hasDoubles_l1 N g_0 k n (i3 + (1 : Int)))) (
   k ())
def I_hasDoubles (N : Nat) (g_0 : Grf) : Option (Bool) :=
 I_hasDoubles_l1 N g_0 (fun (_ : Unit) =>
    some false) N (1 : Int)
set_option maxRecDepth 20000 in
set_option maxHeartbeats 1600000 in
theorem I_hasDoubles_w (N : Nat) (g_0 : Grf) (r : Bool) (h : I_hasDoubles N g_0 = some r) : PCall Try.prog 148 [gD g_0] [] (.bool r) := by
 unfold I_hasDoubles at h
 refine pcall_intro (TT := TT) tt Try.func148 rfl rfl Try.ntmps148 (congrArg Array.toList Try.results148) rfl rfl fun w0 => ?_
 refine vSeq ?_
 refine vRegion ?_
 refine oBox rfl rfl rfl rfl rfl rfl rfl rfl rfl ?_
 refine oVal tt rfl rfl rfl rfl rfl trivial ?_
 refine vNil ?_
 change VC _ _ _ _
 iterate 2 refine vSeq ?_
 refine vRegion ?_
 refine oVal tt rfl rfl rfl rfl rfl trivial ?_
 refine vNil ?_
 change VC _ _ _ _
 refine vJoin (F := fun k => I_hasDoubles_l1 N g_0 k) h (α := Unit) (J := fun (_ : Unit) => (⟨[], [], []⟩ : PS)) ?_ ?_
 ·rintro ⟨⟩ h
  show VC _ _ _ (⟨[], [], []⟩ : PS)
  refine vSeq ?_
  refine vRegion ?_
  refine oVal tt rfl rfl rfl rfl rfl trivial ?_
  refine vNil ?_
  change VC _ _ _ _
  refine vRet ?_
  change ∃ _, _
  cases h
  exact ⟨[], _, rfl, trivial, rfl, (.eq rfl), rfl⟩
 ·intro k h
  refine vBlock ?_
  refine vLoopS (α := Int) (fun (i3 : Int) => (⟨[(1, .ptr 1 0), (3, .int i3)], [], [(1, some [.int g_0.n, .ro false (.pairs g_0.bars)])]⟩ : PS)) (I_hasDoubles_l1 N g_0 k) h (En.of ⟨rfl, rfl, trivial⟩ trivial ⟨rfl, trivial⟩) (fun _ => rfl) ?_
  rintro n i3 h
  rw [I_hasDoubles_l1] at h
  show VC _ _ _ (⟨[(1, .ptr 1 0), (3, .int i3)], [], [(1, some [.int g_0.n, .ro false (.pairs g_0.bars)])]⟩ : PS)
  iterate 2 refine vSeq ?_
  refine vRegion ?_
  iterate 5 refine oVal tt rfl rfl rfl rfl rfl trivial ?_
  refine vNil ?_
  change VC _ _ _ _
  refine vCond rfl (fun hb1 => ?_) (fun hb1 => ?_)
  ·replace h := cnd_t hb1 h
   refine vSkip ?_
   change VC _ _ _ _
   refine vSeq ?_
   refine vBlock ?_
   refine vSeq ?_
   refine vRegionD (by kernel_rfl) (by kernel_rfl) ?_
   iterate 3 refine cVal tt rfl (wNone rfl) rfl rfl rfl trivial ?_
   obtain ⟨hg2, h⟩ := grd_inv h
   refine cVal tt rfl (wNone rfl) rfl rfl rfl hg2 ?_
   obtain ⟨hg3, h⟩ := grd_inv h
   refine cVal tt rfl (wNone rfl) rfl rfl rfl hg3 ?_
   iterate 4 refine cVal tt rfl (wNone rfl) rfl rfl rfl trivial ?_
   obtain ⟨hg4, h⟩ := grd_inv h
   refine cVal tt rfl (wNone rfl) rfl rfl rfl hg4 ?_
   refine cVal tt rfl (wNone rfl) rfl rfl rfl trivial ?_
   refine cPure (wNone rfl) (pEqP eqP_impl_Bar rfl rfl rfl) rfl rfl ?_
   refine cNil ?_
   change VC _ _ _ _
   refine vCond rfl (fun hb5 => ?_) (fun hb5 => ?_)
   ·replace h := cnd_t hb5 h
    refine vSeq ?_
    refine vRegion ?_
    refine oVal tt rfl rfl rfl rfl rfl trivial ?_
    refine vNil ?_
    change VC _ _ _ _
    refine vRet ?_
    change ∃ _, _
    cases h
    exact ⟨[], _, rfl, trivial, rfl, (.eq rfl), rfl⟩
   ·replace h := cnd_f hb5 h
    refine vSkip ?_
    change VC _ _ _ _
    refine vRegion ?_
    refine oVal tt rfl rfl rfl rfl rfl trivial ?_
    obtain ⟨hg6, h⟩ := grd_inv h
    refine oVal tt rfl rfl rfl rfl rfl hg6 ?_
    refine oVal tt rfl rfl rfl rfl rfl trivial ?_
    refine vNil ?_
    change ∃ _, _
    exact ⟨(i3 + (1 : Int)), (En.of ⟨rfl, rfl, trivial⟩ trivial ⟨rfl, trivial⟩), h⟩
  ·replace h := cnd_f hb1 h
   refine vExit ?_
   change ∃ _, _
   exact ⟨(), (En.of trivial trivial trivial), h⟩
def M_Bar_other (N : Nat) (x_0 : Int × Int) (v_1 : Int) : Option (Int) :=
 cnd (x_0.1 == v_1) (
  some x_0.2) (
  some x_0.1)
set_option maxRecDepth 20000 in
set_option maxHeartbeats 1600000 in
theorem M_Bar_other_w (N : Nat) (x_0 : Int × Int) (v_1 : Int) (r : Int) (h : M_Bar_other N x_0 v_1 = some r) : PCall Try.prog 174 [.agg [.int x_0.1, .int x_0.2], .int v_1] [] (.int r) := by
 unfold M_Bar_other at h
 refine pcall_intro (TT := TT) tt Try.func174 rfl rfl Try.ntmps174 (congrArg Array.toList Try.results174) rfl rfl fun w0 => ?_
 refine vSeq ?_
 refine vRegion ?_
 refine oBox rfl rfl rfl rfl rfl rfl rfl rfl rfl ?_
 refine oVal tt rfl rfl rfl rfl rfl trivial ?_
 refine vNil ?_
 change VC _ _ _ _
 iterate 2 refine vSeq ?_
 refine vRegion ?_
 iterate 4 refine oVal tt rfl rfl rfl rfl rfl trivial ?_
 refine vNil ?_
 change VC _ _ _ _
 refine vCond rfl (fun hb1 => ?_) (fun hb1 => ?_)
 ·replace h := cnd_t hb1 h
  refine vSeq ?_
  refine vRegion ?_
  iterate 3 refine oVal tt rfl rfl rfl rfl rfl trivial ?_
  refine vNil ?_
  change VC _ _ _ _
  refine vRet ?_
  change ∃ _, _
  cases h
  exact ⟨[], _, rfl, trivial, rfl, (.eq rfl), rfl⟩
 ·replace h := cnd_f hb1 h
  refine vSkip ?_
  change VC _ _ _ _
  refine vSeq ?_
  refine vRegion ?_
  iterate 3 refine oVal tt rfl rfl rfl rfl rfl trivial ?_
  refine vNil ?_
  change VC _ _ _ _
  refine vRet ?_
  change ∃ _, _
  cases h
  exact ⟨[], _, rfl, trivial, rfl, (.eq rfl), rfl⟩
end Go.Proofs.Ytcljhpldfanhkaa
namespace Go.Proofs.Ytcljhpldfanhkaa
open Go.RowKit
def I_copyPebbles (N : Nat) (p_0 : Pbl) : Option (Pbl) :=
 (I_copyInts N p_0.free).bind fun v1 =>
 (I_copyInts N p_0.tails).bind fun v2 =>
 (I_copyInts N p_0.placed).bind fun v3 =>
 some (⟨v1, v2, v3⟩ : Pbl)
set_option maxRecDepth 20000 in
set_option maxHeartbeats 1600000 in
theorem I_copyPebbles_w (N : Nat) (p_0 : Pbl) (r : Pbl) (h : I_copyPebbles N p_0 = some r) : PCall Try.prog 201 [bD p_0] [(3, .ints r.free), (3, .ints r.tails), (3, .ints r.placed)] (.agg [.row 0 0 r.free.length, .row 1 0 r.tails.length, .row 2 0 r.placed.length]) := by
 unfold I_copyPebbles at h
 refine pcall_intro (TT := TT) tt Try.func201 rfl rfl Try.ntmps201 (congrArg Array.toList Try.results201) rfl rfl fun w0 => ?_
 refine vSeq ?_
 refine vRegion ?_
 refine oBox rfl rfl rfl rfl rfl rfl rfl rfl rfl ?_
 refine oAlloc tt rfl rfl rfl rfl rfl rfl rfl rfl rfl ?_
 refine vNil ?_
 change VC _ _ _ _
 refine vSeq ?_
 refine vRegionN 8 [2, 5] [0, 1, 3, 0, 8, 31, 0, 64, 255, 511, 1023] (by kernel_rfl) (by kernel_rfl) (by kernel_rfl) (by kernel_rfl) (by kernel_rfl) rfl (by rfl) ?_
 iterate 2 refine nVal tt rfl (wNone rfl) rfl rfl rfl rfl rfl trivial ?_
 obtain ⟨v1, hc1, h⟩ := bind_inv h
 refine nCallR (I_copyInts_w N p_0.free v1 hc1) rfl (wNone rfl) rfl rfl rfl rfl rfl rfl (by first | rfl | kernel_rfl | (simp [nrL, nm, gdst, nmT, rowB]; done)) rfl (by first | rfl | kernel_rfl | (simp [chkE, nrL, nm, gdst, nmT, rowB, hid, ment, mentA, mentS]; done) | (simp [chkE, nrL, nm, gdst, nmT, rowB, hid, ment, mentA, mentS]; decide)) ⟨rfl, trivial⟩ ?_
 iterate 2 refine nVal tt rfl (wNone rfl) rfl rfl rfl rfl rfl trivial ?_
 obtain ⟨v2, hc2, h⟩ := bind_inv h
 refine nCallR (I_copyInts_w N p_0.tails v2 hc2) rfl (wNone rfl) rfl rfl rfl rfl rfl rfl (by first | rfl | kernel_rfl | (simp [nrL, nm, gdst, nmT, rowB]; done)) rfl (by first | rfl | kernel_rfl | (simp [chkE, nrL, nm, gdst, nmT, rowB, hid, ment, mentA, mentS]; done) | (simp [chkE, nrL, nm, gdst, nmT, rowB, hid, ment, mentA, mentS]; decide)) ⟨rfl, trivial⟩ ?_
 iterate 2 refine nVal tt rfl (wNone rfl) rfl rfl rfl rfl rfl trivial ?_
 refine nNil ?_
 change VO _ _ _ _ _
 obtain ⟨v3, hc3, h⟩ := bind_inv h
 refine oCall (I_copyInts_w N p_0.placed v3 hc3) rfl rfl rfl rfl rfl rfl rfl rfl ⟨rfl, trivial⟩ ?_
 refine oPure (wNone rfl) (pBuild bld_impl_Pebbles rfl rfl) rfl rfl ?_
 refine oStore tt rfl rfl rfl rfl rfl rfl rfl rfl rfl rfl rfl ⟨trivial, trivial, trivial, trivial⟩ ?_
 refine vNil ?_
 change VC _ _ _ _
 refine vRet ?_
 change ∃ _, _
 cases h
 exact ⟨[1050, 1080, 1110], _, rfl, ⟨rfl, rfl, rfl, trivial⟩, rfl, (.eq rfl), rfl⟩
end Go.Proofs.Ytcljhpldfanhkaa
namespace Go.Proofs.Ytcljhpldfanhkaa
open Go.RowKit
def I_moveTo_l3 (N : Nat) (p_1 : Pbl) (a_2 : Int) (from298 : List (Int × Int)) (x299 : Int) (v307 : Int) (k : (List Int) → Option (Bool × (List Int) × (List Int) × (List Int))) : Nat → ((List Int) × Int) → Option (Bool × (List Int) × (List Int) × (List Int))
 | 0, _ => none
 | n + 1, (l312, at313) =>
  cnd (at313 != a_2) (
   grd (0 ≤ (mget (mset from298 v307 x299) at313) ∧ (mget (mset from298 v307 x299) at313) < (p_1.tails.length : Int)) <|
   grd (0 ≤ (mget (mset from298 v307 x299) at313) ∧ (mget (mset from298 v307 x299) at313) < (l312.length : Int)) <|
   I_moveTo_l3 N p_1 a_2 from298 x299 v307 k n ((l312.set (((mget (mset from298 v307 x299) at313)).toNat) at313), (l312.getD (((mget (mset from298 v307 x299) at313)).toNat) 0))) (
   k l312)
def I_moveTo_l2 (N : Nat) (bars_0 : List (Int × Int)) (p_1 : Pbl) (a_2 : Int) (b_3 : Int) (i211 : Int) (k : ((List Int) × (List (Int × Int))) → Option (Bool × (List Int) × (List Int) × (List Int))) : Nat → ((List Int) × (List (Int × Int)) × Int) → Option (Bool × (List Int) × (List Int) × (List Int))
 | 0, _ => none
 | n + 1, (l297, from298, x299) =>
  cnd (decide (x299 < (p_1.placed.length : Int))) (
   grd (0 ≤ x299 ∧ x299 < (p_1.placed.length : Int)) <|
   grd (0 ≤ x299 ∧ x299 < (p_1.tails.length : Int)) <|
   grd (0 ≤ i211 ∧ i211 < (l297.length : Int)) <|
   cnd ((p_1.tails.getD ((x299).toNat) 0) != (l297.getD ((i211).toNat) 0)) (
    grd (Rg64 (x299 + (1 : Int))) <|
    I_moveTo_l2 N bars_0 p_1 a_2 b_3 i211 k n (l297, from298, (x299 + (1 : Int)))) (
    grd (0 ≤ (p_1.placed.getD ((x299).toNat) 0) ∧ (p_1.placed.getD ((x299).toNat) 0) < (bars_0.length : Int)) <|
    (M_Bar_other N (bars_0.getD (((p_1.placed.getD ((x299).toNat) 0)).toNat) (0, 0)) (l297.getD ((i211).toNat) 0)).bind fun v307 =>
    cnd (mhas from298 v307) (
     grd (Rg64 (x299 + (1 : Int))) <|
     I_moveTo_l2 N bars_0 p_1 a_2 b_3 i211 k n (l297, from298, (x299 + (1 : Int)))) (
     cnd (v307 == b_3) (
      grd (l297.length + 1 ≤ 4294967296) <|
      grd (Rg64 (x299 + (1 : Int))) <|
      I_moveTo_l2 N bars_0 p_1 a_2 b_3 i211 k n ((l297 ++ ([v307] : List Int)), (mset from298 v307 x299), (x299 + (1 : Int)))) (
      grd (0 ≤ v307 ∧ v307 < (p_1.free.length : Int)) <|
      cnd ((p_1.free.getD ((v307).toNat) 0) == (0 : Int)) (
       grd (l297.length + 1 ≤ 4294967296) <|
       grd (Rg64 (x299 + (1 : Int))) <|
       I_moveTo_l2 N bars_0 p_1 a_2 b_3 i211 k n ((l297 ++ ([v307] : List Int)), (mset from298 v307 x299), (x299 + (1 : Int)))) (
       grd (Rg64 ((p_1.free.getD ((v307).toNat) 0) - (1 : Int))) <|
       grd (0 ≤ a_2 ∧ a_2 < (p_1.free.length : Int)) <|
       grd (0 ≤ a_2 ∧ a_2 < ((p_1.free.set ((v307).toNat) ((p_1.free.getD ((v307).toNat) 0) - (1 : Int))).length : Int)) <|
       grd (Rg64 (((p_1.free.set ((v307).toNat) ((p_1.free.getD ((v307).toNat) 0) - (1 : Int))).getD ((a_2).toNat) 0) + (1 : Int))) <|
       I_moveTo_l3 N p_1 a_2 from298 x299 v307 (fun (l310 : List Int) =>
          grd (p_1.free.length = ((p_1.free.set ((v307).toNat) ((p_1.free.getD ((v307).toNat) 0) - (1 : Int))).set ((a_2).toNat) (((p_1.free.set ((v307).toNat) ((p_1.free.getD ((v307).toNat) 0) - (1 : Int))).getD ((a_2).toNat) 0) + (1 : Int))).length) <|
          grd (p_1.tails.length = l310.length) <|
          some (true, ((p_1.free.set ((v307).toNat) ((p_1.free.getD ((v307).toNat) 0) - (1 : Int))).set ((a_2).toNat) (((p_1.free.set ((v307).toNat) ((p_1.free.getD ((v307).toNat) 0) - (1 : Int))).getD ((a_2).toNat) 0) + (1 : Int))), l310, p_1.placed)) N (p_1.tails, v307)))))) (
   k (l297, from298))
def I_moveTo_l1 (N : Nat) (bars_0 : List (Int × Int)) (p_1 : Pbl) (a_2 : Int) (b_3 : Int) (k : Unit → Option (Bool × (List Int) × (List Int) × (List Int))) : Nat → ((List Int) × (List (Int × Int)) × Int) → Option (Bool × (List Int) × (List Int) × (List Int))
 | 0, _ => none
 | n + 1, (l209, from210, i211) =>
  cnd (decide (i211 < (l209.length : Int))) (
   I_moveTo_l2 N bars_0 p_1 a_2 b_3 i211 (fun (x : (List Int) × (List (Int × Int))) =>
     match x with
     | (l287, from288) =>
      grd (Rg64 (i211 + (1 : Int))) <|
      I_moveTo_l1 N bars_0 p_1 a_2 b_3 k n (l287, from288, (i211 + (1 : Int)))) N (l209, from210, (0 : Int))) (
   k ())
def I_moveTo (N : Nat) (bars_0 : List (Int × Int)) (p_1 : Pbl) (a_2 : Int) (b_3 : Int) : Option (Bool × (List Int) × (List Int) × (List Int)) :=
 I_moveTo_l1 N bars_0 p_1 a_2 b_3 (fun (_ : Unit) =>
    some (false, p_1.free, p_1.tails, p_1.placed)) N (([a_2] : List Int), (mset ([] : List (Int × Int)) a_2 (-1 : Int)), (0 : Int))
set_option maxRecDepth 20000 in
set_option maxHeartbeats 1600000 in
theorem I_moveTo_w (N : Nat) (bars_0 : List (Int × Int)) (p_1 : Pbl) (a_2 : Int) (b_3 : Int) (r : Bool × (List Int) × (List Int) × (List Int)) (h : I_moveTo N bars_0 p_1 a_2 b_3 = some r) : MCall Try.prog 212 [.ro false (.pairs bars_0), .ptr 1000001 0, .int a_2, .int b_3] [900010, 900011, 900012] [1000001] [(3, .ints p_1.free), (3, .ints p_1.tails), (3, .ints p_1.placed)] [(3, .ints r.2.1), (3, .ints r.2.2.1), (3, .ints r.2.2.2)] [[.row 900010 0 p_1.free.length, .row 900011 0 p_1.tails.length, .row 900012 0 p_1.placed.length]] [[.row 900010 0 r.2.1.length, .row 900011 0 r.2.2.1.length, .row 900012 0 r.2.2.2.length]] (.bool r.1) := by
 unfold I_moveTo at h
 refine mcall_intro (TT := TT) tt Try.func212 rfl rfl Try.ntmps212 (congrArg Array.toList Try.results212) rfl rfl rfl rfl rfl fun w0 O0 => ?_
 refine vSeq ?_
 refine vRegion ?_
 refine oVal tt rfl rfl rfl rfl rfl trivial ?_
 refine vNil ?_
 change VC _ _ _ _
 refine vSeq ?_
 refine vRegion ?_
 refine oMakeMap rfl rfl rfl rfl fun mk2 hmk2 => ?_
 refine oVal tt rfl rfl rfl rfl rfl trivial ?_
 refine oMapSet tt hmk2 rfl (by first | exact .inl rfl | exact .inr rfl) rfl rfl rfl rfl rfl rfl ?_
 repeat (first | refine mapC_nil ?_ | refine mapC_hit ?_ | refine mapC_same rfl ?_ | refine mapC_dead ?_)
 change VO _ _ _ _ _
 iterate 2 refine oVal tt rfl rfl rfl rfl rfl trivial ?_
 refine vNil ?_
 change VC _ _ _ _
 refine vSeq ?_
 refine vRegion ?_
 refine oVal tt rfl rfl rfl rfl rfl trivial ?_
 refine oBuild tt rfl rfl rfl rfl rfl rfl rfl rfl rfl rfl rfl ?_
 refine oVal tt rfl rfl rfl rfl rfl trivial ?_
 refine vNil ?_
 change VC _ _ _ _
 iterate 2 refine vSeq ?_
 refine vRegion ?_
 refine oVal tt rfl rfl rfl rfl rfl trivial ?_
 refine vNil ?_
 change VC _ _ _ _
 refine vJoin (F := fun k => I_moveTo_l1 N bars_0 p_1 a_2 b_3 k) h (α := Unit) (J := fun (_ : Unit) => (⟨[], [(900010, some (3, .ints p_1.free)), (900011, some (3, .ints p_1.tails)), (900012, some (3, .ints p_1.placed))], [(1000001, some [.row 900010 0 p_1.free.length, .row 900011 0 p_1.tails.length, .row 900012 0 p_1.placed.length])]⟩ : PS)) ?_ ?_
 ·rintro ⟨⟩ h
  show VC _ _ _ (⟨[], [(900010, some (3, .ints p_1.free)), (900011, some (3, .ints p_1.tails)), (900012, some (3, .ints p_1.placed))], [(1000001, some [.row 900010 0 p_1.free.length, .row 900011 0 p_1.tails.length, .row 900012 0 p_1.placed.length])]⟩ : PS)
  refine vSeq ?_
  refine vRegion ?_
  refine oVal tt rfl rfl rfl rfl rfl trivial ?_
  refine vNil ?_
  change VC _ _ _ _
  refine vRet ?_
  change ∃ _, _
  cases h
  exact ⟨[900010, 900011, 900012], rfl, ⟨rfl, rfl, rfl, trivial⟩, ⟨rfl, trivial⟩, rfl⟩
 ·intro k h
  refine vBlock ?_
  refine vLoopS (α := (List Int) × (List (Int × Int)) × Int) (fun | (l209, from210, i211) => (⟨[(0, .ro false (.pairs bars_0)), (1, .ptr 1000001 0), (2, .int a_2), (3, .int b_3), (9, .map mk2 from210), (10, .row 24 0 l209.length), (11, .int i211)], [(24, some (3, .ints l209)), (900010, some (3, .ints p_1.free)), (900011, some (3, .ints p_1.tails)), (900012, some (3, .ints p_1.placed))], [(1000001, some [.row 900010 0 p_1.free.length, .row 900011 0 p_1.tails.length, .row 900012 0 p_1.placed.length])]⟩ : PS)) (I_moveTo_l1 N bars_0 p_1 a_2 b_3 k) h (En.of ⟨rfl, rfl, rfl, rfl, rfl, rfl, rfl, trivial⟩ ⟨rfl, rfl, rfl, rfl, trivial⟩ ⟨rfl, trivial⟩) (fun _ => rfl) ?_
  rintro n ⟨l209, from210, i211⟩ h
  rw [I_moveTo_l1] at h
  show VC _ _ _ (⟨[(0, .ro false (.pairs bars_0)), (1, .ptr 1000001 0), (2, .int a_2), (3, .int b_3), (9, .map mk2 from210), (10, .row 24 0 l209.length), (11, .int i211)], [(24, some (3, .ints l209)), (900010, some (3, .ints p_1.free)), (900011, some (3, .ints p_1.tails)), (900012, some (3, .ints p_1.placed))], [(1000001, some [.row 900010 0 p_1.free.length, .row 900011 0 p_1.tails.length, .row 900012 0 p_1.placed.length])]⟩ : PS)
  iterate 2 refine vSeq ?_
  refine vRegion ?_
  iterate 4 refine oVal tt rfl rfl rfl rfl rfl trivial ?_
  refine vNil ?_
  change VC _ _ _ _
  refine vCond rfl (fun hb2 => ?_) (fun hb2 => ?_)
  ·replace h := cnd_t hb2 h
   refine vSkip ?_
   change VC _ _ _ _
   refine vSeq ?_
   refine vBlock ?_
   refine vSeq ?_
   refine vRegion ?_
   iterate 6 refine oVal tt rfl rfl rfl rfl rfl trivial ?_
   refine vNil ?_
   change VC _ _ _ _
   refine vJoin (F := fun k => I_moveTo_l2 N bars_0 p_1 a_2 b_3 i211 k) h (α := (List Int) × (List (Int × Int))) (J := fun | (l287, from288) => (⟨[(0, .ro false (.pairs bars_0)), (1, .ptr 1000001 0), (2, .int a_2), (3, .int b_3), (9, .map mk2 from288), (10, .row 24 0 l287.length), (11, .int i211)], [(24, some (3, .ints l287)), (900010, some (3, .ints p_1.free)), (900011, some (3, .ints p_1.tails)), (900012, some (3, .ints p_1.placed))], [(1000001, some [.row 900010 0 p_1.free.length, .row 900011 0 p_1.tails.length, .row 900012 0 p_1.placed.length])]⟩ : PS)) ?_ ?_
   ·rintro ⟨l287, from288⟩ h
    show VC _ _ _ (⟨[(0, .ro false (.pairs bars_0)), (1, .ptr 1000001 0), (2, .int a_2), (3, .int b_3), (9, .map mk2 from288), (10, .row 24 0 l287.length), (11, .int i211)], [(24, some (3, .ints l287)), (900010, some (3, .ints p_1.free)), (900011, some (3, .ints p_1.tails)), (900012, some (3, .ints p_1.placed))], [(1000001, some [.row 900010 0 p_1.free.length, .row 900011 0 p_1.tails.length, .row 900012 0 p_1.placed.length])]⟩ : PS)
    refine vRegion ?_
    refine oVal tt rfl rfl rfl rfl rfl trivial ?_
    obtain ⟨hg3, h⟩ := grd_inv h
    refine oVal tt rfl rfl rfl rfl rfl hg3 ?_
    refine oVal tt rfl rfl rfl rfl rfl trivial ?_
    refine vNil ?_
    change ∃ _, _
    exact ⟨(l287, from288, (i211 + (1 : Int))), (En.of ⟨rfl, rfl, rfl, rfl, rfl, rfl, rfl, trivial⟩ ⟨rfl, rfl, rfl, rfl, trivial⟩ ⟨rfl, trivial⟩), h⟩
   ·intro k h
    refine vBlock ?_
    refine vLoopS (α := (List Int) × (List (Int × Int)) × Int) (fun | (l297, from298, x299) => (⟨[(0, .ro false (.pairs bars_0)), (1, .ptr 1000001 0), (2, .int a_2), (3, .int b_3), (9, .map mk2 from298), (10, .row 24 0 l297.length), (11, .int i211), (34, .row 900012 0 p_1.placed.length), (35, .int (p_1.placed.length : Int)), (36, .int x299)], [(24, some (3, .ints l297)), (900012, some (3, .ints p_1.placed)), (900010, some (3, .ints p_1.free)), (900011, some (3, .ints p_1.tails))], [(1000001, some [.row 900010 0 p_1.free.length, .row 900011 0 p_1.tails.length, .row 900012 0 p_1.placed.length])]⟩ : PS)) (I_moveTo_l2 N bars_0 p_1 a_2 b_3 i211 k) h (En.of ⟨rfl, rfl, rfl, rfl, rfl, rfl, rfl, rfl, rfl, rfl, trivial⟩ ⟨rfl, rfl, rfl, rfl, trivial⟩ ⟨rfl, trivial⟩) (fun _ => rfl) ?_
    rintro n ⟨l297, from298, x299⟩ h
    rw [I_moveTo_l2] at h
    show VC _ _ _ (⟨[(0, .ro false (.pairs bars_0)), (1, .ptr 1000001 0), (2, .int a_2), (3, .int b_3), (9, .map mk2 from298), (10, .row 24 0 l297.length), (11, .int i211), (34, .row 900012 0 p_1.placed.length), (35, .int (p_1.placed.length : Int)), (36, .int x299)], [(24, some (3, .ints l297)), (900012, some (3, .ints p_1.placed)), (900010, some (3, .ints p_1.free)), (900011, some (3, .ints p_1.tails))], [(1000001, some [.row 900010 0 p_1.free.length, .row 900011 0 p_1.tails.length, .row 900012 0 p_1.placed.length])]⟩ : PS)
    refine vSeq ?_
    refine vRegion ?_
    refine oVal tt rfl rfl rfl rfl rfl trivial ?_
    refine vNil ?_
    change VC _ _ _ _
    refine vSeq ?_
    refine vCond rfl (fun hb4 => ?_) (fun hb4 => ?_)
    ·replace h := cnd_t hb4 h
     refine vSkip ?_
     change VC _ _ _ _
     refine vSeq ?_
     refine vBlock ?_
     refine vSeq ?_
     refine vRegion ?_
     refine oVal tt rfl rfl rfl rfl rfl trivial ?_
     obtain ⟨hg5, h⟩ := grd_inv h
     iterate 2 refine oVal tt rfl rfl rfl rfl rfl hg5 ?_
     iterate 2 refine oVal tt rfl rfl rfl rfl rfl trivial ?_
     refine vNil ?_
     change VC _ _ _ _
     iterate 2 refine vSeq ?_
     refine vRegionD (by kernel_rfl) (by kernel_rfl) ?_
     iterate 5 refine cVal tt rfl (wNone rfl) rfl rfl rfl trivial ?_
     obtain ⟨hg6, h⟩ := grd_inv h
     iterate 2 refine cVal tt rfl (wNone rfl) rfl rfl rfl hg6 ?_
     iterate 2 refine cVal tt rfl (wNone rfl) rfl rfl rfl trivial ?_
     obtain ⟨hg7, h⟩ := grd_inv h
     iterate 2 refine cVal tt rfl (wNone rfl) rfl rfl rfl hg7 ?_
     refine cVal tt rfl (wNone rfl) rfl rfl rfl trivial ?_
     refine cNil ?_
     change VC _ _ _ _
     refine vCond rfl (fun hb8 => ?_) (fun hb8 => ?_)
     ·replace h := cnd_t hb8 h
      refine vExit ?_
      change VC _ _ _ _
      refine vRegion ?_
      obtain ⟨hg9, h⟩ := grd_inv h
      refine oVal tt rfl rfl rfl rfl rfl hg9 ?_
      refine oVal tt rfl rfl rfl rfl rfl trivial ?_
      refine vNil ?_
      change ∃ _, _
      exact ⟨(l297, from298, (x299 + (1 : Int))), (En.of ⟨rfl, rfl, rfl, rfl, rfl, rfl, rfl, rfl, rfl, rfl, trivial⟩ ⟨rfl, rfl, rfl, rfl, trivial⟩ ⟨rfl, trivial⟩), h⟩
     ·replace h := cnd_f hb8 h
      refine vSkip ?_
      change VC _ _ _ _
      refine vSeq ?_
      refine vRegionD (by kernel_rfl) (by kernel_rfl) ?_
      iterate 2 refine cVal tt rfl (wNone rfl) rfl rfl rfl trivial ?_
      obtain ⟨hg10, h⟩ := grd_inv h
      refine cVal tt rfl (wNone rfl) rfl rfl rfl hg10 ?_
      iterate 3 refine cVal tt rfl (wNone rfl) rfl rfl rfl trivial ?_
      iterate 2 refine cVal tt rfl (wNone rfl) rfl rfl rfl hg7 ?_
      obtain ⟨v307, hc11, h⟩ := bind_inv h
      refine cCall (M_Bar_other_w N (bars_0.getD (((p_1.placed.getD ((x299).toNat) 0)).toNat) (0, 0)) (l297.getD ((i211).toNat) 0) v307 hc11) rfl (wNone rfl) rfl rfl rfl rfl rfl rfl ⟨⟨rfl, rfl, trivial⟩, rfl, trivial⟩ ?_
      refine cVal tt rfl (wNone rfl) rfl rfl rfl trivial ?_
      refine cNil ?_
      change VC _ _ _ _
      iterate 2 refine vSeq ?_
      refine vRegion ?_
      iterate 8 refine oVal tt rfl rfl rfl rfl rfl trivial ?_
      refine vNil ?_
      change VC _ _ _ _
      refine vSeq ?_
      refine vRegion ?_
      refine oVal tt rfl rfl rfl rfl rfl trivial ?_
      refine vNil ?_
      change VC _ _ _ _
      refine vCond rfl (fun hb12 => ?_) (fun hb12 => ?_)
      ·replace h := cnd_t hb12 h
       refine vExit ?_
       change VC _ _ _ _
       refine vRegion ?_
       obtain ⟨hg13, h⟩ := grd_inv h
       refine oVal tt rfl rfl rfl rfl rfl hg13 ?_
       refine oVal tt rfl rfl rfl rfl rfl trivial ?_
       refine vNil ?_
       change ∃ _, _
       exact ⟨(l297, from298, (x299 + (1 : Int))), (En.of ⟨rfl, rfl, rfl, rfl, rfl, rfl, rfl, rfl, rfl, rfl, trivial⟩ ⟨rfl, rfl, rfl, rfl, trivial⟩ ⟨rfl, trivial⟩), h⟩
      ·replace h := cnd_f hb12 h
       refine vSkip ?_
       change VC _ _ _ _
       refine vSeq ?_
       refine vRegion ?_
       iterate 3 refine oVal tt rfl rfl rfl rfl rfl trivial ?_
       refine oMapSet tt hmk2 rfl (by first | exact .inl rfl | exact .inr rfl) rfl rfl rfl rfl rfl rfl ?_
       repeat (first | refine mapC_nil ?_ | refine mapC_hit ?_ | refine mapC_same rfl ?_ | refine mapC_dead ?_)
       change VO _ _ _ _ _
       refine vNil ?_
       change VC _ _ _ _
       iterate 2 refine vSeq ?_
       refine vRegion ?_
       iterate 4 refine oVal tt rfl rfl rfl rfl rfl trivial ?_
       refine oSplit rfl rfl rfl (fun hb14 => ?_) (fun hb14 => ?_)
       ·replace h := cnd_t hb14 h
        iterate 8 refine oNoF rfl rfl rfl rfl hb14 rfl rfl ?_
        refine oPick rfl rfl rfl rfl rfl hb14 rfl ?_
        refine vNil ?_
        change VC _ _ _ _
        refine vCondT rfl rfl ?_
        refine vSeq ?_
        refine vRegion ?_
        iterate 2 refine oVal tt rfl rfl rfl rfl rfl trivial ?_
        refine oBuild tt rfl rfl rfl rfl rfl rfl rfl rfl rfl rfl rfl ?_
        obtain ⟨hg15, h⟩ := grd_inv h
        refine oAppend tt rfl rfl rfl rfl rfl rfl rfl rfl rfl rfl rfl rfl rfl rfl rfl rfl (Nat.le_of_eq (Nat.zero_add _)) hg15 ?_
        refine oVal tt rfl rfl rfl rfl rfl trivial ?_
        refine vNil ?_
        change VC _ _ _ _
        refine vExit ?_
        change VC _ _ _ _
        refine vRegion ?_
        obtain ⟨hg16, h⟩ := grd_inv h
        refine oVal tt rfl rfl rfl rfl rfl hg16 ?_
        refine oVal tt rfl rfl rfl rfl rfl trivial ?_
        refine vNil ?_
        change ∃ _, _
        exact ⟨((l297 ++ ([v307] : List Int)), (mset from298 v307 x299), (x299 + (1 : Int))), (En.of ⟨rfl, rfl, rfl, rfl, rfl, rfl, rfl, rfl, rfl, rfl, trivial⟩ ⟨rfl, rfl, rfl, rfl, trivial⟩ ⟨rfl, trivial⟩), h⟩
       ·replace h := cnd_f hb14 h
        iterate 5 refine oValG tt rfl rfl rfl rfl rfl hb14 rfl rfl rfl trivial ?_
        obtain ⟨hg17, h⟩ := grd_inv h
        iterate 2 refine oValG tt rfl rfl rfl rfl rfl hb14 rfl rfl rfl hg17 ?_
        refine oValG tt rfl rfl rfl rfl rfl hb14 rfl rfl rfl trivial ?_
        refine oPickF rfl rfl rfl rfl rfl hb14 rfl ?_
        refine vNil ?_
        change VC _ _ _ _
        refine vCond rfl (fun hb18 => ?_) (fun hb18 => ?_)
        ·replace h := cnd_t hb18 h
         refine vSeq ?_
         refine vRegion ?_
         iterate 2 refine oVal tt rfl rfl rfl rfl rfl trivial ?_
         refine oBuild tt rfl rfl rfl rfl rfl rfl rfl rfl rfl rfl rfl ?_
         obtain ⟨hg19, h⟩ := grd_inv h
         refine oAppend tt rfl rfl rfl rfl rfl rfl rfl rfl rfl rfl rfl rfl rfl rfl rfl rfl (Nat.le_of_eq (Nat.zero_add _)) hg19 ?_
         refine oVal tt rfl rfl rfl rfl rfl trivial ?_
         refine vNil ?_
         change VC _ _ _ _
         refine vExit ?_
         change VC _ _ _ _
         refine vRegion ?_
         obtain ⟨hg20, h⟩ := grd_inv h
         refine oVal tt rfl rfl rfl rfl rfl hg20 ?_
         refine oVal tt rfl rfl rfl rfl rfl trivial ?_
         refine vNil ?_
         change ∃ _, _
         exact ⟨((l297 ++ ([v307] : List Int)), (mset from298 v307 x299), (x299 + (1 : Int))), (En.of ⟨rfl, rfl, rfl, rfl, rfl, rfl, rfl, rfl, rfl, rfl, trivial⟩ ⟨rfl, rfl, rfl, rfl, trivial⟩ ⟨rfl, trivial⟩), h⟩
        ·replace h := cnd_f hb18 h
         refine vSkip ?_
         change VC _ _ _ _
         refine vSeq ?_
         refine vRegion ?_
         iterate 5 refine oVal tt rfl rfl rfl rfl rfl trivial ?_
         iterate 2 refine oVal tt rfl rfl rfl rfl rfl hg17 ?_
         obtain ⟨hg21, h⟩ := grd_inv h
         refine oVal tt rfl rfl rfl rfl rfl hg21 ?_
         refine oVal tt rfl rfl rfl rfl rfl hg17 ?_
         refine oStore tt rfl rfl rfl rfl rfl rfl rfl rfl rfl rfl ⟨_, _, rfl, hg17.1, hg17.2⟩ ⟨hg17, trivial⟩ ?_
         refine vNil ?_
         change VC _ _ _ _
         refine vSeq ?_
         refine vRegion ?_
         iterate 5 refine oVal tt rfl rfl rfl rfl rfl trivial ?_
         obtain ⟨hg22, h⟩ := grd_inv h
         refine oVal tt rfl rfl rfl rfl rfl hg22 ?_
         obtain ⟨hg23, h⟩ := grd_inv h
         refine oVal tt rfl rfl rfl rfl rfl hg23 ?_
         obtain ⟨hg24, h⟩ := grd_inv h
         refine oVal tt rfl rfl rfl rfl rfl hg24 ?_
         refine oVal tt rfl rfl rfl rfl rfl hg22 ?_
         refine oStore tt rfl rfl rfl rfl rfl rfl rfl rfl rfl rfl ⟨_, _, rfl, hg23.1, hg23.2⟩ ⟨hg23, trivial⟩ ?_
         refine vNil ?_
         change VC _ _ _ _
         iterate 2 refine vSeq ?_
         refine vRegion ?_
         iterate 2 refine oVal tt rfl rfl rfl rfl rfl trivial ?_
         refine vNil ?_
         change VC _ _ _ _
         refine vJoin (F := fun k => I_moveTo_l3 N p_1 a_2 from298 x299 v307 k) h (α := List Int) (J := fun (l310 : List Int) => (⟨[], [(900010, some (3, .ints ((p_1.free.set ((v307).toNat) ((p_1.free.getD ((v307).toNat) 0) - (1 : Int))).set ((a_2).toNat) (((p_1.free.set ((v307).toNat) ((p_1.free.getD ((v307).toNat) 0) - (1 : Int))).getD ((a_2).toNat) 0) + (1 : Int))))), (900011, some (3, .ints l310)), (900012, some (3, .ints p_1.placed))], [(1000001, some [.row 900010 0 p_1.free.length, .row 900011 0 p_1.tails.length, .row 900012 0 p_1.placed.length])]⟩ : PS)) ?_ ?_
         ·rintro l310 h
          show VC _ _ _ (⟨[], [(900010, some (3, .ints ((p_1.free.set ((v307).toNat) ((p_1.free.getD ((v307).toNat) 0) - (1 : Int))).set ((a_2).toNat) (((p_1.free.set ((v307).toNat) ((p_1.free.getD ((v307).toNat) 0) - (1 : Int))).getD ((a_2).toNat) 0) + (1 : Int))))), (900011, some (3, .ints l310)), (900012, some (3, .ints p_1.placed))], [(1000001, some [.row 900010 0 p_1.free.length, .row 900011 0 p_1.tails.length, .row 900012 0 p_1.placed.length])]⟩ : PS)
          refine vSeq ?_
          refine vRegion ?_
          refine oVal tt rfl rfl rfl rfl rfl trivial ?_
          refine vNil ?_
          change VC _ _ _ _
          obtain ⟨hg25, h⟩ := grd_inv h
          refine vRowB 1000001 0 900010 rfl rfl hg25 rfl ?_
          obtain ⟨hg26, h⟩ := grd_inv h
          refine vRowB 1000001 1 900011 rfl rfl hg26 rfl ?_
          refine vRet ?_
          change ∃ _, _
          cases h
          exact ⟨[900010, 900011, 900012], rfl, ⟨rfl, rfl, rfl, trivial⟩, ⟨rfl, trivial⟩, rfl⟩
         ·intro k h
          refine vBlock ?_
          refine vLoopS (α := (List Int) × Int) (fun | (l312, at313) => (⟨[(1, .ptr 1000001 0), (2, .int a_2), (9, .map mk2 (mset from298 v307 x299)), (17, .int at313)], [(900010, some (3, .ints ((p_1.free.set ((v307).toNat) ((p_1.free.getD ((v307).toNat) 0) - (1 : Int))).set ((a_2).toNat) (((p_1.free.set ((v307).toNat) ((p_1.free.getD ((v307).toNat) 0) - (1 : Int))).getD ((a_2).toNat) 0) + (1 : Int))))), (900011, some (3, .ints l312)), (900012, some (3, .ints p_1.placed))], [(1000001, some [.row 900010 0 p_1.free.length, .row 900011 0 p_1.tails.length, .row 900012 0 p_1.placed.length])]⟩ : PS)) (I_moveTo_l3 N p_1 a_2 from298 x299 v307 k) h (En.of ⟨rfl, rfl, rfl, rfl, trivial⟩ ⟨rfl, rfl, rfl, trivial⟩ ⟨rfl, trivial⟩) (fun _ => rfl) ?_
          rintro n ⟨l312, at313⟩ h
          rw [I_moveTo_l3] at h
          show VC _ _ _ (⟨[(1, .ptr 1000001 0), (2, .int a_2), (9, .map mk2 (mset from298 v307 x299)), (17, .int at313)], [(900010, some (3, .ints ((p_1.free.set ((v307).toNat) ((p_1.free.getD ((v307).toNat) 0) - (1 : Int))).set ((a_2).toNat) (((p_1.free.set ((v307).toNat) ((p_1.free.getD ((v307).toNat) 0) - (1 : Int))).getD ((a_2).toNat) 0) + (1 : Int))))), (900011, some (3, .ints l312)), (900012, some (3, .ints p_1.placed))], [(1000001, some [.row 900010 0 p_1.free.length, .row 900011 0 p_1.tails.length, .row 900012 0 p_1.placed.length])]⟩ : PS)
          iterate 2 refine vSeq ?_
          refine vRegion ?_
          iterate 3 refine oVal tt rfl rfl rfl rfl rfl trivial ?_
          refine vNil ?_
          change VC _ _ _ _
          refine vCond rfl (fun hb27 => ?_) (fun hb27 => ?_)
          ·replace h := cnd_t hb27 h
           refine vSkip ?_
           change VC _ _ _ _
           refine vBlock ?_
           refine vSeq ?_
           refine vRegion ?_
           iterate 4 refine oVal tt rfl rfl rfl rfl rfl trivial ?_
           refine vNil ?_
           change VC _ _ _ _
           refine vSeq ?_
           refine vRegion ?_
           iterate 5 refine oVal tt rfl rfl rfl rfl rfl trivial ?_
           obtain ⟨hg28, h⟩ := grd_inv h
           refine oVal tt rfl rfl rfl rfl rfl hg28 ?_
           obtain ⟨hg29, h⟩ := grd_inv h
           refine oVal tt rfl rfl rfl rfl rfl hg29 ?_
           refine oVal tt rfl rfl rfl rfl rfl trivial ?_
           refine vNil ?_
           change VC _ _ _ _
           refine vSeq ?_
           refine vRegion ?_
           iterate 6 refine oVal tt rfl rfl rfl rfl rfl trivial ?_
           refine oVal tt rfl rfl rfl rfl rfl hg28 ?_
           refine oStore tt rfl rfl rfl rfl rfl rfl rfl rfl rfl rfl ⟨_, _, rfl, hg29.1, hg29.2⟩ ⟨hg29, trivial⟩ ?_
           refine vNil ?_
           change VC _ _ _ _
           refine vRegion ?_
           iterate 2 refine oVal tt rfl rfl rfl rfl rfl trivial ?_
           refine vNil ?_
           change ∃ _, _
           exact ⟨((l312.set (((mget (mset from298 v307 x299) at313)).toNat) at313), (l312.getD (((mget (mset from298 v307 x299) at313)).toNat) 0)), (En.of ⟨rfl, rfl, rfl, rfl, trivial⟩ ⟨rfl, rfl, rfl, trivial⟩ ⟨rfl, trivial⟩), h⟩
          ·replace h := cnd_f hb27 h
           refine vExit ?_
           change ∃ _, _
           exact ⟨l312, (En.of trivial ⟨rfl, rfl, rfl, trivial⟩ ⟨rfl, trivial⟩), h⟩
    ·replace h := cnd_f hb4 h
     refine vExit ?_
     change ∃ _, _
     exact ⟨(l297, from298), (En.of ⟨rfl, rfl, rfl, rfl, rfl, rfl, rfl, trivial⟩ ⟨rfl, rfl, rfl, rfl, trivial⟩ ⟨rfl, trivial⟩), h⟩
  ·replace h := cnd_f hb2 h
   refine vExit ?_
   change ∃ _, _
   exact ⟨(), (En.of trivial ⟨rfl, rfl, rfl, trivial⟩ ⟨rfl, trivial⟩), h⟩
def I_gather_l1 (N : Nat) (bars_0 : List (Int × Int)) (a_2 : Int) (b_3 : Int) (want_4 : Int) (k : ((List Int) × (List Int) × (List Int)) → Option (Bool × (List Int) × (List Int) × (List Int))) : Nat → ((List Int) × (List Int) × (List Int)) → Option (Bool × (List Int) × (List Int) × (List Int))
 | 0, _ => none
 | n + 1, (l16, l17, l18) =>
  grd (0 ≤ a_2 ∧ a_2 < (l16.length : Int)) <|
  grd (0 ≤ b_3 ∧ b_3 < (l16.length : Int)) <|
  grd (Rg64 ((l16.getD ((a_2).toNat) 0) + (l16.getD ((b_3).toNat) 0))) <|
  cnd (decide (((l16.getD ((a_2).toNat) 0) + (l16.getD ((b_3).toNat) 0)) < want_4)) (
   (I_moveTo N bars_0 (⟨l16, l17, l18⟩ : Pbl) a_2 b_3).bind fun v21 =>
   cnd (!v21.1) (
    (I_moveTo N bars_0 (⟨v21.2.1, v21.2.2.1, v21.2.2.2⟩ : Pbl) b_3 a_2).bind fun v22 =>
    cnd (!v22.1) (
     some (false, v22.2.1, v22.2.2.1, v22.2.2.2)) (
     I_gather_l1 N bars_0 a_2 b_3 want_4 k n (v22.2.1, v22.2.2.1, v22.2.2.2))) (
    I_gather_l1 N bars_0 a_2 b_3 want_4 k n (v21.2.1, v21.2.2.1, v21.2.2.2))) (
   k (l16, l17, l18))
def I_gather (N : Nat) (bars_0 : List (Int × Int)) (p_1 : Pbl) (a_2 : Int) (b_3 : Int) (want_4 : Int) : Option (Bool × (List Int) × (List Int) × (List Int)) :=
 I_gather_l1 N bars_0 a_2 b_3 want_4 (fun (x : (List Int) × (List Int) × (List Int)) =>
   match x with
   | (l10, l11, l12) =>
    some (true, l10, l11, l12)) N (p_1.free, p_1.tails, p_1.placed)
set_option maxRecDepth 20000 in
set_option maxHeartbeats 1600000 in
theorem I_gather_w (N : Nat) (bars_0 : List (Int × Int)) (p_1 : Pbl) (a_2 : Int) (b_3 : Int) (want_4 : Int) (r : Bool × (List Int) × (List Int) × (List Int)) (h : I_gather N bars_0 p_1 a_2 b_3 want_4 = some r) : MCall Try.prog 210 [.ro false (.pairs bars_0), .ptr 1000001 0, .int a_2, .int b_3, .int want_4] [900010, 900011, 900012] [1000001] [(3, .ints p_1.free), (3, .ints p_1.tails), (3, .ints p_1.placed)] [(3, .ints r.2.1), (3, .ints r.2.2.1), (3, .ints r.2.2.2)] [[.row 900010 0 p_1.free.length, .row 900011 0 p_1.tails.length, .row 900012 0 p_1.placed.length]] [[.row 900010 0 r.2.1.length, .row 900011 0 r.2.2.1.length, .row 900012 0 r.2.2.2.length]] (.bool r.1) := by
 unfold I_gather at h
 refine mcall_intro (TT := TT) tt Try.func210 rfl rfl Try.ntmps210 (congrArg Array.toList Try.results210) rfl rfl rfl rfl rfl fun w0 O0 => ?_
 refine vSeq ?_
 refine vRegion ?_
 refine oVal tt rfl rfl rfl rfl rfl trivial ?_
 refine vNil ?_
 change VC _ _ _ _
 refine vSeq ?_
 refine vJoin (F := fun k => I_gather_l1 N bars_0 a_2 b_3 want_4 k) h (α := (List Int) × (List Int) × (List Int)) (J := fun | (l10, l11, l12) => (⟨[], [(900010, some (3, .ints l10)), (900011, some (3, .ints l11)), (900012, some (3, .ints l12))], [(1000001, some [.row 900010 0 l10.length, .row 900011 0 l11.length, .row 900012 0 l12.length])]⟩ : PS)) ?_ ?_
 ·rintro ⟨l10, l11, l12⟩ h
  show VC _ _ _ (⟨[], [(900010, some (3, .ints l10)), (900011, some (3, .ints l11)), (900012, some (3, .ints l12))], [(1000001, some [.row 900010 0 l10.length, .row 900011 0 l11.length, .row 900012 0 l12.length])]⟩ : PS)
  refine vSeq ?_
  refine vRegion ?_
  refine oVal tt rfl rfl rfl rfl rfl trivial ?_
  refine vNil ?_
  change VC _ _ _ _
  refine vRet ?_
  change ∃ _, _
  cases h
  exact ⟨[900010, 900011, 900012], rfl, ⟨rfl, rfl, rfl, trivial⟩, ⟨rfl, trivial⟩, rfl⟩
 ·intro k h
  refine vBlock ?_
  refine vLoopS (α := (List Int) × (List Int) × (List Int)) (fun | (l16, l17, l18) => (⟨[(0, .ro false (.pairs bars_0)), (1, .ptr 1000001 0), (2, .int a_2), (3, .int b_3), (4, .int want_4)], [(900010, some (3, .ints l16)), (900011, some (3, .ints l17)), (900012, some (3, .ints l18))], [(1000001, some [.row 900010 0 l16.length, .row 900011 0 l17.length, .row 900012 0 l18.length])]⟩ : PS)) (I_gather_l1 N bars_0 a_2 b_3 want_4 k) h (En.of ⟨rfl, rfl, rfl, rfl, rfl, trivial⟩ ⟨rfl, rfl, rfl, trivial⟩ ⟨rfl, trivial⟩) (fun _ => rfl) ?_
  rintro n ⟨l16, l17, l18⟩ h
  rw [I_gather_l1] at h
  show VC _ _ _ (⟨[(0, .ro false (.pairs bars_0)), (1, .ptr 1000001 0), (2, .int a_2), (3, .int b_3), (4, .int want_4)], [(900010, some (3, .ints l16)), (900011, some (3, .ints l17)), (900012, some (3, .ints l18))], [(1000001, some [.row 900010 0 l16.length, .row 900011 0 l17.length, .row 900012 0 l18.length])]⟩ : PS)
  iterate 2 refine vSeq ?_
  refine vRegionD (by kernel_rfl) (by kernel_rfl) ?_
  iterate 5 refine cVal tt rfl (wNone rfl) rfl rfl rfl trivial ?_
  obtain ⟨hg1, h⟩ := grd_inv h
  iterate 2 refine cVal tt rfl (wNone rfl) rfl rfl rfl hg1 ?_
  iterate 5 refine cVal tt rfl (wNone rfl) rfl rfl rfl trivial ?_
  obtain ⟨hg2, h⟩ := grd_inv h
  iterate 2 refine cVal tt rfl (wNone rfl) rfl rfl rfl hg2 ?_
  obtain ⟨hg3, h⟩ := grd_inv h
  refine cVal tt rfl (wNone rfl) rfl rfl rfl hg3 ?_
  iterate 2 refine cVal tt rfl (wNone rfl) rfl rfl rfl trivial ?_
  refine cNil ?_
  change VC _ _ _ _
  refine vCond rfl (fun hb4 => ?_) (fun hb4 => ?_)
  ·replace h := cnd_t hb4 h
   refine vSkip ?_
   change VC _ _ _ _
   refine vBlock ?_
   refine vSeq ?_
   refine vRegion ?_
   iterate 4 refine oVal tt rfl rfl rfl rfl rfl trivial ?_
   obtain ⟨v21, hc5, h⟩ := bind_inv h
   refine oMCall (I_moveTo_w N bars_0 (⟨l16, l17, l18⟩ : Pbl) a_2 b_3 v21 hc5) [900010, 900011, 900012] [1000001] [1320, 1321, 1322] rfl rfl rfl rfl rfl rfl ⟨rfl, rfl, rfl, trivial⟩ ⟨rfl, trivial⟩ ⟨.inl rfl, ⟨rfl, rfl⟩, ⟨rfl, rfl⟩, ⟨rfl, rfl⟩, trivial⟩ ?_
   iterate 2 refine oVal tt rfl rfl rfl rfl rfl trivial ?_
   refine oSplit rfl rfl rfl (fun hb6 => ?_) (fun hb6 => ?_)
   ·replace h := cnd_t hb6 h
    iterate 4 refine oValG tt rfl rfl rfl rfl rfl hb6 rfl rfl rfl trivial ?_
    obtain ⟨v22, hc7, h⟩ := bind_inv h
    refine oMCallG (I_moveTo_w N bars_0 (⟨v21.2.1, v21.2.2.1, v21.2.2.2⟩ : Pbl) b_3 a_2 v22 hc7) [1320, 1321, 1322] [1000001] [1390, 1391, 1392] rfl rfl rfl rfl hb6 rfl rfl rfl rfl rfl ⟨rfl, rfl, rfl, trivial⟩ ⟨rfl, trivial⟩ ⟨.inl rfl, ⟨rfl, rfl⟩, ⟨rfl, rfl⟩, ⟨rfl, rfl⟩, trivial⟩ ?_
    refine oValG tt rfl rfl rfl rfl rfl hb6 rfl rfl rfl trivial ?_
    refine oPick rfl rfl rfl rfl rfl hb6 rfl ?_
    refine vNil ?_
    change VC _ _ _ _
    refine vCond rfl (fun hb8 => ?_) (fun hb8 => ?_)
    ·replace h := cnd_t hb8 h
     refine vSeq ?_
     refine vRegion ?_
     refine oVal tt rfl rfl rfl rfl rfl trivial ?_
     refine vNil ?_
     change VC _ _ _ _
     refine vRet ?_
     change ∃ _, _
     cases h
     exact ⟨[1390, 1391, 1392], rfl, ⟨rfl, rfl, rfl, trivial⟩, ⟨rfl, trivial⟩, rfl⟩
    ·replace h := cnd_f hb8 h
     refine vSkip ?_
     change ∃ _, _
     exact ⟨(v22.2.1, v22.2.2.1, v22.2.2.2), (En.ren [900010, 900011, 900012] [1390, 1391, 1392] rfl ⟨.inr rfl, .inr rfl, .inr rfl, .inr rfl, .inr rfl, trivial⟩ ⟨.inr rfl, .inr rfl, .inr rfl, trivial⟩ ⟨.inr ⟨_, _, rfl, rfl, ⟨.inr rfl, .inr rfl, .inr rfl, trivial⟩⟩, trivial⟩), h⟩
   ·replace h := cnd_f hb6 h
    iterate 6 refine oNoT rfl rfl rfl rfl hb6 rfl rfl ?_
    refine oPickF rfl rfl rfl rfl rfl hb6 rfl ?_
    refine vNil ?_
    change VC _ _ _ _
    refine vCondF rfl rfl ?_
    refine vSkip ?_
    change ∃ _, _
    exact ⟨(v21.2.1, v21.2.2.1, v21.2.2.2), (En.ren [900010, 900011, 900012] [1320, 1321, 1322] rfl ⟨.inr rfl, .inr rfl, .inr rfl, .inr rfl, .inr rfl, trivial⟩ ⟨.inr rfl, .inr rfl, .inr rfl, trivial⟩ ⟨.inr ⟨_, _, rfl, rfl, ⟨.inr rfl, .inr rfl, .inr rfl, trivial⟩⟩, trivial⟩), h⟩
  ·replace h := cnd_f hb4 h
   refine vExit ?_
   change ∃ _, _
   exact ⟨(l16, l17, l18), (En.of trivial ⟨rfl, rfl, rfl, trivial⟩ ⟨rfl, trivial⟩), h⟩
def I_place (N : Nat) (bars_0 : List (Int × Int)) (l_1 : Int) (p_2 : Pbl) (e_3 : Int) : Option (Bool × (List Int) × (List Int) × (List Int)) :=
 grd (0 ≤ e_3 ∧ e_3 < (bars_0.length : Int)) <|
 grd (Rg64 (l_1 + (1 : Int))) <|
 (I_gather N bars_0 (⟨p_2.free, p_2.tails, p_2.placed⟩ : Pbl) ((bars_0.getD ((e_3).toNat) (0, 0)).1) ((bars_0.getD ((e_3).toNat) (0, 0)).2) (l_1 + (1 : Int))).bind fun v1 =>
 cnd (!v1.1) (
  some (false, v1.2.1, v1.2.2.1, v1.2.2.2)) (
  grd (0 ≤ ((bars_0.getD ((e_3).toNat) (0, 0)).1) ∧ ((bars_0.getD ((e_3).toNat) (0, 0)).1) < (v1.2.1.length : Int)) <|
  jn (fun (tail2 : Int) =>
     grd (0 ≤ tail2 ∧ tail2 < (v1.2.1.length : Int)) <|
     grd (Rg64 ((v1.2.1.getD ((tail2).toNat) 0) - (1 : Int))) <|
     grd (v1.2.2.1.length + 1 ≤ 4294967296) <|
     grd (v1.2.2.2.length + 1 ≤ 4294967296) <|
     grd (v1.2.1.length = (v1.2.1.set ((tail2).toNat) ((v1.2.1.getD ((tail2).toNat) 0) - (1 : Int))).length) <|
     some (true, (v1.2.1.set ((tail2).toNat) ((v1.2.1.getD ((tail2).toNat) 0) - (1 : Int))), (v1.2.2.1 ++ ([tail2] : List Int)), (v1.2.2.2 ++ ([e_3] : List Int)))) fun k3 =>
   cnd ((v1.2.1.getD (((bars_0.getD ((e_3).toNat) (0, 0)).1).toNat) 0) == (0 : Int)) (
    k3 ((bars_0.getD ((e_3).toNat) (0, 0)).2)) (
    k3 ((bars_0.getD ((e_3).toNat) (0, 0)).1)))
set_option maxRecDepth 20000 in
set_option maxHeartbeats 1600000 in
theorem I_place_w (N : Nat) (bars_0 : List (Int × Int)) (l_1 : Int) (p_2 : Pbl) (e_3 : Int) (r : Bool × (List Int) × (List Int) × (List Int)) (h : I_place N bars_0 l_1 p_2 e_3 = some r) : MCall Try.prog 202 [.ro false (.pairs bars_0), .int l_1, .ptr 1000002 0, .int e_3] [900020, 900021, 900022] [1000002] [(3, .ints p_2.free), (3, .ints p_2.tails), (3, .ints p_2.placed)] [(3, .ints r.2.1), (3, .ints r.2.2.1), (3, .ints r.2.2.2)] [[.row 900020 0 p_2.free.length, .row 900021 0 p_2.tails.length, .row 900022 0 p_2.placed.length]] [[.row 900020 0 r.2.1.length, .row 900021 0 r.2.2.1.length, .row 900022 0 r.2.2.2.length]] (.bool r.1) := by
 unfold I_place at h
 refine mcall_intro (TT := TT) tt Try.func202 rfl rfl Try.ntmps202 (congrArg Array.toList Try.results202) rfl rfl rfl rfl rfl fun w0 O0 => ?_
 refine vSeq ?_
 refine vRegion ?_
 refine oVal tt rfl rfl rfl rfl rfl trivial ?_
 refine vNil ?_
 change VC _ _ _ _
 refine vSeq ?_
 refine vRegion ?_
 iterate 2 refine oVal tt rfl rfl rfl rfl rfl trivial ?_
 obtain ⟨hg1, h⟩ := grd_inv h
 refine oVal tt rfl rfl rfl rfl rfl hg1 ?_
 refine oVal tt rfl rfl rfl rfl rfl trivial ?_
 refine oAlloc tt rfl rfl rfl rfl rfl rfl rfl rfl rfl ?_
 refine oStore tt rfl rfl rfl rfl rfl rfl rfl rfl rfl rfl rfl ⟨trivial, trivial, trivial⟩ ?_
 refine vNil ?_
 change VC _ _ _ _
 iterate 2 refine vSeq ?_
 refine vRegion ?_
 iterate 7 refine oVal tt rfl rfl rfl rfl rfl trivial ?_
 obtain ⟨hg2, h⟩ := grd_inv h
 refine oVal tt rfl rfl rfl rfl rfl hg2 ?_
 obtain ⟨v1, hc3, h⟩ := bind_inv h
 refine oMCall (I_gather_w N bars_0 (⟨p_2.free, p_2.tails, p_2.placed⟩ : Pbl) ((bars_0.getD ((e_3).toNat) (0, 0)).1) ((bars_0.getD ((e_3).toNat) (0, 0)).2) (l_1 + (1 : Int)) v1 hc3) [900020, 900021, 900022] [1000002] [1230, 1231, 1232] rfl rfl rfl rfl rfl rfl ⟨rfl, rfl, rfl, trivial⟩ ⟨rfl, trivial⟩ ⟨.inl rfl, ⟨rfl, rfl⟩, ⟨rfl, rfl⟩, ⟨rfl, rfl⟩, ⟨rfl, rfl⟩, trivial⟩ ?_
 refine oVal tt rfl rfl rfl rfl rfl trivial ?_
 refine vNil ?_
 change VC _ _ _ _
 refine vCond rfl (fun hb4 => ?_) (fun hb4 => ?_)
 ·replace h := cnd_t hb4 h
  refine vSeq ?_
  refine vRegion ?_
  refine oVal tt rfl rfl rfl rfl rfl trivial ?_
  refine vNil ?_
  change VC _ _ _ _
  refine vRet ?_
  change ∃ _, _
  cases h
  exact ⟨[1230, 1231, 1232], rfl, ⟨rfl, rfl, rfl, trivial⟩, ⟨rfl, trivial⟩, rfl⟩
 ·replace h := cnd_f hb4 h
  refine vSkip ?_
  change VC _ _ _ _
  refine vSeq ?_
  refine vRegion ?_
  iterate 3 refine oVal tt rfl rfl rfl rfl rfl trivial ?_
  refine vNil ?_
  change VC _ _ _ _
  iterate 2 refine vSeq ?_
  refine vRegionD (by kernel_rfl) (by kernel_rfl) ?_
  iterate 6 refine cVal tt rfl (wNone rfl) rfl rfl rfl trivial ?_
  obtain ⟨hg5, h⟩ := grd_inv h
  iterate 2 refine cVal tt rfl (wNone rfl) rfl rfl rfl hg5 ?_
  refine cVal tt rfl (wNone rfl) rfl rfl rfl trivial ?_
  refine cNil ?_
  change VC _ _ _ _
  refine vJoinN h (α := Int) (J := fun (tail2 : Int) => (⟨[(2, .ptr 1000002 0), (3, .int e_3), (10, .int tail2)], [(1230, some (3, .ints v1.2.1)), (1231, some (3, .ints v1.2.2.1)), (1232, some (3, .ints v1.2.2.2))], [(1000002, some [.row 1230 0 v1.2.1.length, .row 1231 0 v1.2.2.1.length, .row 1232 0 v1.2.2.2.length])]⟩ : PS)) ?_ ?_
  ·rintro tail2 h
   show VC _ _ _ (⟨[(2, .ptr 1000002 0), (3, .int e_3), (10, .int tail2)], [(1230, some (3, .ints v1.2.1)), (1231, some (3, .ints v1.2.2.1)), (1232, some (3, .ints v1.2.2.2))], [(1000002, some [.row 1230 0 v1.2.1.length, .row 1231 0 v1.2.2.1.length, .row 1232 0 v1.2.2.2.length])]⟩ : PS)
   refine vSeq ?_
   refine vRegion ?_
   iterate 5 refine oVal tt rfl rfl rfl rfl rfl trivial ?_
   obtain ⟨hg6, h⟩ := grd_inv h
   iterate 2 refine oVal tt rfl rfl rfl rfl rfl hg6 ?_
   obtain ⟨hg7, h⟩ := grd_inv h
   refine oVal tt rfl rfl rfl rfl rfl hg7 ?_
   refine oVal tt rfl rfl rfl rfl rfl hg6 ?_
   refine oStore tt rfl rfl rfl rfl rfl rfl rfl rfl rfl rfl ⟨_, _, rfl, hg6.1, hg6.2⟩ ⟨hg6, trivial⟩ ?_
   refine vNil ?_
   change VC _ _ _ _
   refine vSeq ?_
   refine vRegion ?_
   iterate 6 refine oVal tt rfl rfl rfl rfl rfl trivial ?_
   refine oBuild tt rfl rfl rfl rfl rfl rfl rfl rfl rfl rfl rfl ?_
   obtain ⟨hg8, h⟩ := grd_inv h
   refine oAppend tt rfl rfl rfl rfl rfl rfl rfl rfl rfl rfl rfl rfl rfl rfl rfl rfl (Nat.le_of_eq (Nat.zero_add _)) hg8 ?_
   iterate 2 refine oVal tt rfl rfl rfl rfl rfl trivial ?_
   refine oStore tt rfl rfl rfl rfl rfl rfl rfl rfl rfl rfl rfl ⟨trivial, trivial⟩ ?_
   refine vNil ?_
   change VC _ _ _ _
   refine vSeq ?_
   refine vRegion ?_
   iterate 6 refine oVal tt rfl rfl rfl rfl rfl trivial ?_
   refine oBuild tt rfl rfl rfl rfl rfl rfl rfl rfl rfl rfl rfl ?_
   obtain ⟨hg9, h⟩ := grd_inv h
   refine oAppend tt rfl rfl rfl rfl rfl rfl rfl rfl rfl rfl rfl rfl rfl rfl rfl rfl (Nat.le_of_eq (Nat.zero_add _)) hg9 ?_
   iterate 2 refine oVal tt rfl rfl rfl rfl rfl trivial ?_
   refine oStore tt rfl rfl rfl rfl rfl rfl rfl rfl rfl rfl rfl ⟨trivial, trivial⟩ ?_
   refine vNil ?_
   change VC _ _ _ _
   refine vSeq ?_
   refine vRegion ?_
   refine oVal tt rfl rfl rfl rfl rfl trivial ?_
   refine vNil ?_
   change VC _ _ _ _
   obtain ⟨hg10, h⟩ := grd_inv h
   refine vRowB 1000002 0 1230 rfl rfl hg10 rfl ?_
   refine vRet ?_
   change ∃ _, _
   cases h
   exact ⟨[1230, 1231, 1232], rfl, ⟨rfl, rfl, rfl, trivial⟩, ⟨rfl, trivial⟩, rfl⟩
  ·intro k3 h
   refine vCond rfl (fun hb11 => ?_) (fun hb11 => ?_)
   ·replace h := cnd_t hb11 h
    refine vRegion ?_
    iterate 3 refine oVal tt rfl rfl rfl rfl rfl trivial ?_
    refine vNil ?_
    change ∃ _, _
    exact ⟨(bars_0.getD ((e_3).toNat) (0, 0)).2, (En.of ⟨rfl, rfl, rfl, trivial⟩ ⟨rfl, rfl, rfl, trivial⟩ ⟨rfl, trivial⟩), h⟩
   ·replace h := cnd_f hb11 h
    refine vSkip ?_
    change ∃ _, _
    exact ⟨(bars_0.getD ((e_3).toNat) (0, 0)).1, (En.of ⟨rfl, rfl, rfl, trivial⟩ ⟨rfl, rfl, rfl, trivial⟩ ⟨rfl, trivial⟩), h⟩
def I_play_l1 (N : Nat) (bars_1 : List (Int × Int)) (l_3 : Int) (k : ((List Int) × (List Int) × (List Int)) → Option (Pbl)) : Nat → ((List Int) × (List Int) × (List Int) × Int) → Option (Pbl)
 | 0, _ => none
 | n + 1, (l39, l40, l41, x42) =>
  cnd (decide (x42 < (bars_1.length : Int))) (
   (I_copyPebbles N (⟨l39, l40, l41⟩ : Pbl)).bind fun v45 =>
   (I_place N bars_1 l_3 (⟨v45.free, v45.tails, v45.placed⟩ : Pbl) x42).bind fun v46 =>
   cnd v46.1 (
    grd (Rg64 (x42 + (1 : Int))) <|
    I_play_l1 N bars_1 l_3 k n (v46.2.1, v46.2.2.1, v46.2.2.2, (x42 + (1 : Int)))) (
    grd (Rg64 (x42 + (1 : Int))) <|
    I_play_l1 N bars_1 l_3 k n (l39, l40, l41, (x42 + (1 : Int))))) (
   k (l39, l40, l41))
def I_play_l2 (N : Nat) (points_0 : Int) (k_2 : Int) (k : (List Int) → Option (Pbl)) : Nat → ((List Int) × Int) → Option (Pbl)
 | 0, _ => none
 | n + 1, (l49, x50) =>
  cnd (decide (x50 < points_0)) (
   grd (l49.length + 1 ≤ 4294967296) <|
   grd (Rg64 (x50 + (1 : Int))) <|
   I_play_l2 N points_0 k_2 k n ((l49 ++ ([k_2] : List Int)), (x50 + (1 : Int)))) (
   k l49)
def I_play (N : Nat) (points_0 : Int) (bars_1 : List (Int × Int)) (k_2 : Int) (l_3 : Int) : Option (Pbl) :=
 I_play_l2 N points_0 k_2 (fun (l4 : List Int) =>
    I_play_l1 N bars_1 l_3 (fun (x : (List Int) × (List Int) × (List Int)) =>
      match x with
      | (l24, l25, l26) =>
       some (⟨l24, l25, l26⟩ : Pbl)) N (l4, ([] : List Int), ([] : List Int), (0 : Int))) N (([] : List Int), (0 : Int))
set_option maxRecDepth 20000 in
set_option maxHeartbeats 1600000 in
theorem I_play_w (N : Nat) (points_0 : Int) (bars_1 : List (Int × Int)) (k_2 : Int) (l_3 : Int) (r : Pbl) (h : I_play N points_0 bars_1 k_2 l_3 = some r) : PCall Try.prog 183 [.int points_0, .ro false (.pairs bars_1), .int k_2, .int l_3] [(3, .ints r.free), (3, .ints r.tails), (3, .ints r.placed)] (.agg [.row 0 0 r.free.length, .row 1 0 r.tails.length, .row 2 0 r.placed.length]) := by
 unfold I_play at h
 refine pcall_intro (TT := TT) tt Try.func183 rfl rfl Try.ntmps183 (congrArg Array.toList Try.results183) rfl rfl fun w0 => ?_
 refine vSeq ?_
 refine vRegion ?_
 refine oAlloc tt rfl rfl rfl rfl rfl rfl rfl rfl rfl ?_
 refine vNil ?_
 change VC _ _ _ _
 refine vSeq ?_
 refine vRegion ?_
 refine oPure (wNone rfl) (pBuild bld_impl_Pebbles rfl rfl) rfl rfl ?_
 refine oAlloc tt rfl rfl rfl rfl rfl rfl rfl rfl rfl ?_
 refine oStore tt rfl rfl rfl rfl rfl rfl rfl rfl rfl rfl rfl ⟨trivial, trivial, trivial, trivial⟩ ?_
 refine vNil ?_
 change VC _ _ _ _
 iterate 2 refine vSeq ?_
 refine vRegion ?_
 iterate 2 refine oVal tt rfl rfl rfl rfl rfl trivial ?_
 refine vNil ?_
 change VC _ _ _ _
 refine vJoin (F := fun k => I_play_l2 N points_0 k_2 k) h (α := List Int) (J := fun (l4 : List Int) => (⟨[(1, .ro false (.pairs bars_1)), (3, .int l_3), (8, .ptr 8 0), (9, .ptr 9 0)], [(20, some (3, .ints l4))], [(8, some [.nil, .nil, .nil]), (9, some [.row 20 0 l4.length, .nil, .nil])]⟩ : PS)) ?_ ?_
 ·rintro l4 h
  show VC _ _ _ (⟨[(1, .ro false (.pairs bars_1)), (3, .int l_3), (8, .ptr 8 0), (9, .ptr 9 0)], [(20, some (3, .ints l4))], [(8, some [.nil, .nil, .nil]), (9, some [.row 20 0 l4.length, .nil, .nil])]⟩ : PS)
  iterate 2 refine vSeq ?_
  refine vRegion ?_
  iterate 3 refine oVal tt rfl rfl rfl rfl rfl trivial ?_
  refine vNil ?_
  change VC _ _ _ _
  refine vJoin (F := fun k => I_play_l1 N bars_1 l_3 k) h (α := (List Int) × (List Int) × (List Int)) (J := fun | (l24, l25, l26) => (⟨[(8, .ptr 8 0), (9, .ptr 9 0)], [(20, some (3, .ints l24)), (9505, some (3, .ints l25)), (9506, some (3, .ints l26))], [(8, some [.nil, .nil, .nil]), (9, some [.row 20 0 l24.length, .row 9505 0 l25.length, .row 9506 0 l26.length])]⟩ : PS)) ?_ ?_
  ·rintro ⟨l24, l25, l26⟩ h
   show VC _ _ _ (⟨[(8, .ptr 8 0), (9, .ptr 9 0)], [(20, some (3, .ints l24)), (9505, some (3, .ints l25)), (9506, some (3, .ints l26))], [(8, some [.nil, .nil, .nil]), (9, some [.row 20 0 l24.length, .row 9505 0 l25.length, .row 9506 0 l26.length])]⟩ : PS)
   refine vSeq ?_
   refine vRegion ?_
   refine oVal tt rfl rfl rfl rfl rfl trivial ?_
   refine oStore tt rfl rfl rfl rfl rfl rfl rfl rfl rfl rfl rfl ⟨trivial, trivial, trivial, trivial⟩ ?_
   refine vNil ?_
   change VC _ _ _ _
   refine vRet ?_
   change ∃ _, _
   cases h
   exact ⟨[20, 9505, 9506], _, rfl, ⟨rfl, rfl, rfl, trivial⟩, rfl, (.eq rfl), rfl⟩
  ·intro k h
   refine vBlock ?_
   refine vNilB 9 1 9507 3 (.ints []) rfl rfl rfl rfl rfl ?_
   refine vNilB 9 2 9508 3 (.ints []) rfl rfl rfl rfl rfl ?_
   refine vLoopS (α := (List Int) × (List Int) × (List Int) × Int) (fun | (l39, l40, l41, x42) => (⟨[(1, .ro false (.pairs bars_1)), (3, .int l_3), (8, .ptr 8 0), (9, .ptr 9 0), (24, .int (bars_1.length : Int)), (25, .int x42)], [(20, some (3, .ints l39)), (9507, some (3, .ints l40)), (9508, some (3, .ints l41))], [(8, some [.nil, .nil, .nil]), (9, some [.row 20 0 l39.length, .row 9507 0 l40.length, .row 9508 0 l41.length])]⟩ : PS)) (I_play_l1 N bars_1 l_3 k) h (En.of ⟨rfl, rfl, rfl, rfl, rfl, rfl, trivial⟩ ⟨rfl, rfl, rfl, trivial⟩ ⟨rfl, rfl, trivial⟩) (fun _ => rfl) ?_
   rintro n ⟨l39, l40, l41, x42⟩ h
   rw [I_play_l1] at h
   show VC _ _ _ (⟨[(1, .ro false (.pairs bars_1)), (3, .int l_3), (8, .ptr 8 0), (9, .ptr 9 0), (24, .int (bars_1.length : Int)), (25, .int x42)], [(20, some (3, .ints l39)), (9507, some (3, .ints l40)), (9508, some (3, .ints l41))], [(8, some [.nil, .nil, .nil]), (9, some [.row 20 0 l39.length, .row 9507 0 l40.length, .row 9508 0 l41.length])]⟩ : PS)
   refine vSeq ?_
   refine vRegion ?_
   refine oVal tt rfl rfl rfl rfl rfl trivial ?_
   refine vNil ?_
   change VC _ _ _ _
   refine vSeq ?_
   refine vCond rfl (fun hb1 => ?_) (fun hb1 => ?_)
   ·replace h := cnd_t hb1 h
    refine vSkip ?_
    change VC _ _ _ _
    refine vSeq ?_
    refine vBlock ?_
    refine vSeq ?_
    refine vRegion ?_
    iterate 2 refine oVal tt rfl rfl rfl rfl rfl trivial ?_
    refine vNil ?_
    change VC _ _ _ _
    refine vSeq ?_
    refine vRegion ?_
    refine oVal tt rfl rfl rfl rfl rfl trivial ?_
    obtain ⟨v45, hc2, h⟩ := bind_inv h
    refine oCall (I_copyPebbles_w N (⟨l39, l40, l41⟩ : Pbl) v45 hc2) rfl rfl rfl rfl rfl rfl rfl rfl ⟨⟨(.inl ⟨rfl, rfl⟩), (.inl ⟨rfl, rfl⟩), (.inl ⟨rfl, rfl⟩), trivial⟩, trivial⟩ ?_
    refine oAlloc tt rfl rfl rfl rfl rfl rfl rfl rfl rfl ?_
    refine oStore tt rfl rfl rfl rfl rfl rfl rfl rfl rfl rfl rfl ⟨trivial, trivial, trivial, trivial⟩ ?_
    refine vNil ?_
    change VC _ _ _ _
    refine vSeq ?_
    refine vRegion ?_
    iterate 3 refine oVal tt rfl rfl rfl rfl rfl trivial ?_
    obtain ⟨v46, hc3, h⟩ := bind_inv h
    refine oMCall (I_place_w N bars_1 l_3 (⟨v45.free, v45.tails, v45.placed⟩ : Pbl) x42 v46 hc3) [1290, 1291, 1292] [11] [1330, 1331, 1332] rfl rfl rfl rfl rfl rfl ⟨rfl, rfl, rfl, trivial⟩ ⟨rfl, trivial⟩ ⟨.inl rfl, ⟨rfl, rfl⟩, ⟨rfl, rfl⟩, ⟨rfl, rfl⟩, trivial⟩ ?_
    refine vNil ?_
    change VC _ _ _ _
    refine vCond rfl (fun hb4 => ?_) (fun hb4 => ?_)
    ·replace h := cnd_t hb4 h
     refine vRegion ?_
     refine oVal tt rfl rfl rfl rfl rfl trivial ?_
     refine oStore tt rfl rfl rfl rfl rfl rfl rfl rfl rfl rfl rfl ⟨trivial, trivial, trivial, trivial⟩ ?_
     refine vNil ?_
     change VC _ _ _ _
     refine vRegion ?_
     obtain ⟨hg5, h⟩ := grd_inv h
     refine oVal tt rfl rfl rfl rfl rfl hg5 ?_
     refine oVal tt rfl rfl rfl rfl rfl trivial ?_
     refine vNil ?_
     change ∃ _, _
     exact ⟨(v46.2.1, v46.2.2.1, v46.2.2.2, (x42 + (1 : Int))), (En.ren [20, 9507, 9508] [1330, 1331, 1332] rfl ⟨.inr rfl, .inr rfl, .inr rfl, .inr rfl, .inr rfl, .inr rfl, trivial⟩ ⟨.inr rfl, .inr rfl, .inr rfl, trivial⟩ ⟨.inr ⟨_, _, rfl, rfl, ⟨.inr rfl, .inr rfl, .inr rfl, trivial⟩⟩, .inr ⟨_, _, rfl, rfl, ⟨.inr rfl, .inr rfl, .inr rfl, trivial⟩⟩, trivial⟩), h⟩
    ·replace h := cnd_f hb4 h
     refine vSkip ?_
     change VC _ _ _ _
     refine vRegion ?_
     obtain ⟨hg6, h⟩ := grd_inv h
     refine oVal tt rfl rfl rfl rfl rfl hg6 ?_
     refine oVal tt rfl rfl rfl rfl rfl trivial ?_
     refine vNil ?_
     change ∃ _, _
     exact ⟨(l39, l40, l41, (x42 + (1 : Int))), (En.of ⟨rfl, rfl, rfl, rfl, rfl, rfl, trivial⟩ ⟨rfl, rfl, rfl, trivial⟩ ⟨rfl, rfl, trivial⟩), h⟩
   ·replace h := cnd_f hb1 h
    refine vExit ?_
    change ∃ _, _
    exact ⟨(l39, l40, l41), (En.ren [9505, 9506] [9507, 9508] rfl ⟨.inr rfl, .inr rfl, trivial⟩ ⟨.inr rfl, .inr rfl, .inr rfl, trivial⟩ ⟨.inr ⟨_, _, rfl, rfl, ⟨.inr rfl, .inr rfl, .inr rfl, trivial⟩⟩, .inr ⟨_, _, rfl, rfl, ⟨.inr rfl, .inr rfl, .inr rfl, trivial⟩⟩, trivial⟩), h⟩
 ·intro k h
  refine vBlock ?_
  refine vNilB 9 0 20 3 (.ints []) rfl rfl rfl rfl rfl ?_
  refine vLoopS (α := (List Int) × Int) (fun | (l49, x50) => (⟨[(1, .ro false (.pairs bars_1)), (2, .int k_2), (3, .int l_3), (8, .ptr 8 0), (9, .ptr 9 0), (13, .int points_0), (14, .int x50)], [(20, some (3, .ints l49))], [(8, some [.nil, .nil, .nil]), (9, some [.row 20 0 l49.length, .nil, .nil])]⟩ : PS)) (I_play_l2 N points_0 k_2 k) h (En.of ⟨rfl, rfl, rfl, rfl, rfl, rfl, rfl, trivial⟩ ⟨rfl, trivial⟩ ⟨rfl, rfl, trivial⟩) (fun _ => rfl) ?_
  rintro n ⟨l49, x50⟩ h
  rw [I_play_l2] at h
  show VC _ _ _ (⟨[(1, .ro false (.pairs bars_1)), (2, .int k_2), (3, .int l_3), (8, .ptr 8 0), (9, .ptr 9 0), (13, .int points_0), (14, .int x50)], [(20, some (3, .ints l49))], [(8, some [.nil, .nil, .nil]), (9, some [.row 20 0 l49.length, .nil, .nil])]⟩ : PS)
  refine vSeq ?_
  refine vRegion ?_
  refine oVal tt rfl rfl rfl rfl rfl trivial ?_
  refine vNil ?_
  change VC _ _ _ _
  refine vSeq ?_
  refine vCond rfl (fun hb7 => ?_) (fun hb7 => ?_)
  ·replace h := cnd_t hb7 h
   refine vSkip ?_
   change VC _ _ _ _
   refine vSeq ?_
   refine vBlock ?_
   refine vRegion ?_
   iterate 3 refine oVal tt rfl rfl rfl rfl rfl trivial ?_
   refine oBuild tt rfl rfl rfl rfl rfl rfl rfl rfl rfl rfl rfl ?_
   obtain ⟨hg8, h⟩ := grd_inv h
   refine oAppend tt rfl rfl rfl rfl rfl rfl rfl rfl rfl rfl rfl rfl rfl rfl rfl rfl (Nat.le_of_eq (Nat.zero_add _)) hg8 ?_
   refine oVal tt rfl rfl rfl rfl rfl trivial ?_
   refine oStore tt rfl rfl rfl rfl rfl rfl rfl rfl rfl rfl rfl ⟨trivial, trivial⟩ ?_
   refine vNil ?_
   change VC _ _ _ _
   refine vRegion ?_
   obtain ⟨hg9, h⟩ := grd_inv h
   refine oVal tt rfl rfl rfl rfl rfl hg9 ?_
   refine oVal tt rfl rfl rfl rfl rfl trivial ?_
   refine vNil ?_
   change ∃ _, _
   exact ⟨((l49 ++ ([k_2] : List Int)), (x50 + (1 : Int))), (En.of ⟨rfl, rfl, rfl, rfl, rfl, rfl, rfl, trivial⟩ ⟨rfl, trivial⟩ ⟨rfl, rfl, trivial⟩), h⟩
  ·replace h := cnd_f hb7 h
   refine vExit ?_
   change ∃ _, _
   exact ⟨l49, (En.of ⟨rfl, rfl, rfl, rfl, trivial⟩ ⟨rfl, trivial⟩ ⟨rfl, rfl, trivial⟩), h⟩
end Go.Proofs.Ytcljhpldfanhkaa
namespace Go.Proofs.Ytcljhpldfanhkaa
open Go.RowKit
def S_l4Find_l2 (N : Nat) (g_0 : Grf) (p_1 : Pbl) (a_2 : Int) (b_3 : Int) (l106 : List Int) (k108 : Int) (k : ((List Int) × (List Int) × (List Bool)) → Option (Pbl × Bool)) : Nat → ((List Int) × (List Int) × (List Bool) × Int) → Option (Pbl × Bool)
 | 0, _ => none
 | n + 1, (l149, l150, l151, i152) =>
  cnd (decide (i152 < (p_1.placed.length : Int))) (
   grd (0 ≤ i152 ∧ i152 < (p_1.tails.length : Int)) <|
   cnd ((p_1.tails.getD ((i152).toNat) 0) != (l106.getD ((k108).toNat) 0)) (
    grd (Rg64 (i152 + (1 : Int))) <|
    S_l4Find_l2 N g_0 p_1 a_2 b_3 l106 k108 k n (l149, l150, l151, (i152 + (1 : Int)))) (
    grd (0 ≤ i152 ∧ i152 < (p_1.placed.length : Int)) <|
    grd (0 ≤ (p_1.placed.getD ((i152).toNat) 0) ∧ (p_1.placed.getD ((i152).toNat) 0) < (g_0.bars.length : Int)) <|
    (S_l4Other N (g_0.bars.getD (((p_1.placed.getD ((i152).toNat) 0)).toNat) (0, 0)) (l106.getD ((k108).toNat) 0)).bind fun v155 =>
    grd (0 ≤ v155 ∧ v155 < ((List.replicate ((g_0.n).toNat) (false : Bool)).length : Int)) <|
    grd (0 ≤ v155 ∧ v155 < (l151.length : Int)) <|
    cnd (l151.getD ((v155).toNat) false) (
     grd (Rg64 (i152 + (1 : Int))) <|
     S_l4Find_l2 N g_0 p_1 a_2 b_3 l106 k108 k n (l149, l150, l151, (i152 + (1 : Int)))) (
     grd (0 ≤ v155 ∧ v155 < ((List.replicate ((g_0.n).toNat) (0 : Int)).length : Int)) <|
     grd (0 ≤ v155 ∧ v155 < (l149.length : Int)) <|
     cnd (v155 != b_3) (
      grd (0 ≤ v155 ∧ v155 < (p_1.free.length : Int)) <|
      cnd (decide ((p_1.free.getD ((v155).toNat) 0) > (0 : Int))) (
       grd ((List.replicate ((g_0.n).toNat) (0 : Int)).length = (l149.set ((v155).toNat) i152).length) <|
       (S_l4Shift N g_0 p_1 (l149.set ((v155).toNat) i152) a_2 v155).bind fun v156 =>
       some ((⟨v156.free, v156.tails, v156.placed⟩ : Pbl), true)) (
       grd (l150.length + 1 ≤ 4294967296) <|
       grd (Rg64 (i152 + (1 : Int))) <|
       S_l4Find_l2 N g_0 p_1 a_2 b_3 l106 k108 k n ((l149.set ((v155).toNat) i152), (l150 ++ ([v155] : List Int)), (l151.set ((v155).toNat) true), (i152 + (1 : Int))))) (
      grd (l150.length + 1 ≤ 4294967296) <|
      grd (Rg64 (i152 + (1 : Int))) <|
      S_l4Find_l2 N g_0 p_1 a_2 b_3 l106 k108 k n ((l149.set ((v155).toNat) i152), (l150 ++ ([v155] : List Int)), (l151.set ((v155).toNat) true), (i152 + (1 : Int))))))) (
   k (l149, l150, l151))
def S_l4Find_l1 (N : Nat) (g_0 : Grf) (p_1 : Pbl) (a_2 : Int) (b_3 : Int) (k : Unit → Option (Pbl × Bool)) : Nat → ((List Int) × (List Int) × (List Bool) × Int) → Option (Pbl × Bool)
 | 0, _ => none
 | n + 1, (l105, l106, l107, k108) =>
  cnd (decide (k108 < (l106.length : Int))) (
   grd (0 ≤ k108 ∧ k108 < (l106.length : Int)) <|
   S_l4Find_l2 N g_0 p_1 a_2 b_3 l106 k108 (fun (x : (List Int) × (List Int) × (List Bool)) =>
     match x with
     | (l143, l144, l145) =>
      grd (Rg64 (k108 + (1 : Int))) <|
      S_l4Find_l1 N g_0 p_1 a_2 b_3 k n (l143, l144, l145, (k108 + (1 : Int)))) N (l105, l106, l107, (0 : Int))) (
   k ())
def S_l4Find_l3 (N : Nat) (g_0 : Grf) (k : (List Int) → Option (Pbl × Bool)) : Nat → ((List Int) × Int) → Option (Pbl × Bool)
 | 0, _ => none
 | n + 1, (l158, i159) =>
  cnd (decide (i159 < g_0.n)) (
   grd (0 ≤ i159 ∧ i159 < ((List.replicate ((g_0.n).toNat) (0 : Int)).length : Int)) <|
   grd (0 ≤ i159 ∧ i159 < (l158.length : Int)) <|
   grd (Rg64 (i159 + (1 : Int))) <|
   S_l4Find_l3 N g_0 k n ((l158.set ((i159).toNat) (-1 : Int)), (i159 + (1 : Int)))) (
   k l158)
def S_l4Find (N : Nat) (g_0 : Grf) (p_1 : Pbl) (a_2 : Int) (b_3 : Int) : Option (Pbl × Bool) :=
 grd (0 ≤ g_0.n ∧ g_0.n ≤ 4294967296) <|
 S_l4Find_l3 N g_0 (fun (l3 : List Int) =>
    grd (0 ≤ a_2 ∧ a_2 < ((List.replicate ((g_0.n).toNat) (false : Bool)).length : Int)) <|
    S_l4Find_l1 N g_0 p_1 a_2 b_3 (fun (_ : Unit) =>
       some ((⟨p_1.free, p_1.tails, p_1.placed⟩ : Pbl), false)) N (l3, ([a_2] : List Int), ((List.replicate ((g_0.n).toNat) (false : Bool)).set ((a_2).toNat) true), (0 : Int))) N ((List.replicate ((g_0.n).toNat) (0 : Int)), (0 : Int))
set_option maxRecDepth 20000 in
set_option maxHeartbeats 1600000 in
theorem S_l4Find_wT (N : Nat) (g_0 : Grf) (p_1 : Pbl) (a_2 : Int) (b_3 : Int) (r : Pbl × Bool) (h : S_l4Find N g_0 p_1 a_2 b_3 = some r) (halt : r.2 = true) : PCall Try.prog 204 [gD g_0, bD p_1, .int a_2, .int b_3] [(3, .ints r.1.free), (3, .ints r.1.tails), (3, .ints r.1.placed)] (.tup [.agg [.row 0 0 r.1.free.length, .row 1 0 r.1.tails.length, .row 2 0 r.1.placed.length], .bool r.2]) := by
 unfold S_l4Find at h
 refine pcall_intro (TT := TT) tt Try.func204 rfl rfl Try.ntmps204 (congrArg Array.toList Try.results204) rfl rfl fun w0 => ?_
 refine vSeq ?_
 refine vRegion ?_
 iterate 2 refine oBox rfl rfl rfl rfl rfl rfl rfl rfl rfl ?_
 refine oAlloc tt rfl rfl rfl rfl rfl rfl rfl rfl rfl ?_
 refine oVal tt rfl rfl rfl rfl rfl trivial ?_
 refine vNil ?_
 change VC _ _ _ _
 refine vSeq ?_
 refine vRegion ?_
 iterate 2 refine oVal tt rfl rfl rfl rfl rfl trivial ?_
 obtain ⟨hg1, h⟩ := grd_inv h
 refine oMake tt rfl rfl rfl rfl rfl rfl rfl rfl rfl rfl rfl hg1 ?_
 refine oVal tt rfl rfl rfl rfl rfl trivial ?_
 refine vNil ?_
 change VC _ _ _ _
 iterate 2 refine vSeq ?_
 refine vRegion ?_
 refine oVal tt rfl rfl rfl rfl rfl trivial ?_
 refine vNil ?_
 change VC _ _ _ _
 refine vJoin (F := fun k => S_l4Find_l3 N g_0 k) h (α := List Int) (J := fun (l3 : List Int) => (⟨[(2, .int a_2), (3, .int b_3), (4, .ptr 4 0), (5, .ptr 5 0), (8, .ptr 8 0), (10, .row 20 0 ((List.replicate ((g_0.n).toNat) (0 : Int)).length))], [(20, some (3, .ints l3))], [(4, some [.int g_0.n, .ro false (.pairs g_0.bars)]), (5, some [.ro false (.ints p_1.free), .ro false (.ints p_1.tails), .ro false (.ints p_1.placed)]), (8, some [.nil, .nil, .nil])]⟩ : PS)) ?_ ?_
 ·rintro l3 h
  show VC _ _ _ (⟨[(2, .int a_2), (3, .int b_3), (4, .ptr 4 0), (5, .ptr 5 0), (8, .ptr 8 0), (10, .row 20 0 ((List.replicate ((g_0.n).toNat) (0 : Int)).length))], [(20, some (3, .ints l3))], [(4, some [.int g_0.n, .ro false (.pairs g_0.bars)]), (5, some [.ro false (.ints p_1.free), .ro false (.ints p_1.tails), .ro false (.ints p_1.placed)]), (8, some [.nil, .nil, .nil])]⟩ : PS)
  refine vSeq ?_
  refine vRegion ?_
  refine oVal tt rfl rfl rfl rfl rfl trivial ?_
  refine oBuild tt rfl rfl rfl rfl rfl rfl rfl rfl rfl rfl rfl ?_
  refine oVal tt rfl rfl rfl rfl rfl trivial ?_
  refine vNil ?_
  change VC _ _ _ _
  refine vSeq ?_
  refine vRegion ?_
  iterate 2 refine oVal tt rfl rfl rfl rfl rfl trivial ?_
  refine oMake tt rfl rfl rfl rfl rfl rfl rfl rfl rfl rfl rfl hg1 ?_
  refine oVal tt rfl rfl rfl rfl rfl trivial ?_
  refine vNil ?_
  change VC _ _ _ _
  refine vSeq ?_
  refine vRegion ?_
  iterate 2 refine oVal tt rfl rfl rfl rfl rfl trivial ?_
  obtain ⟨hg2, h⟩ := grd_inv h
  refine oVal tt rfl rfl rfl rfl rfl hg2 ?_
  refine oStore tt rfl rfl rfl rfl rfl rfl rfl rfl rfl rfl ⟨_, _, rfl, hg2.1, hg2.2⟩ ⟨hg2, trivial⟩ ?_
  refine vNil ?_
  change VC _ _ _ _
  iterate 2 refine vSeq ?_
  refine vRegion ?_
  refine oVal tt rfl rfl rfl rfl rfl trivial ?_
  refine vNil ?_
  change VC _ _ _ _
  refine vJoin (F := fun k => S_l4Find_l1 N g_0 p_1 a_2 b_3 k) h (α := Unit) (J := fun (_ : Unit) => (⟨[(5, .ptr 5 0), (8, .ptr 8 0)], [], [(5, some [.ro false (.ints p_1.free), .ro false (.ints p_1.tails), .ro false (.ints p_1.placed)]), (8, some [.nil, .nil, .nil])]⟩ : PS)) ?_ ?_
  ·rintro ⟨⟩ h
   show VC _ _ _ (⟨[(5, .ptr 5 0), (8, .ptr 8 0)], [], [(5, some [.ro false (.ints p_1.free), .ro false (.ints p_1.tails), .ro false (.ints p_1.placed)]), (8, some [.nil, .nil, .nil])]⟩ : PS)
   refine vSeq ?_
   refine vRegion ?_
   refine oVal tt rfl rfl rfl rfl rfl trivial ?_
   refine oStore tt rfl rfl rfl rfl rfl rfl rfl rfl rfl rfl rfl ⟨trivial, trivial, trivial, trivial⟩ ?_
   refine oVal tt rfl rfl rfl rfl rfl trivial ?_
   refine vNil ?_
   change VC _ _ _ _
   cases h
   cases halt
  ·intro k h
   refine vBlock ?_
   refine vLoopS (α := (List Int) × (List Int) × (List Bool) × Int) (fun | (l105, l106, l107, k108) => (⟨[(2, .int a_2), (3, .int b_3), (4, .ptr 4 0), (5, .ptr 5 0), (8, .ptr 8 0), (10, .row 20 0 ((List.replicate ((g_0.n).toNat) (0 : Int)).length)), (12, .row 31 0 l106.length), (13, .row 34 0 ((List.replicate ((g_0.n).toNat) (false : Bool)).length)), (14, .int k108)], [(20, some (3, .ints l105)), (31, some (3, .ints l106)), (34, some (4, .bools l107))], [(4, some [.int g_0.n, .ro false (.pairs g_0.bars)]), (5, some [.ro false (.ints p_1.free), .ro false (.ints p_1.tails), .ro false (.ints p_1.placed)]), (8, some [.nil, .nil, .nil])]⟩ : PS)) (S_l4Find_l1 N g_0 p_1 a_2 b_3 k) h (En.of ⟨rfl, rfl, rfl, rfl, rfl, rfl, rfl, rfl, rfl, trivial⟩ ⟨rfl, rfl, rfl, trivial⟩ ⟨rfl, rfl, rfl, trivial⟩) (fun _ => rfl) ?_
   rintro n ⟨l105, l106, l107, k108⟩ h
   rw [S_l4Find_l1] at h
   show VC _ _ _ (⟨[(2, .int a_2), (3, .int b_3), (4, .ptr 4 0), (5, .ptr 5 0), (8, .ptr 8 0), (10, .row 20 0 ((List.replicate ((g_0.n).toNat) (0 : Int)).length)), (12, .row 31 0 l106.length), (13, .row 34 0 ((List.replicate ((g_0.n).toNat) (false : Bool)).length)), (14, .int k108)], [(20, some (3, .ints l105)), (31, some (3, .ints l106)), (34, some (4, .bools l107))], [(4, some [.int g_0.n, .ro false (.pairs g_0.bars)]), (5, some [.ro false (.ints p_1.free), .ro false (.ints p_1.tails), .ro false (.ints p_1.placed)]), (8, some [.nil, .nil, .nil])]⟩ : PS)
   iterate 2 refine vSeq ?_
   refine vRegion ?_
   iterate 4 refine oVal tt rfl rfl rfl rfl rfl trivial ?_
   refine vNil ?_
   change VC _ _ _ _
   refine vCond rfl (fun hb3 => ?_) (fun hb3 => ?_)
   ·replace h := cnd_t hb3 h
    refine vSkip ?_
    change VC _ _ _ _
    refine vSeq ?_
    refine vBlock ?_
    refine vSeq ?_
    refine vRegion ?_
    iterate 2 refine oVal tt rfl rfl rfl rfl rfl trivial ?_
    obtain ⟨hg4, h⟩ := grd_inv h
    iterate 2 refine oVal tt rfl rfl rfl rfl rfl hg4 ?_
    refine oVal tt rfl rfl rfl rfl rfl trivial ?_
    refine vNil ?_
    change VC _ _ _ _
    refine vSeq ?_
    refine vRegion ?_
    refine oVal tt rfl rfl rfl rfl rfl trivial ?_
    refine vNil ?_
    change VC _ _ _ _
    refine vJoin (F := fun k => S_l4Find_l2 N g_0 p_1 a_2 b_3 l106 k108 k) h (α := (List Int) × (List Int) × (List Bool)) (J := fun | (l143, l144, l145) => (⟨[(2, .int a_2), (3, .int b_3), (4, .ptr 4 0), (5, .ptr 5 0), (8, .ptr 8 0), (10, .row 20 0 ((List.replicate ((g_0.n).toNat) (0 : Int)).length)), (12, .row 31 0 l144.length), (13, .row 34 0 ((List.replicate ((g_0.n).toNat) (false : Bool)).length)), (14, .int k108)], [(20, some (3, .ints l143)), (31, some (3, .ints l144)), (34, some (4, .bools l145))], [(4, some [.int g_0.n, .ro false (.pairs g_0.bars)]), (5, some [.ro false (.ints p_1.free), .ro false (.ints p_1.tails), .ro false (.ints p_1.placed)]), (8, some [.nil, .nil, .nil])]⟩ : PS)) ?_ ?_
    ·rintro ⟨l143, l144, l145⟩ h
     show VC _ _ _ (⟨[(2, .int a_2), (3, .int b_3), (4, .ptr 4 0), (5, .ptr 5 0), (8, .ptr 8 0), (10, .row 20 0 ((List.replicate ((g_0.n).toNat) (0 : Int)).length)), (12, .row 31 0 l144.length), (13, .row 34 0 ((List.replicate ((g_0.n).toNat) (false : Bool)).length)), (14, .int k108)], [(20, some (3, .ints l143)), (31, some (3, .ints l144)), (34, some (4, .bools l145))], [(4, some [.int g_0.n, .ro false (.pairs g_0.bars)]), (5, some [.ro false (.ints p_1.free), .ro false (.ints p_1.tails), .ro false (.ints p_1.placed)]), (8, some [.nil, .nil, .nil])]⟩ : PS)
     refine vRegion ?_
     refine oVal tt rfl rfl rfl rfl rfl trivial ?_
     obtain ⟨hg5, h⟩ := grd_inv h
     refine oVal tt rfl rfl rfl rfl rfl hg5 ?_
     refine oVal tt rfl rfl rfl rfl rfl trivial ?_
     refine vNil ?_
     change ∃ _, _
     exact ⟨(l143, l144, l145, (k108 + (1 : Int))), (En.of ⟨rfl, rfl, rfl, rfl, rfl, rfl, rfl, rfl, rfl, trivial⟩ ⟨rfl, rfl, rfl, trivial⟩ ⟨rfl, rfl, rfl, trivial⟩), h⟩
    ·intro k h
     refine vBlock ?_
     refine vLoopS (α := (List Int) × (List Int) × (List Bool) × Int) (fun | (l149, l150, l151, i152) => (⟨[(2, .int a_2), (3, .int b_3), (4, .ptr 4 0), (5, .ptr 5 0), (8, .ptr 8 0), (10, .row 20 0 ((List.replicate ((g_0.n).toNat) (0 : Int)).length)), (12, .row 31 0 l150.length), (13, .row 34 0 ((List.replicate ((g_0.n).toNat) (false : Bool)).length)), (14, .int k108), (15, .int (l106.getD ((k108).toNat) 0)), (16, .int i152)], [(20, some (3, .ints l149)), (31, some (3, .ints l150)), (34, some (4, .bools l151))], [(4, some [.int g_0.n, .ro false (.pairs g_0.bars)]), (5, some [.ro false (.ints p_1.free), .ro false (.ints p_1.tails), .ro false (.ints p_1.placed)]), (8, some [.nil, .nil, .nil])]⟩ : PS)) (S_l4Find_l2 N g_0 p_1 a_2 b_3 l106 k108 k) h (En.of ⟨rfl, rfl, rfl, rfl, rfl, rfl, rfl, rfl, rfl, rfl, rfl, trivial⟩ ⟨rfl, rfl, rfl, trivial⟩ ⟨rfl, rfl, rfl, trivial⟩) (fun _ => rfl) ?_
     rintro n ⟨l149, l150, l151, i152⟩ h
     rw [S_l4Find_l2] at h
     show VC _ _ _ (⟨[(2, .int a_2), (3, .int b_3), (4, .ptr 4 0), (5, .ptr 5 0), (8, .ptr 8 0), (10, .row 20 0 ((List.replicate ((g_0.n).toNat) (0 : Int)).length)), (12, .row 31 0 l150.length), (13, .row 34 0 ((List.replicate ((g_0.n).toNat) (false : Bool)).length)), (14, .int k108), (15, .int (l106.getD ((k108).toNat) 0)), (16, .int i152)], [(20, some (3, .ints l149)), (31, some (3, .ints l150)), (34, some (4, .bools l151))], [(4, some [.int g_0.n, .ro false (.pairs g_0.bars)]), (5, some [.ro false (.ints p_1.free), .ro false (.ints p_1.tails), .ro false (.ints p_1.placed)]), (8, some [.nil, .nil, .nil])]⟩ : PS)
     iterate 2 refine vSeq ?_
     refine vRegion ?_
     iterate 5 refine oVal tt rfl rfl rfl rfl rfl trivial ?_
     refine vNil ?_
     change VC _ _ _ _
     refine vCond rfl (fun hb6 => ?_) (fun hb6 => ?_)
     ·replace h := cnd_t hb6 h
      refine vSkip ?_
      change VC _ _ _ _
      refine vSeq ?_
      refine vBlock ?_
      iterate 2 refine vSeq ?_
      refine vRegion ?_
      iterate 3 refine oVal tt rfl rfl rfl rfl rfl trivial ?_
      obtain ⟨hg7, h⟩ := grd_inv h
      refine oVal tt rfl rfl rfl rfl rfl hg7 ?_
      iterate 3 refine oVal tt rfl rfl rfl rfl rfl trivial ?_
      refine vNil ?_
      change VC _ _ _ _
      refine vCond rfl (fun hb8 => ?_) (fun hb8 => ?_)
      ·replace h := cnd_t hb8 h
       refine vExit ?_
       change VC _ _ _ _
       refine vRegion ?_
       refine oVal tt rfl rfl rfl rfl rfl trivial ?_
       obtain ⟨hg9, h⟩ := grd_inv h
       refine oVal tt rfl rfl rfl rfl rfl hg9 ?_
       refine oVal tt rfl rfl rfl rfl rfl trivial ?_
       refine vNil ?_
       change ∃ _, _
       exact ⟨(l149, l150, l151, (i152 + (1 : Int))), (En.of ⟨rfl, rfl, rfl, rfl, rfl, rfl, rfl, rfl, rfl, rfl, rfl, trivial⟩ ⟨rfl, rfl, rfl, trivial⟩ ⟨rfl, rfl, rfl, trivial⟩), h⟩
      ·replace h := cnd_f hb8 h
       refine vSkip ?_
       change VC _ _ _ _
       refine vSeq ?_
       refine vRegionD (by kernel_rfl) (by kernel_rfl) ?_
       iterate 5 refine cVal tt rfl (wNone rfl) rfl rfl rfl trivial ?_
       obtain ⟨hg10, h⟩ := grd_inv h
       refine cVal tt rfl (wNone rfl) rfl rfl rfl hg10 ?_
       refine cVal tt rfl (wNone rfl) rfl rfl rfl trivial ?_
       obtain ⟨hg11, h⟩ := grd_inv h
       refine cVal tt rfl (wNone rfl) rfl rfl rfl hg11 ?_
       iterate 2 refine cVal tt rfl (wNone rfl) rfl rfl rfl trivial ?_
       obtain ⟨v155, hc12, h⟩ := bind_inv h
       refine cCall (S_l4Other_w N (g_0.bars.getD (((p_1.placed.getD ((i152).toNat) 0)).toNat) (0, 0)) (l106.getD ((k108).toNat) 0) v155 hc12) rfl (wNone rfl) rfl rfl rfl rfl rfl rfl ⟨⟨rfl, rfl, trivial⟩, rfl, trivial⟩ ?_
       refine cVal tt rfl (wNone rfl) rfl rfl rfl trivial ?_
       refine cNil ?_
       change VC _ _ _ _
       iterate 2 refine vSeq ?_
       refine vRegion ?_
       iterate 2 refine oVal tt rfl rfl rfl rfl rfl trivial ?_
       obtain ⟨hg13, h⟩ := grd_inv h
       refine oVal tt rfl rfl rfl rfl rfl hg13 ?_
       obtain ⟨hg14, h⟩ := grd_inv h
       refine oVal tt rfl rfl rfl rfl rfl hg14 ?_
       refine vNil ?_
       change VC _ _ _ _
       refine vCond rfl (fun hb15 => ?_) (fun hb15 => ?_)
       ·replace h := cnd_t hb15 h
        refine vExit ?_
        change VC _ _ _ _
        refine vRegion ?_
        refine oVal tt rfl rfl rfl rfl rfl trivial ?_
        obtain ⟨hg16, h⟩ := grd_inv h
        refine oVal tt rfl rfl rfl rfl rfl hg16 ?_
        refine oVal tt rfl rfl rfl rfl rfl trivial ?_
        refine vNil ?_
        change ∃ _, _
        exact ⟨(l149, l150, l151, (i152 + (1 : Int))), (En.of ⟨rfl, rfl, rfl, rfl, rfl, rfl, rfl, rfl, rfl, rfl, rfl, trivial⟩ ⟨rfl, rfl, rfl, trivial⟩ ⟨rfl, rfl, rfl, trivial⟩), h⟩
       ·replace h := cnd_f hb15 h
        refine vSkip ?_
        change VC _ _ _ _
        refine vSeq ?_
        refine vRegion ?_
        iterate 2 refine oVal tt rfl rfl rfl rfl rfl trivial ?_
        refine oVal tt rfl rfl rfl rfl rfl hg13 ?_
        refine oStore tt rfl rfl rfl rfl rfl rfl rfl rfl rfl rfl ⟨_, _, rfl, hg14.1, hg14.2⟩ ⟨hg14, trivial⟩ ?_
        refine vNil ?_
        change VC _ _ _ _
        refine vSeq ?_
        refine vRegion ?_
        iterate 3 refine oVal tt rfl rfl rfl rfl rfl trivial ?_
        obtain ⟨hg17, h⟩ := grd_inv h
        refine oVal tt rfl rfl rfl rfl rfl hg17 ?_
        obtain ⟨hg18, h⟩ := grd_inv h
        refine oStore tt rfl rfl rfl rfl rfl rfl rfl rfl rfl rfl ⟨_, _, rfl, hg18.1, hg18.2⟩ ⟨hg18, trivial⟩ ?_
        refine vNil ?_
        change VC _ _ _ _
        iterate 2 refine vSeq ?_
        refine vRegion ?_
        iterate 4 refine oVal tt rfl rfl rfl rfl rfl trivial ?_
        refine oSplit rfl rfl rfl (fun hb19 => ?_) (fun hb19 => ?_)
        ·replace h := cnd_t hb19 h
         iterate 3 refine oValG tt rfl rfl rfl rfl rfl hb19 rfl rfl rfl trivial ?_
         obtain ⟨hg20, h⟩ := grd_inv h
         refine oValG tt rfl rfl rfl rfl rfl hb19 rfl rfl rfl hg20 ?_
         iterate 2 refine oValG tt rfl rfl rfl rfl rfl hb19 rfl rfl rfl trivial ?_
         refine oPick rfl rfl rfl rfl rfl hb19 rfl ?_
         refine vNil ?_
         change VC _ _ _ _
         refine vCond rfl (fun hb21 => ?_) (fun hb21 => ?_)
         ·replace h := cnd_t hb21 h
          refine vSeq ?_
          refine vRegion ?_
          iterate 5 refine oVal tt rfl rfl rfl rfl rfl trivial ?_
          obtain ⟨hg22, h⟩ := grd_inv h
          obtain ⟨v156, hc23, h⟩ := bind_inv h
          refine oCall (S_l4Shift_w N g_0 p_1 (l149.set ((v155).toNat) i152) a_2 v155 v156 hc23) rfl rfl rfl rfl rfl rfl rfl rfl ⟨⟨rfl, rfl, trivial⟩, ⟨rfl, rfl, rfl, trivial⟩, (.inl ⟨hg22, rfl⟩), rfl, rfl, trivial⟩ ?_
          refine oStore tt rfl rfl rfl rfl rfl rfl rfl rfl rfl rfl rfl ⟨trivial, trivial, trivial, trivial⟩ ?_
          refine oVal tt rfl rfl rfl rfl rfl trivial ?_
          refine vNil ?_
          change VC _ _ _ _
          refine vRet ?_
          change ∃ _, _
          cases h
          exact ⟨[2000, 2001, 2002], _, rfl, ⟨rfl, rfl, rfl, trivial⟩, rfl, (.eq rfl), rfl⟩
         ·replace h := cnd_f hb21 h
          refine vSkip ?_
          change VC _ _ _ _
          refine vRegion ?_
          iterate 2 refine oVal tt rfl rfl rfl rfl rfl trivial ?_
          refine oBuild tt rfl rfl rfl rfl rfl rfl rfl rfl rfl rfl rfl ?_
          obtain ⟨hg24, h⟩ := grd_inv h
          refine oAppend tt rfl rfl rfl rfl rfl rfl rfl rfl rfl rfl rfl rfl rfl rfl rfl rfl (Nat.le_of_eq (Nat.zero_add _)) hg24 ?_
          refine oVal tt rfl rfl rfl rfl rfl trivial ?_
          refine vNil ?_
          change VC _ _ _ _
          refine vRegion ?_
          refine oVal tt rfl rfl rfl rfl rfl trivial ?_
          obtain ⟨hg25, h⟩ := grd_inv h
          refine oVal tt rfl rfl rfl rfl rfl hg25 ?_
          refine oVal tt rfl rfl rfl rfl rfl trivial ?_
          refine vNil ?_
          change ∃ _, _
          exact ⟨((l149.set ((v155).toNat) i152), (l150 ++ ([v155] : List Int)), (l151.set ((v155).toNat) true), (i152 + (1 : Int))), (En.of ⟨rfl, rfl, rfl, rfl, rfl, rfl, rfl, rfl, rfl, rfl, rfl, trivial⟩ ⟨rfl, rfl, rfl, trivial⟩ ⟨rfl, rfl, rfl, trivial⟩), h⟩
        ·replace h := cnd_f hb19 h
         iterate 6 refine oNoT rfl rfl rfl rfl hb19 rfl rfl ?_
         refine oPickF rfl rfl rfl rfl rfl hb19 rfl ?_
         refine vNil ?_
         change VC _ _ _ _
         refine vCondF rfl rfl ?_
         refine vSkip ?_
         change VC _ _ _ _
         refine vRegion ?_
         iterate 2 refine oVal tt rfl rfl rfl rfl rfl trivial ?_
         refine oBuild tt rfl rfl rfl rfl rfl rfl rfl rfl rfl rfl rfl ?_
         obtain ⟨hg26, h⟩ := grd_inv h
         refine oAppend tt rfl rfl rfl rfl rfl rfl rfl rfl rfl rfl rfl rfl rfl rfl rfl rfl (Nat.le_of_eq (Nat.zero_add _)) hg26 ?_
         refine oVal tt rfl rfl rfl rfl rfl trivial ?_
         refine vNil ?_
         change VC _ _ _ _
         refine vRegion ?_
         refine oVal tt rfl rfl rfl rfl rfl trivial ?_
         obtain ⟨hg27, h⟩ := grd_inv h
         refine oVal tt rfl rfl rfl rfl rfl hg27 ?_
         refine oVal tt rfl rfl rfl rfl rfl trivial ?_
         refine vNil ?_
         change ∃ _, _
         exact ⟨((l149.set ((v155).toNat) i152), (l150 ++ ([v155] : List Int)), (l151.set ((v155).toNat) true), (i152 + (1 : Int))), (En.of ⟨rfl, rfl, rfl, rfl, rfl, rfl, rfl, rfl, rfl, rfl, rfl, trivial⟩ ⟨rfl, rfl, rfl, trivial⟩ ⟨rfl, rfl, rfl, trivial⟩), h⟩
     ·replace h := cnd_f hb6 h
      refine vExit ?_
      change ∃ _, _
      exact ⟨(l149, l150, l151), (En.of ⟨rfl, rfl, rfl, rfl, rfl, rfl, rfl, rfl, rfl, trivial⟩ ⟨rfl, rfl, rfl, trivial⟩ ⟨rfl, rfl, rfl, trivial⟩), h⟩
   ·replace h := cnd_f hb3 h
    refine vExit ?_
    change ∃ _, _
    exact ⟨(), (En.of ⟨rfl, rfl, trivial⟩ trivial ⟨rfl, rfl, trivial⟩), h⟩
 ·intro k h
  refine vBlock ?_
  refine vLoopS (α := (List Int) × Int) (fun | (l158, i159) => (⟨[(2, .int a_2), (3, .int b_3), (4, .ptr 4 0), (5, .ptr 5 0), (8, .ptr 8 0), (10, .row 20 0 ((List.replicate ((g_0.n).toNat) (0 : Int)).length)), (11, .int i159)], [(20, some (3, .ints l158))], [(4, some [.int g_0.n, .ro false (.pairs g_0.bars)]), (5, some [.ro false (.ints p_1.free), .ro false (.ints p_1.tails), .ro false (.ints p_1.placed)]), (8, some [.nil, .nil, .nil])]⟩ : PS)) (S_l4Find_l3 N g_0 k) h (En.of ⟨rfl, rfl, rfl, rfl, rfl, rfl, rfl, trivial⟩ ⟨rfl, trivial⟩ ⟨rfl, rfl, rfl, trivial⟩) (fun _ => rfl) ?_
  rintro n ⟨l158, i159⟩ h
  rw [S_l4Find_l3] at h
  show VC _ _ _ (⟨[(2, .int a_2), (3, .int b_3), (4, .ptr 4 0), (5, .ptr 5 0), (8, .ptr 8 0), (10, .row 20 0 ((List.replicate ((g_0.n).toNat) (0 : Int)).length)), (11, .int i159)], [(20, some (3, .ints l158))], [(4, some [.int g_0.n, .ro false (.pairs g_0.bars)]), (5, some [.ro false (.ints p_1.free), .ro false (.ints p_1.tails), .ro false (.ints p_1.placed)]), (8, some [.nil, .nil, .nil])]⟩ : PS)
  iterate 2 refine vSeq ?_
  refine vRegion ?_
  iterate 4 refine oVal tt rfl rfl rfl rfl rfl trivial ?_
  refine vNil ?_
  change VC _ _ _ _
  refine vCond rfl (fun hb28 => ?_) (fun hb28 => ?_)
  ·replace h := cnd_t hb28 h
   refine vSkip ?_
   change VC _ _ _ _
   refine vSeq ?_
   refine vBlock ?_
   refine vRegion ?_
   iterate 2 refine oVal tt rfl rfl rfl rfl rfl trivial ?_
   obtain ⟨hg29, h⟩ := grd_inv h
   refine oVal tt rfl rfl rfl rfl rfl hg29 ?_
   obtain ⟨hg30, h⟩ := grd_inv h
   refine oStore tt rfl rfl rfl rfl rfl rfl rfl rfl rfl rfl ⟨_, _, rfl, hg30.1, hg30.2⟩ ⟨hg30, trivial⟩ ?_
   refine vNil ?_
   change VC _ _ _ _
   refine vRegion ?_
   refine oVal tt rfl rfl rfl rfl rfl trivial ?_
   obtain ⟨hg31, h⟩ := grd_inv h
   refine oVal tt rfl rfl rfl rfl rfl hg31 ?_
   refine oVal tt rfl rfl rfl rfl rfl trivial ?_
   refine vNil ?_
   change ∃ _, _
   exact ⟨((l158.set ((i159).toNat) (-1 : Int)), (i159 + (1 : Int))), (En.of ⟨rfl, rfl, rfl, rfl, rfl, rfl, rfl, trivial⟩ ⟨rfl, trivial⟩ ⟨rfl, rfl, rfl, trivial⟩), h⟩
  ·replace h := cnd_f hb28 h
   refine vExit ?_
   change ∃ _, _
   exact ⟨l158, (En.of ⟨rfl, rfl, rfl, rfl, rfl, rfl, trivial⟩ ⟨rfl, trivial⟩ ⟨rfl, rfl, rfl, trivial⟩), h⟩
set_option maxRecDepth 20000 in
set_option maxHeartbeats 1600000 in
theorem S_l4Find_wF (N : Nat) (g_0 : Grf) (p_1 : Pbl) (a_2 : Int) (b_3 : Int) (r : Pbl × Bool) (h : S_l4Find N g_0 p_1 a_2 b_3 = some r) (halt : r.2 = false) : PCall Try.prog 204 [gD g_0, bD p_1, .int a_2, .int b_3] [] (.tup [.agg [.any, .any, .any], .bool r.2]) := by
 unfold S_l4Find at h
 refine pcall_intro (TT := TT) tt Try.func204 rfl rfl Try.ntmps204 (congrArg Array.toList Try.results204) rfl rfl fun w0 => ?_
 refine vSeq ?_
 refine vRegion ?_
 iterate 2 refine oBox rfl rfl rfl rfl rfl rfl rfl rfl rfl ?_
 refine oAlloc tt rfl rfl rfl rfl rfl rfl rfl rfl rfl ?_
 refine oVal tt rfl rfl rfl rfl rfl trivial ?_
 refine vNil ?_
 change VC _ _ _ _
 refine vSeq ?_
 refine vRegion ?_
 iterate 2 refine oVal tt rfl rfl rfl rfl rfl trivial ?_
 obtain ⟨hg1, h⟩ := grd_inv h
 refine oMake tt rfl rfl rfl rfl rfl rfl rfl rfl rfl rfl rfl hg1 ?_
 refine oVal tt rfl rfl rfl rfl rfl trivial ?_
 refine vNil ?_
 change VC _ _ _ _
 iterate 2 refine vSeq ?_
 refine vRegion ?_
 refine oVal tt rfl rfl rfl rfl rfl trivial ?_
 refine vNil ?_
 change VC _ _ _ _
 refine vJoin (F := fun k => S_l4Find_l3 N g_0 k) h (α := List Int) (J := fun (l3 : List Int) => (⟨[(2, .int a_2), (3, .int b_3), (4, .ptr 4 0), (5, .ptr 5 0), (8, .ptr 8 0), (10, .row 20 0 ((List.replicate ((g_0.n).toNat) (0 : Int)).length))], [(20, some (3, .ints l3))], [(4, some [.int g_0.n, .ro false (.pairs g_0.bars)]), (5, some [.ro false (.ints p_1.free), .ro false (.ints p_1.tails), .ro false (.ints p_1.placed)]), (8, some [.nil, .nil, .nil])]⟩ : PS)) ?_ ?_
 ·rintro l3 h
  show VC _ _ _ (⟨[(2, .int a_2), (3, .int b_3), (4, .ptr 4 0), (5, .ptr 5 0), (8, .ptr 8 0), (10, .row 20 0 ((List.replicate ((g_0.n).toNat) (0 : Int)).length))], [(20, some (3, .ints l3))], [(4, some [.int g_0.n, .ro false (.pairs g_0.bars)]), (5, some [.ro false (.ints p_1.free), .ro false (.ints p_1.tails), .ro false (.ints p_1.placed)]), (8, some [.nil, .nil, .nil])]⟩ : PS)
  refine vSeq ?_
  refine vRegion ?_
  refine oVal tt rfl rfl rfl rfl rfl trivial ?_
  refine oBuild tt rfl rfl rfl rfl rfl rfl rfl rfl rfl rfl rfl ?_
  refine oVal tt rfl rfl rfl rfl rfl trivial ?_
  refine vNil ?_
  change VC _ _ _ _
  refine vSeq ?_
  refine vRegion ?_
  iterate 2 refine oVal tt rfl rfl rfl rfl rfl trivial ?_
  refine oMake tt rfl rfl rfl rfl rfl rfl rfl rfl rfl rfl rfl hg1 ?_
  refine oVal tt rfl rfl rfl rfl rfl trivial ?_
  refine vNil ?_
  change VC _ _ _ _
  refine vSeq ?_
  refine vRegion ?_
  iterate 2 refine oVal tt rfl rfl rfl rfl rfl trivial ?_
  obtain ⟨hg2, h⟩ := grd_inv h
  refine oVal tt rfl rfl rfl rfl rfl hg2 ?_
  refine oStore tt rfl rfl rfl rfl rfl rfl rfl rfl rfl rfl ⟨_, _, rfl, hg2.1, hg2.2⟩ ⟨hg2, trivial⟩ ?_
  refine vNil ?_
  change VC _ _ _ _
  iterate 2 refine vSeq ?_
  refine vRegion ?_
  refine oVal tt rfl rfl rfl rfl rfl trivial ?_
  refine vNil ?_
  change VC _ _ _ _
  refine vJoin (F := fun k => S_l4Find_l1 N g_0 p_1 a_2 b_3 k) h (α := Unit) (J := fun (_ : Unit) => (⟨[(5, .ptr 5 0), (8, .ptr 8 0)], [], [(5, some [.ro false (.ints p_1.free), .ro false (.ints p_1.tails), .ro false (.ints p_1.placed)]), (8, some [.nil, .nil, .nil])]⟩ : PS)) ?_ ?_
  ·rintro ⟨⟩ h
   show VC _ _ _ (⟨[(5, .ptr 5 0), (8, .ptr 8 0)], [], [(5, some [.ro false (.ints p_1.free), .ro false (.ints p_1.tails), .ro false (.ints p_1.placed)]), (8, some [.nil, .nil, .nil])]⟩ : PS)
   refine vSeq ?_
   refine vRegion ?_
   refine oVal tt rfl rfl rfl rfl rfl trivial ?_
   refine oStore tt rfl rfl rfl rfl rfl rfl rfl rfl rfl rfl rfl ⟨trivial, trivial, trivial, trivial⟩ ?_
   refine oVal tt rfl rfl rfl rfl rfl trivial ?_
   refine vNil ?_
   change VC _ _ _ _
   refine vRet ?_
   change ∃ _, _
   cases h
   exact ⟨[], _, rfl, trivial, rfl, (wkTup rfl rfl ⟨wkAgg rfl rfl ⟨.any rfl rfl, .any rfl rfl, .any rfl rfl, trivial⟩, .eq rfl, trivial⟩), rfl⟩
  ·intro k h
   refine vBlock ?_
   refine vLoopS (α := (List Int) × (List Int) × (List Bool) × Int) (fun | (l105, l106, l107, k108) => (⟨[(2, .int a_2), (3, .int b_3), (4, .ptr 4 0), (5, .ptr 5 0), (8, .ptr 8 0), (10, .row 20 0 ((List.replicate ((g_0.n).toNat) (0 : Int)).length)), (12, .row 31 0 l106.length), (13, .row 34 0 ((List.replicate ((g_0.n).toNat) (false : Bool)).length)), (14, .int k108)], [(20, some (3, .ints l105)), (31, some (3, .ints l106)), (34, some (4, .bools l107))], [(4, some [.int g_0.n, .ro false (.pairs g_0.bars)]), (5, some [.ro false (.ints p_1.free), .ro false (.ints p_1.tails), .ro false (.ints p_1.placed)]), (8, some [.nil, .nil, .nil])]⟩ : PS)) (S_l4Find_l1 N g_0 p_1 a_2 b_3 k) h (En.of ⟨rfl, rfl, rfl, rfl, rfl, rfl, rfl, rfl, rfl, trivial⟩ ⟨rfl, rfl, rfl, trivial⟩ ⟨rfl, rfl, rfl, trivial⟩) (fun _ => rfl) ?_
   rintro n ⟨l105, l106, l107, k108⟩ h
   rw [S_l4Find_l1] at h
   show VC _ _ _ (⟨[(2, .int a_2), (3, .int b_3), (4, .ptr 4 0), (5, .ptr 5 0), (8, .ptr 8 0), (10, .row 20 0 ((List.replicate ((g_0.n).toNat) (0 : Int)).length)), (12, .row 31 0 l106.length), (13, .row 34 0 ((List.replicate ((g_0.n).toNat) (false : Bool)).length)), (14, .int k108)], [(20, some (3, .ints l105)), (31, some (3, .ints l106)), (34, some (4, .bools l107))], [(4, some [.int g_0.n, .ro false (.pairs g_0.bars)]), (5, some [.ro false (.ints p_1.free), .ro false (.ints p_1.tails), .ro false (.ints p_1.placed)]), (8, some [.nil, .nil, .nil])]⟩ : PS)
   iterate 2 refine vSeq ?_
   refine vRegion ?_
   iterate 4 refine oVal tt rfl rfl rfl rfl rfl trivial ?_
   refine vNil ?_
   change VC _ _ _ _
   refine vCond rfl (fun hb3 => ?_) (fun hb3 => ?_)
   ·replace h := cnd_t hb3 h
    refine vSkip ?_
    change VC _ _ _ _
    refine vSeq ?_
    refine vBlock ?_
    refine vSeq ?_
    refine vRegion ?_
    iterate 2 refine oVal tt rfl rfl rfl rfl rfl trivial ?_
    obtain ⟨hg4, h⟩ := grd_inv h
    iterate 2 refine oVal tt rfl rfl rfl rfl rfl hg4 ?_
    refine oVal tt rfl rfl rfl rfl rfl trivial ?_
    refine vNil ?_
    change VC _ _ _ _
    refine vSeq ?_
    refine vRegion ?_
    refine oVal tt rfl rfl rfl rfl rfl trivial ?_
    refine vNil ?_
    change VC _ _ _ _
    refine vJoin (F := fun k => S_l4Find_l2 N g_0 p_1 a_2 b_3 l106 k108 k) h (α := (List Int) × (List Int) × (List Bool)) (J := fun | (l143, l144, l145) => (⟨[(2, .int a_2), (3, .int b_3), (4, .ptr 4 0), (5, .ptr 5 0), (8, .ptr 8 0), (10, .row 20 0 ((List.replicate ((g_0.n).toNat) (0 : Int)).length)), (12, .row 31 0 l144.length), (13, .row 34 0 ((List.replicate ((g_0.n).toNat) (false : Bool)).length)), (14, .int k108)], [(20, some (3, .ints l143)), (31, some (3, .ints l144)), (34, some (4, .bools l145))], [(4, some [.int g_0.n, .ro false (.pairs g_0.bars)]), (5, some [.ro false (.ints p_1.free), .ro false (.ints p_1.tails), .ro false (.ints p_1.placed)]), (8, some [.nil, .nil, .nil])]⟩ : PS)) ?_ ?_
    ·rintro ⟨l143, l144, l145⟩ h
     show VC _ _ _ (⟨[(2, .int a_2), (3, .int b_3), (4, .ptr 4 0), (5, .ptr 5 0), (8, .ptr 8 0), (10, .row 20 0 ((List.replicate ((g_0.n).toNat) (0 : Int)).length)), (12, .row 31 0 l144.length), (13, .row 34 0 ((List.replicate ((g_0.n).toNat) (false : Bool)).length)), (14, .int k108)], [(20, some (3, .ints l143)), (31, some (3, .ints l144)), (34, some (4, .bools l145))], [(4, some [.int g_0.n, .ro false (.pairs g_0.bars)]), (5, some [.ro false (.ints p_1.free), .ro false (.ints p_1.tails), .ro false (.ints p_1.placed)]), (8, some [.nil, .nil, .nil])]⟩ : PS)
     refine vRegion ?_
     refine oVal tt rfl rfl rfl rfl rfl trivial ?_
     obtain ⟨hg5, h⟩ := grd_inv h
     refine oVal tt rfl rfl rfl rfl rfl hg5 ?_
     refine oVal tt rfl rfl rfl rfl rfl trivial ?_
     refine vNil ?_
     change ∃ _, _
     exact ⟨(l143, l144, l145, (k108 + (1 : Int))), (En.of ⟨rfl, rfl, rfl, rfl, rfl, rfl, rfl, rfl, rfl, trivial⟩ ⟨rfl, rfl, rfl, trivial⟩ ⟨rfl, rfl, rfl, trivial⟩), h⟩
    ·intro k h
     refine vBlock ?_
     refine vLoopS (α := (List Int) × (List Int) × (List Bool) × Int) (fun | (l149, l150, l151, i152) => (⟨[(2, .int a_2), (3, .int b_3), (4, .ptr 4 0), (5, .ptr 5 0), (8, .ptr 8 0), (10, .row 20 0 ((List.replicate ((g_0.n).toNat) (0 : Int)).length)), (12, .row 31 0 l150.length), (13, .row 34 0 ((List.replicate ((g_0.n).toNat) (false : Bool)).length)), (14, .int k108), (15, .int (l106.getD ((k108).toNat) 0)), (16, .int i152)], [(20, some (3, .ints l149)), (31, some (3, .ints l150)), (34, some (4, .bools l151))], [(4, some [.int g_0.n, .ro false (.pairs g_0.bars)]), (5, some [.ro false (.ints p_1.free), .ro false (.ints p_1.tails), .ro false (.ints p_1.placed)]), (8, some [.nil, .nil, .nil])]⟩ : PS)) (S_l4Find_l2 N g_0 p_1 a_2 b_3 l106 k108 k) h (En.of ⟨rfl, rfl, rfl, rfl, rfl, rfl, rfl, rfl, rfl, rfl, rfl, trivial⟩ ⟨rfl, rfl, rfl, trivial⟩ ⟨rfl, rfl, rfl, trivial⟩) (fun _ => rfl) ?_
     rintro n ⟨l149, l150, l151, i152⟩ h
     rw [S_l4Find_l2] at h
     show VC _ _ _ (⟨[(2, .int a_2), (3, .int b_3), (4, .ptr 4 0), (5, .ptr 5 0), (8, .ptr 8 0), (10, .row 20 0 ((List.replicate ((g_0.n).toNat) (0 : Int)).length)), (12, .row 31 0 l150.length), (13, .row 34 0 ((List.replicate ((g_0.n).toNat) (false : Bool)).length)), (14, .int k108), (15, .int (l106.getD ((k108).toNat) 0)), (16, .int i152)], [(20, some (3, .ints l149)), (31, some (3, .ints l150)), (34, some (4, .bools l151))], [(4, some [.int g_0.n, .ro false (.pairs g_0.bars)]), (5, some [.ro false (.ints p_1.free), .ro false (.ints p_1.tails), .ro false (.ints p_1.placed)]), (8, some [.nil, .nil, .nil])]⟩ : PS)
     iterate 2 refine vSeq ?_
     refine vRegion ?_
     iterate 5 refine oVal tt rfl rfl rfl rfl rfl trivial ?_
     refine vNil ?_
     change VC _ _ _ _
     refine vCond rfl (fun hb6 => ?_) (fun hb6 => ?_)
     ·replace h := cnd_t hb6 h
      refine vSkip ?_
      change VC _ _ _ _
      refine vSeq ?_
      refine vBlock ?_
      iterate 2 refine vSeq ?_
      refine vRegion ?_
      iterate 3 refine oVal tt rfl rfl rfl rfl rfl trivial ?_
      obtain ⟨hg7, h⟩ := grd_inv h
      refine oVal tt rfl rfl rfl rfl rfl hg7 ?_
      iterate 3 refine oVal tt rfl rfl rfl rfl rfl trivial ?_
      refine vNil ?_
      change VC _ _ _ _
      refine vCond rfl (fun hb8 => ?_) (fun hb8 => ?_)
      ·replace h := cnd_t hb8 h
       refine vExit ?_
       change VC _ _ _ _
       refine vRegion ?_
       refine oVal tt rfl rfl rfl rfl rfl trivial ?_
       obtain ⟨hg9, h⟩ := grd_inv h
       refine oVal tt rfl rfl rfl rfl rfl hg9 ?_
       refine oVal tt rfl rfl rfl rfl rfl trivial ?_
       refine vNil ?_
       change ∃ _, _
       exact ⟨(l149, l150, l151, (i152 + (1 : Int))), (En.of ⟨rfl, rfl, rfl, rfl, rfl, rfl, rfl, rfl, rfl, rfl, rfl, trivial⟩ ⟨rfl, rfl, rfl, trivial⟩ ⟨rfl, rfl, rfl, trivial⟩), h⟩
      ·replace h := cnd_f hb8 h
       refine vSkip ?_
       change VC _ _ _ _
       refine vSeq ?_
       refine vRegionD (by kernel_rfl) (by kernel_rfl) ?_
       iterate 5 refine cVal tt rfl (wNone rfl) rfl rfl rfl trivial ?_
       obtain ⟨hg10, h⟩ := grd_inv h
       refine cVal tt rfl (wNone rfl) rfl rfl rfl hg10 ?_
       refine cVal tt rfl (wNone rfl) rfl rfl rfl trivial ?_
       obtain ⟨hg11, h⟩ := grd_inv h
       refine cVal tt rfl (wNone rfl) rfl rfl rfl hg11 ?_
       iterate 2 refine cVal tt rfl (wNone rfl) rfl rfl rfl trivial ?_
       obtain ⟨v155, hc12, h⟩ := bind_inv h
       refine cCall (S_l4Other_w N (g_0.bars.getD (((p_1.placed.getD ((i152).toNat) 0)).toNat) (0, 0)) (l106.getD ((k108).toNat) 0) v155 hc12) rfl (wNone rfl) rfl rfl rfl rfl rfl rfl ⟨⟨rfl, rfl, trivial⟩, rfl, trivial⟩ ?_
       refine cVal tt rfl (wNone rfl) rfl rfl rfl trivial ?_
       refine cNil ?_
       change VC _ _ _ _
       iterate 2 refine vSeq ?_
       refine vRegion ?_
       iterate 2 refine oVal tt rfl rfl rfl rfl rfl trivial ?_
       obtain ⟨hg13, h⟩ := grd_inv h
       refine oVal tt rfl rfl rfl rfl rfl hg13 ?_
       obtain ⟨hg14, h⟩ := grd_inv h
       refine oVal tt rfl rfl rfl rfl rfl hg14 ?_
       refine vNil ?_
       change VC _ _ _ _
       refine vCond rfl (fun hb15 => ?_) (fun hb15 => ?_)
       ·replace h := cnd_t hb15 h
        refine vExit ?_
        change VC _ _ _ _
        refine vRegion ?_
        refine oVal tt rfl rfl rfl rfl rfl trivial ?_
        obtain ⟨hg16, h⟩ := grd_inv h
        refine oVal tt rfl rfl rfl rfl rfl hg16 ?_
        refine oVal tt rfl rfl rfl rfl rfl trivial ?_
        refine vNil ?_
        change ∃ _, _
        exact ⟨(l149, l150, l151, (i152 + (1 : Int))), (En.of ⟨rfl, rfl, rfl, rfl, rfl, rfl, rfl, rfl, rfl, rfl, rfl, trivial⟩ ⟨rfl, rfl, rfl, trivial⟩ ⟨rfl, rfl, rfl, trivial⟩), h⟩
       ·replace h := cnd_f hb15 h
        refine vSkip ?_
        change VC _ _ _ _
        refine vSeq ?_
        refine vRegion ?_
        iterate 2 refine oVal tt rfl rfl rfl rfl rfl trivial ?_
        refine oVal tt rfl rfl rfl rfl rfl hg13 ?_
        refine oStore tt rfl rfl rfl rfl rfl rfl rfl rfl rfl rfl ⟨_, _, rfl, hg14.1, hg14.2⟩ ⟨hg14, trivial⟩ ?_
        refine vNil ?_
        change VC _ _ _ _
        refine vSeq ?_
        refine vRegion ?_
        iterate 3 refine oVal tt rfl rfl rfl rfl rfl trivial ?_
        obtain ⟨hg17, h⟩ := grd_inv h
        refine oVal tt rfl rfl rfl rfl rfl hg17 ?_
        obtain ⟨hg18, h⟩ := grd_inv h
        refine oStore tt rfl rfl rfl rfl rfl rfl rfl rfl rfl rfl ⟨_, _, rfl, hg18.1, hg18.2⟩ ⟨hg18, trivial⟩ ?_
        refine vNil ?_
        change VC _ _ _ _
        iterate 2 refine vSeq ?_
        refine vRegion ?_
        iterate 4 refine oVal tt rfl rfl rfl rfl rfl trivial ?_
        refine oSplit rfl rfl rfl (fun hb19 => ?_) (fun hb19 => ?_)
        ·replace h := cnd_t hb19 h
         iterate 3 refine oValG tt rfl rfl rfl rfl rfl hb19 rfl rfl rfl trivial ?_
         obtain ⟨hg20, h⟩ := grd_inv h
         refine oValG tt rfl rfl rfl rfl rfl hb19 rfl rfl rfl hg20 ?_
         iterate 2 refine oValG tt rfl rfl rfl rfl rfl hb19 rfl rfl rfl trivial ?_
         refine oPick rfl rfl rfl rfl rfl hb19 rfl ?_
         refine vNil ?_
         change VC _ _ _ _
         refine vCond rfl (fun hb21 => ?_) (fun hb21 => ?_)
         ·replace h := cnd_t hb21 h
          refine vSeq ?_
          refine vRegion ?_
          iterate 5 refine oVal tt rfl rfl rfl rfl rfl trivial ?_
          obtain ⟨hg22, h⟩ := grd_inv h
          obtain ⟨v156, hc23, h⟩ := bind_inv h
          refine oCall (S_l4Shift_w N g_0 p_1 (l149.set ((v155).toNat) i152) a_2 v155 v156 hc23) rfl rfl rfl rfl rfl rfl rfl rfl ⟨⟨rfl, rfl, trivial⟩, ⟨rfl, rfl, rfl, trivial⟩, (.inl ⟨hg22, rfl⟩), rfl, rfl, trivial⟩ ?_
          refine oStore tt rfl rfl rfl rfl rfl rfl rfl rfl rfl rfl rfl ⟨trivial, trivial, trivial, trivial⟩ ?_
          refine oVal tt rfl rfl rfl rfl rfl trivial ?_
          refine vNil ?_
          change VC _ _ _ _
          cases h
          cases halt
         ·replace h := cnd_f hb21 h
          refine vSkip ?_
          change VC _ _ _ _
          refine vRegion ?_
          iterate 2 refine oVal tt rfl rfl rfl rfl rfl trivial ?_
          refine oBuild tt rfl rfl rfl rfl rfl rfl rfl rfl rfl rfl rfl ?_
          obtain ⟨hg24, h⟩ := grd_inv h
          refine oAppend tt rfl rfl rfl rfl rfl rfl rfl rfl rfl rfl rfl rfl rfl rfl rfl rfl (Nat.le_of_eq (Nat.zero_add _)) hg24 ?_
          refine oVal tt rfl rfl rfl rfl rfl trivial ?_
          refine vNil ?_
          change VC _ _ _ _
          refine vRegion ?_
          refine oVal tt rfl rfl rfl rfl rfl trivial ?_
          obtain ⟨hg25, h⟩ := grd_inv h
          refine oVal tt rfl rfl rfl rfl rfl hg25 ?_
          refine oVal tt rfl rfl rfl rfl rfl trivial ?_
          refine vNil ?_
          change ∃ _, _
          exact ⟨((l149.set ((v155).toNat) i152), (l150 ++ ([v155] : List Int)), (l151.set ((v155).toNat) true), (i152 + (1 : Int))), (En.of ⟨rfl, rfl, rfl, rfl, rfl, rfl, rfl, rfl, rfl, rfl, rfl, trivial⟩ ⟨rfl, rfl, rfl, trivial⟩ ⟨rfl, rfl, rfl, trivial⟩), h⟩
        ·replace h := cnd_f hb19 h
         iterate 6 refine oNoT rfl rfl rfl rfl hb19 rfl rfl ?_
         refine oPickF rfl rfl rfl rfl rfl hb19 rfl ?_
         refine vNil ?_
         change VC _ _ _ _
         refine vCondF rfl rfl ?_
         refine vSkip ?_
         change VC _ _ _ _
         refine vRegion ?_
         iterate 2 refine oVal tt rfl rfl rfl rfl rfl trivial ?_
         refine oBuild tt rfl rfl rfl rfl rfl rfl rfl rfl rfl rfl rfl ?_
         obtain ⟨hg26, h⟩ := grd_inv h
         refine oAppend tt rfl rfl rfl rfl rfl rfl rfl rfl rfl rfl rfl rfl rfl rfl rfl rfl (Nat.le_of_eq (Nat.zero_add _)) hg26 ?_
         refine oVal tt rfl rfl rfl rfl rfl trivial ?_
         refine vNil ?_
         change VC _ _ _ _
         refine vRegion ?_
         refine oVal tt rfl rfl rfl rfl rfl trivial ?_
         obtain ⟨hg27, h⟩ := grd_inv h
         refine oVal tt rfl rfl rfl rfl rfl hg27 ?_
         refine oVal tt rfl rfl rfl rfl rfl trivial ?_
         refine vNil ?_
         change ∃ _, _
         exact ⟨((l149.set ((v155).toNat) i152), (l150 ++ ([v155] : List Int)), (l151.set ((v155).toNat) true), (i152 + (1 : Int))), (En.of ⟨rfl, rfl, rfl, rfl, rfl, rfl, rfl, rfl, rfl, rfl, rfl, trivial⟩ ⟨rfl, rfl, rfl, trivial⟩ ⟨rfl, rfl, rfl, trivial⟩), h⟩
     ·replace h := cnd_f hb6 h
      refine vExit ?_
      change ∃ _, _
      exact ⟨(l149, l150, l151), (En.of ⟨rfl, rfl, rfl, rfl, rfl, rfl, rfl, rfl, rfl, trivial⟩ ⟨rfl, rfl, rfl, trivial⟩ ⟨rfl, rfl, rfl, trivial⟩), h⟩
   ·replace h := cnd_f hb3 h
    refine vExit ?_
    change ∃ _, _
    exact ⟨(), (En.of ⟨rfl, rfl, trivial⟩ trivial ⟨rfl, rfl, trivial⟩), h⟩
 ·intro k h
  refine vBlock ?_
  refine vLoopS (α := (List Int) × Int) (fun | (l158, i159) => (⟨[(2, .int a_2), (3, .int b_3), (4, .ptr 4 0), (5, .ptr 5 0), (8, .ptr 8 0), (10, .row 20 0 ((List.replicate ((g_0.n).toNat) (0 : Int)).length)), (11, .int i159)], [(20, some (3, .ints l158))], [(4, some [.int g_0.n, .ro false (.pairs g_0.bars)]), (5, some [.ro false (.ints p_1.free), .ro false (.ints p_1.tails), .ro false (.ints p_1.placed)]), (8, some [.nil, .nil, .nil])]⟩ : PS)) (S_l4Find_l3 N g_0 k) h (En.of ⟨rfl, rfl, rfl, rfl, rfl, rfl, rfl, trivial⟩ ⟨rfl, trivial⟩ ⟨rfl, rfl, rfl, trivial⟩) (fun _ => rfl) ?_
  rintro n ⟨l158, i159⟩ h
  rw [S_l4Find_l3] at h
  show VC _ _ _ (⟨[(2, .int a_2), (3, .int b_3), (4, .ptr 4 0), (5, .ptr 5 0), (8, .ptr 8 0), (10, .row 20 0 ((List.replicate ((g_0.n).toNat) (0 : Int)).length)), (11, .int i159)], [(20, some (3, .ints l158))], [(4, some [.int g_0.n, .ro false (.pairs g_0.bars)]), (5, some [.ro false (.ints p_1.free), .ro false (.ints p_1.tails), .ro false (.ints p_1.placed)]), (8, some [.nil, .nil, .nil])]⟩ : PS)
  iterate 2 refine vSeq ?_
  refine vRegion ?_
  iterate 4 refine oVal tt rfl rfl rfl rfl rfl trivial ?_
  refine vNil ?_
  change VC _ _ _ _
  refine vCond rfl (fun hb28 => ?_) (fun hb28 => ?_)
  ·replace h := cnd_t hb28 h
   refine vSkip ?_
   change VC _ _ _ _
   refine vSeq ?_
   refine vBlock ?_
   refine vRegion ?_
   iterate 2 refine oVal tt rfl rfl rfl rfl rfl trivial ?_
   obtain ⟨hg29, h⟩ := grd_inv h
   refine oVal tt rfl rfl rfl rfl rfl hg29 ?_
   obtain ⟨hg30, h⟩ := grd_inv h
   refine oStore tt rfl rfl rfl rfl rfl rfl rfl rfl rfl rfl ⟨_, _, rfl, hg30.1, hg30.2⟩ ⟨hg30, trivial⟩ ?_
   refine vNil ?_
   change VC _ _ _ _
   refine vRegion ?_
   refine oVal tt rfl rfl rfl rfl rfl trivial ?_
   obtain ⟨hg31, h⟩ := grd_inv h
   refine oVal tt rfl rfl rfl rfl rfl hg31 ?_
   refine oVal tt rfl rfl rfl rfl rfl trivial ?_
   refine vNil ?_
   change ∃ _, _
   exact ⟨((l158.set ((i159).toNat) (-1 : Int)), (i159 + (1 : Int))), (En.of ⟨rfl, rfl, rfl, rfl, rfl, rfl, rfl, trivial⟩ ⟨rfl, trivial⟩ ⟨rfl, rfl, rfl, trivial⟩), h⟩
  ·replace h := cnd_f hb28 h
   refine vExit ?_
   change ∃ _, _
   exact ⟨l158, (En.of ⟨rfl, rfl, rfl, rfl, rfl, rfl, trivial⟩ ⟨rfl, trivial⟩ ⟨rfl, rfl, rfl, trivial⟩), h⟩
def S_l4Gather_l1 (N : Nat) (g_0 : Grf) (a_2 : Int) (b_3 : Int) (want_4 : Int) (k : ((List Int) × (List Int) × (List Int)) → Option (Pbl × Bool)) : Nat → ((List Int) × (List Int) × (List Int)) → Option (Pbl × Bool)
 | 0, _ => none
 | n + 1, (l17, l18, l19) =>
  grd (0 ≤ a_2 ∧ a_2 < (l17.length : Int)) <|
  grd (0 ≤ b_3 ∧ b_3 < (l17.length : Int)) <|
  grd (Rg64 ((l17.getD ((a_2).toNat) 0) + (l17.getD ((b_3).toNat) 0))) <|
  cnd (decide (((l17.getD ((a_2).toNat) 0) + (l17.getD ((b_3).toNat) 0)) < want_4)) (
   (S_l4Find N g_0 (⟨l17, l18, l19⟩ : Pbl) a_2 b_3).bind fun v22 =>
   cnd v22.2 (
    S_l4Gather_l1 N g_0 a_2 b_3 want_4 k n (v22.1.free, v22.1.tails, v22.1.placed)) (
    (S_l4Find N g_0 (⟨l17, l18, l19⟩ : Pbl) b_3 a_2).bind fun v23 =>
    cnd v23.2 (
     S_l4Gather_l1 N g_0 a_2 b_3 want_4 k n (v23.1.free, v23.1.tails, v23.1.placed)) (
     some ((⟨l17, l18, l19⟩ : Pbl), false)))) (
   k (l17, l18, l19))
def S_l4Gather (N : Nat) (g_0 : Grf) (p_1 : Pbl) (a_2 : Int) (b_3 : Int) (want_4 : Int) : Option (Pbl × Bool) :=
 (S_l4Copy N p_1).bind fun v1 =>
 S_l4Gather_l1 N g_0 a_2 b_3 want_4 (fun (x : (List Int) × (List Int) × (List Int)) =>
   match x with
   | (l11, l12, l13) =>
    some ((⟨l11, l12, l13⟩ : Pbl), true)) N (v1.free, v1.tails, v1.placed)
set_option maxRecDepth 20000 in
set_option maxHeartbeats 1600000 in
theorem S_l4Gather_w (N : Nat) (g_0 : Grf) (p_1 : Pbl) (a_2 : Int) (b_3 : Int) (want_4 : Int) (r : Pbl × Bool) (h : S_l4Gather N g_0 p_1 a_2 b_3 want_4 = some r) : PCall Try.prog 185 [gD g_0, bD p_1, .int a_2, .int b_3, .int want_4] [(3, .ints r.1.free), (3, .ints r.1.tails), (3, .ints r.1.placed)] (.tup [.agg [.row 0 0 r.1.free.length, .row 1 0 r.1.tails.length, .row 2 0 r.1.placed.length], .bool r.2]) := by
 unfold S_l4Gather at h
 refine pcall_intro (TT := TT) tt Try.func185 rfl rfl Try.ntmps185 (congrArg Array.toList Try.results185) rfl rfl fun w0 => ?_
 refine vSeq ?_
 refine vRegion ?_
 iterate 2 refine oBox rfl rfl rfl rfl rfl rfl rfl rfl rfl ?_
 refine oAlloc tt rfl rfl rfl rfl rfl rfl rfl rfl rfl ?_
 refine oVal tt rfl rfl rfl rfl rfl trivial ?_
 refine vNil ?_
 change VC _ _ _ _
 refine vSeq ?_
 refine vRegion ?_
 refine oVal tt rfl rfl rfl rfl rfl trivial ?_
 obtain ⟨v1, hc1, h⟩ := bind_inv h
 refine oCall (S_l4Copy_w N p_1 v1 hc1) rfl rfl rfl rfl rfl rfl rfl rfl ⟨⟨rfl, rfl, rfl, trivial⟩, trivial⟩ ?_
 refine oAlloc tt rfl rfl rfl rfl rfl rfl rfl rfl rfl ?_
 refine oStore tt rfl rfl rfl rfl rfl rfl rfl rfl rfl rfl rfl ⟨trivial, trivial, trivial, trivial⟩ ?_
 refine vNil ?_
 change VC _ _ _ _
 refine vSeq ?_
 refine vJoin (F := fun k => S_l4Gather_l1 N g_0 a_2 b_3 want_4 k) h (α := (List Int) × (List Int) × (List Int)) (J := fun | (l11, l12, l13) => (⟨[(10, .ptr 10 0), (12, .ptr 12 0)], [(1160, some (3, .ints l11)), (1161, some (3, .ints l12)), (1162, some (3, .ints l13))], [(10, some [.nil, .nil, .nil]), (12, some [.row 1160 0 l11.length, .row 1161 0 l12.length, .row 1162 0 l13.length])]⟩ : PS)) ?_ ?_
 ·rintro ⟨l11, l12, l13⟩ h
  show VC _ _ _ (⟨[(10, .ptr 10 0), (12, .ptr 12 0)], [(1160, some (3, .ints l11)), (1161, some (3, .ints l12)), (1162, some (3, .ints l13))], [(10, some [.nil, .nil, .nil]), (12, some [.row 1160 0 l11.length, .row 1161 0 l12.length, .row 1162 0 l13.length])]⟩ : PS)
  refine vSeq ?_
  refine vRegion ?_
  refine oVal tt rfl rfl rfl rfl rfl trivial ?_
  refine oStore tt rfl rfl rfl rfl rfl rfl rfl rfl rfl rfl rfl ⟨trivial, trivial, trivial, trivial⟩ ?_
  refine oVal tt rfl rfl rfl rfl rfl trivial ?_
  refine vNil ?_
  change VC _ _ _ _
  refine vRet ?_
  change ∃ _, _
  cases h
  exact ⟨[1160, 1161, 1162], _, rfl, ⟨rfl, rfl, rfl, trivial⟩, rfl, (.eq rfl), rfl⟩
 ·intro k h
  refine vBlock ?_
  refine vLoopS (α := (List Int) × (List Int) × (List Int)) (fun | (l17, l18, l19) => (⟨[(2, .int a_2), (3, .int b_3), (4, .int want_4), (5, .ptr 5 0), (10, .ptr 10 0), (12, .ptr 12 0)], [(1160, some (3, .ints l17)), (1161, some (3, .ints l18)), (1162, some (3, .ints l19))], [(5, some [.int g_0.n, .ro false (.pairs g_0.bars)]), (10, some [.nil, .nil, .nil]), (12, some [.row 1160 0 l17.length, .row 1161 0 l18.length, .row 1162 0 l19.length])]⟩ : PS)) (S_l4Gather_l1 N g_0 a_2 b_3 want_4 k) h (En.of ⟨rfl, rfl, rfl, rfl, rfl, rfl, trivial⟩ ⟨rfl, rfl, rfl, trivial⟩ ⟨rfl, rfl, rfl, trivial⟩) (fun _ => rfl) ?_
  rintro n ⟨l17, l18, l19⟩ h
  rw [S_l4Gather_l1] at h
  show VC _ _ _ (⟨[(2, .int a_2), (3, .int b_3), (4, .int want_4), (5, .ptr 5 0), (10, .ptr 10 0), (12, .ptr 12 0)], [(1160, some (3, .ints l17)), (1161, some (3, .ints l18)), (1162, some (3, .ints l19))], [(5, some [.int g_0.n, .ro false (.pairs g_0.bars)]), (10, some [.nil, .nil, .nil]), (12, some [.row 1160 0 l17.length, .row 1161 0 l18.length, .row 1162 0 l19.length])]⟩ : PS)
  iterate 2 refine vSeq ?_
  refine vRegionD (by kernel_rfl) (by kernel_rfl) ?_
  iterate 3 refine cVal tt rfl (wNone rfl) rfl rfl rfl trivial ?_
  obtain ⟨hg2, h⟩ := grd_inv h
  iterate 2 refine cVal tt rfl (wNone rfl) rfl rfl rfl hg2 ?_
  iterate 3 refine cVal tt rfl (wNone rfl) rfl rfl rfl trivial ?_
  obtain ⟨hg3, h⟩ := grd_inv h
  iterate 2 refine cVal tt rfl (wNone rfl) rfl rfl rfl hg3 ?_
  obtain ⟨hg4, h⟩ := grd_inv h
  refine cVal tt rfl (wNone rfl) rfl rfl rfl hg4 ?_
  iterate 2 refine cVal tt rfl (wNone rfl) rfl rfl rfl trivial ?_
  refine cNil ?_
  change VC _ _ _ _
  refine vCond rfl (fun hb5 => ?_) (fun hb5 => ?_)
  ·replace h := cnd_t hb5 h
   refine vSkip ?_
   change VC _ _ _ _
   refine vBlock ?_
   refine vSeq ?_
   refine vRegion ?_
   iterate 4 refine oVal tt rfl rfl rfl rfl rfl trivial ?_
   obtain ⟨v22, hc6, h⟩ := bind_inv h
   refine bsplit v22.2 (fun hb7 => ?_) (fun hb7 => ?_)
   ·replace h := cnd_t hb7 h
    refine oCall (S_l4Find_wT N g_0 (⟨l17, l18, l19⟩ : Pbl) a_2 b_3 v22 hc6 hb7) rfl rfl rfl rfl rfl rfl rfl rfl ⟨⟨rfl, rfl, trivial⟩, ⟨(.inl ⟨rfl, rfl⟩), (.inl ⟨rfl, rfl⟩), (.inl ⟨rfl, rfl⟩), trivial⟩, rfl, rfl, trivial⟩ ?_
    iterate 3 refine oVal tt rfl rfl rfl rfl rfl trivial ?_
    refine oAlloc tt rfl rfl rfl rfl rfl rfl rfl rfl rfl ?_
    refine oStore tt rfl rfl rfl rfl rfl rfl rfl rfl rfl rfl rfl ⟨trivial, trivial, trivial, trivial⟩ ?_
    refine oVal tt rfl rfl rfl rfl rfl trivial ?_
    refine vNil ?_
    change VC _ _ _ _
    iterate 2 refine vSeq ?_
    refine vRegion ?_
    iterate 2 refine oVal tt rfl rfl rfl rfl rfl trivial ?_
    refine vNil ?_
    change VC _ _ _ _
    refine vCondF rfl (by rw [hb7]; rfl) ?_
    refine vSkip ?_
    change VC _ _ _ _
    iterate 2 refine vSeq ?_
    refine vRegion ?_
    iterate 2 refine oVal tt rfl rfl rfl rfl rfl trivial ?_
    refine vNil ?_
    change VC _ _ _ _
    refine vCondF rfl (by rw [hb7]; rfl) ?_
    refine vSkip ?_
    change VC _ _ _ _
    refine vRegion ?_
    refine oVal tt rfl rfl rfl rfl rfl trivial ?_
    refine oStore tt rfl rfl rfl rfl rfl rfl rfl rfl rfl rfl rfl ⟨trivial, trivial, trivial, trivial⟩ ?_
    refine vNil ?_
    change ∃ _, _
    exact ⟨(v22.1.free, v22.1.tails, v22.1.placed), (En.ren [1160, 1161, 1162] [1350, 1351, 1352] rfl ⟨.inr rfl, .inr rfl, .inr rfl, .inr rfl, .inr rfl, .inr rfl, trivial⟩ ⟨.inr rfl, .inr rfl, .inr rfl, trivial⟩ ⟨.inr ⟨_, _, rfl, rfl, ⟨.inr rfl, .inr rfl, trivial⟩⟩, .inr ⟨_, _, rfl, rfl, ⟨.inr rfl, .inr rfl, .inr rfl, trivial⟩⟩, .inr ⟨_, _, rfl, rfl, ⟨.inr rfl, .inr rfl, .inr rfl, trivial⟩⟩, trivial⟩), h⟩
   ·replace h := cnd_f hb7 h
    refine oCall (S_l4Find_wF N g_0 (⟨l17, l18, l19⟩ : Pbl) a_2 b_3 v22 hc6 hb7) rfl rfl rfl rfl rfl rfl rfl rfl ⟨⟨rfl, rfl, trivial⟩, ⟨(.inl ⟨rfl, rfl⟩), (.inl ⟨rfl, rfl⟩), (.inl ⟨rfl, rfl⟩), trivial⟩, rfl, rfl, trivial⟩ ?_
    iterate 3 refine oVal tt rfl rfl rfl rfl rfl trivial ?_
    refine oAlloc tt rfl rfl rfl rfl rfl rfl rfl rfl rfl ?_
    refine oStore tt rfl rfl rfl rfl rfl rfl rfl rfl rfl rfl rfl ⟨trivial, trivial, trivial, trivial⟩ ?_
    refine oVal tt rfl rfl rfl rfl rfl trivial ?_
    refine vNil ?_
    change VC _ _ _ _
    iterate 2 refine vSeq ?_
    refine vRegion ?_
    iterate 2 refine oVal tt rfl rfl rfl rfl rfl trivial ?_
    refine vNil ?_
    change VC _ _ _ _
    refine vCondT rfl (by rw [hb7]; rfl) ?_
    refine vRegion ?_
    iterate 4 refine oVal tt rfl rfl rfl rfl rfl trivial ?_
    obtain ⟨v23, hc8, h⟩ := bind_inv h
    refine bsplit v23.2 (fun hb9 => ?_) (fun hb9 => ?_)
    ·replace h := cnd_t hb9 h
     refine oCall (S_l4Find_wT N g_0 (⟨l17, l18, l19⟩ : Pbl) b_3 a_2 v23 hc8 hb9) rfl rfl rfl rfl rfl rfl rfl rfl ⟨⟨rfl, rfl, trivial⟩, ⟨(.inl ⟨rfl, rfl⟩), (.inl ⟨rfl, rfl⟩), (.inl ⟨rfl, rfl⟩), trivial⟩, rfl, rfl, trivial⟩ ?_
     iterate 3 refine oVal tt rfl rfl rfl rfl rfl trivial ?_
     refine oStore tt rfl rfl rfl rfl rfl rfl rfl rfl rfl rfl rfl ⟨trivial, trivial, trivial, trivial⟩ ?_
     refine oVal tt rfl rfl rfl rfl rfl trivial ?_
     refine vNil ?_
     change VC _ _ _ _
     iterate 2 refine vSeq ?_
     refine vRegion ?_
     iterate 2 refine oVal tt rfl rfl rfl rfl rfl trivial ?_
     refine vNil ?_
     change VC _ _ _ _
     refine vCondF rfl (by rw [hb9]; rfl) ?_
     refine vSkip ?_
     change VC _ _ _ _
     refine vRegion ?_
     refine oVal tt rfl rfl rfl rfl rfl trivial ?_
     refine oStore tt rfl rfl rfl rfl rfl rfl rfl rfl rfl rfl rfl ⟨trivial, trivial, trivial, trivial⟩ ?_
     refine vNil ?_
     change ∃ _, _
     exact ⟨(v23.1.free, v23.1.tails, v23.1.placed), (En.ren [1160, 1161, 1162] [1450, 1451, 1452] rfl ⟨.inr rfl, .inr rfl, .inr rfl, .inr rfl, .inr rfl, .inr rfl, trivial⟩ ⟨.inr rfl, .inr rfl, .inr rfl, trivial⟩ ⟨.inr ⟨_, _, rfl, rfl, ⟨.inr rfl, .inr rfl, trivial⟩⟩, .inr ⟨_, _, rfl, rfl, ⟨.inr rfl, .inr rfl, .inr rfl, trivial⟩⟩, .inr ⟨_, _, rfl, rfl, ⟨.inr rfl, .inr rfl, .inr rfl, trivial⟩⟩, trivial⟩), h⟩
    ·replace h := cnd_f hb9 h
     refine oCall (S_l4Find_wF N g_0 (⟨l17, l18, l19⟩ : Pbl) b_3 a_2 v23 hc8 hb9) rfl rfl rfl rfl rfl rfl rfl rfl ⟨⟨rfl, rfl, trivial⟩, ⟨(.inl ⟨rfl, rfl⟩), (.inl ⟨rfl, rfl⟩), (.inl ⟨rfl, rfl⟩), trivial⟩, rfl, rfl, trivial⟩ ?_
     iterate 3 refine oVal tt rfl rfl rfl rfl rfl trivial ?_
     refine oStore tt rfl rfl rfl rfl rfl rfl rfl rfl rfl rfl rfl ⟨trivial, trivial, trivial, trivial⟩ ?_
     refine oVal tt rfl rfl rfl rfl rfl trivial ?_
     refine vNil ?_
     change VC _ _ _ _
     iterate 2 refine vSeq ?_
     refine vRegion ?_
     iterate 2 refine oVal tt rfl rfl rfl rfl rfl trivial ?_
     refine vNil ?_
     change VC _ _ _ _
     refine vCondT rfl (by rw [hb9]; rfl) ?_
     refine vSeq ?_
     refine vRegion ?_
     refine oVal tt rfl rfl rfl rfl rfl trivial ?_
     refine oStore tt rfl rfl rfl rfl rfl rfl rfl rfl rfl rfl rfl ⟨trivial, trivial, trivial, trivial⟩ ?_
     refine oVal tt rfl rfl rfl rfl rfl trivial ?_
     refine vNil ?_
     change VC _ _ _ _
     refine vRet ?_
     change ∃ _, _
     cases h
     exact ⟨[1160, 1161, 1162], _, rfl, ⟨rfl, rfl, rfl, trivial⟩, rfl, (.eq rfl), rfl⟩
  ·replace h := cnd_f hb5 h
   refine vExit ?_
   change ∃ _, _
   exact ⟨(l17, l18, l19), (En.of ⟨rfl, rfl, trivial⟩ ⟨rfl, rfl, rfl, trivial⟩ ⟨rfl, rfl, trivial⟩), h⟩
def I_planeRank (N : Nat) (points_0 : Int) (bars_1 : List (Int × Int)) : Option (Int) :=
 (I_play N points_0 bars_1 (2 : Int) (3 : Int)).bind fun v1 =>
 some (v1.placed.length : Int)
set_option maxRecDepth 20000 in
set_option maxHeartbeats 1600000 in
theorem I_planeRank_w (N : Nat) (points_0 : Int) (bars_1 : List (Int × Int)) (r : Int) (h : I_planeRank N points_0 bars_1 = some r) : PCall Try.prog 144 [.int points_0, .ro false (.pairs bars_1)] [] (.int r) := by
 unfold I_planeRank at h
 refine pcall_intro (TT := TT) tt Try.func144 rfl rfl Try.ntmps144 (congrArg Array.toList Try.results144) rfl rfl fun w0 => ?_
 refine vSeq ?_
 refine vRegion ?_
 refine oVal tt rfl rfl rfl rfl rfl trivial ?_
 refine vNil ?_
 change VC _ _ _ _
 refine vSeq ?_
 refine vRegion ?_
 iterate 2 refine oVal tt rfl rfl rfl rfl rfl trivial ?_
 obtain ⟨v1, hc1, h⟩ := bind_inv h
 refine oCall (I_play_w N points_0 bars_1 (2 : Int) (3 : Int) v1 hc1) rfl rfl rfl rfl rfl rfl rfl rfl ⟨rfl, rfl, rfl, rfl, trivial⟩ ?_
 refine oPure (wNone rfl) (pField (fld (off := 2) (by kernel_rfl)) rfl rfl rfl) rfl rfl ?_
 iterate 2 refine oVal tt rfl rfl rfl rfl rfl trivial ?_
 refine vNil ?_
 change VC _ _ _ _
 refine vRet ?_
 change ∃ _, _
 cases h
 exact ⟨[], _, rfl, trivial, rfl, (.eq rfl), rfl⟩
end Go.Proofs.Ytcljhpldfanhkaa
namespace Go.Proofs.Ytcljhpldfanhkaa
open Go.RowKit
def S_IsPinned_l1 (N : Nat) (p_0 : Pin) (k : Unit → Option (Bool)) : Nat → Int → Option (Bool)
 | 0, _ => none
 | n + 1, i13 =>
  cnd (decide (i13 < (p_0.g.bars.length : Int))) (
   grd (0 ≤ i13 ∧ i13 < (p_0.g.bars.length : Int)) <|
   (S_l2Has N p_0.ground ((p_0.g.bars.getD ((i13).toNat) (0, 0)).1)).bind fun v16 =>
   cnd v16 (
    (S_l2Has N p_0.ground ((p_0.g.bars.getD ((i13).toNat) (0, 0)).2)).bind fun v17 =>
    cnd v17 (
     some false) (
     grd (Rg64 (i13 + (1 : Int))) <|
     S_IsPinned_l1 N p_0 k n (i13 + (1 : Int)))) (
    grd (Rg64 (i13 + (1 : Int))) <|
    S_IsPinned_l1 N p_0 k n (i13 + (1 : Int)))) (
   k ())
def S_IsPinned_l2 (N : Nat) (p_0 : Pin) (k : Unit → Option (Bool)) : Nat → Int → Option (Bool)
 | 0, _ => none
 | n + 1, i19 =>
  cnd (decide (i19 < (p_0.ground.length : Int))) (
   grd (0 ≤ i19 ∧ i19 < (p_0.ground.length : Int)) <|
   cnd (decide ((p_0.ground.getD ((i19).toNat) 0) < (0 : Int))) (
    some false) (
    cnd (decide ((p_0.ground.getD ((i19).toNat) 0) ≥ p_0.g.n)) (
     some false) (
     cnd (decide (i19 > (0 : Int))) (
      grd (Rg64 (i19 - (1 : Int))) <|
      grd (0 ≤ (i19 - (1 : Int)) ∧ (i19 - (1 : Int)) < (p_0.ground.length : Int)) <|
      cnd (decide ((p_0.ground.getD (((i19 - (1 : Int))).toNat) 0) ≥ (p_0.ground.getD ((i19).toNat) 0))) (
       some false) (
       grd (Rg64 (i19 + (1 : Int))) <|
       S_IsPinned_l2 N p_0 k n (i19 + (1 : Int)))) (
      grd (Rg64 (i19 + (1 : Int))) <|
      S_IsPinned_l2 N p_0 k n (i19 + (1 : Int)))))) (
   k ())
def S_IsPinned (N : Nat) (p_0 : Pin) : Option (Bool) :=
 S_IsPinned_l2 N p_0 (fun (_ : Unit) =>
    S_IsPinned_l1 N p_0 (fun (_ : Unit) =>
       (S_l17Simple N p_0.g).bind fun v9 =>
       cnd v9 (
        cnd (decide ((p_0.ground.length : Int) ≥ (2 : Int))) (
         cnd (decide ((p_0.g.bars.length : Int) ≤ (15 : Int))) (
          grd (Rg64 ((2 : Int) * (p_0.ground.length : Int))) <|
          grd (Rg64 ((p_0.g.bars.length : Int) + ((2 : Int) * (p_0.ground.length : Int)))) <|
          grd (Rg64 (((p_0.g.bars.length : Int) + ((2 : Int) * (p_0.ground.length : Int))) - (3 : Int))) <|
          some (decide ((((p_0.g.bars.length : Int) + ((2 : Int) * (p_0.ground.length : Int))) - (3 : Int)) ≤ (24 : Int)))) (
          some false)) (
         some false)) (
        some false)) N (0 : Int)) N (0 : Int)
set_option maxRecDepth 20000 in
set_option maxHeartbeats 1600000 in
theorem S_IsPinned_w (N : Nat) (p_0 : Pin) (r : Bool) (h : S_IsPinned N p_0 = some r) : PCall Try.prog 75 [pD p_0] [] (.bool r) := by
 unfold S_IsPinned at h
 refine pcall_intro (TT := TT) tt Try.func75 rfl rfl Try.ntmps75 (congrArg Array.toList Try.results75) rfl rfl fun w0 => ?_
 refine vSeq ?_
 refine vRegion ?_
 refine oBox rfl rfl rfl rfl rfl rfl rfl rfl rfl ?_
 refine oVal tt rfl rfl rfl rfl rfl trivial ?_
 refine vNil ?_
 change VC _ _ _ _
 iterate 2 refine vSeq ?_
 refine vRegion ?_
 refine oVal tt rfl rfl rfl rfl rfl trivial ?_
 refine vNil ?_
 change VC _ _ _ _
 refine vJoin (F := fun k => S_IsPinned_l2 N p_0 k) h (α := Unit) (J := fun (_ : Unit) => (⟨[(1, .ptr 1 0)], [], [(1, some [.int p_0.g.n, .ro false (.pairs p_0.g.bars), .ro false (.ints p_0.ground)])]⟩ : PS)) ?_ ?_
 ·rintro ⟨⟩ h
  show VC _ _ _ (⟨[(1, .ptr 1 0)], [], [(1, some [.int p_0.g.n, .ro false (.pairs p_0.g.bars), .ro false (.ints p_0.ground)])]⟩ : PS)
  iterate 2 refine vSeq ?_
  refine vRegion ?_
  refine oVal tt rfl rfl rfl rfl rfl trivial ?_
  refine vNil ?_
  change VC _ _ _ _
  refine vJoin (F := fun k => S_IsPinned_l1 N p_0 k) h (α := Unit) (J := fun (_ : Unit) => (⟨[(1, .ptr 1 0)], [], [(1, some [.int p_0.g.n, .ro false (.pairs p_0.g.bars), .ro false (.ints p_0.ground)])]⟩ : PS)) ?_ ?_
  ·rintro ⟨⟩ h
   show VC _ _ _ (⟨[(1, .ptr 1 0)], [], [(1, some [.int p_0.g.n, .ro false (.pairs p_0.g.bars), .ro false (.ints p_0.ground)])]⟩ : PS)
   refine vSeq ?_
   refine vRegion ?_
   iterate 2 refine oVal tt rfl rfl rfl rfl rfl trivial ?_
   obtain ⟨v9, hc1, h⟩ := bind_inv h
   refine oCall (S_l17Simple_w N p_0.g v9 hc1) rfl rfl rfl rfl rfl rfl rfl rfl ⟨⟨rfl, rfl, trivial⟩, trivial⟩ ?_
   refine oVal tt rfl rfl rfl rfl rfl trivial ?_
   refine oSplit rfl rfl rfl (fun hb2 => ?_) (fun hb2 => ?_)
   ·replace h := cnd_t hb2 h
    iterate 4 refine oValG tt rfl rfl rfl rfl rfl hb2 rfl rfl rfl trivial ?_
    refine oPick rfl rfl rfl rfl rfl hb2 rfl ?_
    refine oVal tt rfl rfl rfl rfl rfl trivial ?_
    refine oSplit rfl rfl rfl (fun hb3 => ?_) (fun hb3 => ?_)
    ·replace h := cnd_t hb3 h
     iterate 5 refine oValG tt rfl rfl rfl rfl rfl hb3 rfl rfl rfl trivial ?_
     refine oPick rfl rfl rfl rfl rfl hb3 rfl ?_
     refine oVal tt rfl rfl rfl rfl rfl trivial ?_
     refine oSplit rfl rfl rfl (fun hb4 => ?_) (fun hb4 => ?_)
     ·replace h := cnd_t hb4 h
      iterate 7 refine oValG tt rfl rfl rfl rfl rfl hb4 rfl rfl rfl trivial ?_
      obtain ⟨hg5, h⟩ := grd_inv h
      refine oValG tt rfl rfl rfl rfl rfl hb4 rfl rfl rfl hg5 ?_
      obtain ⟨hg6, h⟩ := grd_inv h
      refine oValG tt rfl rfl rfl rfl rfl hb4 rfl rfl rfl hg6 ?_
      obtain ⟨hg7, h⟩ := grd_inv h
      refine oValG tt rfl rfl rfl rfl rfl hb4 rfl rfl rfl hg7 ?_
      refine oValG tt rfl rfl rfl rfl rfl hb4 rfl rfl rfl trivial ?_
      refine oPick rfl rfl rfl rfl rfl hb4 rfl ?_
      refine oVal tt rfl rfl rfl rfl rfl trivial ?_
      refine vNil ?_
      change VC _ _ _ _
      refine vRet ?_
      change ∃ _, _
      cases h
      exact ⟨[], _, rfl, trivial, rfl, (.eq rfl), rfl⟩
     ·replace h := cnd_f hb4 h
      iterate 11 refine oNoT rfl rfl rfl rfl hb4 rfl rfl ?_
      refine oPickF rfl rfl rfl rfl rfl hb4 rfl ?_
      refine oVal tt rfl rfl rfl rfl rfl trivial ?_
      refine vNil ?_
      change VC _ _ _ _
      refine vRet ?_
      change ∃ _, _
      cases h
      exact ⟨[], _, rfl, trivial, rfl, (.eq rfl), rfl⟩
    ·replace h := cnd_f hb3 h
     iterate 5 refine oNoT rfl rfl rfl rfl hb3 rfl rfl ?_
     refine oPickF rfl rfl rfl rfl rfl hb3 rfl ?_
     refine oVal tt rfl rfl rfl rfl rfl trivial ?_
     iterate 11 refine oNoT rfl rfl rfl rfl rfl rfl rfl ?_
     refine oPickF rfl rfl rfl rfl rfl rfl rfl ?_
     refine oVal tt rfl rfl rfl rfl rfl trivial ?_
     refine vNil ?_
     change VC _ _ _ _
     refine vRet ?_
     change ∃ _, _
     cases h
     exact ⟨[], _, rfl, trivial, rfl, (.eq rfl), rfl⟩
   ·replace h := cnd_f hb2 h
    iterate 4 refine oNoT rfl rfl rfl rfl hb2 rfl rfl ?_
    refine oPickF rfl rfl rfl rfl rfl hb2 rfl ?_
    refine oVal tt rfl rfl rfl rfl rfl trivial ?_
    iterate 5 refine oNoT rfl rfl rfl rfl rfl rfl rfl ?_
    refine oPickF rfl rfl rfl rfl rfl rfl rfl ?_
    refine oVal tt rfl rfl rfl rfl rfl trivial ?_
    iterate 11 refine oNoT rfl rfl rfl rfl rfl rfl rfl ?_
    refine oPickF rfl rfl rfl rfl rfl rfl rfl ?_
    refine oVal tt rfl rfl rfl rfl rfl trivial ?_
    refine vNil ?_
    change VC _ _ _ _
    refine vRet ?_
    change ∃ _, _
    cases h
    exact ⟨[], _, rfl, trivial, rfl, (.eq rfl), rfl⟩
  ·intro k h
   refine vBlock ?_
   refine vLoopS (α := Int) (fun (i13 : Int) => (⟨[(1, .ptr 1 0), (4, .int i13)], [], [(1, some [.int p_0.g.n, .ro false (.pairs p_0.g.bars), .ro false (.ints p_0.ground)])]⟩ : PS)) (S_IsPinned_l1 N p_0 k) h (En.of ⟨rfl, rfl, trivial⟩ trivial ⟨rfl, trivial⟩) (fun _ => rfl) ?_
   rintro n i13 h
   rw [S_IsPinned_l1] at h
   show VC _ _ _ (⟨[(1, .ptr 1 0), (4, .int i13)], [], [(1, some [.int p_0.g.n, .ro false (.pairs p_0.g.bars), .ro false (.ints p_0.ground)])]⟩ : PS)
   iterate 2 refine vSeq ?_
   refine vRegion ?_
   iterate 6 refine oVal tt rfl rfl rfl rfl rfl trivial ?_
   refine vNil ?_
   change VC _ _ _ _
   refine vCond rfl (fun hb8 => ?_) (fun hb8 => ?_)
   ·replace h := cnd_t hb8 h
    refine vSkip ?_
    change VC _ _ _ _
    refine vSeq ?_
    refine vBlock ?_
    refine vSeq ?_
    refine vRegionD (by kernel_rfl) (by kernel_rfl) ?_
    iterate 6 refine cVal tt rfl (wNone rfl) rfl rfl rfl trivial ?_
    obtain ⟨hg9, h⟩ := grd_inv h
    refine cVal tt rfl (wNone rfl) rfl rfl rfl hg9 ?_
    iterate 2 refine cVal tt rfl (wNone rfl) rfl rfl rfl trivial ?_
    obtain ⟨v16, hc10, h⟩ := bind_inv h
    refine cCall (S_l2Has_w N p_0.ground ((p_0.g.bars.getD ((i13).toNat) (0, 0)).1) v16 hc10) rfl (wNone rfl) rfl rfl rfl rfl rfl rfl ⟨rfl, rfl, trivial⟩ ?_
    refine cVal tt rfl (wNone rfl) rfl rfl rfl trivial ?_
    refine cSplit rfl rfl rfl (fun hb11 => ?_) (fun hb11 => ?_)
    ·replace h := cnd_t hb11 h
     iterate 6 refine cVal tt rfl (wSome rfl rfl rfl rfl hb11) rfl rfl rfl trivial ?_
     refine cVal tt rfl (wSome rfl rfl rfl rfl hb11) rfl rfl rfl hg9 ?_
     iterate 2 refine cVal tt rfl (wSome rfl rfl rfl rfl hb11) rfl rfl rfl trivial ?_
     obtain ⟨v17, hc12, h⟩ := bind_inv h
     refine cCall (S_l2Has_w N p_0.ground ((p_0.g.bars.getD ((i13).toNat) (0, 0)).2) v17 hc12) rfl (wSome rfl rfl rfl rfl hb11) rfl rfl rfl rfl rfl rfl ⟨rfl, rfl, trivial⟩ ?_
     refine cPickT rfl (wNone rfl) rfl rfl rfl hb11 rfl ?_
     refine cNil ?_
     change VC _ _ _ _
     refine vCond rfl (fun hb13 => ?_) (fun hb13 => ?_)
     ·replace h := cnd_t hb13 h
      refine vSeq ?_
      refine vRegion ?_
      refine oVal tt rfl rfl rfl rfl rfl trivial ?_
      refine vNil ?_
      change VC _ _ _ _
      refine vRet ?_
      change ∃ _, _
      cases h
      exact ⟨[], _, rfl, trivial, rfl, (.eq rfl), rfl⟩
     ·replace h := cnd_f hb13 h
      refine vSkip ?_
      change VC _ _ _ _
      refine vRegion ?_
      refine oVal tt rfl rfl rfl rfl rfl trivial ?_
      obtain ⟨hg14, h⟩ := grd_inv h
      refine oVal tt rfl rfl rfl rfl rfl hg14 ?_
      refine oVal tt rfl rfl rfl rfl rfl trivial ?_
      refine vNil ?_
      change ∃ _, _
      exact ⟨(i13 + (1 : Int)), (En.of ⟨rfl, rfl, trivial⟩ trivial ⟨rfl, trivial⟩), h⟩
    ·replace h := cnd_f hb11 h
     iterate 10 refine cNoT rfl rfl rfl rfl hb11 rfl rfl ?_
     refine cPickF rfl (wNone rfl) rfl rfl rfl hb11 rfl ?_
     refine cNil ?_
     change VC _ _ _ _
     refine vCondF rfl rfl ?_
     refine vSkip ?_
     change VC _ _ _ _
     refine vRegion ?_
     refine oVal tt rfl rfl rfl rfl rfl trivial ?_
     obtain ⟨hg15, h⟩ := grd_inv h
     refine oVal tt rfl rfl rfl rfl rfl hg15 ?_
     refine oVal tt rfl rfl rfl rfl rfl trivial ?_
     refine vNil ?_
     change ∃ _, _
     exact ⟨(i13 + (1 : Int)), (En.of ⟨rfl, rfl, trivial⟩ trivial ⟨rfl, trivial⟩), h⟩
   ·replace h := cnd_f hb8 h
    refine vExit ?_
    change ∃ _, _
    exact ⟨(), (En.of ⟨rfl, trivial⟩ trivial ⟨rfl, trivial⟩), h⟩
 ·intro k h
  refine vBlock ?_
  refine vLoopS (α := Int) (fun (i19 : Int) => (⟨[(1, .ptr 1 0), (3, .int i19)], [], [(1, some [.int p_0.g.n, .ro false (.pairs p_0.g.bars), .ro false (.ints p_0.ground)])]⟩ : PS)) (S_IsPinned_l2 N p_0 k) h (En.of ⟨rfl, rfl, trivial⟩ trivial ⟨rfl, trivial⟩) (fun _ => rfl) ?_
  rintro n i19 h
  rw [S_IsPinned_l2] at h
  show VC _ _ _ (⟨[(1, .ptr 1 0), (3, .int i19)], [], [(1, some [.int p_0.g.n, .ro false (.pairs p_0.g.bars), .ro false (.ints p_0.ground)])]⟩ : PS)
  iterate 2 refine vSeq ?_
  refine vRegion ?_
  iterate 5 refine oVal tt rfl rfl rfl rfl rfl trivial ?_
  refine vNil ?_
  change VC _ _ _ _
  refine vCond rfl (fun hb16 => ?_) (fun hb16 => ?_)
  ·replace h := cnd_t hb16 h
   refine vSkip ?_
   change VC _ _ _ _
   refine vSeq ?_
   refine vBlock ?_
   refine vSeq ?_
   refine vRegionD (by kernel_rfl) (by kernel_rfl) ?_
   iterate 3 refine cVal tt rfl (wNone rfl) rfl rfl rfl trivial ?_
   obtain ⟨hg17, h⟩ := grd_inv h
   refine cVal tt rfl (wNone rfl) rfl rfl rfl hg17 ?_
   iterate 3 refine cVal tt rfl (wNone rfl) rfl rfl rfl trivial ?_
   refine cSplit rfl rfl rfl (fun hb18 => ?_) (fun hb18 => ?_)
   ·replace h := cnd_t hb18 h
    iterate 9 refine cNoF rfl rfl rfl rfl hb18 rfl rfl ?_
    refine cPickT rfl (wNone rfl) rfl rfl rfl hb18 rfl ?_
    refine cVal tt rfl (wNone rfl) rfl rfl rfl trivial ?_
    iterate 3 refine cNoF rfl rfl rfl rfl rfl rfl rfl ?_
    iterate 12 refine cNoU rfl rfl rfl rfl rfl ?_
    refine cNoF rfl rfl rfl rfl rfl rfl rfl ?_
    refine cPickT rfl (wNone rfl) rfl rfl rfl rfl rfl ?_
    refine cNil ?_
    change VC _ _ _ _
    refine vCondT rfl rfl ?_
    refine vSeq ?_
    refine vRegion ?_
    refine oVal tt rfl rfl rfl rfl rfl trivial ?_
    refine vNil ?_
    change VC _ _ _ _
    refine vRet ?_
    change ∃ _, _
    cases h
    exact ⟨[], _, rfl, trivial, rfl, (.eq rfl), rfl⟩
   ·replace h := cnd_f hb18 h
    iterate 3 refine cVal tt rfl (wSome rfl rfl rfl rfl hb18) rfl rfl rfl trivial ?_
    refine cVal tt rfl (wSome rfl rfl rfl rfl hb18) rfl rfl rfl hg17 ?_
    iterate 5 refine cVal tt rfl (wSome rfl rfl rfl rfl hb18) rfl rfl rfl trivial ?_
    refine cPickF rfl (wNone rfl) rfl rfl rfl hb18 rfl ?_
    refine cVal tt rfl (wNone rfl) rfl rfl rfl trivial ?_
    refine cSplit rfl rfl rfl (fun hb19 => ?_) (fun hb19 => ?_)
    ·replace h := cnd_t hb19 h
     iterate 3 refine cNoF rfl rfl rfl rfl hb19 rfl rfl ?_
     iterate 12 refine cNoU rfl rfl rfl rfl rfl ?_
     refine cNoF rfl rfl rfl rfl hb19 rfl rfl ?_
     refine cPickT rfl (wNone rfl) rfl rfl rfl hb19 rfl ?_
     refine cNil ?_
     change VC _ _ _ _
     refine vCondT rfl rfl ?_
     refine vSeq ?_
     refine vRegion ?_
     refine oVal tt rfl rfl rfl rfl rfl trivial ?_
     refine vNil ?_
     change VC _ _ _ _
     refine vRet ?_
     change ∃ _, _
     cases h
     exact ⟨[], _, rfl, trivial, rfl, (.eq rfl), rfl⟩
    ·replace h := cnd_f hb19 h
     iterate 3 refine cVal tt rfl (wSome rfl rfl rfl rfl hb19) rfl rfl rfl trivial ?_
     refine cSplit rfl rfl rfl (fun hb20 => ?_) (fun hb20 => ?_)
     ·replace h := cnd_t hb20 h
      iterate 3 refine cVal tt rfl (wSome rfl rfl rfl rfl hb20) rfl rfl rfl trivial ?_
      obtain ⟨hg21, h⟩ := grd_inv h
      refine cVal tt rfl (wSome rfl rfl rfl rfl hb20) rfl rfl rfl hg21 ?_
      obtain ⟨hg22, h⟩ := grd_inv h
      refine cVal tt rfl (wSome rfl rfl rfl rfl hb20) rfl rfl rfl hg22 ?_
      iterate 4 refine cVal tt rfl (wSome rfl rfl rfl rfl hb20) rfl rfl rfl trivial ?_
      refine cVal tt rfl (wSome rfl rfl rfl rfl hb20) rfl rfl rfl hg17 ?_
      iterate 2 refine cVal tt rfl (wSome rfl rfl rfl rfl hb20) rfl rfl rfl trivial ?_
      refine cPickT rfl (wSome rfl rfl rfl rfl hb19) rfl rfl rfl hb20 rfl ?_
      refine cPickF rfl (wNone rfl) rfl rfl rfl hb19 rfl ?_
      refine cNil ?_
      change VC _ _ _ _
      refine vCond rfl (fun hb23 => ?_) (fun hb23 => ?_)
      ·replace h := cnd_t hb23 h
       refine vSeq ?_
       refine vRegion ?_
       refine oVal tt rfl rfl rfl rfl rfl trivial ?_
       refine vNil ?_
       change VC _ _ _ _
       refine vRet ?_
       change ∃ _, _
       cases h
       exact ⟨[], _, rfl, trivial, rfl, (.eq rfl), rfl⟩
      ·replace h := cnd_f hb23 h
       refine vSkip ?_
       change VC _ _ _ _
       refine vRegion ?_
       refine oVal tt rfl rfl rfl rfl rfl trivial ?_
       obtain ⟨hg24, h⟩ := grd_inv h
       refine oVal tt rfl rfl rfl rfl rfl hg24 ?_
       refine oVal tt rfl rfl rfl rfl rfl trivial ?_
       refine vNil ?_
       change ∃ _, _
       exact ⟨(i19 + (1 : Int)), (En.of ⟨rfl, rfl, trivial⟩ trivial ⟨rfl, trivial⟩), h⟩
     ·replace h := cnd_f hb20 h
      iterate 12 refine cNoT rfl rfl rfl rfl hb20 rfl rfl ?_
      refine cPickF rfl (wSome rfl rfl rfl rfl hb19) rfl rfl rfl hb20 rfl ?_
      refine cPickF rfl (wNone rfl) rfl rfl rfl hb19 rfl ?_
      refine cNil ?_
      change VC _ _ _ _
      refine vCondF rfl rfl ?_
      refine vSkip ?_
      change VC _ _ _ _
      refine vRegion ?_
      refine oVal tt rfl rfl rfl rfl rfl trivial ?_
      obtain ⟨hg25, h⟩ := grd_inv h
      refine oVal tt rfl rfl rfl rfl rfl hg25 ?_
      refine oVal tt rfl rfl rfl rfl rfl trivial ?_
      refine vNil ?_
      change ∃ _, _
      exact ⟨(i19 + (1 : Int)), (En.of ⟨rfl, rfl, trivial⟩ trivial ⟨rfl, trivial⟩), h⟩
  ·replace h := cnd_f hb16 h
   refine vExit ?_
   change ∃ _, _
   exact ⟨(), (En.of ⟨rfl, trivial⟩ trivial ⟨rfl, trivial⟩), h⟩
def S_InnerPoints_l1 (N : Nat) (p_0 : Pin) (k : (List Int) → Option (List Int)) : Nat → ((List Int) × Int) → Option (List Int)
 | 0, _ => none
 | n + 1, (l17, i18) =>
  cnd (decide (i18 < p_0.g.n)) (
   (S_IsPinned N p_0).bind fun v21 =>
   cnd v21 (
    (S_l2Has N p_0.ground i18).bind fun v22 =>
    cnd (!v22) (
     grd (l17.length + 1 ≤ 4294967296) <|
     grd (Rg64 (i18 + (1 : Int))) <|
     S_InnerPoints_l1 N p_0 k n ((l17 ++ ([i18] : List Int)), (i18 + (1 : Int)))) (
     grd (Rg64 (i18 + (1 : Int))) <|
     S_InnerPoints_l1 N p_0 k n (l17, (i18 + (1 : Int))))) (
    k l17)) (
   k l17)
def S_InnerPoints (N : Nat) (p_0 : Pin) : Option (List Int) :=
 S_InnerPoints_l1 N p_0 (fun (l11 : List Int) =>
    some l11) N (([] : List Int), (0 : Int))
def G_Index_int_l1 (N : Nat) (s_0 : List Int) (v_1 : Int) (k : Unit → Option (Int)) : Nat → Int → Option (Int)
 | 0, _ => none
 | n + 1, x3 =>
  cnd (decide (x3 < (s_0.length : Int))) (
   grd (0 ≤ x3 ∧ x3 < (s_0.length : Int)) <|
   cnd (v_1 == (s_0.getD ((x3).toNat) 0)) (
    some x3) (
    grd (Rg64 (x3 + (1 : Int))) <|
    G_Index_int_l1 N s_0 v_1 k n (x3 + (1 : Int)))) (
   k ())
def G_Index_int (N : Nat) (s_0 : List Int) (v_1 : Int) : Option (Int) :=
 G_Index_int_l1 N s_0 v_1 (fun (_ : Unit) =>
    some (-1 : Int)) N (0 : Int)
set_option maxRecDepth 20000 in
set_option maxHeartbeats 1600000 in
theorem G_Index_int_w (N : Nat) (s_0 : List Int) (v_1 : Int) (r : Int) (h : G_Index_int N s_0 v_1 = some r) : PCall Try.prog 176 [.ro false (.ints s_0), .int v_1] [] (.int r) := by
 unfold G_Index_int at h
 refine pcall_intro (TT := TT) tt Try.func176 rfl rfl Try.ntmps176 (congrArg Array.toList Try.results176) rfl rfl fun w0 => ?_
 refine vSeq ?_
 refine vRegion ?_
 refine oVal tt rfl rfl rfl rfl rfl trivial ?_
 refine vNil ?_
 change VC _ _ _ _
 iterate 2 refine vSeq ?_
 refine vRegion ?_
 iterate 3 refine oVal tt rfl rfl rfl rfl rfl trivial ?_
 refine vNil ?_
 change VC _ _ _ _
 refine vJoin (F := fun k => G_Index_int_l1 N s_0 v_1 k) h (α := Unit) (J := fun (_ : Unit) => (⟨[], [], []⟩ : PS)) ?_ ?_
 ·rintro ⟨⟩ h
  show VC _ _ _ (⟨[], [], []⟩ : PS)
  refine vSeq ?_
  refine vRegion ?_
  refine oVal tt rfl rfl rfl rfl rfl trivial ?_
  refine vNil ?_
  change VC _ _ _ _
  refine vRet ?_
  change ∃ _, _
  cases h
  exact ⟨[], _, rfl, trivial, rfl, (.eq rfl), rfl⟩
 ·intro k h
  refine vBlock ?_
  refine vLoopS (α := Int) (fun (x3 : Int) => (⟨[(0, .ro false (.ints s_0)), (1, .int v_1), (7, .int (s_0.length : Int)), (8, .int x3)], [], []⟩ : PS)) (G_Index_int_l1 N s_0 v_1 k) h (En.of ⟨rfl, rfl, rfl, rfl, trivial⟩ trivial trivial) (fun _ => rfl) ?_
  rintro n x3 h
  rw [G_Index_int_l1] at h
  show VC _ _ _ (⟨[(0, .ro false (.ints s_0)), (1, .int v_1), (7, .int (s_0.length : Int)), (8, .int x3)], [], []⟩ : PS)
  refine vSeq ?_
  refine vRegion ?_
  refine oVal tt rfl rfl rfl rfl rfl trivial ?_
  refine vNil ?_
  change VC _ _ _ _
  refine vSeq ?_
  refine vCond rfl (fun hb1 => ?_) (fun hb1 => ?_)
  ·replace h := cnd_t hb1 h
   refine vSkip ?_
   change VC _ _ _ _
   refine vSeq ?_
   refine vBlock ?_
   refine vSeq ?_
   refine vRegion ?_
   iterate 2 refine oVal tt rfl rfl rfl rfl rfl trivial ?_
   refine vNil ?_
   change VC _ _ _ _
   refine vSeq ?_
   refine vRegion ?_
   iterate 3 refine oVal tt rfl rfl rfl rfl rfl trivial ?_
   obtain ⟨hg2, h⟩ := grd_inv h
   refine oVal tt rfl rfl rfl rfl rfl hg2 ?_
   iterate 2 refine oVal tt rfl rfl rfl rfl rfl trivial ?_
   refine vNil ?_
   change VC _ _ _ _
   refine vCond rfl (fun hb3 => ?_) (fun hb3 => ?_)
   ·replace h := cnd_t hb3 h
    refine vSeq ?_
    refine vRegion ?_
    iterate 2 refine oVal tt rfl rfl rfl rfl rfl trivial ?_
    refine vNil ?_
    change VC _ _ _ _
    refine vRet ?_
    change ∃ _, _
    cases h
    exact ⟨[], _, rfl, trivial, rfl, (.eq rfl), rfl⟩
   ·replace h := cnd_f hb3 h
    refine vSkip ?_
    change VC _ _ _ _
    refine vRegion ?_
    obtain ⟨hg4, h⟩ := grd_inv h
    refine oVal tt rfl rfl rfl rfl rfl hg4 ?_
    refine oVal tt rfl rfl rfl rfl rfl trivial ?_
    refine vNil ?_
    change ∃ _, _
    exact ⟨(x3 + (1 : Int)), (En.of ⟨rfl, rfl, rfl, rfl, trivial⟩ trivial trivial), h⟩
  ·replace h := cnd_f hb1 h
   refine vExit ?_
   change ∃ _, _
   exact ⟨(), (En.of trivial trivial trivial), h⟩
end Go.Proofs.Ytcljhpldfanhkaa
namespace Go.Proofs.Ytcljhpldfanhkaa
open Go.RowKit
end Go.Proofs.Ytcljhpldfanhkaa
namespace Go.Proofs.Ytcljhpldfanhkaa
open Go.RowKit
def G_Contains_int (N : Nat) (s_0 : List Int) (v_1 : Int) : Option (Bool) :=
 (G_Index_int N s_0 v_1).bind fun v1 =>
 some (decide (v1 ≥ (0 : Int)))
set_option maxRecDepth 20000 in
set_option maxHeartbeats 1600000 in
theorem G_Contains_int_w (N : Nat) (s_0 : List Int) (v_1 : Int) (r : Bool) (h : G_Contains_int N s_0 v_1 = some r) : PCall Try.prog 119 [.ro false (.ints s_0), .int v_1] [] (.bool r) := by
 unfold G_Contains_int at h
 refine pcall_intro (TT := TT) tt Try.func119 rfl rfl Try.ntmps119 (congrArg Array.toList Try.results119) rfl rfl fun w0 => ?_
 refine vSeq ?_
 refine vRegion ?_
 refine oVal tt rfl rfl rfl rfl rfl trivial ?_
 refine vNil ?_
 change VC _ _ _ _
 refine vSeq ?_
 refine vRegion ?_
 iterate 2 refine oVal tt rfl rfl rfl rfl rfl trivial ?_
 obtain ⟨v1, hc1, h⟩ := bind_inv h
 refine oCall (G_Index_int_w N s_0 v_1 v1 hc1) rfl rfl rfl rfl rfl rfl rfl rfl ⟨rfl, rfl, trivial⟩ ?_
 iterate 2 refine oVal tt rfl rfl rfl rfl rfl trivial ?_
 refine vNil ?_
 change VC _ _ _ _
 refine vRet ?_
 change ∃ _, _
 cases h
 exact ⟨[], _, rfl, trivial, rfl, (.eq rfl), rfl⟩
def I_IsPinned_l1 (N : Nat) (p_0 : Pin) (k : Unit → Option (Bool)) : Nat → Int → Option (Bool)
 | 0, _ => none
 | n + 1, x17 =>
  cnd (decide (x17 < (p_0.g.bars.length : Int))) (
   grd (0 ≤ x17 ∧ x17 < (p_0.g.bars.length : Int)) <|
   (G_Contains_int N p_0.ground ((p_0.g.bars.getD ((x17).toNat) (0, 0)).1)).bind fun v20 =>
   cnd v20 (
    (G_Contains_int N p_0.ground ((p_0.g.bars.getD ((x17).toNat) (0, 0)).2)).bind fun v21 =>
    cnd v21 (
     some false) (
     grd (Rg64 (x17 + (1 : Int))) <|
     I_IsPinned_l1 N p_0 k n (x17 + (1 : Int)))) (
    grd (Rg64 (x17 + (1 : Int))) <|
    I_IsPinned_l1 N p_0 k n (x17 + (1 : Int)))) (
   k ())
def I_IsPinned_l2 (N : Nat) (p_0 : Pin) (k : Unit → Option (Bool)) : Nat → Int → Option (Bool)
 | 0, _ => none
 | n + 1, x24 =>
  cnd (decide (x24 < (p_0.ground.length : Int))) (
   grd (0 ≤ x24 ∧ x24 < (p_0.ground.length : Int)) <|
   (M_Graph_has N p_0.g (p_0.ground.getD ((x24).toNat) 0)).bind fun v26 =>
   cnd (!v26) (
    some false) (
    cnd (decide (x24 > (0 : Int))) (
     grd (Rg64 (x24 - (1 : Int))) <|
     grd (0 ≤ (x24 - (1 : Int)) ∧ (x24 - (1 : Int)) < (p_0.ground.length : Int)) <|
     cnd (decide ((p_0.ground.getD (((x24 - (1 : Int))).toNat) 0) ≥ (p_0.ground.getD ((x24).toNat) 0))) (
      some false) (
      grd (Rg64 (x24 + (1 : Int))) <|
      I_IsPinned_l2 N p_0 k n (x24 + (1 : Int)))) (
     grd (Rg64 (x24 + (1 : Int))) <|
     I_IsPinned_l2 N p_0 k n (x24 + (1 : Int))))) (
   k ())
def I_IsPinned (N : Nat) (p_0 : Pin) : Option (Bool) :=
 (I_IsGraph N p_0.g).bind fun v1 =>
 cnd (!v1) (
  some false) (
  (I_hasDoubles N p_0.g).bind fun v2 =>
  cnd v2 (
   some false) (
   cnd (decide ((p_0.ground.length : Int) < (2 : Int))) (
    some false) (
    cnd (decide ((p_0.g.bars.length : Int) > (15 : Int))) (
     some false) (
     grd (Rg64 ((2 : Int) * (p_0.ground.length : Int))) <|
     grd (Rg64 ((p_0.g.bars.length : Int) + ((2 : Int) * (p_0.ground.length : Int)))) <|
     grd (Rg64 (((p_0.g.bars.length : Int) + ((2 : Int) * (p_0.ground.length : Int))) - (3 : Int))) <|
     cnd (decide ((((p_0.g.bars.length : Int) + ((2 : Int) * (p_0.ground.length : Int))) - (3 : Int)) > (24 : Int))) (
      some false) (
      I_IsPinned_l2 N p_0 (fun (_ : Unit) =>
         I_IsPinned_l1 N p_0 (fun (_ : Unit) =>
            some true) N (0 : Int)) N (0 : Int))))))
set_option maxRecDepth 20000 in
set_option maxHeartbeats 1600000 in
theorem I_IsPinned_w (N : Nat) (p_0 : Pin) (r : Bool) (h : I_IsPinned N p_0 = some r) : PCall Try.prog 74 [pD p_0] [] (.bool r) := by
 unfold I_IsPinned at h
 refine pcall_intro (TT := TT) tt Try.func74 rfl rfl Try.ntmps74 (congrArg Array.toList Try.results74) rfl rfl fun w0 => ?_
 refine vSeq ?_
 refine vRegion ?_
 refine oBox rfl rfl rfl rfl rfl rfl rfl rfl rfl ?_
 refine oVal tt rfl rfl rfl rfl rfl trivial ?_
 refine vNil ?_
 change VC _ _ _ _
 refine vSeq ?_
 refine vRegion ?_
 iterate 2 refine oVal tt rfl rfl rfl rfl rfl trivial ?_
 refine oAlloc tt rfl rfl rfl rfl rfl rfl rfl rfl rfl ?_
 refine oStore tt rfl rfl rfl rfl rfl rfl rfl rfl rfl rfl rfl ⟨trivial, trivial, trivial⟩ ?_
 refine vNil ?_
 change VC _ _ _ _
 iterate 2 refine vSeq ?_
 refine vRegion ?_
 refine oVal tt rfl rfl rfl rfl rfl trivial ?_
 obtain ⟨v1, hc1, h⟩ := bind_inv h
 refine oCall (I_IsGraph_w N p_0.g v1 hc1) rfl rfl rfl rfl rfl rfl rfl rfl ⟨⟨rfl, rfl, trivial⟩, trivial⟩ ?_
 iterate 2 refine oVal tt rfl rfl rfl rfl rfl trivial ?_
 refine oSplit rfl rfl rfl (fun hb2 => ?_) (fun hb2 => ?_)
 ·replace h := cnd_t hb2 h
  iterate 2 refine oNoF rfl rfl rfl rfl hb2 rfl rfl ?_
  refine oPick rfl rfl rfl rfl rfl hb2 rfl ?_
  refine oVal tt rfl rfl rfl rfl rfl trivial ?_
  iterate 4 refine oNoF rfl rfl rfl rfl rfl rfl rfl ?_
  refine oPick rfl rfl rfl rfl rfl rfl rfl ?_
  refine oVal tt rfl rfl rfl rfl rfl trivial ?_
  iterate 4 refine oNoF rfl rfl rfl rfl rfl rfl rfl ?_
  refine oPick rfl rfl rfl rfl rfl rfl rfl ?_
  refine oVal tt rfl rfl rfl rfl rfl trivial ?_
  iterate 10 refine oNoF rfl rfl rfl rfl rfl rfl rfl ?_
  refine oPick rfl rfl rfl rfl rfl rfl rfl ?_
  refine vNil ?_
  change VC _ _ _ _
  refine vCondT rfl rfl ?_
  refine vSeq ?_
  refine vRegion ?_
  refine oVal tt rfl rfl rfl rfl rfl trivial ?_
  refine vNil ?_
  change VC _ _ _ _
  refine vRet ?_
  change ∃ _, _
  cases h
  exact ⟨[], _, rfl, trivial, rfl, (.eq rfl), rfl⟩
 ·replace h := cnd_f hb2 h
  refine oValG tt rfl rfl rfl rfl rfl hb2 rfl rfl rfl trivial ?_
  obtain ⟨v2, hc3, h⟩ := bind_inv h
  refine oCallG (I_hasDoubles_w N p_0.g v2 hc3) rfl rfl rfl rfl hb2 rfl rfl rfl rfl rfl rfl rfl ⟨⟨rfl, rfl, trivial⟩, trivial⟩ ?_
  refine oPickF rfl rfl rfl rfl rfl hb2 rfl ?_
  refine oVal tt rfl rfl rfl rfl rfl trivial ?_
  refine oSplit rfl rfl rfl (fun hb4 => ?_) (fun hb4 => ?_)
  ·replace h := cnd_t hb4 h
   iterate 4 refine oNoF rfl rfl rfl rfl hb4 rfl rfl ?_
   refine oPick rfl rfl rfl rfl rfl hb4 rfl ?_
   refine oVal tt rfl rfl rfl rfl rfl trivial ?_
   iterate 4 refine oNoF rfl rfl rfl rfl rfl rfl rfl ?_
   refine oPick rfl rfl rfl rfl rfl rfl rfl ?_
   refine oVal tt rfl rfl rfl rfl rfl trivial ?_
   iterate 10 refine oNoF rfl rfl rfl rfl rfl rfl rfl ?_
   refine oPick rfl rfl rfl rfl rfl rfl rfl ?_
   refine vNil ?_
   change VC _ _ _ _
   refine vCondT rfl rfl ?_
   refine vSeq ?_
   refine vRegion ?_
   refine oVal tt rfl rfl rfl rfl rfl trivial ?_
   refine vNil ?_
   change VC _ _ _ _
   refine vRet ?_
   change ∃ _, _
   cases h
   exact ⟨[], _, rfl, trivial, rfl, (.eq rfl), rfl⟩
  ·replace h := cnd_f hb4 h
   iterate 4 refine oValG tt rfl rfl rfl rfl rfl hb4 rfl rfl rfl trivial ?_
   refine oPickF rfl rfl rfl rfl rfl hb4 rfl ?_
   refine oVal tt rfl rfl rfl rfl rfl trivial ?_
   refine oSplit rfl rfl rfl (fun hb5 => ?_) (fun hb5 => ?_)
   ·replace h := cnd_t hb5 h
    iterate 4 refine oNoF rfl rfl rfl rfl hb5 rfl rfl ?_
    refine oPick rfl rfl rfl rfl rfl hb5 rfl ?_
    refine oVal tt rfl rfl rfl rfl rfl trivial ?_
    iterate 10 refine oNoF rfl rfl rfl rfl rfl rfl rfl ?_
    refine oPick rfl rfl rfl rfl rfl rfl rfl ?_
    refine vNil ?_
    change VC _ _ _ _
    refine vCondT rfl rfl ?_
    refine vSeq ?_
    refine vRegion ?_
    refine oVal tt rfl rfl rfl rfl rfl trivial ?_
    refine vNil ?_
    change VC _ _ _ _
    refine vRet ?_
    change ∃ _, _
    cases h
    exact ⟨[], _, rfl, trivial, rfl, (.eq rfl), rfl⟩
   ·replace h := cnd_f hb5 h
    iterate 4 refine oValG tt rfl rfl rfl rfl rfl hb5 rfl rfl rfl trivial ?_
    refine oPickF rfl rfl rfl rfl rfl hb5 rfl ?_
    refine oVal tt rfl rfl rfl rfl rfl trivial ?_
    refine oSplit rfl rfl rfl (fun hb6 => ?_) (fun hb6 => ?_)
    ·replace h := cnd_t hb6 h
     iterate 10 refine oNoF rfl rfl rfl rfl hb6 rfl rfl ?_
     refine oPick rfl rfl rfl rfl rfl hb6 rfl ?_
     refine vNil ?_
     change VC _ _ _ _
     refine vCondT rfl rfl ?_
     refine vSeq ?_
     refine vRegion ?_
     refine oVal tt rfl rfl rfl rfl rfl trivial ?_
     refine vNil ?_
     change VC _ _ _ _
     refine vRet ?_
     change ∃ _, _
     cases h
     exact ⟨[], _, rfl, trivial, rfl, (.eq rfl), rfl⟩
    ·replace h := cnd_f hb6 h
     iterate 6 refine oValG tt rfl rfl rfl rfl rfl hb6 rfl rfl rfl trivial ?_
     obtain ⟨hg7, h⟩ := grd_inv h
     refine oValG tt rfl rfl rfl rfl rfl hb6 rfl rfl rfl hg7 ?_
     obtain ⟨hg8, h⟩ := grd_inv h
     refine oValG tt rfl rfl rfl rfl rfl hb6 rfl rfl rfl hg8 ?_
     obtain ⟨hg9, h⟩ := grd_inv h
     refine oValG tt rfl rfl rfl rfl rfl hb6 rfl rfl rfl hg9 ?_
     refine oValG tt rfl rfl rfl rfl rfl hb6 rfl rfl rfl trivial ?_
     refine oPickF rfl rfl rfl rfl rfl hb6 rfl ?_
     refine vNil ?_
     change VC _ _ _ _
     refine vCond rfl (fun hb10 => ?_) (fun hb10 => ?_)
     ·replace h := cnd_t hb10 h
      refine vSeq ?_
      refine vRegion ?_
      refine oVal tt rfl rfl rfl rfl rfl trivial ?_
      refine vNil ?_
      change VC _ _ _ _
      refine vRet ?_
      change ∃ _, _
      cases h
      exact ⟨[], _, rfl, trivial, rfl, (.eq rfl), rfl⟩
     ·replace h := cnd_f hb10 h
      refine vSkip ?_
      change VC _ _ _ _
      iterate 2 refine vSeq ?_
      refine vRegion ?_
      iterate 4 refine oVal tt rfl rfl rfl rfl rfl trivial ?_
      refine vNil ?_
      change VC _ _ _ _
      refine vJoin (F := fun k => I_IsPinned_l2 N p_0 k) h (α := Unit) (J := fun (_ : Unit) => (⟨[(1, .ptr 1 0), (3, .ptr 3 0)], [], [(1, some [.int p_0.g.n, .ro false (.pairs p_0.g.bars), .ro false (.ints p_0.ground)]), (3, some [.int p_0.g.n, .ro false (.pairs p_0.g.bars)])]⟩ : PS)) ?_ ?_
      ·rintro ⟨⟩ h
       show VC _ _ _ (⟨[(1, .ptr 1 0), (3, .ptr 3 0)], [], [(1, some [.int p_0.g.n, .ro false (.pairs p_0.g.bars), .ro false (.ints p_0.ground)]), (3, some [.int p_0.g.n, .ro false (.pairs p_0.g.bars)])]⟩ : PS)
       iterate 2 refine vSeq ?_
       refine vRegion ?_
       iterate 4 refine oVal tt rfl rfl rfl rfl rfl trivial ?_
       refine vNil ?_
       change VC _ _ _ _
       refine vJoin (F := fun k => I_IsPinned_l1 N p_0 k) h (α := Unit) (J := fun (_ : Unit) => (⟨[], [], []⟩ : PS)) ?_ ?_
       ·rintro ⟨⟩ h
        show VC _ _ _ (⟨[], [], []⟩ : PS)
        refine vSeq ?_
        refine vRegion ?_
        refine oVal tt rfl rfl rfl rfl rfl trivial ?_
        refine vNil ?_
        change VC _ _ _ _
        refine vRet ?_
        change ∃ _, _
        cases h
        exact ⟨[], _, rfl, trivial, rfl, (.eq rfl), rfl⟩
       ·intro k h
        refine vBlock ?_
        refine vLoopS (α := Int) (fun (x17 : Int) => (⟨[(1, .ptr 1 0), (69, .ro false (.pairs p_0.g.bars)), (70, .int (p_0.g.bars.length : Int)), (71, .int x17)], [], [(1, some [.int p_0.g.n, .ro false (.pairs p_0.g.bars), .ro false (.ints p_0.ground)])]⟩ : PS)) (I_IsPinned_l1 N p_0 k) h (En.of ⟨rfl, rfl, rfl, rfl, trivial⟩ trivial ⟨rfl, trivial⟩) (fun _ => rfl) ?_
        rintro n x17 h
        rw [I_IsPinned_l1] at h
        show VC _ _ _ (⟨[(1, .ptr 1 0), (69, .ro false (.pairs p_0.g.bars)), (70, .int (p_0.g.bars.length : Int)), (71, .int x17)], [], [(1, some [.int p_0.g.n, .ro false (.pairs p_0.g.bars), .ro false (.ints p_0.ground)])]⟩ : PS)
        refine vSeq ?_
        refine vRegion ?_
        refine oVal tt rfl rfl rfl rfl rfl trivial ?_
        refine vNil ?_
        change VC _ _ _ _
        refine vSeq ?_
        refine vCond rfl (fun hb11 => ?_) (fun hb11 => ?_)
        ·replace h := cnd_t hb11 h
         refine vSkip ?_
         change VC _ _ _ _
         refine vSeq ?_
         refine vBlock ?_
         refine vSeq ?_
         refine vRegion ?_
         obtain ⟨hg12, h⟩ := grd_inv h
         refine oVal tt rfl rfl rfl rfl rfl hg12 ?_
         refine oVal tt rfl rfl rfl rfl rfl trivial ?_
         refine oAlloc tt rfl rfl rfl rfl rfl rfl rfl rfl rfl ?_
         refine oStore tt rfl rfl rfl rfl rfl rfl rfl rfl rfl rfl rfl ⟨trivial, trivial, trivial⟩ ?_
         refine vNil ?_
         change VC _ _ _ _
         refine vSeq ?_
         refine vRegion ?_
         iterate 4 refine oVal tt rfl rfl rfl rfl rfl trivial ?_
         obtain ⟨v20, hc13, h⟩ := bind_inv h
         refine oCall (G_Contains_int_w N p_0.ground ((p_0.g.bars.getD ((x17).toNat) (0, 0)).1) v20 hc13) rfl rfl rfl rfl rfl rfl rfl rfl ⟨rfl, rfl, trivial⟩ ?_
         refine oVal tt rfl rfl rfl rfl rfl trivial ?_
         refine oSplit rfl rfl rfl (fun hb14 => ?_) (fun hb14 => ?_)
         ·replace h := cnd_t hb14 h
          iterate 4 refine oValG tt rfl rfl rfl rfl rfl hb14 rfl rfl rfl trivial ?_
          obtain ⟨v21, hc15, h⟩ := bind_inv h
          refine oCallG (G_Contains_int_w N p_0.ground ((p_0.g.bars.getD ((x17).toNat) (0, 0)).2) v21 hc15) rfl rfl rfl rfl hb14 rfl rfl rfl rfl rfl rfl rfl ⟨rfl, rfl, trivial⟩ ?_
          refine oPick rfl rfl rfl rfl rfl hb14 rfl ?_
          refine vNil ?_
          change VC _ _ _ _
          refine vCond rfl (fun hb16 => ?_) (fun hb16 => ?_)
          ·replace h := cnd_t hb16 h
           refine vSeq ?_
           refine vRegion ?_
           refine oVal tt rfl rfl rfl rfl rfl trivial ?_
           refine vNil ?_
           change VC _ _ _ _
           refine vRet ?_
           change ∃ _, _
           cases h
           exact ⟨[], _, rfl, trivial, rfl, (.eq rfl), rfl⟩
          ·replace h := cnd_f hb16 h
           refine vSkip ?_
           change VC _ _ _ _
           refine vRegion ?_
           obtain ⟨hg17, h⟩ := grd_inv h
           refine oVal tt rfl rfl rfl rfl rfl hg17 ?_
           refine oVal tt rfl rfl rfl rfl rfl trivial ?_
           refine vNil ?_
           change ∃ _, _
           exact ⟨(x17 + (1 : Int)), (En.of ⟨rfl, rfl, rfl, rfl, trivial⟩ trivial ⟨rfl, trivial⟩), h⟩
         ·replace h := cnd_f hb14 h
          iterate 5 refine oNoT rfl rfl rfl rfl hb14 rfl rfl ?_
          refine oPickF rfl rfl rfl rfl rfl hb14 rfl ?_
          refine vNil ?_
          change VC _ _ _ _
          refine vCondF rfl rfl ?_
          refine vSkip ?_
          change VC _ _ _ _
          refine vRegion ?_
          obtain ⟨hg18, h⟩ := grd_inv h
          refine oVal tt rfl rfl rfl rfl rfl hg18 ?_
          refine oVal tt rfl rfl rfl rfl rfl trivial ?_
          refine vNil ?_
          change ∃ _, _
          exact ⟨(x17 + (1 : Int)), (En.of ⟨rfl, rfl, rfl, rfl, trivial⟩ trivial ⟨rfl, trivial⟩), h⟩
        ·replace h := cnd_f hb11 h
         refine vExit ?_
         change ∃ _, _
         exact ⟨(), (En.of trivial trivial trivial), h⟩
      ·intro k h
       refine vBlock ?_
       refine vLoopS (α := Int) (fun (x24 : Int) => (⟨[(1, .ptr 1 0), (3, .ptr 3 0), (42, .ro false (.ints p_0.ground)), (43, .int (p_0.ground.length : Int)), (44, .int x24)], [], [(1, some [.int p_0.g.n, .ro false (.pairs p_0.g.bars), .ro false (.ints p_0.ground)]), (3, some [.int p_0.g.n, .ro false (.pairs p_0.g.bars)])]⟩ : PS)) (I_IsPinned_l2 N p_0 k) h (En.of ⟨rfl, rfl, rfl, rfl, rfl, trivial⟩ trivial ⟨rfl, rfl, trivial⟩) (fun _ => rfl) ?_
       rintro n x24 h
       rw [I_IsPinned_l2] at h
       show VC _ _ _ (⟨[(1, .ptr 1 0), (3, .ptr 3 0), (42, .ro false (.ints p_0.ground)), (43, .int (p_0.ground.length : Int)), (44, .int x24)], [], [(1, some [.int p_0.g.n, .ro false (.pairs p_0.g.bars), .ro false (.ints p_0.ground)]), (3, some [.int p_0.g.n, .ro false (.pairs p_0.g.bars)])]⟩ : PS)
       refine vSeq ?_
       refine vRegion ?_
       refine oVal tt rfl rfl rfl rfl rfl trivial ?_
       refine vNil ?_
       change VC _ _ _ _
       refine vSeq ?_
       refine vCond rfl (fun hb19 => ?_) (fun hb19 => ?_)
       ·replace h := cnd_t hb19 h
        refine vSkip ?_
        change VC _ _ _ _
        refine vSeq ?_
        refine vBlock ?_
        refine vSeq ?_
        refine vRegion ?_
        refine oVal tt rfl rfl rfl rfl rfl trivial ?_
        obtain ⟨hg20, h⟩ := grd_inv h
        refine oVal tt rfl rfl rfl rfl rfl hg20 ?_
        iterate 3 refine oVal tt rfl rfl rfl rfl rfl trivial ?_
        refine vNil ?_
        change VC _ _ _ _
        refine vSeq ?_
        refine vRegion ?_
        iterate 2 refine oVal tt rfl rfl rfl rfl rfl trivial ?_
        obtain ⟨v26, hc21, h⟩ := bind_inv h
        refine oCall (M_Graph_has_w N p_0.g (p_0.ground.getD ((x24).toNat) 0) v26 hc21) rfl rfl rfl rfl rfl rfl rfl rfl ⟨⟨rfl, rfl, trivial⟩, rfl, trivial⟩ ?_
        iterate 2 refine oVal tt rfl rfl rfl rfl rfl trivial ?_
        refine oSplit rfl rfl rfl (fun hb22 => ?_) (fun hb22 => ?_)
        ·replace h := cnd_t hb22 h
         iterate 3 refine oNoF rfl rfl rfl rfl hb22 rfl rfl ?_
         iterate 8 refine oNoU rfl rfl rfl rfl rfl ?_
         refine oNoF rfl rfl rfl rfl hb22 rfl rfl ?_
         refine oPick rfl rfl rfl rfl rfl hb22 rfl ?_
         refine vNil ?_
         change VC _ _ _ _
         refine vCondT rfl rfl ?_
         refine vSeq ?_
         refine vRegion ?_
         refine oVal tt rfl rfl rfl rfl rfl trivial ?_
         refine vNil ?_
         change VC _ _ _ _
         refine vRet ?_
         change ∃ _, _
         cases h
         exact ⟨[], _, rfl, trivial, rfl, (.eq rfl), rfl⟩
        ·replace h := cnd_f hb22 h
         iterate 3 refine oValG tt rfl rfl rfl rfl rfl hb22 rfl rfl rfl trivial ?_
         refine oSplit rfl rfl rfl (fun hb23 => ?_) (fun hb23 => ?_)
         ·replace h := cnd_t hb23 h
          iterate 3 refine oValG tt rfl rfl rfl rfl rfl hb23 rfl rfl rfl trivial ?_
          obtain ⟨hg24, h⟩ := grd_inv h
          refine oValG tt rfl rfl rfl rfl rfl hb23 rfl rfl rfl hg24 ?_
          obtain ⟨hg25, h⟩ := grd_inv h
          refine oValG tt rfl rfl rfl rfl rfl hb23 rfl rfl rfl hg25 ?_
          iterate 3 refine oValG tt rfl rfl rfl rfl rfl hb23 rfl rfl rfl trivial ?_
          refine oPickGT rfl rfl rfl rfl hb22 rfl rfl rfl rfl hb23 rfl ?_
          refine oPickF rfl rfl rfl rfl rfl hb22 rfl ?_
          refine vNil ?_
          change VC _ _ _ _
          refine vCond rfl (fun hb26 => ?_) (fun hb26 => ?_)
          ·replace h := cnd_t hb26 h
           refine vSeq ?_
           refine vRegion ?_
           refine oVal tt rfl rfl rfl rfl rfl trivial ?_
           refine vNil ?_
           change VC _ _ _ _
           refine vRet ?_
           change ∃ _, _
           cases h
           exact ⟨[], _, rfl, trivial, rfl, (.eq rfl), rfl⟩
          ·replace h := cnd_f hb26 h
           refine vSkip ?_
           change VC _ _ _ _
           refine vRegion ?_
           obtain ⟨hg27, h⟩ := grd_inv h
           refine oVal tt rfl rfl rfl rfl rfl hg27 ?_
           refine oVal tt rfl rfl rfl rfl rfl trivial ?_
           refine vNil ?_
           change ∃ _, _
           exact ⟨(x24 + (1 : Int)), (En.of ⟨rfl, rfl, rfl, rfl, rfl, trivial⟩ trivial ⟨rfl, rfl, trivial⟩), h⟩
         ·replace h := cnd_f hb23 h
          iterate 8 refine oNoT rfl rfl rfl rfl hb23 rfl rfl ?_
          refine oPickGF rfl rfl rfl rfl hb22 rfl rfl rfl rfl hb23 rfl ?_
          refine oPickF rfl rfl rfl rfl rfl hb22 rfl ?_
          refine vNil ?_
          change VC _ _ _ _
          refine vCondF rfl rfl ?_
          refine vSkip ?_
          change VC _ _ _ _
          refine vRegion ?_
          obtain ⟨hg28, h⟩ := grd_inv h
          refine oVal tt rfl rfl rfl rfl rfl hg28 ?_
          refine oVal tt rfl rfl rfl rfl rfl trivial ?_
          refine vNil ?_
          change ∃ _, _
          exact ⟨(x24 + (1 : Int)), (En.of ⟨rfl, rfl, rfl, rfl, rfl, trivial⟩ trivial ⟨rfl, rfl, trivial⟩), h⟩
       ·replace h := cnd_f hb19 h
        refine vExit ?_
        change ∃ _, _
        exact ⟨(), (En.of ⟨rfl, rfl, trivial⟩ trivial ⟨rfl, rfl, trivial⟩), h⟩
def I_InnerPoints_l1 (N : Nat) (p_0 : Pin) (k : (List Int) → Option (List Int)) : Nat → ((List Int) × Int) → Option (List Int)
 | 0, _ => none
 | n + 1, (l12, x13) =>
  cnd (decide (x13 < p_0.g.n)) (
   (G_Contains_int N p_0.ground x13).bind fun v15 =>
   cnd (!v15) (
    grd (l12.length + 1 ≤ 4294967296) <|
    grd (Rg64 (x13 + (1 : Int))) <|
    I_InnerPoints_l1 N p_0 k n ((l12 ++ ([x13] : List Int)), (x13 + (1 : Int)))) (
    grd (Rg64 (x13 + (1 : Int))) <|
    I_InnerPoints_l1 N p_0 k n (l12, (x13 + (1 : Int))))) (
   k l12)
def I_InnerPoints (N : Nat) (p_0 : Pin) : Option (List Int) :=
 (I_IsPinned N p_0).bind fun v1 =>
 cnd (!v1) (
  some ([] : List Int)) (
  I_InnerPoints_l1 N p_0 (fun (l8 : List Int) =>
     some l8) N (([] : List Int), (0 : Int)))
end Go.Proofs.Ytcljhpldfanhkaa
