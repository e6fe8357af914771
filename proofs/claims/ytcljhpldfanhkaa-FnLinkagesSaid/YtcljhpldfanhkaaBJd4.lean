/- Texts that the proof needs, put together: G11 G19 G20 Pj G22 Pk Pm M7 M8 M9 M10. -/
import Derived.Test.YtcljhpldfanhkaaBJd3
set_option linter.unusedVariables false
set_option linter.unusedSimpArgs false
namespace Go.Proofs.Ytcljhpldfanhkaa
open Go.RowKit
def I_isPlace (N : Nat) (p_0 : Int × Int) : Option (Bool) :=
 (I_within N p_0.1 (0 : Int) (4 : Int)).bind fun v1 =>
 cnd v1 (
  (I_within N p_0.2 (0 : Int) (4 : Int)).bind fun v2 =>
  some v2) (
  some false)
set_option maxRecDepth 20000 in
set_option maxHeartbeats 1600000 in
theorem I_isPlace_w (N : Nat) (p_0 : Int × Int) (r : Bool) (h : I_isPlace N p_0 = some r) : PCall Try.prog 132 [.agg [.int p_0.1, .int p_0.2]] [] (.bool r) := by
 unfold I_isPlace at h
 refine pcall_intro (TT := TT) tt Try.func132 rfl rfl Try.ntmps132 (congrArg Array.toList Try.results132) rfl rfl fun w0 => ?_
 refine vSeq ?_
 refine vRegion ?_
 refine oBox rfl rfl rfl rfl rfl rfl rfl rfl rfl ?_
 refine oVal tt rfl rfl rfl rfl rfl trivial ?_
 refine vNil ?_
 change VC _ _ _ _
 refine vSeq ?_
 refine vRegion ?_
 iterate 2 refine oVal tt rfl rfl rfl rfl rfl trivial ?_
 obtain ⟨v1, hc1, h⟩ := bind_inv h
 refine oCall (I_within_w N p_0.1 (0 : Int) (4 : Int) v1 hc1) rfl rfl rfl rfl rfl rfl rfl rfl ⟨rfl, rfl, rfl, trivial⟩ ?_
 refine oVal tt rfl rfl rfl rfl rfl trivial ?_
 refine oSplit rfl rfl rfl (fun hb2 => ?_) (fun hb2 => ?_)
 ·replace h := cnd_t hb2 h
  iterate 2 refine oValG tt rfl rfl rfl rfl rfl hb2 rfl rfl rfl trivial ?_
  obtain ⟨v2, hc3, h⟩ := bind_inv h
  refine oCallG (I_within_w N p_0.2 (0 : Int) (4 : Int) v2 hc3) rfl rfl rfl rfl hb2 rfl rfl rfl rfl rfl rfl rfl ⟨rfl, rfl, rfl, trivial⟩ ?_
  refine oPick rfl rfl rfl rfl rfl hb2 rfl ?_
  refine oVal tt rfl rfl rfl rfl rfl trivial ?_
  refine vNil ?_
  change VC _ _ _ _
  refine vRet ?_
  change ∃ _, _
  cases h
  exact ⟨[], _, rfl, trivial, rfl, (.eq rfl), rfl⟩
 ·replace h := cnd_f hb2 h
  iterate 3 refine oNoT rfl rfl rfl rfl hb2 rfl rfl ?_
  refine oPickF rfl rfl rfl rfl rfl hb2 rfl ?_
  refine oVal tt rfl rfl rfl rfl rfl trivial ?_
  refine vNil ?_
  change VC _ _ _ _
  refine vRet ?_
  change ∃ _, _
  cases h
  exact ⟨[], _, rfl, trivial, rfl, (.eq rfl), rfl⟩
def I_IsFramework_l1 (N : Nat) (f_0 : Frm) (k : Unit → Option (Bool)) : Nat → Int → Option (Bool)
 | 0, _ => none
 | n + 1, x8 =>
  cnd (decide (x8 < (f_0.g.bars.length : Int))) (
   grd (0 ≤ x8 ∧ x8 < (f_0.g.bars.length : Int)) <|
   cnd (decide (x8 > (0 : Int))) (
    grd (Rg64 (x8 - (1 : Int))) <|
    grd (0 ≤ (x8 - (1 : Int)) ∧ (x8 - (1 : Int)) < (f_0.g.bars.length : Int)) <|
    cnd (((f_0.g.bars.getD (((x8 - (1 : Int))).toNat) (0, 0)).1 == (f_0.g.bars.getD ((x8).toNat) (0, 0)).1) && ((f_0.g.bars.getD (((x8 - (1 : Int))).toNat) (0, 0)).2 == (f_0.g.bars.getD ((x8).toNat) (0, 0)).2)) (
     some false) (
     grd (0 ≤ ((f_0.g.bars.getD ((x8).toNat) (0, 0)).1) ∧ ((f_0.g.bars.getD ((x8).toNat) (0, 0)).1) < (f_0.places.length : Int)) <|
     grd (0 ≤ ((f_0.g.bars.getD ((x8).toNat) (0, 0)).2) ∧ ((f_0.g.bars.getD ((x8).toNat) (0, 0)).2) < (f_0.places.length : Int)) <|
     cnd (((f_0.places.getD (((f_0.g.bars.getD ((x8).toNat) (0, 0)).1).toNat) (0, 0)).1 == (f_0.places.getD (((f_0.g.bars.getD ((x8).toNat) (0, 0)).2).toNat) (0, 0)).1) && ((f_0.places.getD (((f_0.g.bars.getD ((x8).toNat) (0, 0)).1).toNat) (0, 0)).2 == (f_0.places.getD (((f_0.g.bars.getD ((x8).toNat) (0, 0)).2).toNat) (0, 0)).2)) (
      some false) (
      grd (Rg64 (x8 + (1 : Int))) <|
      I_IsFramework_l1 N f_0 k n (x8 + (1 : Int))))) (
    grd (0 ≤ ((f_0.g.bars.getD ((x8).toNat) (0, 0)).1) ∧ ((f_0.g.bars.getD ((x8).toNat) (0, 0)).1) < (f_0.places.length : Int)) <|
    grd (0 ≤ ((f_0.g.bars.getD ((x8).toNat) (0, 0)).2) ∧ ((f_0.g.bars.getD ((x8).toNat) (0, 0)).2) < (f_0.places.length : Int)) <|
    cnd (((f_0.places.getD (((f_0.g.bars.getD ((x8).toNat) (0, 0)).1).toNat) (0, 0)).1 == (f_0.places.getD (((f_0.g.bars.getD ((x8).toNat) (0, 0)).2).toNat) (0, 0)).1) && ((f_0.places.getD (((f_0.g.bars.getD ((x8).toNat) (0, 0)).1).toNat) (0, 0)).2 == (f_0.places.getD (((f_0.g.bars.getD ((x8).toNat) (0, 0)).2).toNat) (0, 0)).2)) (
     some false) (
     grd (Rg64 (x8 + (1 : Int))) <|
     I_IsFramework_l1 N f_0 k n (x8 + (1 : Int))))) (
   k ())
def I_IsFramework_l2 (N : Nat) (f_0 : Frm) (k : Unit → Option (Bool)) : Nat → Int → Option (Bool)
 | 0, _ => none
 | n + 1, x11 =>
  cnd (decide (x11 < (f_0.places.length : Int))) (
   grd (0 ≤ x11 ∧ x11 < (f_0.places.length : Int)) <|
   (I_isPlace N (f_0.places.getD ((x11).toNat) (0, 0))).bind fun v13 =>
   cnd (!v13) (
    some false) (
    grd (Rg64 (x11 + (1 : Int))) <|
    I_IsFramework_l2 N f_0 k n (x11 + (1 : Int)))) (
   k ())
def I_IsFramework (N : Nat) (f_0 : Frm) : Option (Bool) :=
 (I_IsGraph N f_0.g).bind fun v1 =>
 cnd (!v1) (
  some false) (
  cnd (decide (f_0.g.n > (6 : Int))) (
   some false) (
   cnd (decide ((f_0.g.bars.length : Int) > (15 : Int))) (
    some false) (
    cnd ((f_0.places.length : Int) != f_0.g.n) (
     some false) (
     I_IsFramework_l2 N f_0 (fun (_ : Unit) =>
        I_IsFramework_l1 N f_0 (fun (_ : Unit) =>
           some true) N (0 : Int)) N (0 : Int)))))
set_option maxRecDepth 20000 in
set_option maxHeartbeats 1600000 in
theorem I_IsFramework_w (N : Nat) (f_0 : Frm) (r : Bool) (h : I_IsFramework N f_0 = some r) : PCall Try.prog 157 [fD f_0] [] (.bool r) := by
 unfold I_IsFramework at h
 refine pcall_intro (TT := TT) tt Try.func157 rfl rfl Try.ntmps157 (congrArg Array.toList Try.results157) rfl rfl fun w0 => ?_
 refine vSeq ?_
 refine vRegion ?_
 refine oBox rfl rfl rfl rfl rfl rfl rfl rfl rfl ?_
 refine oVal tt rfl rfl rfl rfl rfl trivial ?_
 refine vNil ?_
 change VC _ _ _ _
 refine vSeq ?_
 refine vRegion ?_
 iterate 2 refine oVal tt rfl rfl rfl rfl rfl trivial ?_
 refine oAlloc tt rfl rfl rfl rfl rfl rfl rfl rfl rfl ?_
 refine oStore tt rfl rfl rfl rfl rfl rfl rfl rfl rfl rfl rfl ⟨trivial, trivial, trivial⟩ ?_
 refine vNil ?_
 change VC _ _ _ _
 iterate 2 refine vSeq ?_
 refine vRegion ?_
 refine oVal tt rfl rfl rfl rfl rfl trivial ?_
 obtain ⟨v1, hc1, h⟩ := bind_inv h
 refine oCall (I_IsGraph_w N f_0.g v1 hc1) rfl rfl rfl rfl rfl rfl rfl rfl ⟨⟨rfl, rfl, trivial⟩, trivial⟩ ?_
 iterate 2 refine oVal tt rfl rfl rfl rfl rfl trivial ?_
 refine oSplit rfl rfl rfl (fun hb2 => ?_) (fun hb2 => ?_)
 ·replace h := cnd_t hb2 h
  iterate 3 refine oNoF rfl rfl rfl rfl hb2 rfl rfl ?_
  refine oPick rfl rfl rfl rfl rfl hb2 rfl ?_
  refine oVal tt rfl rfl rfl rfl rfl trivial ?_
  iterate 4 refine oNoF rfl rfl rfl rfl rfl rfl rfl ?_
  refine oPick rfl rfl rfl rfl rfl rfl rfl ?_
  refine oVal tt rfl rfl rfl rfl rfl trivial ?_
  iterate 6 refine oNoF rfl rfl rfl rfl rfl rfl rfl ?_
  refine oPick rfl rfl rfl rfl rfl rfl rfl ?_
  refine vNil ?_
  change VC _ _ _ _
  refine vCondT rfl rfl ?_
  refine vSeq ?_
  refine vRegion ?_
  refine oVal tt rfl rfl rfl rfl rfl trivial ?_
  refine vNil ?_
  change VC _ _ _ _
  refine vRet ?_
  change ∃ _, _
  cases h
  exact ⟨[], _, rfl, trivial, rfl, (.eq rfl), rfl⟩
 ·replace h := cnd_f hb2 h
  iterate 3 refine oValG tt rfl rfl rfl rfl rfl hb2 rfl rfl rfl trivial ?_
  refine oPickF rfl rfl rfl rfl rfl hb2 rfl ?_
  refine oVal tt rfl rfl rfl rfl rfl trivial ?_
  refine oSplit rfl rfl rfl (fun hb3 => ?_) (fun hb3 => ?_)
  ·replace h := cnd_t hb3 h
   iterate 4 refine oNoF rfl rfl rfl rfl hb3 rfl rfl ?_
   refine oPick rfl rfl rfl rfl rfl hb3 rfl ?_
   refine oVal tt rfl rfl rfl rfl rfl trivial ?_
   iterate 6 refine oNoF rfl rfl rfl rfl rfl rfl rfl ?_
   refine oPick rfl rfl rfl rfl rfl rfl rfl ?_
   refine vNil ?_
   change VC _ _ _ _
   refine vCondT rfl rfl ?_
   refine vSeq ?_
   refine vRegion ?_
   refine oVal tt rfl rfl rfl rfl rfl trivial ?_
   refine vNil ?_
   change VC _ _ _ _
   refine vRet ?_
   change ∃ _, _
   cases h
   exact ⟨[], _, rfl, trivial, rfl, (.eq rfl), rfl⟩
  ·replace h := cnd_f hb3 h
   iterate 4 refine oValG tt rfl rfl rfl rfl rfl hb3 rfl rfl rfl trivial ?_
   refine oPickF rfl rfl rfl rfl rfl hb3 rfl ?_
   refine oVal tt rfl rfl rfl rfl rfl trivial ?_
   refine oSplit rfl rfl rfl (fun hb4 => ?_) (fun hb4 => ?_)
   ·replace h := cnd_t hb4 h
    iterate 6 refine oNoF rfl rfl rfl rfl hb4 rfl rfl ?_
    refine oPick rfl rfl rfl rfl rfl hb4 rfl ?_
    refine vNil ?_
    change VC _ _ _ _
    refine vCondT rfl rfl ?_
    refine vSeq ?_
    refine vRegion ?_
    refine oVal tt rfl rfl rfl rfl rfl trivial ?_
    refine vNil ?_
    change VC _ _ _ _
    refine vRet ?_
    change ∃ _, _
    cases h
    exact ⟨[], _, rfl, trivial, rfl, (.eq rfl), rfl⟩
   ·replace h := cnd_f hb4 h
    iterate 6 refine oValG tt rfl rfl rfl rfl rfl hb4 rfl rfl rfl trivial ?_
    refine oPickF rfl rfl rfl rfl rfl hb4 rfl ?_
    refine vNil ?_
    change VC _ _ _ _
    refine vCond rfl (fun hb5 => ?_) (fun hb5 => ?_)
    ·replace h := cnd_t hb5 h
     refine vSeq ?_
     refine vRegion ?_
     refine oVal tt rfl rfl rfl rfl rfl trivial ?_
     refine vNil ?_
     change VC _ _ _ _
     refine vRet ?_
     change ∃ _, _
     cases h
     exact ⟨[], _, rfl, trivial, rfl, (.eq rfl), rfl⟩
    ·replace h := cnd_f hb5 h
     refine vSkip ?_
     change VC _ _ _ _
     iterate 2 refine vSeq ?_
     refine vRegion ?_
     iterate 4 refine oVal tt rfl rfl rfl rfl rfl trivial ?_
     refine vNil ?_
     change VC _ _ _ _
     refine vJoin (F := fun k => I_IsFramework_l2 N f_0 k) h (α := Unit) (J := fun (_ : Unit) => (⟨[(1, .ptr 1 0), (3, .ptr 3 0)], [], [(1, some [.int f_0.g.n, .ro false (.pairs f_0.g.bars), .ro false (.pairs f_0.places)]), (3, some [.int f_0.g.n, .ro false (.pairs f_0.g.bars)])]⟩ : PS)) ?_ ?_
     ·rintro ⟨⟩ h
      show VC _ _ _ (⟨[(1, .ptr 1 0), (3, .ptr 3 0)], [], [(1, some [.int f_0.g.n, .ro false (.pairs f_0.g.bars), .ro false (.pairs f_0.places)]), (3, some [.int f_0.g.n, .ro false (.pairs f_0.g.bars)])]⟩ : PS)
      iterate 2 refine vSeq ?_
      refine vRegion ?_
      iterate 4 refine oVal tt rfl rfl rfl rfl rfl trivial ?_
      refine vNil ?_
      change VC _ _ _ _
      refine vJoin (F := fun k => I_IsFramework_l1 N f_0 k) h (α := Unit) (J := fun (_ : Unit) => (⟨[], [], []⟩ : PS)) ?_ ?_
      ·rintro ⟨⟩ h
       show VC _ _ _ (⟨[], [], []⟩ : PS)
       refine vSeq ?_
       refine vRegion ?_
       refine oVal tt rfl rfl rfl rfl rfl trivial ?_
       refine vNil ?_
       change VC _ _ _ _
       refine vRet ?_
       change ∃ _, _
       cases h
       exact ⟨[], _, rfl, trivial, rfl, (.eq rfl), rfl⟩
      ·intro k h
       refine vBlock ?_
       refine vLoopS (α := Int) (fun (x8 : Int) => (⟨[(1, .ptr 1 0), (3, .ptr 3 0), (44, .ro false (.pairs f_0.g.bars)), (45, .int (f_0.g.bars.length : Int)), (46, .int x8)], [], [(1, some [.int f_0.g.n, .ro false (.pairs f_0.g.bars), .ro false (.pairs f_0.places)]), (3, some [.int f_0.g.n, .ro false (.pairs f_0.g.bars)])]⟩ : PS)) (I_IsFramework_l1 N f_0 k) h (En.of ⟨rfl, rfl, rfl, rfl, rfl, trivial⟩ trivial ⟨rfl, rfl, trivial⟩) (fun _ => rfl) ?_
       rintro n x8 h
       rw [I_IsFramework_l1] at h
       show VC _ _ _ (⟨[(1, .ptr 1 0), (3, .ptr 3 0), (44, .ro false (.pairs f_0.g.bars)), (45, .int (f_0.g.bars.length : Int)), (46, .int x8)], [], [(1, some [.int f_0.g.n, .ro false (.pairs f_0.g.bars), .ro false (.pairs f_0.places)]), (3, some [.int f_0.g.n, .ro false (.pairs f_0.g.bars)])]⟩ : PS)
       refine vSeq ?_
       refine vRegion ?_
       refine oVal tt rfl rfl rfl rfl rfl trivial ?_
       refine vNil ?_
       change VC _ _ _ _
       refine vSeq ?_
       refine vCond rfl (fun hb6 => ?_) (fun hb6 => ?_)
       ·replace h := cnd_t hb6 h
        refine vSkip ?_
        change VC _ _ _ _
        refine vSeq ?_
        refine vBlock ?_
        refine vSeq ?_
        refine vRegion ?_
        refine oVal tt rfl rfl rfl rfl rfl trivial ?_
        obtain ⟨hg7, h⟩ := grd_inv h
        refine oVal tt rfl rfl rfl rfl rfl hg7 ?_
        refine oVal tt rfl rfl rfl rfl rfl trivial ?_
        refine oAlloc tt rfl rfl rfl rfl rfl rfl rfl rfl rfl ?_
        refine oVal tt rfl rfl rfl rfl rfl trivial ?_
        refine oStore tt rfl rfl rfl rfl rfl rfl rfl rfl rfl rfl rfl ⟨trivial, trivial, trivial⟩ ?_
        refine vNil ?_
        change VC _ _ _ _
        refine vSeq ?_
        refine vRegionD (by kernel_rfl) (by kernel_rfl) ?_
        iterate 3 refine cVal tt rfl (wNone rfl) rfl rfl rfl trivial ?_
        refine cSplit rfl rfl rfl (fun hb8 => ?_) (fun hb8 => ?_)
        ·replace h := cnd_t hb8 h
         iterate 3 refine cVal tt rfl (wSome rfl rfl rfl rfl hb8) rfl rfl rfl trivial ?_
         obtain ⟨hg9, h⟩ := grd_inv h
         refine cVal tt rfl (wSome rfl rfl rfl rfl hb8) rfl rfl rfl hg9 ?_
         obtain ⟨hg10, h⟩ := grd_inv h
         refine cVal tt rfl (wSome rfl rfl rfl rfl hb8) rfl rfl rfl hg10 ?_
         iterate 2 refine cVal tt rfl (wSome rfl rfl rfl rfl hb8) rfl rfl rfl trivial ?_
         refine cPure (wSome rfl rfl rfl rfl hb8) (pEqP eqP_impl_Bar rfl rfl rfl) rfl rfl ?_
         refine cPickT rfl (wNone rfl) rfl rfl rfl hb8 rfl ?_
         refine cVal tt rfl (wNone rfl) rfl rfl rfl trivial ?_
         refine cSplit rfl rfl rfl (fun hb11 => ?_) (fun hb11 => ?_)
         ·replace h := cnd_t hb11 h
          iterate 13 refine cNoF rfl rfl rfl rfl hb11 rfl rfl ?_
          refine cPickT rfl (wNone rfl) rfl rfl rfl hb11 rfl ?_
          refine cNil ?_
          change VC _ _ _ _
          refine vCondT rfl rfl ?_
          refine vSeq ?_
          refine vRegion ?_
          refine oVal tt rfl rfl rfl rfl rfl trivial ?_
          refine vNil ?_
          change VC _ _ _ _
          refine vRet ?_
          change ∃ _, _
          cases h
          exact ⟨[], _, rfl, trivial, rfl, (.eq rfl), rfl⟩
         ·replace h := cnd_f hb11 h
          iterate 4 refine cVal tt rfl (wSome rfl rfl rfl rfl hb11) rfl rfl rfl trivial ?_
          obtain ⟨hg12, h⟩ := grd_inv h
          refine cVal tt rfl (wSome rfl rfl rfl rfl hb11) rfl rfl rfl hg12 ?_
          iterate 5 refine cVal tt rfl (wSome rfl rfl rfl rfl hb11) rfl rfl rfl trivial ?_
          obtain ⟨hg13, h⟩ := grd_inv h
          refine cVal tt rfl (wSome rfl rfl rfl rfl hb11) rfl rfl rfl hg13 ?_
          refine cVal tt rfl (wSome rfl rfl rfl rfl hb11) rfl rfl rfl trivial ?_
          refine cPure (wSome rfl rfl rfl rfl hb11) (pEqP eqP_impl_Place rfl rfl rfl) rfl rfl ?_
          refine cPickF rfl (wNone rfl) rfl rfl rfl hb11 rfl ?_
          refine cNil ?_
          change VC _ _ _ _
          refine vCond rfl (fun hb14 => ?_) (fun hb14 => ?_)
          ·replace h := cnd_t hb14 h
           refine vSeq ?_
           refine vRegion ?_
           refine oVal tt rfl rfl rfl rfl rfl trivial ?_
           refine vNil ?_
           change VC _ _ _ _
           refine vRet ?_
           change ∃ _, _
           cases h
           exact ⟨[], _, rfl, trivial, rfl, (.eq rfl), rfl⟩
          ·replace h := cnd_f hb14 h
           refine vSkip ?_
           change VC _ _ _ _
           refine vRegion ?_
           obtain ⟨hg15, h⟩ := grd_inv h
           refine oVal tt rfl rfl rfl rfl rfl hg15 ?_
           refine oVal tt rfl rfl rfl rfl rfl trivial ?_
           refine vNil ?_
           change ∃ _, _
           exact ⟨(x8 + (1 : Int)), (En.of ⟨rfl, rfl, rfl, rfl, rfl, trivial⟩ trivial ⟨rfl, rfl, trivial⟩), h⟩
        ·replace h := cnd_f hb8 h
         iterate 8 refine cNoT rfl rfl rfl rfl hb8 rfl rfl ?_
         refine cPickF rfl (wNone rfl) rfl rfl rfl hb8 rfl ?_
         refine cVal tt rfl (wNone rfl) rfl rfl rfl trivial ?_
         iterate 4 refine cVal tt rfl (wSome rfl rfl rfl rfl rfl) rfl rfl rfl trivial ?_
         obtain ⟨hg16, h⟩ := grd_inv h
         refine cVal tt rfl (wSome rfl rfl rfl rfl rfl) rfl rfl rfl hg16 ?_
         iterate 5 refine cVal tt rfl (wSome rfl rfl rfl rfl rfl) rfl rfl rfl trivial ?_
         obtain ⟨hg17, h⟩ := grd_inv h
         refine cVal tt rfl (wSome rfl rfl rfl rfl rfl) rfl rfl rfl hg17 ?_
         refine cVal tt rfl (wSome rfl rfl rfl rfl rfl) rfl rfl rfl trivial ?_
         refine cPure (wSome rfl rfl rfl rfl rfl) (pEqP eqP_impl_Place rfl rfl rfl) rfl rfl ?_
         refine cPickF rfl (wNone rfl) rfl rfl rfl rfl rfl ?_
         refine cNil ?_
         change VC _ _ _ _
         refine vCond rfl (fun hb18 => ?_) (fun hb18 => ?_)
         ·replace h := cnd_t hb18 h
          refine vSeq ?_
          refine vRegion ?_
          refine oVal tt rfl rfl rfl rfl rfl trivial ?_
          refine vNil ?_
          change VC _ _ _ _
          refine vRet ?_
          change ∃ _, _
          cases h
          exact ⟨[], _, rfl, trivial, rfl, (.eq rfl), rfl⟩
         ·replace h := cnd_f hb18 h
          refine vSkip ?_
          change VC _ _ _ _
          refine vRegion ?_
          obtain ⟨hg19, h⟩ := grd_inv h
          refine oVal tt rfl rfl rfl rfl rfl hg19 ?_
          refine oVal tt rfl rfl rfl rfl rfl trivial ?_
          refine vNil ?_
          change ∃ _, _
          exact ⟨(x8 + (1 : Int)), (En.of ⟨rfl, rfl, rfl, rfl, rfl, trivial⟩ trivial ⟨rfl, rfl, trivial⟩), h⟩
       ·replace h := cnd_f hb6 h
        refine vExit ?_
        change ∃ _, _
        exact ⟨(), (En.of trivial trivial trivial), h⟩
     ·intro k h
      refine vBlock ?_
      refine vLoopS (α := Int) (fun (x11 : Int) => (⟨[(1, .ptr 1 0), (3, .ptr 3 0), (33, .ro false (.pairs f_0.places)), (34, .int (f_0.places.length : Int)), (35, .int x11)], [], [(1, some [.int f_0.g.n, .ro false (.pairs f_0.g.bars), .ro false (.pairs f_0.places)]), (3, some [.int f_0.g.n, .ro false (.pairs f_0.g.bars)])]⟩ : PS)) (I_IsFramework_l2 N f_0 k) h (En.of ⟨rfl, rfl, rfl, rfl, rfl, trivial⟩ trivial ⟨rfl, rfl, trivial⟩) (fun _ => rfl) ?_
      rintro n x11 h
      rw [I_IsFramework_l2] at h
      show VC _ _ _ (⟨[(1, .ptr 1 0), (3, .ptr 3 0), (33, .ro false (.pairs f_0.places)), (34, .int (f_0.places.length : Int)), (35, .int x11)], [], [(1, some [.int f_0.g.n, .ro false (.pairs f_0.g.bars), .ro false (.pairs f_0.places)]), (3, some [.int f_0.g.n, .ro false (.pairs f_0.g.bars)])]⟩ : PS)
      refine vSeq ?_
      refine vRegion ?_
      refine oVal tt rfl rfl rfl rfl rfl trivial ?_
      refine vNil ?_
      change VC _ _ _ _
      refine vSeq ?_
      refine vCond rfl (fun hb20 => ?_) (fun hb20 => ?_)
      ·replace h := cnd_t hb20 h
       refine vSkip ?_
       change VC _ _ _ _
       refine vSeq ?_
       refine vBlock ?_
       refine vSeq ?_
       refine vRegion ?_
       obtain ⟨hg21, h⟩ := grd_inv h
       refine oVal tt rfl rfl rfl rfl rfl hg21 ?_
       refine oVal tt rfl rfl rfl rfl rfl trivial ?_
       refine oAlloc tt rfl rfl rfl rfl rfl rfl rfl rfl rfl ?_
       refine oStore tt rfl rfl rfl rfl rfl rfl rfl rfl rfl rfl rfl ⟨trivial, trivial, trivial⟩ ?_
       refine vNil ?_
       change VC _ _ _ _
       refine vSeq ?_
       refine vRegion ?_
       refine oVal tt rfl rfl rfl rfl rfl trivial ?_
       obtain ⟨v13, hc22, h⟩ := bind_inv h
       refine oCall (I_isPlace_w N (f_0.places.getD ((x11).toNat) (0, 0)) v13 hc22) rfl rfl rfl rfl rfl rfl rfl rfl ⟨⟨rfl, rfl, trivial⟩, trivial⟩ ?_
       refine oVal tt rfl rfl rfl rfl rfl trivial ?_
       refine vNil ?_
       change VC _ _ _ _
       refine vCond rfl (fun hb23 => ?_) (fun hb23 => ?_)
       ·replace h := cnd_t hb23 h
        refine vSeq ?_
        refine vRegion ?_
        refine oVal tt rfl rfl rfl rfl rfl trivial ?_
        refine vNil ?_
        change VC _ _ _ _
        refine vRet ?_
        change ∃ _, _
        cases h
        exact ⟨[], _, rfl, trivial, rfl, (.eq rfl), rfl⟩
       ·replace h := cnd_f hb23 h
        refine vSkip ?_
        change VC _ _ _ _
        refine vRegion ?_
        obtain ⟨hg24, h⟩ := grd_inv h
        refine oVal tt rfl rfl rfl rfl rfl hg24 ?_
        refine oVal tt rfl rfl rfl rfl rfl trivial ?_
        refine vNil ?_
        change ∃ _, _
        exact ⟨(x11 + (1 : Int)), (En.of ⟨rfl, rfl, rfl, rfl, rfl, trivial⟩ trivial ⟨rfl, rfl, trivial⟩), h⟩
      ·replace h := cnd_f hb20 h
       refine vExit ?_
       change ∃ _, _
       exact ⟨(), (En.of ⟨rfl, rfl, trivial⟩ trivial ⟨rfl, rfl, trivial⟩), h⟩
def I_IsLinkage_l1 (N : Nat) (l_0 : Lnk) (k : Unit → Option (Bool)) : Nat → Int → Option (Bool)
 | 0, _ => none
 | n + 1, x8 =>
  cnd (decide (x8 < (l_0.ground.length : Int))) (
   grd (0 ≤ x8 ∧ x8 < (l_0.ground.length : Int)) <|
   (M_Graph_has N l_0.f.g (l_0.ground.getD ((x8).toNat) 0)).bind fun v10 =>
   cnd (!v10) (
    some false) (
    cnd (decide (x8 > (0 : Int))) (
     grd (Rg64 (x8 - (1 : Int))) <|
     grd (0 ≤ (x8 - (1 : Int)) ∧ (x8 - (1 : Int)) < (l_0.ground.length : Int)) <|
     cnd (decide ((l_0.ground.getD (((x8 - (1 : Int))).toNat) 0) ≥ (l_0.ground.getD ((x8).toNat) 0))) (
      some false) (
      grd (Rg64 (x8 + (1 : Int))) <|
      I_IsLinkage_l1 N l_0 k n (x8 + (1 : Int)))) (
     grd (Rg64 (x8 + (1 : Int))) <|
     I_IsLinkage_l1 N l_0 k n (x8 + (1 : Int))))) (
   k ())
def I_IsLinkage (N : Nat) (l_0 : Lnk) : Option (Bool) :=
 (I_IsFramework N l_0.f).bind fun v1 =>
 cnd (!v1) (
  some false) (
  cnd ((l_0.ground.length : Int) == (0 : Int)) (
   some false) (
   grd (Rg64 (l_0.f.g.n - (l_0.ground.length : Int))) <|
   cnd (decide ((l_0.f.g.n - (l_0.ground.length : Int)) > (2 : Int))) (
    some false) (
    I_IsLinkage_l1 N l_0 (fun (_ : Unit) =>
       some true) N (0 : Int))))
set_option maxRecDepth 20000 in
set_option maxHeartbeats 1600000 in
theorem I_IsLinkage_w (N : Nat) (l_0 : Lnk) (r : Bool) (h : I_IsLinkage N l_0 = some r) : PCall Try.prog 82 [lD l_0] [] (.bool r) := by
 unfold I_IsLinkage at h
 refine pcall_intro (TT := TT) tt Try.func82 rfl rfl Try.ntmps82 (congrArg Array.toList Try.results82) rfl rfl fun w0 => ?_
 refine vSeq ?_
 refine vRegion ?_
 refine oBox rfl rfl rfl rfl rfl rfl rfl rfl rfl ?_
 refine oVal tt rfl rfl rfl rfl rfl trivial ?_
 refine vNil ?_
 change VC _ _ _ _
 iterate 2 refine vSeq ?_
 refine vRegion ?_
 iterate 2 refine oVal tt rfl rfl rfl rfl rfl trivial ?_
 obtain ⟨v1, hc1, h⟩ := bind_inv h
 refine oCall (I_IsFramework_w N l_0.f v1 hc1) rfl rfl rfl rfl rfl rfl rfl rfl ⟨⟨rfl, rfl, rfl, trivial⟩, trivial⟩ ?_
 iterate 2 refine oVal tt rfl rfl rfl rfl rfl trivial ?_
 refine oSplit rfl rfl rfl (fun hb2 => ?_) (fun hb2 => ?_)
 ·replace h := cnd_t hb2 h
  iterate 4 refine oNoF rfl rfl rfl rfl hb2 rfl rfl ?_
  refine oPick rfl rfl rfl rfl rfl hb2 rfl ?_
  refine oVal tt rfl rfl rfl rfl rfl trivial ?_
  iterate 9 refine oNoF rfl rfl rfl rfl rfl rfl rfl ?_
  refine oPick rfl rfl rfl rfl rfl rfl rfl ?_
  refine vNil ?_
  change VC _ _ _ _
  refine vCondT rfl rfl ?_
  refine vSeq ?_
  refine vRegion ?_
  refine oVal tt rfl rfl rfl rfl rfl trivial ?_
  refine vNil ?_
  change VC _ _ _ _
  refine vRet ?_
  change ∃ _, _
  cases h
  exact ⟨[], _, rfl, trivial, rfl, (.eq rfl), rfl⟩
 ·replace h := cnd_f hb2 h
  iterate 4 refine oValG tt rfl rfl rfl rfl rfl hb2 rfl rfl rfl trivial ?_
  refine oPickF rfl rfl rfl rfl rfl hb2 rfl ?_
  refine oVal tt rfl rfl rfl rfl rfl trivial ?_
  refine oSplit rfl rfl rfl (fun hb3 => ?_) (fun hb3 => ?_)
  ·replace h := cnd_t hb3 h
   iterate 9 refine oNoF rfl rfl rfl rfl hb3 rfl rfl ?_
   refine oPick rfl rfl rfl rfl rfl hb3 rfl ?_
   refine vNil ?_
   change VC _ _ _ _
   refine vCondT rfl rfl ?_
   refine vSeq ?_
   refine vRegion ?_
   refine oVal tt rfl rfl rfl rfl rfl trivial ?_
   refine vNil ?_
   change VC _ _ _ _
   refine vRet ?_
   change ∃ _, _
   cases h
   exact ⟨[], _, rfl, trivial, rfl, (.eq rfl), rfl⟩
  ·replace h := cnd_f hb3 h
   iterate 7 refine oValG tt rfl rfl rfl rfl rfl hb3 rfl rfl rfl trivial ?_
   obtain ⟨hg4, h⟩ := grd_inv h
   refine oValG tt rfl rfl rfl rfl rfl hb3 rfl rfl rfl hg4 ?_
   refine oValG tt rfl rfl rfl rfl rfl hb3 rfl rfl rfl trivial ?_
   refine oPickF rfl rfl rfl rfl rfl hb3 rfl ?_
   refine vNil ?_
   change VC _ _ _ _
   refine vCond rfl (fun hb5 => ?_) (fun hb5 => ?_)
   ·replace h := cnd_t hb5 h
    refine vSeq ?_
    refine vRegion ?_
    refine oVal tt rfl rfl rfl rfl rfl trivial ?_
    refine vNil ?_
    change VC _ _ _ _
    refine vRet ?_
    change ∃ _, _
    cases h
    exact ⟨[], _, rfl, trivial, rfl, (.eq rfl), rfl⟩
   ·replace h := cnd_f hb5 h
    refine vSkip ?_
    change VC _ _ _ _
    iterate 2 refine vSeq ?_
    refine vRegion ?_
    iterate 4 refine oVal tt rfl rfl rfl rfl rfl trivial ?_
    refine vNil ?_
    change VC _ _ _ _
    refine vJoin (F := fun k => I_IsLinkage_l1 N l_0 k) h (α := Unit) (J := fun (_ : Unit) => (⟨[], [], []⟩ : PS)) ?_ ?_
    ·rintro ⟨⟩ h
     show VC _ _ _ (⟨[], [], []⟩ : PS)
     refine vSeq ?_
     refine vRegion ?_
     refine oVal tt rfl rfl rfl rfl rfl trivial ?_
     refine vNil ?_
     change VC _ _ _ _
     refine vRet ?_
     change ∃ _, _
     cases h
     exact ⟨[], _, rfl, trivial, rfl, (.eq rfl), rfl⟩
    ·intro k h
     refine vBlock ?_
     refine vLoopS (α := Int) (fun (x8 : Int) => (⟨[(1, .ptr 1 0), (27, .ro false (.ints l_0.ground)), (28, .int (l_0.ground.length : Int)), (29, .int x8)], [], [(1, some [.int l_0.f.g.n, .ro false (.pairs l_0.f.g.bars), .ro false (.pairs l_0.f.places), .ro false (.ints l_0.ground)])]⟩ : PS)) (I_IsLinkage_l1 N l_0 k) h (En.of ⟨rfl, rfl, rfl, rfl, trivial⟩ trivial ⟨rfl, trivial⟩) (fun _ => rfl) ?_
     rintro n x8 h
     rw [I_IsLinkage_l1] at h
     show VC _ _ _ (⟨[(1, .ptr 1 0), (27, .ro false (.ints l_0.ground)), (28, .int (l_0.ground.length : Int)), (29, .int x8)], [], [(1, some [.int l_0.f.g.n, .ro false (.pairs l_0.f.g.bars), .ro false (.pairs l_0.f.places), .ro false (.ints l_0.ground)])]⟩ : PS)
     refine vSeq ?_
     refine vRegion ?_
     refine oVal tt rfl rfl rfl rfl rfl trivial ?_
     refine vNil ?_
     change VC _ _ _ _
     refine vSeq ?_
     refine vCond rfl (fun hb6 => ?_) (fun hb6 => ?_)
     ·replace h := cnd_t hb6 h
      refine vSkip ?_
      change VC _ _ _ _
      refine vSeq ?_
      refine vBlock ?_
      refine vSeq ?_
      refine vRegion ?_
      refine oVal tt rfl rfl rfl rfl rfl trivial ?_
      obtain ⟨hg7, h⟩ := grd_inv h
      refine oVal tt rfl rfl rfl rfl rfl hg7 ?_
      iterate 3 refine oVal tt rfl rfl rfl rfl rfl trivial ?_
      refine vNil ?_
      change VC _ _ _ _
      refine vSeq ?_
      refine vRegion ?_
      iterate 4 refine oVal tt rfl rfl rfl rfl rfl trivial ?_
      obtain ⟨v10, hc8, h⟩ := bind_inv h
      refine oCall (M_Graph_has_w N l_0.f.g (l_0.ground.getD ((x8).toNat) 0) v10 hc8) rfl rfl rfl rfl rfl rfl rfl rfl ⟨⟨rfl, rfl, trivial⟩, rfl, trivial⟩ ?_
      iterate 2 refine oVal tt rfl rfl rfl rfl rfl trivial ?_
      refine oSplit rfl rfl rfl (fun hb9 => ?_) (fun hb9 => ?_)
      ·replace h := cnd_t hb9 h
       iterate 3 refine oNoF rfl rfl rfl rfl hb9 rfl rfl ?_
       iterate 8 refine oNoU rfl rfl rfl rfl rfl ?_
       refine oNoF rfl rfl rfl rfl hb9 rfl rfl ?_
       refine oPick rfl rfl rfl rfl rfl hb9 rfl ?_
       refine vNil ?_
       change VC _ _ _ _
       refine vCondT rfl rfl ?_
       refine vSeq ?_
       refine vRegion ?_
       refine oVal tt rfl rfl rfl rfl rfl trivial ?_
       refine vNil ?_
       change VC _ _ _ _
       refine vRet ?_
       change ∃ _, _
       cases h
       exact ⟨[], _, rfl, trivial, rfl, (.eq rfl), rfl⟩
      ·replace h := cnd_f hb9 h
       iterate 3 refine oValG tt rfl rfl rfl rfl rfl hb9 rfl rfl rfl trivial ?_
       refine oSplit rfl rfl rfl (fun hb10 => ?_) (fun hb10 => ?_)
       ·replace h := cnd_t hb10 h
        iterate 3 refine oValG tt rfl rfl rfl rfl rfl hb10 rfl rfl rfl trivial ?_
        obtain ⟨hg11, h⟩ := grd_inv h
        refine oValG tt rfl rfl rfl rfl rfl hb10 rfl rfl rfl hg11 ?_
        obtain ⟨hg12, h⟩ := grd_inv h
        refine oValG tt rfl rfl rfl rfl rfl hb10 rfl rfl rfl hg12 ?_
        iterate 3 refine oValG tt rfl rfl rfl rfl rfl hb10 rfl rfl rfl trivial ?_
        refine oPickGT rfl rfl rfl rfl hb9 rfl rfl rfl rfl hb10 rfl ?_
        refine oPickF rfl rfl rfl rfl rfl hb9 rfl ?_
        refine vNil ?_
        change VC _ _ _ _
        refine vCond rfl (fun hb13 => ?_) (fun hb13 => ?_)
        ·replace h := cnd_t hb13 h
         refine vSeq ?_
         refine vRegion ?_
         refine oVal tt rfl rfl rfl rfl rfl trivial ?_
         refine vNil ?_
         change VC _ _ _ _
         refine vRet ?_
         change ∃ _, _
         cases h
         exact ⟨[], _, rfl, trivial, rfl, (.eq rfl), rfl⟩
        ·replace h := cnd_f hb13 h
         refine vSkip ?_
         change VC _ _ _ _
         refine vRegion ?_
         obtain ⟨hg14, h⟩ := grd_inv h
         refine oVal tt rfl rfl rfl rfl rfl hg14 ?_
         refine oVal tt rfl rfl rfl rfl rfl trivial ?_
         refine vNil ?_
         change ∃ _, _
         exact ⟨(x8 + (1 : Int)), (En.of ⟨rfl, rfl, rfl, rfl, trivial⟩ trivial ⟨rfl, trivial⟩), h⟩
       ·replace h := cnd_f hb10 h
        iterate 8 refine oNoT rfl rfl rfl rfl hb10 rfl rfl ?_
        refine oPickGF rfl rfl rfl rfl hb9 rfl rfl rfl rfl hb10 rfl ?_
        refine oPickF rfl rfl rfl rfl rfl hb9 rfl ?_
        refine vNil ?_
        change VC _ _ _ _
        refine vCondF rfl rfl ?_
        refine vSkip ?_
        change VC _ _ _ _
        refine vRegion ?_
        obtain ⟨hg15, h⟩ := grd_inv h
        refine oVal tt rfl rfl rfl rfl rfl hg15 ?_
        refine oVal tt rfl rfl rfl rfl rfl trivial ?_
        refine vNil ?_
        change ∃ _, _
        exact ⟨(x8 + (1 : Int)), (En.of ⟨rfl, rfl, rfl, rfl, trivial⟩ trivial ⟨rfl, trivial⟩), h⟩
     ·replace h := cnd_f hb6 h
      refine vExit ?_
      change ∃ _, _
      exact ⟨(), (En.of trivial trivial trivial), h⟩
end Go.Proofs.Ytcljhpldfanhkaa
namespace Go.Proofs.Ytcljhpldfanhkaa
open Go.RowKit
def S_EqualGraphs_l1 (N : Nat) (a_0 : Grf) (b_1 : Grf) (k : Unit → Option (Bool)) : Nat → Int → Option (Bool)
 | 0, _ => none
 | n + 1, i3 =>
  cnd (decide (i3 < (a_0.bars.length : Int))) (
   grd (0 ≤ i3 ∧ i3 < (a_0.bars.length : Int)) <|
   grd (0 ≤ i3 ∧ i3 < (b_1.bars.length : Int)) <|
   cnd (!(((a_0.bars.getD ((i3).toNat) (0, 0)).1 == (b_1.bars.getD ((i3).toNat) (0, 0)).1) && ((a_0.bars.getD ((i3).toNat) (0, 0)).2 == (b_1.bars.getD ((i3).toNat) (0, 0)).2))) (
    some false) (
    grd (Rg64 (i3 + (1 : Int))) <|
    S_EqualGraphs_l1 N a_0 b_1 k n (i3 + (1 : Int)))) (
   k ())
def S_EqualGraphs (N : Nat) (a_0 : Grf) (b_1 : Grf) : Option (Bool) :=
 cnd (a_0.n != b_1.n) (
  some false) (
  cnd ((a_0.bars.length : Int) != (b_1.bars.length : Int)) (
   some false) (
   S_EqualGraphs_l1 N a_0 b_1 (fun (_ : Unit) =>
      some true) N (0 : Int)))
set_option maxRecDepth 20000 in
set_option maxHeartbeats 1600000 in
theorem S_EqualGraphs_w (N : Nat) (a_0 : Grf) (b_1 : Grf) (r : Bool) (h : S_EqualGraphs N a_0 b_1 = some r) : PCall Try.prog 169 [gD a_0, gD b_1] [] (.bool r) := by
 unfold S_EqualGraphs at h
 refine pcall_intro (TT := TT) tt Try.func169 rfl rfl Try.ntmps169 (congrArg Array.toList Try.results169) rfl rfl fun w0 => ?_
 refine vSeq ?_
 refine vRegion ?_
 iterate 2 refine oBox rfl rfl rfl rfl rfl rfl rfl rfl rfl ?_
 refine oVal tt rfl rfl rfl rfl rfl trivial ?_
 refine vNil ?_
 change VC _ _ _ _
 iterate 2 refine vSeq ?_
 refine vRegion ?_
 iterate 6 refine oVal tt rfl rfl rfl rfl rfl trivial ?_
 refine oSplit rfl rfl rfl (fun hb1 => ?_) (fun hb1 => ?_)
 ·replace h := cnd_t hb1 h
  iterate 7 refine oNoF rfl rfl rfl rfl hb1 rfl rfl ?_
  refine oPick rfl rfl rfl rfl rfl hb1 rfl ?_
  refine vNil ?_
  change VC _ _ _ _
  refine vCondT rfl rfl ?_
  refine vSeq ?_
  refine vRegion ?_
  refine oVal tt rfl rfl rfl rfl rfl trivial ?_
  refine vNil ?_
  change VC _ _ _ _
  refine vRet ?_
  change ∃ _, _
  cases h
  exact ⟨[], _, rfl, trivial, rfl, (.eq rfl), rfl⟩
 ·replace h := cnd_f hb1 h
  iterate 7 refine oValG tt rfl rfl rfl rfl rfl hb1 rfl rfl rfl trivial ?_
  refine oPickF rfl rfl rfl rfl rfl hb1 rfl ?_
  refine vNil ?_
  change VC _ _ _ _
  refine vCond rfl (fun hb2 => ?_) (fun hb2 => ?_)
  ·replace h := cnd_t hb2 h
   refine vSeq ?_
   refine vRegion ?_
   refine oVal tt rfl rfl rfl rfl rfl trivial ?_
   refine vNil ?_
   change VC _ _ _ _
   refine vRet ?_
   change ∃ _, _
   cases h
   exact ⟨[], _, rfl, trivial, rfl, (.eq rfl), rfl⟩
  ·replace h := cnd_f hb2 h
   refine vSkip ?_
   change VC _ _ _ _
   iterate 2 refine vSeq ?_
   refine vRegion ?_
   refine oVal tt rfl rfl rfl rfl rfl trivial ?_
   refine vNil ?_
   change VC _ _ _ _
   refine vJoin (F := fun k => S_EqualGraphs_l1 N a_0 b_1 k) h (α := Unit) (J := fun (_ : Unit) => (⟨[], [], []⟩ : PS)) ?_ ?_
   ·rintro ⟨⟩ h
    show VC _ _ _ (⟨[], [], []⟩ : PS)
    refine vSeq ?_
    refine vRegion ?_
    refine oVal tt rfl rfl rfl rfl rfl trivial ?_
    refine vNil ?_
    change VC _ _ _ _
    refine vRet ?_
    change ∃ _, _
    cases h
    exact ⟨[], _, rfl, trivial, rfl, (.eq rfl), rfl⟩
   ·intro k h
    refine vBlock ?_
    refine vLoopS (α := Int) (fun (i3 : Int) => (⟨[(2, .ptr 2 0), (3, .ptr 3 0), (5, .int i3)], [], [(2, some [.int a_0.n, .ro false (.pairs a_0.bars)]), (3, some [.int b_1.n, .ro false (.pairs b_1.bars)])]⟩ : PS)) (S_EqualGraphs_l1 N a_0 b_1 k) h (En.of ⟨rfl, rfl, rfl, trivial⟩ trivial ⟨rfl, rfl, trivial⟩) (fun _ => rfl) ?_
    rintro n i3 h
    rw [S_EqualGraphs_l1] at h
    show VC _ _ _ (⟨[(2, .ptr 2 0), (3, .ptr 3 0), (5, .int i3)], [], [(2, some [.int a_0.n, .ro false (.pairs a_0.bars)]), (3, some [.int b_1.n, .ro false (.pairs b_1.bars)])]⟩ : PS)
    iterate 2 refine vSeq ?_
    refine vRegion ?_
    iterate 5 refine oVal tt rfl rfl rfl rfl rfl trivial ?_
    refine vNil ?_
    change VC _ _ _ _
    refine vCond rfl (fun hb3 => ?_) (fun hb3 => ?_)
    ·replace h := cnd_t hb3 h
     refine vSkip ?_
     change VC _ _ _ _
     refine vSeq ?_
     refine vBlock ?_
     refine vSeq ?_
     refine vRegionD (by kernel_rfl) (by kernel_rfl) ?_
     iterate 3 refine cVal tt rfl (wNone rfl) rfl rfl rfl trivial ?_
     obtain ⟨hg4, h⟩ := grd_inv h
     refine cVal tt rfl (wNone rfl) rfl rfl rfl hg4 ?_
     iterate 4 refine cVal tt rfl (wNone rfl) rfl rfl rfl trivial ?_
     obtain ⟨hg5, h⟩ := grd_inv h
     refine cVal tt rfl (wNone rfl) rfl rfl rfl hg5 ?_
     refine cVal tt rfl (wNone rfl) rfl rfl rfl trivial ?_
     refine cPure (wNone rfl) (pNeP eqP_impl_Bar rfl rfl rfl) rfl rfl ?_
     refine cNil ?_
     change VC _ _ _ _
     refine vCond rfl (fun hb6 => ?_) (fun hb6 => ?_)
     ·replace h := cnd_t hb6 h
      refine vSeq ?_
      refine vRegion ?_
      refine oVal tt rfl rfl rfl rfl rfl trivial ?_
      refine vNil ?_
      change VC _ _ _ _
      refine vRet ?_
      change ∃ _, _
      cases h
      exact ⟨[], _, rfl, trivial, rfl, (.eq rfl), rfl⟩
     ·replace h := cnd_f hb6 h
      refine vSkip ?_
      change VC _ _ _ _
      refine vRegion ?_
      refine oVal tt rfl rfl rfl rfl rfl trivial ?_
      obtain ⟨hg7, h⟩ := grd_inv h
      refine oVal tt rfl rfl rfl rfl rfl hg7 ?_
      refine oVal tt rfl rfl rfl rfl rfl trivial ?_
      refine vNil ?_
      change ∃ _, _
      exact ⟨(i3 + (1 : Int)), (En.of ⟨rfl, rfl, rfl, trivial⟩ trivial ⟨rfl, rfl, trivial⟩), h⟩
    ·replace h := cnd_f hb3 h
     refine vExit ?_
     change ∃ _, _
     exact ⟨(), (En.of trivial trivial trivial), h⟩
end Go.Proofs.Ytcljhpldfanhkaa
namespace Go.Proofs.Ytcljhpldfanhkaa
open Go.RowKit
def S_l6Same_l1 (N : Nat) (a_0 : List Int) (b_1 : List Int) (k : Unit → Option (Bool)) : Nat → Int → Option (Bool)
 | 0, _ => none
 | n + 1, i3 =>
  cnd (decide (i3 < (a_0.length : Int))) (
   grd (0 ≤ i3 ∧ i3 < (a_0.length : Int)) <|
   grd (0 ≤ i3 ∧ i3 < (b_1.length : Int)) <|
   cnd ((a_0.getD ((i3).toNat) 0) != (b_1.getD ((i3).toNat) 0)) (
    some false) (
    grd (Rg64 (i3 + (1 : Int))) <|
    S_l6Same_l1 N a_0 b_1 k n (i3 + (1 : Int)))) (
   k ())
def S_l6Same (N : Nat) (a_0 : List Int) (b_1 : List Int) : Option (Bool) :=
 cnd ((a_0.length : Int) != (b_1.length : Int)) (
  some false) (
  S_l6Same_l1 N a_0 b_1 (fun (_ : Unit) =>
     some true) N (0 : Int))
set_option maxRecDepth 20000 in
set_option maxHeartbeats 1600000 in
theorem S_l6Same_w (N : Nat) (a_0 : List Int) (b_1 : List Int) (r : Bool) (h : S_l6Same N a_0 b_1 = some r) : PCall Try.prog 193 [.ro false (.ints a_0), .ro false (.ints b_1)] [] (.bool r) := by
 unfold S_l6Same at h
 refine pcall_intro (TT := TT) tt Try.func193 rfl rfl Try.ntmps193 (congrArg Array.toList Try.results193) rfl rfl fun w0 => ?_
 refine vSeq ?_
 refine vRegion ?_
 refine oVal tt rfl rfl rfl rfl rfl trivial ?_
 refine vNil ?_
 change VC _ _ _ _
 iterate 2 refine vSeq ?_
 refine vRegion ?_
 iterate 5 refine oVal tt rfl rfl rfl rfl rfl trivial ?_
 refine vNil ?_
 change VC _ _ _ _
 refine vCond rfl (fun hb1 => ?_) (fun hb1 => ?_)
 ·replace h := cnd_t hb1 h
  refine vSeq ?_
  refine vRegion ?_
  refine oVal tt rfl rfl rfl rfl rfl trivial ?_
  refine vNil ?_
  change VC _ _ _ _
  refine vRet ?_
  change ∃ _, _
  cases h
  exact ⟨[], _, rfl, trivial, rfl, (.eq rfl), rfl⟩
 ·replace h := cnd_f hb1 h
  refine vSkip ?_
  change VC _ _ _ _
  iterate 2 refine vSeq ?_
  refine vRegion ?_
  refine oVal tt rfl rfl rfl rfl rfl trivial ?_
  refine vNil ?_
  change VC _ _ _ _
  refine vJoin (F := fun k => S_l6Same_l1 N a_0 b_1 k) h (α := Unit) (J := fun (_ : Unit) => (⟨[], [], []⟩ : PS)) ?_ ?_
  ·rintro ⟨⟩ h
   show VC _ _ _ (⟨[], [], []⟩ : PS)
   refine vSeq ?_
   refine vRegion ?_
   refine oVal tt rfl rfl rfl rfl rfl trivial ?_
   refine vNil ?_
   change VC _ _ _ _
   refine vRet ?_
   change ∃ _, _
   cases h
   exact ⟨[], _, rfl, trivial, rfl, (.eq rfl), rfl⟩
  ·intro k h
   refine vBlock ?_
   refine vLoopS (α := Int) (fun (i3 : Int) => (⟨[(0, .ro false (.ints a_0)), (1, .ro false (.ints b_1)), (5, .int i3)], [], []⟩ : PS)) (S_l6Same_l1 N a_0 b_1 k) h (En.of ⟨rfl, rfl, rfl, trivial⟩ trivial trivial) (fun _ => rfl) ?_
   rintro n i3 h
   rw [S_l6Same_l1] at h
   show VC _ _ _ (⟨[(0, .ro false (.ints a_0)), (1, .ro false (.ints b_1)), (5, .int i3)], [], []⟩ : PS)
   iterate 2 refine vSeq ?_
   refine vRegion ?_
   iterate 4 refine oVal tt rfl rfl rfl rfl rfl trivial ?_
   refine vNil ?_
   change VC _ _ _ _
   refine vCond rfl (fun hb2 => ?_) (fun hb2 => ?_)
   ·replace h := cnd_t hb2 h
    refine vSkip ?_
    change VC _ _ _ _
    refine vSeq ?_
    refine vBlock ?_
    refine vSeq ?_
    refine vRegionD (by kernel_rfl) (by kernel_rfl) ?_
    iterate 2 refine cVal tt rfl (wNone rfl) rfl rfl rfl trivial ?_
    obtain ⟨hg3, h⟩ := grd_inv h
    refine cVal tt rfl (wNone rfl) rfl rfl rfl hg3 ?_
    iterate 3 refine cVal tt rfl (wNone rfl) rfl rfl rfl trivial ?_
    obtain ⟨hg4, h⟩ := grd_inv h
    refine cVal tt rfl (wNone rfl) rfl rfl rfl hg4 ?_
    iterate 2 refine cVal tt rfl (wNone rfl) rfl rfl rfl trivial ?_
    refine cNil ?_
    change VC _ _ _ _
    refine vCond rfl (fun hb5 => ?_) (fun hb5 => ?_)
    ·replace h := cnd_t hb5 h
     refine vSeq ?_
     refine vRegion ?_
     refine oVal tt rfl rfl rfl rfl rfl trivial ?_
     refine vNil ?_
     change VC _ _ _ _
     refine vRet ?_
     change ∃ _, _
     cases h
     exact ⟨[], _, rfl, trivial, rfl, (.eq rfl), rfl⟩
    ·replace h := cnd_f hb5 h
     refine vSkip ?_
     change VC _ _ _ _
     refine vRegion ?_
     refine oVal tt rfl rfl rfl rfl rfl trivial ?_
     obtain ⟨hg6, h⟩ := grd_inv h
     refine oVal tt rfl rfl rfl rfl rfl hg6 ?_
     refine oVal tt rfl rfl rfl rfl rfl trivial ?_
     refine vNil ?_
     change ∃ _, _
     exact ⟨(i3 + (1 : Int)), (En.of ⟨rfl, rfl, rfl, trivial⟩ trivial trivial), h⟩
   ·replace h := cnd_f hb2 h
    refine vExit ?_
    change ∃ _, _
    exact ⟨(), (En.of trivial trivial trivial), h⟩
def S_SquareLengths_l1 (N : Nat) (f_0 : Frm) (k : (List Int) → Option (List Int)) : Nat → ((List Int) × Int) → Option (List Int)
 | 0, _ => none
 | n + 1, (l11, i12) =>
  cnd (decide (i12 < (f_0.g.bars.length : Int))) (
   (S_IsFramework N f_0).bind fun v14 =>
   cnd v14 (
    grd (0 ≤ i12 ∧ i12 < (f_0.g.bars.length : Int)) <|
    grd (0 ≤ ((f_0.g.bars.getD ((i12).toNat) (0, 0)).1) ∧ ((f_0.g.bars.getD ((i12).toNat) (0, 0)).1) < (f_0.places.length : Int)) <|
    grd (0 ≤ ((f_0.g.bars.getD ((i12).toNat) (0, 0)).2) ∧ ((f_0.g.bars.getD ((i12).toNat) (0, 0)).2) < (f_0.places.length : Int)) <|
    grd (Rg64 (((f_0.places.getD (((f_0.g.bars.getD ((i12).toNat) (0, 0)).1).toNat) (0, 0)).1) - ((f_0.places.getD (((f_0.g.bars.getD ((i12).toNat) (0, 0)).2).toNat) (0, 0)).1))) <|
    grd (Rg64 ((((f_0.places.getD (((f_0.g.bars.getD ((i12).toNat) (0, 0)).1).toNat) (0, 0)).1) - ((f_0.places.getD (((f_0.g.bars.getD ((i12).toNat) (0, 0)).2).toNat) (0, 0)).1)) * (((f_0.places.getD (((f_0.g.bars.getD ((i12).toNat) (0, 0)).1).toNat) (0, 0)).1) - ((f_0.places.getD (((f_0.g.bars.getD ((i12).toNat) (0, 0)).2).toNat) (0, 0)).1)))) <|
    grd (Rg64 (((f_0.places.getD (((f_0.g.bars.getD ((i12).toNat) (0, 0)).1).toNat) (0, 0)).2) - ((f_0.places.getD (((f_0.g.bars.getD ((i12).toNat) (0, 0)).2).toNat) (0, 0)).2))) <|
    grd (Rg64 ((((f_0.places.getD (((f_0.g.bars.getD ((i12).toNat) (0, 0)).1).toNat) (0, 0)).2) - ((f_0.places.getD (((f_0.g.bars.getD ((i12).toNat) (0, 0)).2).toNat) (0, 0)).2)) * (((f_0.places.getD (((f_0.g.bars.getD ((i12).toNat) (0, 0)).1).toNat) (0, 0)).2) - ((f_0.places.getD (((f_0.g.bars.getD ((i12).toNat) (0, 0)).2).toNat) (0, 0)).2)))) <|
    grd (Rg64 (((((f_0.places.getD (((f_0.g.bars.getD ((i12).toNat) (0, 0)).1).toNat) (0, 0)).1) - ((f_0.places.getD (((f_0.g.bars.getD ((i12).toNat) (0, 0)).2).toNat) (0, 0)).1)) * (((f_0.places.getD (((f_0.g.bars.getD ((i12).toNat) (0, 0)).1).toNat) (0, 0)).1) - ((f_0.places.getD (((f_0.g.bars.getD ((i12).toNat) (0, 0)).2).toNat) (0, 0)).1))) + ((((f_0.places.getD (((f_0.g.bars.getD ((i12).toNat) (0, 0)).1).toNat) (0, 0)).2) - ((f_0.places.getD (((f_0.g.bars.getD ((i12).toNat) (0, 0)).2).toNat) (0, 0)).2)) * (((f_0.places.getD (((f_0.g.bars.getD ((i12).toNat) (0, 0)).1).toNat) (0, 0)).2) - ((f_0.places.getD (((f_0.g.bars.getD ((i12).toNat) (0, 0)).2).toNat) (0, 0)).2))))) <|
    grd (l11.length + 1 ≤ 4294967296) <|
    grd (Rg64 (i12 + (1 : Int))) <|
    S_SquareLengths_l1 N f_0 k n ((l11 ++ ([(((((f_0.places.getD (((f_0.g.bars.getD ((i12).toNat) (0, 0)).1).toNat) (0, 0)).1) - ((f_0.places.getD (((f_0.g.bars.getD ((i12).toNat) (0, 0)).2).toNat) (0, 0)).1)) * (((f_0.places.getD (((f_0.g.bars.getD ((i12).toNat) (0, 0)).1).toNat) (0, 0)).1) - ((f_0.places.getD (((f_0.g.bars.getD ((i12).toNat) (0, 0)).2).toNat) (0, 0)).1))) + ((((f_0.places.getD (((f_0.g.bars.getD ((i12).toNat) (0, 0)).1).toNat) (0, 0)).2) - ((f_0.places.getD (((f_0.g.bars.getD ((i12).toNat) (0, 0)).2).toNat) (0, 0)).2)) * (((f_0.places.getD (((f_0.g.bars.getD ((i12).toNat) (0, 0)).1).toNat) (0, 0)).2) - ((f_0.places.getD (((f_0.g.bars.getD ((i12).toNat) (0, 0)).2).toNat) (0, 0)).2))))] : List Int)), (i12 + (1 : Int)))) (
    k l11)) (
   k l11)
def S_SquareLengths (N : Nat) (f_0 : Frm) : Option (List Int) :=
 S_SquareLengths_l1 N f_0 (fun (l7 : List Int) =>
    some l7) N (([] : List Int), (0 : Int))
set_option maxRecDepth 20000 in
set_option maxHeartbeats 1600000 in
theorem S_SquareLengths_w (N : Nat) (f_0 : Frm) (r : List Int) (h : S_SquareLengths N f_0 = some r) : PCall Try.prog 194 [fD f_0] [(3, .ints r)] (.row 0 0 r.length) := by
 unfold S_SquareLengths at h
 refine pcall_intro (TT := TT) tt Try.func194 rfl rfl Try.ntmps194 (congrArg Array.toList Try.results194) rfl rfl fun w0 => ?_
 refine vSeq ?_
 refine vRegion ?_
 refine oBox rfl rfl rfl rfl rfl rfl rfl rfl rfl ?_
 refine oVal tt rfl rfl rfl rfl rfl trivial ?_
 refine vNil ?_
 change VC _ _ _ _
 refine vSeq ?_
 refine vRegion ?_
 refine oEmpty tt (wNone rfl) rfl rfl rfl rfl ?_
 refine oVal tt rfl rfl rfl rfl rfl trivial ?_
 refine vNil ?_
 change VC _ _ _ _
 iterate 2 refine vSeq ?_
 refine vRegion ?_
 refine oVal tt rfl rfl rfl rfl rfl trivial ?_
 refine vNil ?_
 change VC _ _ _ _
 refine vJoin (F := fun k => S_SquareLengths_l1 N f_0 k) h (α := List Int) (J := fun (l7 : List Int) => (⟨[(3, .row 67 0 l7.length)], [(67, some (3, .ints l7))], []⟩ : PS)) ?_ ?_
 ·rintro l7 h
  show VC _ _ _ (⟨[(3, .row 67 0 l7.length)], [(67, some (3, .ints l7))], []⟩ : PS)
  refine vSeq ?_
  refine vRegion ?_
  iterate 2 refine oVal tt rfl rfl rfl rfl rfl trivial ?_
  refine vNil ?_
  change VC _ _ _ _
  refine vRet ?_
  change ∃ _, _
  cases h
  exact ⟨[67], _, rfl, ⟨rfl, trivial⟩, rfl, (.eq rfl), rfl⟩
 ·intro k h
  refine vBlock ?_
  refine vNilT 3 67 3 (.ints []) rfl rfl rfl rfl ?_
  refine vLoopS (α := (List Int) × Int) (fun | (l11, i12) => (⟨[(1, .ptr 1 0), (3, .row 67 0 l11.length), (4, .int i12)], [(67, some (3, .ints l11))], [(1, some [.int f_0.g.n, .ro false (.pairs f_0.g.bars), .ro false (.pairs f_0.places)])]⟩ : PS)) (S_SquareLengths_l1 N f_0 k) h (En.of ⟨rfl, rfl, rfl, trivial⟩ ⟨rfl, trivial⟩ ⟨rfl, trivial⟩) (fun _ => rfl) ?_
  rintro n ⟨l11, i12⟩ h
  rw [S_SquareLengths_l1] at h
  show VC _ _ _ (⟨[(1, .ptr 1 0), (3, .row 67 0 l11.length), (4, .int i12)], [(67, some (3, .ints l11))], [(1, some [.int f_0.g.n, .ro false (.pairs f_0.g.bars), .ro false (.pairs f_0.places)])]⟩ : PS)
  iterate 2 refine vSeq ?_
  refine vRegion ?_
  iterate 7 refine oVal tt rfl rfl rfl rfl rfl trivial ?_
  refine oSplit rfl rfl rfl (fun hb1 => ?_) (fun hb1 => ?_)
  ·replace h := cnd_t hb1 h
   refine oValG tt rfl rfl rfl rfl rfl hb1 rfl rfl rfl trivial ?_
   obtain ⟨v14, hc2, h⟩ := bind_inv h
   refine oCallG (S_IsFramework_w N f_0 v14 hc2) rfl rfl rfl rfl hb1 rfl rfl rfl rfl rfl rfl rfl ⟨⟨rfl, rfl, rfl, trivial⟩, trivial⟩ ?_
   refine oPick rfl rfl rfl rfl rfl hb1 rfl ?_
   refine vNil ?_
   change VC _ _ _ _
   refine vCond rfl (fun hb3 => ?_) (fun hb3 => ?_)
   ·replace h := cnd_t hb3 h
    refine vSkip ?_
    change VC _ _ _ _
    refine vSeq ?_
    refine vBlock ?_
    refine vSeq ?_
    refine vRegionN 12 [11] [0, 1, 0, 4, 12, 0, 60, 124, 252, 511, 1023, 0, 4095] (by kernel_rfl) (by kernel_rfl) (by kernel_rfl) (by kernel_rfl) (by kernel_rfl) rfl (by rfl) ?_
    iterate 6 refine nVal tt rfl (wNone rfl) rfl rfl rfl rfl rfl trivial ?_
    obtain ⟨hg4, h⟩ := grd_inv h
    refine nVal tt rfl (wNone rfl) rfl rfl rfl rfl rfl hg4 ?_
    iterate 2 refine nVal tt rfl (wNone rfl) rfl rfl rfl rfl rfl trivial ?_
    obtain ⟨hg5, h⟩ := grd_inv h
    refine nVal tt rfl (wNone rfl) rfl rfl rfl rfl rfl hg5 ?_
    refine nVal tt rfl (wNone rfl) rfl rfl rfl rfl rfl trivial ?_
    refine nAlloc tt (wNone rfl) rfl rfl rfl rfl rfl rfl rfl rfl rfl rfl ?_
    refine nNil ?_
    change VO _ _ _ _ _
    refine oStore tt rfl rfl rfl rfl rfl rfl rfl rfl rfl rfl rfl ⟨trivial, trivial, trivial⟩ ?_
    refine vNil ?_
    change VC _ _ _ _
    refine vSeq ?_
    refine vRegionN 12 [11] [0, 1, 0, 4, 12, 0, 60, 124, 252, 511, 1023, 0, 4095] (by kernel_rfl) (by kernel_rfl) (by kernel_rfl) (by kernel_rfl) (by kernel_rfl) rfl (by rfl) ?_
    iterate 6 refine nVal tt rfl (wNone rfl) rfl rfl rfl rfl rfl trivial ?_
    refine nVal tt rfl (wNone rfl) rfl rfl rfl rfl rfl hg4 ?_
    iterate 2 refine nVal tt rfl (wNone rfl) rfl rfl rfl rfl rfl trivial ?_
    obtain ⟨hg6, h⟩ := grd_inv h
    refine nVal tt rfl (wNone rfl) rfl rfl rfl rfl rfl hg6 ?_
    refine nVal tt rfl (wNone rfl) rfl rfl rfl rfl rfl trivial ?_
    refine nAlloc tt (wNone rfl) rfl rfl rfl rfl rfl rfl rfl rfl rfl rfl ?_
    refine nNil ?_
    change VO _ _ _ _ _
    refine oStore tt rfl rfl rfl rfl rfl rfl rfl rfl rfl rfl rfl ⟨trivial, trivial, trivial⟩ ?_
    refine vNil ?_
    change VC _ _ _ _
    refine vRegion ?_
    iterate 5 refine oVal tt rfl rfl rfl rfl rfl trivial ?_
    obtain ⟨hg7, h⟩ := grd_inv h
    refine oVal tt rfl rfl rfl rfl rfl hg7 ?_
    iterate 4 refine oVal tt rfl rfl rfl rfl rfl trivial ?_
    refine oVal tt rfl rfl rfl rfl rfl hg7 ?_
    obtain ⟨hg8, h⟩ := grd_inv h
    refine oVal tt rfl rfl rfl rfl rfl hg8 ?_
    iterate 4 refine oVal tt rfl rfl rfl rfl rfl trivial ?_
    obtain ⟨hg9, h⟩ := grd_inv h
    refine oVal tt rfl rfl rfl rfl rfl hg9 ?_
    iterate 4 refine oVal tt rfl rfl rfl rfl rfl trivial ?_
    refine oVal tt rfl rfl rfl rfl rfl hg9 ?_
    obtain ⟨hg10, h⟩ := grd_inv h
    refine oVal tt rfl rfl rfl rfl rfl hg10 ?_
    obtain ⟨hg11, h⟩ := grd_inv h
    refine oVal tt rfl rfl rfl rfl rfl hg11 ?_
    refine oBuild tt rfl rfl rfl rfl rfl rfl rfl rfl rfl rfl rfl ?_
    obtain ⟨hg12, h⟩ := grd_inv h
    refine oAppend tt rfl rfl rfl rfl rfl rfl rfl rfl rfl rfl rfl rfl rfl rfl rfl rfl (Nat.le_of_eq (Nat.zero_add _)) hg12 ?_
    refine oVal tt rfl rfl rfl rfl rfl trivial ?_
    refine vNil ?_
    change VC _ _ _ _
    refine vRegion ?_
    refine oVal tt rfl rfl rfl rfl rfl trivial ?_
    obtain ⟨hg13, h⟩ := grd_inv h
    refine oVal tt rfl rfl rfl rfl rfl hg13 ?_
    refine oVal tt rfl rfl rfl rfl rfl trivial ?_
    refine vNil ?_
    change ∃ _, _
    exact ⟨((l11 ++ ([(((((f_0.places.getD (((f_0.g.bars.getD ((i12).toNat) (0, 0)).1).toNat) (0, 0)).1) - ((f_0.places.getD (((f_0.g.bars.getD ((i12).toNat) (0, 0)).2).toNat) (0, 0)).1)) * (((f_0.places.getD (((f_0.g.bars.getD ((i12).toNat) (0, 0)).1).toNat) (0, 0)).1) - ((f_0.places.getD (((f_0.g.bars.getD ((i12).toNat) (0, 0)).2).toNat) (0, 0)).1))) + ((((f_0.places.getD (((f_0.g.bars.getD ((i12).toNat) (0, 0)).1).toNat) (0, 0)).2) - ((f_0.places.getD (((f_0.g.bars.getD ((i12).toNat) (0, 0)).2).toNat) (0, 0)).2)) * (((f_0.places.getD (((f_0.g.bars.getD ((i12).toNat) (0, 0)).1).toNat) (0, 0)).2) - ((f_0.places.getD (((f_0.g.bars.getD ((i12).toNat) (0, 0)).2).toNat) (0, 0)).2))))] : List Int)), (i12 + (1 : Int))), (En.of ⟨rfl, rfl, rfl, trivial⟩ ⟨rfl, trivial⟩ ⟨rfl, trivial⟩), h⟩
   ·replace h := cnd_f hb3 h
    refine vExit ?_
    change ∃ _, _
    exact ⟨l11, (En.of ⟨rfl, trivial⟩ ⟨rfl, trivial⟩ trivial), h⟩
  ·replace h := cnd_f hb1 h
   iterate 2 refine oNoT rfl rfl rfl rfl hb1 rfl rfl ?_
   refine oPickF rfl rfl rfl rfl rfl hb1 rfl ?_
   refine vNil ?_
   change VC _ _ _ _
   refine vCondF rfl rfl ?_
   refine vExit ?_
   change ∃ _, _
   exact ⟨l11, (En.of ⟨rfl, trivial⟩ ⟨rfl, trivial⟩ trivial), h⟩
def S_AreSameLengths (N : Nat) (a_0 : Frm) (b_1 : Frm) : Option (Bool) :=
 (S_IsFramework N a_0).bind fun v1 =>
 cnd v1 (
  (S_IsFramework N b_1).bind fun v2 =>
  cnd v2 (
   (S_EqualGraphs N a_0.g b_1.g).bind fun v3 =>
   cnd v3 (
    (S_SquareLengths N a_0).bind fun v4 =>
    (S_SquareLengths N b_1).bind fun v5 =>
    (S_l6Same N v4 v5).bind fun v6 =>
    some v6) (
    some false)) (
   some false)) (
  some false)
set_option maxRecDepth 20000 in
set_option maxHeartbeats 1600000 in
theorem S_AreSameLengths_w (N : Nat) (a_0 : Frm) (b_1 : Frm) (r : Bool) (h : S_AreSameLengths N a_0 b_1 = some r) : PCall Try.prog 164 [fD a_0, fD b_1] [] (.bool r) := by
 unfold S_AreSameLengths at h
 refine pcall_intro (TT := TT) tt Try.func164 rfl rfl Try.ntmps164 (congrArg Array.toList Try.results164) rfl rfl fun w0 => ?_
 refine vSeq ?_
 refine vRegion ?_
 iterate 2 refine oBox rfl rfl rfl rfl rfl rfl rfl rfl rfl ?_
 refine oVal tt rfl rfl rfl rfl rfl trivial ?_
 refine vNil ?_
 change VC _ _ _ _
 refine vSeq ?_
 refine vRegionN 17 [15] [0, 1, 3, 7, 15, 31, 63, 127, 255, 127, 639, 2047, 4095, 8191, 16383, 32767, 16383, 131071, 262143, 524287, 1048575] (by kernel_rfl) (by kernel_rfl) (by kernel_rfl) (by kernel_rfl) (by kernel_rfl) rfl (by rfl) ?_
 refine nVal tt rfl (wNone rfl) rfl rfl rfl rfl rfl trivial ?_
 obtain ⟨v1, hc1, h⟩ := bind_inv h
 refine nCall (S_IsFramework_w N a_0 v1 hc1) rfl (wNone rfl) rfl rfl rfl rfl rfl rfl rfl rfl ⟨⟨rfl, rfl, rfl, trivial⟩, trivial⟩ ?_
 refine nVal tt rfl (wNone rfl) rfl rfl rfl rfl rfl trivial ?_
 refine nSplit rfl rfl rfl (fun hb2 => ?_) (fun hb2 => ?_)
 ·replace h := cnd_t hb2 h
  refine nVal tt rfl (wSome rfl rfl rfl rfl hb2) rfl rfl rfl rfl rfl trivial ?_
  obtain ⟨v2, hc3, h⟩ := bind_inv h
  refine nCall (S_IsFramework_w N b_1 v2 hc3) rfl (wSome rfl rfl rfl rfl hb2) rfl rfl rfl rfl rfl rfl rfl rfl ⟨⟨rfl, rfl, rfl, trivial⟩, trivial⟩ ?_
  refine nPickT rfl (wNone rfl) rfl rfl rfl hb2 rfl rfl ?_
  refine nVal tt rfl (wNone rfl) rfl rfl rfl rfl rfl trivial ?_
  refine nSplit rfl rfl rfl (fun hb4 => ?_) (fun hb4 => ?_)
  ·replace h := cnd_t hb4 h
   iterate 4 refine nVal tt rfl (wSome rfl rfl rfl rfl hb4) rfl rfl rfl rfl rfl trivial ?_
   obtain ⟨v3, hc5, h⟩ := bind_inv h
   refine nCall (S_EqualGraphs_w N a_0.g b_1.g v3 hc5) rfl (wSome rfl rfl rfl rfl hb4) rfl rfl rfl rfl rfl rfl rfl rfl ⟨⟨rfl, rfl, trivial⟩, ⟨rfl, rfl, trivial⟩, trivial⟩ ?_
   refine nPickT rfl (wNone rfl) rfl rfl rfl hb4 rfl rfl ?_
   refine nVal tt rfl (wNone rfl) rfl rfl rfl rfl rfl trivial ?_
   refine nSplit rfl rfl rfl (fun hb6 => ?_) (fun hb6 => ?_)
   ·replace h := cnd_t hb6 h
    refine nVal tt rfl (wSome rfl rfl rfl rfl hb6) rfl rfl rfl rfl rfl trivial ?_
    obtain ⟨v4, hc7, h⟩ := bind_inv h
    refine nCallR (S_SquareLengths_w N a_0 v4 hc7) rfl (wSome rfl rfl rfl rfl hb6) rfl rfl rfl rfl rfl rfl (by first | rfl | kernel_rfl | (simp [nrL, nm, gdst, nmT, rowB]; done)) rfl (by first | rfl | kernel_rfl | (simp [chkE, nrL, nm, gdst, nmT, rowB, hid, ment, mentA, mentS]; done) | (simp [chkE, nrL, nm, gdst, nmT, rowB, hid, ment, mentA, mentS]; decide)) ⟨⟨rfl, rfl, rfl, trivial⟩, trivial⟩ ?_
    refine nVal tt rfl (wSome rfl rfl rfl rfl hb6) rfl rfl rfl rfl rfl trivial ?_
    refine nNil ?_
    change VO _ _ _ _ _
    obtain ⟨v5, hc8, h⟩ := bind_inv h
    refine oCallG (S_SquareLengths_w N b_1 v5 hc8) rfl rfl rfl rfl hb6 rfl rfl rfl rfl rfl rfl rfl ⟨⟨rfl, rfl, rfl, trivial⟩, trivial⟩ ?_
    obtain ⟨v6, hc9, h⟩ := bind_inv h
    refine oCallG (S_l6Same_w N v4 v5 v6 hc9) rfl rfl rfl rfl hb6 rfl rfl rfl rfl rfl rfl rfl ⟨(.inl ⟨rfl, rfl⟩), (.inl ⟨rfl, rfl⟩), trivial⟩ ?_
    refine oPick rfl rfl rfl rfl rfl hb6 rfl ?_
    refine oVal tt rfl rfl rfl rfl rfl trivial ?_
    refine vNil ?_
    change VC _ _ _ _
    refine vRet ?_
    change ∃ _, _
    cases h
    exact ⟨[], _, rfl, trivial, rfl, (.eq rfl), rfl⟩
   ·replace h := cnd_f hb6 h
    iterate 3 refine nNoT rfl rfl rfl rfl hb6 rfl rfl ?_
    refine nNil ?_
    change VO _ _ _ _ _
    iterate 2 refine oNoT rfl rfl rfl rfl hb6 rfl rfl ?_
    refine oPickF rfl rfl rfl rfl rfl hb6 rfl ?_
    refine oVal tt rfl rfl rfl rfl rfl trivial ?_
    refine vNil ?_
    change VC _ _ _ _
    refine vRet ?_
    change ∃ _, _
    cases h
    exact ⟨[], _, rfl, trivial, rfl, (.eq rfl), rfl⟩
  ·replace h := cnd_f hb4 h
   iterate 5 refine nNoT rfl rfl rfl rfl hb4 rfl rfl ?_
   refine nPickF rfl (wNone rfl) rfl rfl rfl hb4 rfl rfl ?_
   refine nVal tt rfl (wNone rfl) rfl rfl rfl rfl rfl trivial ?_
   iterate 3 refine nNoT rfl rfl rfl rfl rfl rfl rfl ?_
   refine nNil ?_
   change VO _ _ _ _ _
   iterate 2 refine oNoT rfl rfl rfl rfl rfl rfl rfl ?_
   refine oPickF rfl rfl rfl rfl rfl rfl rfl ?_
   refine oVal tt rfl rfl rfl rfl rfl trivial ?_
   refine vNil ?_
   change VC _ _ _ _
   refine vRet ?_
   change ∃ _, _
   cases h
   exact ⟨[], _, rfl, trivial, rfl, (.eq rfl), rfl⟩
 ·replace h := cnd_f hb2 h
  iterate 2 refine nNoT rfl rfl rfl rfl hb2 rfl rfl ?_
  refine nPickF rfl (wNone rfl) rfl rfl rfl hb2 rfl rfl ?_
  refine nVal tt rfl (wNone rfl) rfl rfl rfl rfl rfl trivial ?_
  iterate 5 refine nNoT rfl rfl rfl rfl rfl rfl rfl ?_
  refine nPickF rfl (wNone rfl) rfl rfl rfl rfl rfl rfl ?_
  refine nVal tt rfl (wNone rfl) rfl rfl rfl rfl rfl trivial ?_
  iterate 3 refine nNoT rfl rfl rfl rfl rfl rfl rfl ?_
  refine nNil ?_
  change VO _ _ _ _ _
  iterate 2 refine oNoT rfl rfl rfl rfl rfl rfl rfl ?_
  refine oPickF rfl rfl rfl rfl rfl rfl rfl ?_
  refine oVal tt rfl rfl rfl rfl rfl trivial ?_
  refine vNil ?_
  change VC _ _ _ _
  refine vRet ?_
  change ∃ _, _
  cases h
  exact ⟨[], _, rfl, trivial, rfl, (.eq rfl), rfl⟩
def S_IsPose_l1 (N : Nat) (l_0 : Lnk) (p_1 : List (Int × Int)) (k : Unit → Option (Bool)) : Nat → Int → Option (Bool)
 | 0, _ => none
 | n + 1, i5 =>
  cnd (decide (i5 < (l_0.ground.length : Int))) (
   grd (0 ≤ i5 ∧ i5 < (l_0.ground.length : Int)) <|
   grd (0 ≤ (l_0.ground.getD ((i5).toNat) 0) ∧ (l_0.ground.getD ((i5).toNat) 0) < (p_1.length : Int)) <|
   grd (0 ≤ (l_0.ground.getD ((i5).toNat) 0) ∧ (l_0.ground.getD ((i5).toNat) 0) < (l_0.f.places.length : Int)) <|
   cnd (!(((p_1.getD (((l_0.ground.getD ((i5).toNat) 0)).toNat) (0, 0)).1 == (l_0.f.places.getD (((l_0.ground.getD ((i5).toNat) 0)).toNat) (0, 0)).1) && ((p_1.getD (((l_0.ground.getD ((i5).toNat) 0)).toNat) (0, 0)).2 == (l_0.f.places.getD (((l_0.ground.getD ((i5).toNat) 0)).toNat) (0, 0)).2))) (
    some false) (
    grd (Rg64 (i5 + (1 : Int))) <|
    S_IsPose_l1 N l_0 p_1 k n (i5 + (1 : Int)))) (
   k ())
def S_IsPose (N : Nat) (l_0 : Lnk) (p_1 : List (Int × Int)) : Option (Bool) :=
 (S_IsLinkage N l_0).bind fun v1 =>
 cnd (!v1) (
  some false) (
  cnd ((p_1.length : Int) != (l_0.f.places.length : Int)) (
   some false) (
   S_IsPose_l1 N l_0 p_1 (fun (_ : Unit) =>
      (S_AreSameLengths N l_0.f (⟨⟨l_0.f.g.n, l_0.f.g.bars⟩, p_1⟩ : Frm)).bind fun v3 =>
      some v3) N (0 : Int)))
set_option maxRecDepth 20000 in
set_option maxHeartbeats 1600000 in
theorem S_IsPose_w (N : Nat) (l_0 : Lnk) (p_1 : List (Int × Int)) (r : Bool) (h : S_IsPose N l_0 p_1 = some r) : PCall Try.prog 92 [lD l_0, .ro false (.pairs p_1)] [] (.bool r) := by
 unfold S_IsPose at h
 refine pcall_intro (TT := TT) tt Try.func92 rfl rfl Try.ntmps92 (congrArg Array.toList Try.results92) rfl rfl fun w0 => ?_
 refine vSeq ?_
 refine vRegion ?_
 refine oBox rfl rfl rfl rfl rfl rfl rfl rfl rfl ?_
 refine oVal tt rfl rfl rfl rfl rfl trivial ?_
 refine vNil ?_
 change VC _ _ _ _
 iterate 2 refine vSeq ?_
 refine vRegion ?_
 refine oVal tt rfl rfl rfl rfl rfl trivial ?_
 obtain ⟨v1, hc1, h⟩ := bind_inv h
 refine oCall (S_IsLinkage_w N l_0 v1 hc1) rfl rfl rfl rfl rfl rfl rfl rfl ⟨⟨rfl, rfl, rfl, rfl, trivial⟩, trivial⟩ ?_
 iterate 2 refine oVal tt rfl rfl rfl rfl rfl trivial ?_
 refine oSplit rfl rfl rfl (fun hb2 => ?_) (fun hb2 => ?_)
 ·replace h := cnd_t hb2 h
  iterate 7 refine oNoF rfl rfl rfl rfl hb2 rfl rfl ?_
  refine oPick rfl rfl rfl rfl rfl hb2 rfl ?_
  refine vNil ?_
  change VC _ _ _ _
  refine vCondT rfl rfl ?_
  refine vSeq ?_
  refine vRegion ?_
  refine oVal tt rfl rfl rfl rfl rfl trivial ?_
  refine vNil ?_
  change VC _ _ _ _
  refine vRet ?_
  change ∃ _, _
  cases h
  exact ⟨[], _, rfl, trivial, rfl, (.eq rfl), rfl⟩
 ·replace h := cnd_f hb2 h
  iterate 7 refine oValG tt rfl rfl rfl rfl rfl hb2 rfl rfl rfl trivial ?_
  refine oPickF rfl rfl rfl rfl rfl hb2 rfl ?_
  refine vNil ?_
  change VC _ _ _ _
  refine vCond rfl (fun hb3 => ?_) (fun hb3 => ?_)
  ·replace h := cnd_t hb3 h
   refine vSeq ?_
   refine vRegion ?_
   refine oVal tt rfl rfl rfl rfl rfl trivial ?_
   refine vNil ?_
   change VC _ _ _ _
   refine vRet ?_
   change ∃ _, _
   cases h
   exact ⟨[], _, rfl, trivial, rfl, (.eq rfl), rfl⟩
  ·replace h := cnd_f hb3 h
   refine vSkip ?_
   change VC _ _ _ _
   iterate 2 refine vSeq ?_
   refine vRegion ?_
   refine oVal tt rfl rfl rfl rfl rfl trivial ?_
   refine vNil ?_
   change VC _ _ _ _
   refine vJoin (F := fun k => S_IsPose_l1 N l_0 p_1 k) h (α := Unit) (J := fun (_ : Unit) => (⟨[(1, .ro false (.pairs p_1)), (2, .ptr 2 0)], [], [(2, some [.int l_0.f.g.n, .ro false (.pairs l_0.f.g.bars), .ro false (.pairs l_0.f.places), .ro false (.ints l_0.ground)])]⟩ : PS)) ?_ ?_
   ·rintro ⟨⟩ h
    show VC _ _ _ (⟨[(1, .ro false (.pairs p_1)), (2, .ptr 2 0)], [], [(2, some [.int l_0.f.g.n, .ro false (.pairs l_0.f.g.bars), .ro false (.pairs l_0.f.places), .ro false (.ints l_0.ground)])]⟩ : PS)
    refine vSeq ?_
    refine vRegion ?_
    iterate 6 refine oVal tt rfl rfl rfl rfl rfl trivial ?_
    refine oPure (wNone rfl) (pBuild bld_impl_Framework rfl rfl) rfl rfl ?_
    obtain ⟨v3, hc4, h⟩ := bind_inv h
    refine oCall (S_AreSameLengths_w N l_0.f (⟨⟨l_0.f.g.n, l_0.f.g.bars⟩, p_1⟩ : Frm) v3 hc4) rfl rfl rfl rfl rfl rfl rfl rfl ⟨⟨rfl, rfl, rfl, trivial⟩, ⟨rfl, rfl, rfl, trivial⟩, trivial⟩ ?_
    refine oVal tt rfl rfl rfl rfl rfl trivial ?_
    refine vNil ?_
    change VC _ _ _ _
    refine vRet ?_
    change ∃ _, _
    cases h
    exact ⟨[], _, rfl, trivial, rfl, (.eq rfl), rfl⟩
   ·intro k h
    refine vBlock ?_
    refine vLoopS (α := Int) (fun (i5 : Int) => (⟨[(1, .ro false (.pairs p_1)), (2, .ptr 2 0), (5, .int i5)], [], [(2, some [.int l_0.f.g.n, .ro false (.pairs l_0.f.g.bars), .ro false (.pairs l_0.f.places), .ro false (.ints l_0.ground)])]⟩ : PS)) (S_IsPose_l1 N l_0 p_1 k) h (En.of ⟨rfl, rfl, rfl, trivial⟩ trivial ⟨rfl, trivial⟩) (fun _ => rfl) ?_
    rintro n i5 h
    rw [S_IsPose_l1] at h
    show VC _ _ _ (⟨[(1, .ro false (.pairs p_1)), (2, .ptr 2 0), (5, .int i5)], [], [(2, some [.int l_0.f.g.n, .ro false (.pairs l_0.f.g.bars), .ro false (.pairs l_0.f.places), .ro false (.ints l_0.ground)])]⟩ : PS)
    iterate 2 refine vSeq ?_
    refine vRegion ?_
    iterate 5 refine oVal tt rfl rfl rfl rfl rfl trivial ?_
    refine vNil ?_
    change VC _ _ _ _
    refine vCond rfl (fun hb5 => ?_) (fun hb5 => ?_)
    ·replace h := cnd_t hb5 h
     refine vSkip ?_
     change VC _ _ _ _
     refine vSeq ?_
     refine vBlock ?_
     refine vSeq ?_
     refine vRegionD (by kernel_rfl) (by kernel_rfl) ?_
     iterate 4 refine cVal tt rfl (wNone rfl) rfl rfl rfl trivial ?_
     obtain ⟨hg6, h⟩ := grd_inv h
     refine cVal tt rfl (wNone rfl) rfl rfl rfl hg6 ?_
     refine cVal tt rfl (wNone rfl) rfl rfl rfl trivial ?_
     obtain ⟨hg7, h⟩ := grd_inv h
     refine cVal tt rfl (wNone rfl) rfl rfl rfl hg7 ?_
     iterate 7 refine cVal tt rfl (wNone rfl) rfl rfl rfl trivial ?_
     refine cVal tt rfl (wNone rfl) rfl rfl rfl hg6 ?_
     refine cVal tt rfl (wNone rfl) rfl rfl rfl trivial ?_
     obtain ⟨hg8, h⟩ := grd_inv h
     refine cVal tt rfl (wNone rfl) rfl rfl rfl hg8 ?_
     refine cVal tt rfl (wNone rfl) rfl rfl rfl trivial ?_
     refine cPure (wNone rfl) (pNeP eqP_impl_Place rfl rfl rfl) rfl rfl ?_
     refine cNil ?_
     change VC _ _ _ _
     refine vCond rfl (fun hb9 => ?_) (fun hb9 => ?_)
     ·replace h := cnd_t hb9 h
      refine vSeq ?_
      refine vRegion ?_
      refine oVal tt rfl rfl rfl rfl rfl trivial ?_
      refine vNil ?_
      change VC _ _ _ _
      refine vRet ?_
      change ∃ _, _
      cases h
      exact ⟨[], _, rfl, trivial, rfl, (.eq rfl), rfl⟩
     ·replace h := cnd_f hb9 h
      refine vSkip ?_
      change VC _ _ _ _
      refine vRegion ?_
      refine oVal tt rfl rfl rfl rfl rfl trivial ?_
      obtain ⟨hg10, h⟩ := grd_inv h
      refine oVal tt rfl rfl rfl rfl rfl hg10 ?_
      refine oVal tt rfl rfl rfl rfl rfl trivial ?_
      refine vNil ?_
      change ∃ _, _
      exact ⟨(i5 + (1 : Int)), (En.of ⟨rfl, rfl, rfl, trivial⟩ trivial ⟨rfl, trivial⟩), h⟩
    ·replace h := cnd_f hb5 h
     refine vExit ?_
     change ∃ _, _
     exact ⟨(), (En.of ⟨rfl, rfl, trivial⟩ trivial ⟨rfl, trivial⟩), h⟩
def M_Framework_square (N : Nat) (f_0 : Frm) (a_1 : Int) (b_2 : Int) : Option (Int) :=
 grd (0 ≤ a_1 ∧ a_1 < (f_0.places.length : Int)) <|
 grd (0 ≤ b_2 ∧ b_2 < (f_0.places.length : Int)) <|
 grd (Rg64 (((f_0.places.getD ((a_1).toNat) (0, 0)).1) - ((f_0.places.getD ((b_2).toNat) (0, 0)).1))) <|
 grd (Rg64 (((f_0.places.getD ((a_1).toNat) (0, 0)).2) - ((f_0.places.getD ((b_2).toNat) (0, 0)).2))) <|
 grd (Rg64 ((((f_0.places.getD ((a_1).toNat) (0, 0)).1) - ((f_0.places.getD ((b_2).toNat) (0, 0)).1)) * (((f_0.places.getD ((a_1).toNat) (0, 0)).1) - ((f_0.places.getD ((b_2).toNat) (0, 0)).1)))) <|
 grd (Rg64 ((((f_0.places.getD ((a_1).toNat) (0, 0)).2) - ((f_0.places.getD ((b_2).toNat) (0, 0)).2)) * (((f_0.places.getD ((a_1).toNat) (0, 0)).2) - ((f_0.places.getD ((b_2).toNat) (0, 0)).2)))) <|
 grd (Rg64 (((((f_0.places.getD ((a_1).toNat) (0, 0)).1) - ((f_0.places.getD ((b_2).toNat) (0, 0)).1)) * (((f_0.places.getD ((a_1).toNat) (0, 0)).1) - ((f_0.places.getD ((b_2).toNat) (0, 0)).1))) + ((((f_0.places.getD ((a_1).toNat) (0, 0)).2) - ((f_0.places.getD ((b_2).toNat) (0, 0)).2)) * (((f_0.places.getD ((a_1).toNat) (0, 0)).2) - ((f_0.places.getD ((b_2).toNat) (0, 0)).2))))) <|
 some (((((f_0.places.getD ((a_1).toNat) (0, 0)).1) - ((f_0.places.getD ((b_2).toNat) (0, 0)).1)) * (((f_0.places.getD ((a_1).toNat) (0, 0)).1) - ((f_0.places.getD ((b_2).toNat) (0, 0)).1))) + ((((f_0.places.getD ((a_1).toNat) (0, 0)).2) - ((f_0.places.getD ((b_2).toNat) (0, 0)).2)) * (((f_0.places.getD ((a_1).toNat) (0, 0)).2) - ((f_0.places.getD ((b_2).toNat) (0, 0)).2))))
set_option maxRecDepth 20000 in
set_option maxHeartbeats 1600000 in
theorem M_Framework_square_w (N : Nat) (f_0 : Frm) (a_1 : Int) (b_2 : Int) (r : Int) (h : M_Framework_square N f_0 a_1 b_2 = some r) : PCall Try.prog 133 [fD f_0, .int a_1, .int b_2] [] (.int r) := by
 unfold M_Framework_square at h
 refine pcall_intro (TT := TT) tt Try.func133 rfl rfl Try.ntmps133 (congrArg Array.toList Try.results133) rfl rfl fun w0 => ?_
 refine vSeq ?_
 refine vRegion ?_
 refine oBox rfl rfl rfl rfl rfl rfl rfl rfl rfl ?_
 refine oVal tt rfl rfl rfl rfl rfl trivial ?_
 refine vNil ?_
 change VC _ _ _ _
 refine vSeq ?_
 refine vRegionD (by kernel_rfl) (by kernel_rfl) ?_
 iterate 3 refine cVal tt rfl (wNone rfl) rfl rfl rfl trivial ?_
 obtain ⟨hg1, h⟩ := grd_inv h
 refine cVal tt rfl (wNone rfl) rfl rfl rfl hg1 ?_
 iterate 5 refine cVal tt rfl (wNone rfl) rfl rfl rfl trivial ?_
 obtain ⟨hg2, h⟩ := grd_inv h
 refine cVal tt rfl (wNone rfl) rfl rfl rfl hg2 ?_
 iterate 2 refine cVal tt rfl (wNone rfl) rfl rfl rfl trivial ?_
 obtain ⟨hg3, h⟩ := grd_inv h
 refine cVal tt rfl (wNone rfl) rfl rfl rfl hg3 ?_
 iterate 3 refine cVal tt rfl (wNone rfl) rfl rfl rfl trivial ?_
 refine cVal tt rfl (wNone rfl) rfl rfl rfl hg1 ?_
 iterate 5 refine cVal tt rfl (wNone rfl) rfl rfl rfl trivial ?_
 refine cVal tt rfl (wNone rfl) rfl rfl rfl hg2 ?_
 iterate 2 refine cVal tt rfl (wNone rfl) rfl rfl rfl trivial ?_
 obtain ⟨hg4, h⟩ := grd_inv h
 refine cVal tt rfl (wNone rfl) rfl rfl rfl hg4 ?_
 iterate 2 refine cVal tt rfl (wNone rfl) rfl rfl rfl trivial ?_
 refine cNil ?_
 change VC _ _ _ _
 refine vSeq ?_
 refine vRegion ?_
 iterate 2 refine oVal tt rfl rfl rfl rfl rfl trivial ?_
 obtain ⟨hg5, h⟩ := grd_inv h
 refine oVal tt rfl rfl rfl rfl rfl hg5 ?_
 iterate 2 refine oVal tt rfl rfl rfl rfl rfl trivial ?_
 obtain ⟨hg6, h⟩ := grd_inv h
 refine oVal tt rfl rfl rfl rfl rfl hg6 ?_
 obtain ⟨hg7, h⟩ := grd_inv h
 refine oVal tt rfl rfl rfl rfl rfl hg7 ?_
 refine oVal tt rfl rfl rfl rfl rfl trivial ?_
 refine vNil ?_
 change VC _ _ _ _
 refine vRet ?_
 change ∃ _, _
 cases h
 exact ⟨[], _, rfl, trivial, rfl, (.eq rfl), rfl⟩
def I_IsPose_l1 (N : Nat) (l_0 : Lnk) (p_1 : List (Int × Int)) (k : Unit → Option (Bool)) : Nat → Int → Option (Bool)
 | 0, _ => none
 | n + 1, x19 =>
  cnd (decide (x19 < (l_0.f.g.bars.length : Int))) (
   grd (0 ≤ x19 ∧ x19 < (l_0.f.g.bars.length : Int)) <|
   (M_Framework_square N l_0.f ((l_0.f.g.bars.getD ((x19).toNat) (0, 0)).1) ((l_0.f.g.bars.getD ((x19).toNat) (0, 0)).2)).bind fun v22 =>
   (M_Framework_square N (⟨⟨(0 : Int), ([] : List (Int × Int))⟩, p_1⟩ : Frm) ((l_0.f.g.bars.getD ((x19).toNat) (0, 0)).1) ((l_0.f.g.bars.getD ((x19).toNat) (0, 0)).2)).bind fun v23 =>
   cnd (v22 != v23) (
    some false) (
    grd (Rg64 (x19 + (1 : Int))) <|
    I_IsPose_l1 N l_0 p_1 k n (x19 + (1 : Int)))) (
   k ())
def I_IsPose_l2 (N : Nat) (l_0 : Lnk) (p_1 : List (Int × Int)) (k : Unit → Option (Bool)) : Nat → Int → Option (Bool)
 | 0, _ => none
 | n + 1, x27 =>
  cnd (decide (x27 < (p_1.length : Int))) (
   grd (0 ≤ x27 ∧ x27 < (p_1.length : Int)) <|
   (I_isPlace N (p_1.getD ((x27).toNat) (0, 0))).bind fun v30 =>
   cnd (!v30) (
    some false) (
    (G_Contains_int N l_0.ground x27).bind fun v31 =>
    cnd v31 (
     grd (0 ≤ x27 ∧ x27 < (l_0.f.places.length : Int)) <|
     cnd (!(((p_1.getD ((x27).toNat) (0, 0)).1 == (l_0.f.places.getD ((x27).toNat) (0, 0)).1) && ((p_1.getD ((x27).toNat) (0, 0)).2 == (l_0.f.places.getD ((x27).toNat) (0, 0)).2))) (
      some false) (
      grd (Rg64 (x27 + (1 : Int))) <|
      I_IsPose_l2 N l_0 p_1 k n (x27 + (1 : Int)))) (
     grd (Rg64 (x27 + (1 : Int))) <|
     I_IsPose_l2 N l_0 p_1 k n (x27 + (1 : Int))))) (
   k ())
def I_IsPose (N : Nat) (l_0 : Lnk) (p_1 : List (Int × Int)) : Option (Bool) :=
 (I_IsLinkage N l_0).bind fun v1 =>
 cnd (!v1) (
  some false) (
  cnd ((p_1.length : Int) != (l_0.f.places.length : Int)) (
   some false) (
   I_IsPose_l2 N l_0 p_1 (fun (_ : Unit) =>
      I_IsPose_l1 N l_0 p_1 (fun (_ : Unit) =>
         some true) N (0 : Int)) N (0 : Int)))
set_option maxRecDepth 20000 in
set_option maxHeartbeats 1600000 in
theorem I_IsPose_w (N : Nat) (l_0 : Lnk) (p_1 : List (Int × Int)) (r : Bool) (h : I_IsPose N l_0 p_1 = some r) : PCall Try.prog 88 [lD l_0, .ro false (.pairs p_1)] [] (.bool r) := by
 unfold I_IsPose at h
 refine pcall_intro (TT := TT) tt Try.func88 rfl rfl Try.ntmps88 (congrArg Array.toList Try.results88) rfl rfl fun w0 => ?_
 refine vSeq ?_
 refine vRegion ?_
 refine oBox rfl rfl rfl rfl rfl rfl rfl rfl rfl ?_
 refine oVal tt rfl rfl rfl rfl rfl trivial ?_
 refine vNil ?_
 change VC _ _ _ _
 refine vSeq ?_
 refine vRegion ?_
 iterate 2 refine oVal tt rfl rfl rfl rfl rfl trivial ?_
 refine oAlloc tt rfl rfl rfl rfl rfl rfl rfl rfl rfl ?_
 refine oStore tt rfl rfl rfl rfl rfl rfl rfl rfl rfl rfl rfl ⟨trivial, trivial, trivial, trivial⟩ ?_
 refine vNil ?_
 change VC _ _ _ _
 iterate 2 refine vSeq ?_
 refine vRegion ?_
 refine oVal tt rfl rfl rfl rfl rfl trivial ?_
 obtain ⟨v1, hc1, h⟩ := bind_inv h
 refine oCall (I_IsLinkage_w N l_0 v1 hc1) rfl rfl rfl rfl rfl rfl rfl rfl ⟨⟨rfl, rfl, rfl, rfl, trivial⟩, trivial⟩ ?_
 iterate 2 refine oVal tt rfl rfl rfl rfl rfl trivial ?_
 refine oSplit rfl rfl rfl (fun hb2 => ?_) (fun hb2 => ?_)
 ·replace h := cnd_t hb2 h
  iterate 6 refine oNoF rfl rfl rfl rfl hb2 rfl rfl ?_
  refine oPick rfl rfl rfl rfl rfl hb2 rfl ?_
  refine vNil ?_
  change VC _ _ _ _
  refine vCondT rfl rfl ?_
  refine vSeq ?_
  refine vRegion ?_
  refine oVal tt rfl rfl rfl rfl rfl trivial ?_
  refine vNil ?_
  change VC _ _ _ _
  refine vRet ?_
  change ∃ _, _
  cases h
  exact ⟨[], _, rfl, trivial, rfl, (.eq rfl), rfl⟩
 ·replace h := cnd_f hb2 h
  iterate 6 refine oValG tt rfl rfl rfl rfl rfl hb2 rfl rfl rfl trivial ?_
  refine oPickF rfl rfl rfl rfl rfl hb2 rfl ?_
  refine vNil ?_
  change VC _ _ _ _
  refine vCond rfl (fun hb3 => ?_) (fun hb3 => ?_)
  ·replace h := cnd_t hb3 h
   refine vSeq ?_
   refine vRegion ?_
   refine oVal tt rfl rfl rfl rfl rfl trivial ?_
   refine vNil ?_
   change VC _ _ _ _
   refine vRet ?_
   change ∃ _, _
   cases h
   exact ⟨[], _, rfl, trivial, rfl, (.eq rfl), rfl⟩
  ·replace h := cnd_f hb3 h
   refine vSkip ?_
   change VC _ _ _ _
   iterate 2 refine vSeq ?_
   refine vRegion ?_
   iterate 3 refine oVal tt rfl rfl rfl rfl rfl trivial ?_
   refine vNil ?_
   change VC _ _ _ _
   refine vJoin (F := fun k => I_IsPose_l2 N l_0 p_1 k) h (α := Unit) (J := fun (_ : Unit) => (⟨[(1, .ro false (.pairs p_1)), (5, .ptr 5 0)], [], [(5, some [.int l_0.f.g.n, .ro false (.pairs l_0.f.g.bars), .ro false (.pairs l_0.f.places)])]⟩ : PS)) ?_ ?_
   ·rintro ⟨⟩ h
    show VC _ _ _ (⟨[(1, .ro false (.pairs p_1)), (5, .ptr 5 0)], [], [(5, some [.int l_0.f.g.n, .ro false (.pairs l_0.f.g.bars), .ro false (.pairs l_0.f.places)])]⟩ : PS)
    refine vSeq ?_
    refine vRegion ?_
    refine oVal tt rfl rfl rfl rfl rfl trivial ?_
    refine oPure (wNone rfl) (pBuild bld_impl_Framework rfl rfl) rfl rfl ?_
    refine oAlloc tt rfl rfl rfl rfl rfl rfl rfl rfl rfl ?_
    refine oStore tt rfl rfl rfl rfl rfl rfl rfl rfl rfl rfl rfl ⟨trivial, trivial, trivial, trivial⟩ ?_
    refine vNil ?_
    change VC _ _ _ _
    iterate 2 refine vSeq ?_
    refine vRegion ?_
    iterate 5 refine oVal tt rfl rfl rfl rfl rfl trivial ?_
    refine vNil ?_
    change VC _ _ _ _
    refine vJoin (F := fun k => I_IsPose_l1 N l_0 p_1 k) h (α := Unit) (J := fun (_ : Unit) => (⟨[], [], []⟩ : PS)) ?_ ?_
    ·rintro ⟨⟩ h
     show VC _ _ _ (⟨[], [], []⟩ : PS)
     refine vSeq ?_
     refine vRegion ?_
     refine oVal tt rfl rfl rfl rfl rfl trivial ?_
     refine vNil ?_
     change VC _ _ _ _
     refine vRet ?_
     change ∃ _, _
     cases h
     exact ⟨[], _, rfl, trivial, rfl, (.eq rfl), rfl⟩
    ·intro k h
     refine vBlock ?_
     refine vLoopS (α := Int) (fun (x19 : Int) => (⟨[(5, .ptr 5 0), (8, .ptr 8 0), (54, .ro false (.pairs l_0.f.g.bars)), (55, .int (l_0.f.g.bars.length : Int)), (56, .int x19)], [], [(5, some [.int l_0.f.g.n, .ro false (.pairs l_0.f.g.bars), .ro false (.pairs l_0.f.places)]), (8, some [.int (0 : Int), .nil, .ro false (.pairs p_1)])]⟩ : PS)) (I_IsPose_l1 N l_0 p_1 k) h (En.of ⟨rfl, rfl, rfl, rfl, rfl, trivial⟩ trivial ⟨rfl, rfl, trivial⟩) (fun _ => rfl) ?_
     rintro n x19 h
     rw [I_IsPose_l1] at h
     show VC _ _ _ (⟨[(5, .ptr 5 0), (8, .ptr 8 0), (54, .ro false (.pairs l_0.f.g.bars)), (55, .int (l_0.f.g.bars.length : Int)), (56, .int x19)], [], [(5, some [.int l_0.f.g.n, .ro false (.pairs l_0.f.g.bars), .ro false (.pairs l_0.f.places)]), (8, some [.int (0 : Int), .nil, .ro false (.pairs p_1)])]⟩ : PS)
     refine vSeq ?_
     refine vRegion ?_
     refine oVal tt rfl rfl rfl rfl rfl trivial ?_
     refine vNil ?_
     change VC _ _ _ _
     refine vSeq ?_
     refine vCond rfl (fun hb4 => ?_) (fun hb4 => ?_)
     ·replace h := cnd_t hb4 h
      refine vSkip ?_
      change VC _ _ _ _
      refine vSeq ?_
      refine vBlock ?_
      refine vSeq ?_
      refine vRegion ?_
      obtain ⟨hg5, h⟩ := grd_inv h
      refine oVal tt rfl rfl rfl rfl rfl hg5 ?_
      refine oVal tt rfl rfl rfl rfl rfl trivial ?_
      refine oAlloc tt rfl rfl rfl rfl rfl rfl rfl rfl rfl ?_
      refine oStore tt rfl rfl rfl rfl rfl rfl rfl rfl rfl rfl rfl ⟨trivial, trivial, trivial⟩ ?_
      refine vNil ?_
      change VC _ _ _ _
      refine vSeq ?_
      refine vRegionD (by kernel_rfl) (by kernel_rfl) ?_
      iterate 5 refine cVal tt rfl (wNone rfl) rfl rfl rfl trivial ?_
      obtain ⟨v22, hc6, h⟩ := bind_inv h
      refine cCall (M_Framework_square_w N l_0.f ((l_0.f.g.bars.getD ((x19).toNat) (0, 0)).1) ((l_0.f.g.bars.getD ((x19).toNat) (0, 0)).2) v22 hc6) rfl (wNone rfl) rfl rfl rfl rfl rfl rfl ⟨⟨rfl, rfl, rfl, trivial⟩, rfl, rfl, trivial⟩ ?_
      iterate 5 refine cVal tt rfl (wNone rfl) rfl rfl rfl trivial ?_
      obtain ⟨v23, hc7, h⟩ := bind_inv h
      refine cCall (M_Framework_square_w N (⟨⟨(0 : Int), ([] : List (Int × Int))⟩, p_1⟩ : Frm) ((l_0.f.g.bars.getD ((x19).toNat) (0, 0)).1) ((l_0.f.g.bars.getD ((x19).toNat) (0, 0)).2) v23 hc7) rfl (wNone rfl) rfl rfl rfl rfl rfl rfl ⟨⟨rfl, rfl, rfl, trivial⟩, rfl, rfl, trivial⟩ ?_
      refine cVal tt rfl (wNone rfl) rfl rfl rfl trivial ?_
      refine cNil ?_
      change VC _ _ _ _
      refine vCond rfl (fun hb8 => ?_) (fun hb8 => ?_)
      ·replace h := cnd_t hb8 h
       refine vSeq ?_
       refine vRegion ?_
       refine oVal tt rfl rfl rfl rfl rfl trivial ?_
       refine vNil ?_
       change VC _ _ _ _
       refine vRet ?_
       change ∃ _, _
       cases h
       exact ⟨[], _, rfl, trivial, rfl, (.eq rfl), rfl⟩
      ·replace h := cnd_f hb8 h
       refine vSkip ?_
       change VC _ _ _ _
       refine vRegion ?_
       obtain ⟨hg9, h⟩ := grd_inv h
       refine oVal tt rfl rfl rfl rfl rfl hg9 ?_
       refine oVal tt rfl rfl rfl rfl rfl trivial ?_
       refine vNil ?_
       change ∃ _, _
       exact ⟨(x19 + (1 : Int)), (En.of ⟨rfl, rfl, rfl, rfl, rfl, trivial⟩ trivial ⟨rfl, rfl, trivial⟩), h⟩
     ·replace h := cnd_f hb4 h
      refine vExit ?_
      change ∃ _, _
      exact ⟨(), (En.of trivial trivial trivial), h⟩
   ·intro k h
    refine vBlock ?_
    refine vLoopS (α := Int) (fun (x27 : Int) => (⟨[(1, .ro false (.pairs p_1)), (2, .ptr 2 0), (5, .ptr 5 0), (24, .ro false (.pairs p_1)), (25, .int (p_1.length : Int)), (26, .int x27)], [], [(2, some [.int l_0.f.g.n, .ro false (.pairs l_0.f.g.bars), .ro false (.pairs l_0.f.places), .ro false (.ints l_0.ground)]), (5, some [.int l_0.f.g.n, .ro false (.pairs l_0.f.g.bars), .ro false (.pairs l_0.f.places)])]⟩ : PS)) (I_IsPose_l2 N l_0 p_1 k) h (En.of ⟨rfl, rfl, rfl, rfl, rfl, rfl, trivial⟩ trivial ⟨rfl, rfl, trivial⟩) (fun _ => rfl) ?_
    rintro n x27 h
    rw [I_IsPose_l2] at h
    show VC _ _ _ (⟨[(1, .ro false (.pairs p_1)), (2, .ptr 2 0), (5, .ptr 5 0), (24, .ro false (.pairs p_1)), (25, .int (p_1.length : Int)), (26, .int x27)], [], [(2, some [.int l_0.f.g.n, .ro false (.pairs l_0.f.g.bars), .ro false (.pairs l_0.f.places), .ro false (.ints l_0.ground)]), (5, some [.int l_0.f.g.n, .ro false (.pairs l_0.f.g.bars), .ro false (.pairs l_0.f.places)])]⟩ : PS)
    refine vSeq ?_
    refine vRegion ?_
    refine oVal tt rfl rfl rfl rfl rfl trivial ?_
    refine vNil ?_
    change VC _ _ _ _
    refine vSeq ?_
    refine vCond rfl (fun hb10 => ?_) (fun hb10 => ?_)
    ·replace h := cnd_t hb10 h
     refine vSkip ?_
     change VC _ _ _ _
     refine vSeq ?_
     refine vBlock ?_
     refine vSeq ?_
     refine vRegion ?_
     refine oVal tt rfl rfl rfl rfl rfl trivial ?_
     obtain ⟨hg11, h⟩ := grd_inv h
     refine oVal tt rfl rfl rfl rfl rfl hg11 ?_
     refine oVal tt rfl rfl rfl rfl rfl trivial ?_
     refine oAlloc tt rfl rfl rfl rfl rfl rfl rfl rfl rfl ?_
     refine oVal tt rfl rfl rfl rfl rfl trivial ?_
     refine oStore tt rfl rfl rfl rfl rfl rfl rfl rfl rfl rfl rfl ⟨trivial, trivial, trivial⟩ ?_
     refine vNil ?_
     change VC _ _ _ _
     refine vSeq ?_
     refine vRegionD (by kernel_rfl) (by kernel_rfl) ?_
     refine cVal tt rfl (wNone rfl) rfl rfl rfl trivial ?_
     obtain ⟨v30, hc12, h⟩ := bind_inv h
     refine cCall (I_isPlace_w N (p_1.getD ((x27).toNat) (0, 0)) v30 hc12) rfl (wNone rfl) rfl rfl rfl rfl rfl rfl ⟨⟨rfl, rfl, trivial⟩, trivial⟩ ?_
     iterate 2 refine cVal tt rfl (wNone rfl) rfl rfl rfl trivial ?_
     refine cSplit rfl rfl rfl (fun hb13 => ?_) (fun hb13 => ?_)
     ·replace h := cnd_t hb13 h
      iterate 5 refine cNoF rfl rfl rfl rfl hb13 rfl rfl ?_
      iterate 7 refine cNoU rfl rfl rfl rfl rfl ?_
      refine cNoF rfl rfl rfl rfl hb13 rfl rfl ?_
      refine cPickT rfl (wNone rfl) rfl rfl rfl hb13 rfl ?_
      refine cNil ?_
      change VC _ _ _ _
      refine vCondT rfl rfl ?_
      refine vSeq ?_
      refine vRegion ?_
      refine oVal tt rfl rfl rfl rfl rfl trivial ?_
      refine vNil ?_
      change VC _ _ _ _
      refine vRet ?_
      change ∃ _, _
      cases h
      exact ⟨[], _, rfl, trivial, rfl, (.eq rfl), rfl⟩
     ·replace h := cnd_f hb13 h
      iterate 3 refine cVal tt rfl (wSome rfl rfl rfl rfl hb13) rfl rfl rfl trivial ?_
      obtain ⟨v31, hc14, h⟩ := bind_inv h
      refine cCall (G_Contains_int_w N l_0.ground x27 v31 hc14) rfl (wSome rfl rfl rfl rfl hb13) rfl rfl rfl rfl rfl rfl ⟨rfl, rfl, trivial⟩ ?_
      refine cVal tt rfl (wSome rfl rfl rfl rfl hb13) rfl rfl rfl trivial ?_
      refine cSplit rfl rfl rfl (fun hb15 => ?_) (fun hb15 => ?_)
      ·replace h := cnd_t hb15 h
       iterate 4 refine cVal tt rfl (wSome rfl rfl rfl rfl hb15) rfl rfl rfl trivial ?_
       obtain ⟨hg16, h⟩ := grd_inv h
       refine cVal tt rfl (wSome rfl rfl rfl rfl hb15) rfl rfl rfl hg16 ?_
       refine cVal tt rfl (wSome rfl rfl rfl rfl hb15) rfl rfl rfl trivial ?_
       refine cPure (wSome rfl rfl rfl rfl hb15) (pNeP eqP_impl_Place rfl rfl rfl) rfl rfl ?_
       refine cPickT rfl (wSome rfl rfl rfl rfl hb13) rfl rfl rfl hb15 rfl ?_
       refine cPickF rfl (wNone rfl) rfl rfl rfl hb13 rfl ?_
       refine cNil ?_
       change VC _ _ _ _
       refine vCond rfl (fun hb17 => ?_) (fun hb17 => ?_)
       ·replace h := cnd_t hb17 h
        refine vSeq ?_
        refine vRegion ?_
        refine oVal tt rfl rfl rfl rfl rfl trivial ?_
        refine vNil ?_
        change VC _ _ _ _
        refine vRet ?_
        change ∃ _, _
        cases h
        exact ⟨[], _, rfl, trivial, rfl, (.eq rfl), rfl⟩
       ·replace h := cnd_f hb17 h
        refine vSkip ?_
        change VC _ _ _ _
        refine vRegion ?_
        obtain ⟨hg18, h⟩ := grd_inv h
        refine oVal tt rfl rfl rfl rfl rfl hg18 ?_
        refine oVal tt rfl rfl rfl rfl rfl trivial ?_
        refine vNil ?_
        change ∃ _, _
        exact ⟨(x27 + (1 : Int)), (En.of ⟨rfl, rfl, rfl, rfl, rfl, rfl, trivial⟩ trivial ⟨rfl, rfl, trivial⟩), h⟩
      ·replace h := cnd_f hb15 h
       iterate 7 refine cNoT rfl rfl rfl rfl hb15 rfl rfl ?_
       refine cPickF rfl (wSome rfl rfl rfl rfl hb13) rfl rfl rfl hb15 rfl ?_
       refine cPickF rfl (wNone rfl) rfl rfl rfl hb13 rfl ?_
       refine cNil ?_
       change VC _ _ _ _
       refine vCondF rfl rfl ?_
       refine vSkip ?_
       change VC _ _ _ _
       refine vRegion ?_
       obtain ⟨hg19, h⟩ := grd_inv h
       refine oVal tt rfl rfl rfl rfl rfl hg19 ?_
       refine oVal tt rfl rfl rfl rfl rfl trivial ?_
       refine vNil ?_
       change ∃ _, _
       exact ⟨(x27 + (1 : Int)), (En.of ⟨rfl, rfl, rfl, rfl, rfl, rfl, trivial⟩ trivial ⟨rfl, rfl, trivial⟩), h⟩
    ·replace h := cnd_f hb10 h
     refine vExit ?_
     change ∃ _, _
     exact ⟨(), (En.of ⟨rfl, rfl, trivial⟩ trivial ⟨rfl, trivial⟩), h⟩
end Go.Proofs.Ytcljhpldfanhkaa
namespace Go.Proofs.Ytcljhpldfanhkaa
variable (N : Nat)
def onGrid (p : Int × Int) : Bool := inB p.1 0 4 && inB p.2 0 4
theorem onGrid_bd {p : Int × Int} (h : onGrid p = true) : 0 ≤ p.1 ∧ p.1 ≤ 4 ∧ 0 ≤ p.2 ∧ p.2 ≤ 4 := by
 rw [onGrid, Bool.and_eq_true] at h
 have h1 := inB_true.1 h.1
 have h2 := inB_true.1 h.2
 omega
theorem isPlace_s (p : Int × Int) : I_isPlace N p = some (onGrid p) := by
 unfold I_isPlace onGrid
 simp only [within_s, Option.bind_some, cnd_some]
 cases inB p.1 0 4 <;> rfl
abbrev pl0 (l : List (Int × Int)) (x : Int) : Int × Int := l.getD x.toNat (0, 0)
def frAt (f : Frm) (i : Nat) : Bool := !(pl0 f.places (f.g.bars.getD i (0, 0)).1 == pl0 f.places (f.g.bars.getD i (0, 0)).2) && !doubleAt f.g.bars i
def gridAt (l : List (Int × Int)) (i : Nat) : Bool := onGrid (l.getD i (0, 0))
def isFr (f : Frm) : Bool := isGraph f.g && (decide (f.g.n ≤ 6) && (decide ((f.places.length : Int) = f.g.n) && (decide (f.g.bars.length ≤ 15) && ((List.range f.places.length).all (gridAt f.places) && (List.range f.g.bars.length).all (frAt f)))))
theorem isGraph_nn {g : Grf} (h : isGraph g = true) : 1 ≤ g.n ∧ g.n ≤ 8 ∧ g.bars.length ≤ 24 := by
 have := isGraph_parts h; omega
theorem bar_bdd {g : Grf} (hg : isGraph g = true) {i : Nat} (hi : i < g.bars.length) : 0 ≤ (g.bars.getD i (0, 0)).1 ∧ (g.bars.getD i (0, 0)).1 < g.n ∧ 0 ≤ (g.bars.getD i (0, 0)).2 ∧ (g.bars.getD i (0, 0)).2 < g.n ∧ g.n ≤ 8 := by
 have h2 := isGraph_bar hg (List.getElem_mem hi)
 have h3 := isGraph_nn hg
 simp [List.getD_eq_getElem?_getD, hi]
 omega
theorem isFrS_s (hN : 4000000 ≤ N) {f : Frm} (hp : f.places.length ≤ 3000000) : S_IsFramework N f = some (isFr f) := by
 unfold S_IsFramework isFr
 rw [isGraphS_s N hN, Option.bind_some, cnd_not]
 cases hg : isGraph f.g with
 | false => rfl
 | true =>
  have hn := isGraph_nn hg
  rw [cnd_true]
  by_cases h1 : f.g.n ≤ 6
  ·by_cases h2 : (f.places.length : Int) = f.g.n
   ·by_cases h3 : f.g.bars.length ≤ 15
    ·rw [cnd_df (by omega), cnd_nef h2, cnd_df (by omega), decide_eq_true h1, decide_eq_true h2, decide_eq_true h3]
     refine (srch (len := f.places.length) (ok := gridAt f.places) (bad := some false) (fin := some ((List.range f.g.bars.length).all (frAt f))) (by omega) ?_ ?_).trans ?_
     ·intro n i hi _
      rw [S_IsFramework_l2]
      simp (disch := omega) only [Int.toNat_natCast, tk0, List.length_cons, List.length_nil, grd_pos, grd_T, grd_R, cnd_dt, cnd_df, cnd_true, cnd_false, Option.bind_some, l1In_s, cnd_or, succ_cast]
      refine cnd_congr' ?_ _ _
      simp [gridAt, onGrid]
     ·intro n _
      rw [S_IsFramework_l2]
      simp (disch := omega) only [Int.toNat_natCast, tk0, List.length_cons, List.length_nil, grd_pos, grd_T, grd_R, cnd_dt, cnd_df, cnd_true, cnd_false, Option.bind_some]
      refine (srch (len := f.g.bars.length) (ok := frAt f) (bad := some false) (fin := some true) (by omega) ?_ ?_).trans (by rw [cnd_some, cnd_bool])
      ·intro n i hi _
       have hb := bar_bdd hg hi
       rw [S_IsFramework_l1]
       by_cases h0 : i = 0
       ·subst h0
        simp (disch := omega) only [Int.toNat_natCast, tk0, List.length_cons, List.length_nil, grd_pos, grd_T, grd_R, cnd_dt, cnd_df, cnd_true, cnd_false, Option.bind_some, pair_eq, cnd_or, succ_cast]
        refine cnd_congr' ?_ _ _
        simp [frAt, doubleAt]
       ·simp (disch := omega) only [Int.toNat_natCast, tk0, List.length_cons, List.length_nil, grd_pos, grd_T, grd_R, cnd_dt, cnd_df, cnd_true, cnd_false, Option.bind_some, pair_eq, cnd_or, succ_cast, show ((i : Int) - 1).toNat = i - 1 from by omega]
        refine cnd_congr' ?_ _ _
        unfold frAt doubleAt
        rw [decide_eq_true (show 0 < i by omega)]
        cases (pl0 f.places (f.g.bars.getD i (0, 0)).1 == pl0 f.places (f.g.bars.getD i (0, 0)).2) <;> simp
      ·intro n _
       rw [S_IsFramework_l1]
       simp (disch := omega) only [Int.toNat_natCast, tk0, List.length_cons, List.length_nil, grd_pos, grd_T, grd_R, cnd_dt, cnd_df, cnd_true, cnd_false, Option.bind_some]
     ·rw [cnd_some]; cases (List.range f.places.length).all (gridAt f.places) <;> rfl
    ·rw [cnd_df (by omega), cnd_nef h2, cnd_dt (by omega), decide_eq_false h3]; simp
   ·rw [cnd_df (by omega), cnd_net h2, decide_eq_false h2]; simp
  ·rw [cnd_dt (by omega), decide_eq_false h1]; rfl
theorem isFrI_s (hN : 4000000 ≤ N) {f : Frm} (hp : f.places.length ≤ 3000000) : I_IsFramework N f = some (isFr f) := by
 unfold I_IsFramework isFr
 rw [isGraphI_s N hN, Option.bind_some, cnd_not]
 cases hg : isGraph f.g with
 | false => rfl
 | true =>
  have hn := isGraph_nn hg
  rw [cnd_true]
  by_cases h1 : f.g.n ≤ 6
  ·by_cases h2 : (f.places.length : Int) = f.g.n
   ·by_cases h3 : f.g.bars.length ≤ 15
    ·rw [cnd_df (by omega), cnd_df (by omega), cnd_nef h2, decide_eq_true h1, decide_eq_true h2, decide_eq_true h3]
     refine (srch (len := f.places.length) (ok := gridAt f.places) (bad := some false) (fin := some ((List.range f.g.bars.length).all (frAt f))) (by omega) ?_ ?_).trans ?_
     ·intro n i hi _
      rw [I_IsFramework_l2]
      simp (disch := omega) only [Int.toNat_natCast, tk0, List.length_cons, List.length_nil, grd_pos, grd_T, grd_R, cnd_dt, cnd_df, cnd_true, cnd_false, Option.bind_some, isPlace_s, cnd_not, succ_cast]
      rfl
     ·intro n _
      rw [I_IsFramework_l2]
      simp (disch := omega) only [Int.toNat_natCast, tk0, List.length_cons, List.length_nil, grd_pos, grd_T, grd_R, cnd_dt, cnd_df, cnd_true, cnd_false, Option.bind_some]
      refine (srch (len := f.g.bars.length) (ok := frAt f) (bad := some false) (fin := some true) (by omega) ?_ ?_).trans (by rw [cnd_some, cnd_bool])
      ·intro n i hi _
       have hb := bar_bdd hg hi
       rw [I_IsFramework_l1]
       by_cases h0 : i = 0
       ·subst h0
        simp (disch := omega) only [Int.toNat_natCast, tk0, List.length_cons, List.length_nil, grd_pos, grd_T, grd_R, cnd_dt, cnd_df, cnd_true, cnd_false, Option.bind_some, pair_eq, cnd_or, succ_cast]
        refine cnd_congr' ?_ _ _
        simp [frAt, doubleAt]
       ·simp (disch := omega) only [Int.toNat_natCast, tk0, List.length_cons, List.length_nil, grd_pos, grd_T, grd_R, cnd_dt, cnd_df, cnd_true, cnd_false, Option.bind_some, pair_eq, cnd_or, succ_cast, show ((i : Int) - 1).toNat = i - 1 from by omega]
        refine cnd_congr' ?_ _ _
        unfold frAt doubleAt
        rw [decide_eq_true (show 0 < i by omega)]
        cases (pl0 f.places (f.g.bars.getD i (0, 0)).1 == pl0 f.places (f.g.bars.getD i (0, 0)).2) <;> simp
      ·intro n _
       rw [I_IsFramework_l1]
       simp (disch := omega) only [Int.toNat_natCast, tk0, List.length_cons, List.length_nil, grd_pos, grd_T, grd_R, cnd_dt, cnd_df, cnd_true, cnd_false, Option.bind_some]
     ·rw [cnd_some]; cases (List.range f.places.length).all (gridAt f.places) <;> rfl
    ·rw [cnd_df (by omega), cnd_dt (by omega), decide_eq_false h3]; simp
   ·by_cases h3 : f.g.bars.length ≤ 15
    ·rw [cnd_df (by omega), cnd_df (by omega), cnd_net h2, decide_eq_false h2]; simp
    ·rw [cnd_df (by omega), cnd_dt (by omega), decide_eq_false h2]; simp
  ·rw [cnd_dt (by omega), decide_eq_false h1]; rfl
theorem isFr_parts {f : Frm} (h : isFr f = true) : isGraph f.g = true ∧ f.g.n ≤ 6 ∧ (f.places.length : Int) = f.g.n ∧ f.g.bars.length ≤ 15 ∧ (∀ i, i < f.places.length → gridAt f.places i = true) ∧ ∀ i, i < f.g.bars.length → frAt f i = true := by
 simp only [isFr, Bool.and_eq_true, decide_eq_true_eq, List.all_eq_true, List.mem_range] at h
 exact ⟨h.1, h.2.1, h.2.2.1, h.2.2.2.1, h.2.2.2.2.1, h.2.2.2.2.2⟩
def isLk (l : Lnk) : Bool := isFr l.f && (decide (0 < l.ground.length) && (decide (l.f.g.n - (l.ground.length : Int) ≤ 2) && asc l.f.g.n l.ground))
theorem isLkS_s (hN : 4000000 ≤ N) {l : Lnk} (hp : l.f.places.length ≤ 3000000) (hg : l.ground.length ≤ 3000000) : S_IsLinkage N l = some (isLk l) := by
 unfold S_IsLinkage isLk
 simp (disch := omega) only [Int.toNat_natCast, tk0, List.length_cons, List.length_nil, grd_pos, grd_T, grd_R, cnd_dt, cnd_df, cnd_true, cnd_false, Option.bind_some]
 refine (srch (len := l.ground.length) (ok := ascAt (l.f.places.length : Int) l.ground) (bad := some false) (fin := some (isFr l.f && (inB ((l.f.places.length : Int) - (l.ground.length : Int)) 0 2 && decide (0 < l.ground.length)))) (by omega) ?_ ?_).trans ?_
 ·intro n i hi _
  rw [S_IsLinkage_l1]
  by_cases h0 : i = 0
  ·subst h0
   simp (disch := omega) only [Int.toNat_natCast, tk0, List.length_cons, List.length_nil, grd_pos, grd_T, grd_R, cnd_dt, cnd_df, cnd_true, cnd_false, Option.bind_some, cnd_or, succ_cast]
   refine cnd_congr' ?_ _ _
   simp only [ascAt, inB]
   rw [Bool.eq_iff_iff]; simp; omega
  ·simp (disch := omega) only [Int.toNat_natCast, tk0, List.length_cons, List.length_nil, grd_pos, grd_T, grd_R, cnd_dt, cnd_df, cnd_true, cnd_false, Option.bind_some, succ_cast, cnd_or, show ((i : Int) - 1).toNat = i - 1 from by omega]
   refine cnd_congr' ?_ _ _
   simp only [ascAt, inB, decide_eq_false h0, Bool.false_or]
   rw [Bool.eq_iff_iff]; simp; omega
 ·intro n _
  rw [S_IsLinkage_l1]
  simp (disch := omega) only [Int.toNat_natCast, tk0, List.length_cons, List.length_nil, grd_pos, grd_T, grd_R, cnd_dt, cnd_df, cnd_true, cnd_false, Option.bind_some, isFrS_s N hN hp, l1In_s]
  simp only [cnd_some]
  rw [show decide ((l.ground.length : Int) > 0) = decide (0 < l.ground.length) from by rw [Bool.eq_iff_iff]; simp]
  cases isFr l.f <;> cases inB ((l.f.places.length : Int) - (l.ground.length : Int)) 0 2 <;> rfl
 ·rw [show (List.range l.ground.length).all (ascAt (l.f.places.length : Int) l.ground) = asc (l.f.places.length : Int) l.ground from rfl, cnd_some]
  congr 1
  cases hf : isFr l.f with
  | false => simp [cnd_same]
  | true =>
   obtain ⟨h1, h2, h3, h4, h5⟩ := isFr_parts hf
   rw [h3]
   cases ha : asc l.f.g.n l.ground with
   | false => simp
   | true =>
    have := asc_len ha (by omega)
    rw [cnd_true, Bool.eq_iff_iff]
    simp [inB]; omega
theorem isLkI_s (hN : 4000000 ≤ N) {l : Lnk} (hp : l.f.places.length ≤ 3000000) (hg : l.ground.length ≤ 3000000) : I_IsLinkage N l = some (isLk l) := by
 unfold I_IsLinkage isLk
 rw [isFrI_s N hN hp, Option.bind_some, cnd_not]
 cases hf : isFr l.f with
 | false => rfl
 | true =>
  obtain ⟨h1, h2, h3, h4, h5⟩ := isFr_parts hf
  have hn := isGraph_nn h1
  rw [cnd_true]
  by_cases hl : 0 < l.ground.length
  ·by_cases hd : l.f.g.n - (l.ground.length : Int) ≤ 2
   ·rw [cnd_eqf (by omega), decide_eq_true hl, decide_eq_true hd]
    simp (disch := omega) only [Int.toNat_natCast, tk0, List.length_cons, List.length_nil, grd_pos, grd_T, grd_R, cnd_dt, cnd_df, cnd_true, cnd_false, Option.bind_some]
    refine (srch (len := l.ground.length) (ok := ascAt l.f.g.n l.ground) (bad := some false) (fin := some true) (by omega) ?_ ?_).trans (by rw [cnd_some, cnd_bool, show (List.range l.ground.length).all (ascAt l.f.g.n l.ground) = asc l.f.g.n l.ground from rfl, Bool.true_and, Bool.true_and, Bool.true_and])
    ·intro n i hi _
     rw [I_IsLinkage_l1]
     by_cases h0 : i = 0
     ·subst h0
      simp (disch := omega) only [Int.toNat_natCast, tk0, List.length_cons, List.length_nil, grd_pos, grd_T, grd_R, cnd_dt, cnd_df, cnd_true, cnd_false, Option.bind_some, ghas_s N (by omega : 0 ≤ l.f.g.n) (by omega), cnd_not, succ_cast]
      refine cnd_congr ?_ _ _
      simp [ascAt]
     ·simp (disch := omega) only [Int.toNat_natCast, tk0, List.length_cons, List.length_nil, grd_pos, grd_T, grd_R, cnd_dt, cnd_df, cnd_true, cnd_false, Option.bind_some, ghas_s N (by omega : 0 ≤ l.f.g.n) (by omega), succ_cast, cnd_or, show ((i : Int) - 1).toNat = i - 1 from by omega]
      refine cnd_congr' ?_ _ _
      simp only [ascAt, decide_eq_false h0, Bool.false_or]
      cases inB (l.ground.getD i 0) 0 (l.f.g.n - 1) <;> (rw [Bool.eq_iff_iff]; simp)
    ·intro n _
     rw [I_IsLinkage_l1]
     simp (disch := omega) only [Int.toNat_natCast, tk0, List.length_cons, List.length_nil, grd_pos, grd_T, grd_R, cnd_dt, cnd_df, cnd_true, cnd_false, Option.bind_some]
   ·rw [cnd_eqf (by omega), decide_eq_false hd]
    simp (disch := omega) only [Int.toNat_natCast, tk0, List.length_cons, List.length_nil, grd_pos, grd_T, grd_R, cnd_dt, cnd_df, cnd_true, cnd_false, Option.bind_some]
    simp
  ·rw [cnd_eqt (by omega), decide_eq_false hl]; rfl
theorem isLk_parts {l : Lnk} (h : isLk l = true) : isFr l.f = true ∧ 0 < l.ground.length ∧ l.f.g.n - (l.ground.length : Int) ≤ 2 ∧ asc l.f.g.n l.ground = true := by
 simp only [isLk, Bool.and_eq_true, decide_eq_true_eq] at h
 exact ⟨h.1, h.2.1, h.2.2.1, h.2.2.2⟩
theorem sq_bd {d : Int} (h1 : -4 ≤ d) (h2 : d ≤ 4) : 0 ≤ d * d ∧ d * d ≤ 16 := by
 have : d = -4 ∨ d = -3 ∨ d = -2 ∨ d = -1 ∨ d = 0 ∨ d = 1 ∨ d = 2 ∨ d = 3 ∨ d = 4 := by omega
 rcases this with rfl | rfl | rfl | rfl | rfl | rfl | rfl | rfl | rfl <;> decide
theorem sq_zero {d : Int} (h1 : -4 ≤ d) (h2 : d ≤ 4) (h : d * d = 0) : d = 0 := by
 have : d = -4 ∨ d = -3 ∨ d = -2 ∨ d = -1 ∨ d = 0 ∨ d = 1 ∨ d = 2 ∨ d = 3 ∨ d = 4 := by omega
 rcases this with rfl | rfl | rfl | rfl | rfl | rfl | rfl | rfl | rfl <;> first | rfl | (exact absurd h (by decide))
def dsq (p q : Int × Int) : Int := (p.1 - q.1) * (p.1 - q.1) + (p.2 - q.2) * (p.2 - q.2)
theorem dsq_zero {p q : Int × Int} (hp : onGrid p = true) (hq : onGrid q = true) (h : dsq p q = 0) : p = q := by
 have h1 := onGrid_bd hp
 have h2 := onGrid_bd hq
 have h3 := sq_bd (d := p.1 - q.1) (by omega) (by omega)
 have h4 := sq_bd (d := p.2 - q.2) (by omega) (by omega)
 unfold dsq at h
 have h5 := sq_zero (d := p.1 - q.1) (by omega) (by omega) (by omega)
 have h6 := sq_zero (d := p.2 - q.2) (by omega) (by omega) (by omega)
 obtain ⟨a, b⟩ := p; obtain ⟨c, d⟩ := q
 simp only [Prod.mk.injEq]
 simp only at h5 h6
 omega
theorem dsq_self (p : Int × Int) : dsq p p = 0 := by simp [dsq]
theorem square_s {f : Frm} {a b : Int} (ha : 0 ≤ a ∧ a < (f.places.length : Int)) (hb : 0 ≤ b ∧ b < (f.places.length : Int)) (h1 : onGrid (pl0 f.places a) = true) (h2 : onGrid (pl0 f.places b) = true) : M_Framework_square N f a b = some (dsq (pl0 f.places a) (pl0 f.places b)) := by
 have k1 := onGrid_bd h1
 have k2 := onGrid_bd h2
 have k3 := sq_bd (d := (pl0 f.places a).1 - (pl0 f.places b).1) (by omega) (by omega)
 have k4 := sq_bd (d := (pl0 f.places a).2 - (pl0 f.places b).2) (by omega) (by omega)
 unfold M_Framework_square
 unfold pl0 at k1 k2 k3 k4
 simp (disch := omega) only [Int.toNat_natCast, tk0, List.length_cons, List.length_nil, grd_pos, grd_T, grd_R, cnd_dt, cnd_df, cnd_true, cnd_false, Option.bind_some]
 rfl
def barSq (pl : List (Int × Int)) (b : Int × Int) : Int := dsq (pl0 pl b.1) (pl0 pl b.2)
theorem grid_pl {pl : List (Int × Int)} (h : ∀ i, i < pl.length → gridAt pl i = true) {x : Int} (h0 : 0 ≤ x) (h1 : x < (pl.length : Int)) : onGrid (pl0 pl x) = true := h x.toNat (by omega)
theorem sqLen_s (hN : 4000000 ≤ N) {f : Frm} (hf : isFr f = true) : S_SquareLengths N f = some (f.g.bars.map (barSq f.places)) := by
 obtain ⟨h1, h2, h3, h4, h5, h6⟩ := isFr_parts hf
 unfold S_SquareLengths
 refine (fold (len := f.g.bars.length) (st := fun i => (f.g.bars.take i).map (barSq f.places)) (fin := some (f.g.bars.map (barSq f.places))) (by omega) ?_ ?_)
 ·intro n i hi
  have hb := bar_bdd h1 hi
  have g1 := onGrid_bd (grid_pl h5 (x := (f.g.bars.getD i (0, 0)).1) (by omega) (by omega))
  have g2 := onGrid_bd (grid_pl h5 (x := (f.g.bars.getD i (0, 0)).2) (by omega) (by omega))
  have k3 := sq_bd (d := (pl0 f.places (f.g.bars.getD i (0, 0)).1).1 - (pl0 f.places (f.g.bars.getD i (0, 0)).2).1) (by omega) (by omega)
  have k4 := sq_bd (d := (pl0 f.places (f.g.bars.getD i (0, 0)).1).2 - (pl0 f.places (f.g.bars.getD i (0, 0)).2).2) (by omega) (by omega)
  have hl : ((f.g.bars.take i).map (barSq f.places)).length ≤ i := by rw [List.length_map, List.length_take]; omega
  unfold pl0 at g1 g2 k3 k4
  rw [S_SquareLengths_l1]
  simp (disch := omega) only [Int.toNat_natCast, tk0, List.length_cons, List.length_nil, grd_pos, grd_T, grd_R, cnd_dt, cnd_df, cnd_true, cnd_false, Option.bind_some, isFrS_s N hN (show f.places.length ≤ 3000000 by omega), hf, succ_cast]
  rw [List.take_succ_eq_append_getElem hi, List.map_append]
  have e : f.g.bars[i] = f.g.bars.getD i (0, 0) := by simp [List.getD_eq_getElem?_getD, hi]
  rw [e]
  rfl
 ·intro n
  rw [S_SquareLengths_l1]
  simp (disch := omega) only [Int.toNat_natCast, tk0, List.length_cons, List.length_nil, grd_pos, grd_T, grd_R, cnd_dt, cnd_df, cnd_true, cnd_false, Option.bind_some, List.take_length]
theorem range_all_eq (a b : List Int) (h : a.length = b.length) : ((List.range a.length).all fun i => (a.getD i 0 == b.getD i 0)) = decide (a = b) := by
 rw [Bool.eq_iff_iff, List.all_eq_true, decide_eq_true_eq]
 constructor
 ·intro hh
  apply List.ext_getElem h
  intro i h1 h2
  have := hh i (by simpa using h1)
  simpa [List.getD_eq_getElem?_getD, h1, h2] using this
 ·rintro rfl i hi; simp
theorem l6Same_s (hN : 4000000 ≤ N) {a b : List Int} (ha : a.length ≤ 3000000) : S_l6Same N a b = some (decide (a = b)) := by
 unfold S_l6Same
 by_cases h : a.length = b.length
 ·rw [cnd_nef (by omega)]
  refine (srch (len := a.length) (ok := fun i => (a.getD i 0 == b.getD i 0)) (bad := some false) (fin := some true) (by omega) ?_ ?_).trans ?_
  ·intro n i hi _
   rw [S_l6Same_l1]
   simp (disch := omega) only [Int.toNat_natCast, tk0, List.length_cons, List.length_nil, grd_pos, grd_T, grd_R, cnd_dt, cnd_df, cnd_true, cnd_false, Option.bind_some, succ_cast]
   refine cnd_congr' ?_ _ _
   rw [bne]
  ·intro n _
   rw [S_l6Same_l1]
   simp (disch := omega) only [Int.toNat_natCast, tk0, List.length_cons, List.length_nil, grd_pos, grd_T, grd_R, cnd_dt, cnd_df, cnd_true, cnd_false, Option.bind_some]
  ·rw [cnd_some, cnd_bool, range_all_eq a b h]
 ·rw [cnd_net (by omega), decide_eq_false (fun e => h (by rw [e]))]
theorem eqGraphs_s (hN : 4000000 ≤ N) {g : Grf} (hb : g.bars.length ≤ 3000000) : S_EqualGraphs N g g = some true := by
 unfold S_EqualGraphs
 rw [cnd_nef rfl, cnd_nef rfl]
 refine (srch (len := g.bars.length) (ok := fun i => true) (bad := some false) (fin := some true) (by omega) ?_ ?_).trans ?_
 ·intro n i hi _
  rw [S_EqualGraphs_l1]
  simp (disch := omega) only [Int.toNat_natCast, tk0, List.length_cons, List.length_nil, grd_pos, grd_T, grd_R, cnd_dt, cnd_df, cnd_true, cnd_false, Option.bind_some, succ_cast, beq_self_eq_true, Bool.and_self, Bool.not_true]
 ·intro n _
  rw [S_EqualGraphs_l1]
  simp (disch := omega) only [Int.toNat_natCast, tk0, List.length_cons, List.length_nil, grd_pos, grd_T, grd_R, cnd_dt, cnd_df, cnd_true, cnd_false, Option.bind_some]
 ·rw [show ((List.range g.bars.length).all fun _ => true) = true by rw [List.all_eq_true]; intro _ _; rfl]; rfl
def poseAt (l : Lnk) (p : List (Int × Int)) (v : Nat) : Bool := onGrid (p.getD v (0, 0)) && (!l.ground.contains (v : Int) || p.getD v (0, 0) == l.f.places.getD v (0, 0))
def barAtP (l : Lnk) (p : List (Int × Int)) (i : Nat) : Bool := barSq l.f.places (l.f.g.bars.getD i (0, 0)) == barSq p (l.f.g.bars.getD i (0, 0))
def isPs (l : Lnk) (p : List (Int × Int)) : Bool := isLk l && (decide (p.length = l.f.places.length) && ((List.range p.length).all (poseAt l p) && (List.range l.f.g.bars.length).all (barAtP l p)))
theorem isPoseI_s (hN : 4000000 ≤ N) {l : Lnk} (hp : l.f.places.length ≤ 3000000) (hg : l.ground.length ≤ 3000000) {p : List (Int × Int)} : I_IsPose N l p = some (isPs l p) := by
 unfold I_IsPose isPs
 rw [isLkI_s N hN hp hg, Option.bind_some, cnd_not]
 cases hl : isLk l with
 | false => rfl
 | true =>
  obtain ⟨k1, k2, k3, k4⟩ := isLk_parts hl
  obtain ⟨h1, h2, h3, h4, h5, h6⟩ := isFr_parts k1
  rw [cnd_true]
  by_cases he : p.length = l.f.places.length
  ·rw [cnd_nef (by omega), decide_eq_true he]
   refine (srch (len := p.length) (ok := poseAt l p) (bad := some false) (fin := cnd ((List.range p.length).all (poseAt l p)) (some ((List.range l.f.g.bars.length).all (barAtP l p))) (some false)) (by omega) ?_ ?_).trans ?_
   ·intro n i hi _
    rw [I_IsPose_l2]
    simp (disch := omega) only [Int.toNat_natCast, tk0, List.length_cons, List.length_nil, grd_pos, grd_T, grd_R, cnd_dt, cnd_df, cnd_true, cnd_false, Option.bind_some, isPlace_s, contains_s N hN hg, pair_eq, cnd_and, cnd_or, succ_cast]
    refine cnd_congr' ?_ _ _
    unfold poseAt
    cases onGrid (p.getD i (0, 0)) <;> cases l.ground.contains (i : Int) <;> simp
   ·intro n hall
    have hal : (List.range p.length).all (poseAt l p) = true := by rw [List.all_eq_true]; intro j hj; exact hall j (by simpa using hj)
    rw [I_IsPose_l2, hal, cnd_true]
    simp (disch := omega) only [Int.toNat_natCast, tk0, List.length_cons, List.length_nil, grd_pos, grd_T, grd_R, cnd_dt, cnd_df, cnd_true, cnd_false, Option.bind_some]
    have hgr : ∀ i, i < p.length → gridAt p i = true := fun i hi => by
     have := hall i hi
     rw [poseAt, Bool.and_eq_true] at this
     exact this.1
    refine (srch (len := l.f.g.bars.length) (ok := barAtP l p) (bad := some false) (fin := some true) (by omega) ?_ ?_).trans (by rw [cnd_some, cnd_bool])
    ·intro n i hi _
     have hb := bar_bdd h1 hi
     rw [I_IsPose_l1]
     have q1 := square_s N (f := l.f) (a := (l.f.g.bars.getD i (0, 0)).1) (b := (l.f.g.bars.getD i (0, 0)).2) (by omega) (by omega) (grid_pl h5 (by omega) (by omega)) (grid_pl h5 (by omega) (by omega))
     have q2 := square_s N (f := ⟨⟨0, []⟩, p⟩) (a := (l.f.g.bars.getD i (0, 0)).1) (b := (l.f.g.bars.getD i (0, 0)).2) (by show 0 ≤ _ ∧ _ < (p.length : Int); omega) (by show 0 ≤ _ ∧ _ < (p.length : Int); omega) (grid_pl (pl := p) hgr (by omega) (by omega)) (grid_pl (pl := p) hgr (by omega) (by omega))
     simp (disch := omega) only [Int.toNat_natCast, tk0, List.length_cons, List.length_nil, grd_pos, grd_T, grd_R, cnd_dt, cnd_df, cnd_true, cnd_false, Option.bind_some, q1, q2, succ_cast]
     refine cnd_congr' ?_ _ _
     rw [bne]; rfl
    ·intro n _
     rw [I_IsPose_l1]
     simp (disch := omega) only [Int.toNat_natCast, tk0, List.length_cons, List.length_nil, grd_pos, grd_T, grd_R, cnd_dt, cnd_df, cnd_true, cnd_false, Option.bind_some]
   ·cases hal : (List.range p.length).all (poseAt l p) <;> rfl
  ·rw [cnd_net (by omega), decide_eq_false he]; rfl
theorem isFr_moved {l : Lnk} {p : List (Int × Int)} (hf : isFr l.f = true) (he : p.length = l.f.places.length) (hgr : ∀ i, i < p.length → gridAt p i = true) (hb : ∀ i, i < l.f.g.bars.length → barAtP l p i = true) : isFr ⟨l.f.g, p⟩ = true := by
 obtain ⟨h1, h2, h3, h4, h5, h6⟩ := isFr_parts hf
 simp only [isFr, Bool.and_eq_true, decide_eq_true_eq, List.all_eq_true, List.mem_range]
 refine ⟨h1, h2, by omega, h4, hgr, fun i hi => ?_⟩
 have h7 := h6 i hi
 have h8 := hb i hi
 have hbar := bar_bdd h1 hi
 unfold frAt at h7 ⊢
 rw [Bool.and_eq_true] at h7 ⊢
 refine ⟨?_, h7.2⟩
 simp only [Bool.not_eq_true', beq_eq_false_iff_ne] at h7 ⊢
 intro e
 unfold barAtP barSq at h8
 simp only [beq_iff_eq] at h8
 rw [show pl0 p (l.f.g.bars.getD i (0, 0)).1 = pl0 p (l.f.g.bars.getD i (0, 0)).2 from e, dsq_self] at h8
 exact h7.1 (dsq_zero (grid_pl h5 (by omega) (by omega)) (grid_pl h5 (by omega) (by omega)) h8)
def grdAt (l : Lnk) (p : List (Int × Int)) (i : Nat) : Bool := pl0 p (l.ground.getD i 0) == pl0 l.f.places (l.ground.getD i 0)
theorem isPoseS_s (hN : 4000000 ≤ N) {l : Lnk} (hp : l.f.places.length ≤ 3000000) (hg : l.ground.length ≤ 3000000) {p : List (Int × Int)} : S_IsPose N l p = some (isPs l p) := by
 unfold S_IsPose isPs
 rw [isLkS_s N hN hp hg, Option.bind_some, cnd_not]
 cases hl : isLk l with
 | false => rfl
 | true =>
  obtain ⟨k1, k2, k3, k4⟩ := isLk_parts hl
  obtain ⟨h1, h2, h3, h4, h5, h6⟩ := isFr_parts k1
  rw [cnd_true]
  by_cases he : p.length = l.f.places.length
  ·rw [cnd_nef (by omega), decide_eq_true he]
   have same : S_AreSameLengths N l.f ⟨⟨l.f.g.n, l.f.g.bars⟩, p⟩ = some (isFr ⟨l.f.g, p⟩ && decide (l.f.g.bars.map (barSq l.f.places) = l.f.g.bars.map (barSq p))) := by
    unfold S_AreSameLengths
    rw [isFrS_s N hN hp, isFrS_s N hN (f := ⟨⟨l.f.g.n, l.f.g.bars⟩, p⟩) (by show p.length ≤ _; omega), Option.bind_some, k1, cnd_true, Option.bind_some]
    cases hf2 : isFr ⟨l.f.g, p⟩ with
    | false => rfl
    | true =>
     rw [cnd_true, eqGraphs_s N hN (g := l.f.g) (by omega), Option.bind_some, cnd_true, sqLen_s N hN k1, sqLen_s N hN (f := ⟨⟨l.f.g.n, l.f.g.bars⟩, p⟩) hf2, Option.bind_some, Option.bind_some, l6Same_s N hN (by rw [List.length_map]; omega)]
     rfl
   refine (srch (len := l.ground.length) (ok := grdAt l p) (bad := some false) (fin := some (isFr ⟨l.f.g, p⟩ && decide (l.f.g.bars.map (barSq l.f.places) = l.f.g.bars.map (barSq p)))) (by omega) ?_ ?_).trans ?_
   ·intro n i hi _
    have hx := asc_in k4 (List.getElem_mem hi)
    have e : l.ground.getD i 0 = l.ground[i] := by simp [List.getD_eq_getElem?_getD, hi]
    rw [← e] at hx
    rw [S_IsPose_l1]
    simp (disch := omega) only [Int.toNat_natCast, tk0, List.length_cons, List.length_nil, grd_pos, grd_T, grd_R, cnd_dt, cnd_df, cnd_true, cnd_false, Option.bind_some, pair_eq, cnd_not, succ_cast]
    rfl
   ·intro n _
    rw [S_IsPose_l1]
    simp (disch := omega) only [Int.toNat_natCast, tk0, List.length_cons, List.length_nil, grd_pos, grd_T, grd_R, cnd_dt, cnd_df, cnd_true, cnd_false, Option.bind_some]
    rw [same]; rfl
   ·rw [cnd_some]
    congr 1
    rw [Bool.eq_iff_iff]
    have hc : ∀ b : Bool, cnd ((List.range l.ground.length).all (grdAt l p)) b false = ((List.range l.ground.length).all (grdAt l p) && b) := fun b => by cases (List.range l.ground.length).all (grdAt l p) <;> rfl
    rw [hc]
    simp only [Bool.and_eq_true, decide_eq_true_eq, List.all_eq_true, List.mem_range, Bool.true_and]
    constructor
    ·rintro ⟨a1, a2, a3⟩
     obtain ⟨g1, g2, g3, g4, g5, g6⟩ := isFr_parts a2
     refine ⟨fun v hv => ?_, fun i hi => ?_⟩
     ·rw [poseAt, Bool.and_eq_true]
      refine ⟨g5 v hv, ?_⟩
      cases hcn : l.ground.contains (v : Int) with
      | false => rfl
      | true =>
       simp only [List.contains_eq_mem, decide_eq_true_eq] at hcn
       obtain ⟨i, hi, hiv⟩ := List.getElem_of_mem hcn
       have := a1 i hi
       have e : l.ground.getD i 0 = (v : Int) := by simp [List.getD_eq_getElem?_getD, hi, hiv]
       rw [grdAt, e] at this
       simpa [pl0] using this
     ·have := congrArg (fun x => x.getD i 0) a3
      simp only [List.getD_eq_getElem?_getD, List.getElem?_map, List.getElem?_eq_getElem hi, Option.map_some, Option.getD_some] at this
      rw [barAtP]
      simpa [List.getD_eq_getElem?_getD, hi] using this
    ·rintro ⟨a1, a2⟩
     have hgr : ∀ i, i < p.length → gridAt p i = true := fun i hi => by
      have := a1 i hi
      rw [poseAt, Bool.and_eq_true] at this
      exact this.1
     refine ⟨fun i hi => ?_, isFr_moved k1 he hgr a2, ?_⟩
     ·have hx := asc_in k4 (List.getElem_mem hi)
      have e : l.ground.getD i 0 = l.ground[i] := by simp [List.getD_eq_getElem?_getD, hi]
      have := a1 l.ground[i].toNat (by omega)
      rw [poseAt, Bool.and_eq_true] at this
      have h8 := this.2
      rw [show ((l.ground[i].toNat : Nat) : Int) = l.ground[i] by omega] at h8
      rw [show l.ground.contains l.ground[i] = true by simp] at h8
      rw [grdAt, e]
      exact h8
     ·apply List.ext_getElem (by simp)
      intro i q1 q2
      rw [List.length_map] at q1
      have := a2 i q1
      rw [barAtP] at this
      simpa [List.getD_eq_getElem?_getD, q1] using this
  ·rw [cnd_net (by omega), decide_eq_false he]; rfl
end Go.Proofs.Ytcljhpldfanhkaa
namespace Go.Proofs.Ytcljhpldfanhkaa
open Go.RowKit
def S_FreeJoints_l1 (N : Nat) (l_0 : Lnk) (k : (List Int) → Option (List Int)) : Nat → ((List Int) × Int) → Option (List Int)
 | 0, _ => none
 | n + 1, (l17, i18) =>
  cnd (decide (i18 < (l_0.f.places.length : Int))) (
   (S_IsLinkage N l_0).bind fun v21 =>
   cnd v21 (
    (S_l2Has N l_0.ground i18).bind fun v22 =>
    cnd (!v22) (
     grd (l17.length + 1 ≤ 4294967296) <|
     grd (Rg64 (i18 + (1 : Int))) <|
     S_FreeJoints_l1 N l_0 k n ((l17 ++ ([i18] : List Int)), (i18 + (1 : Int)))) (
     grd (Rg64 (i18 + (1 : Int))) <|
     S_FreeJoints_l1 N l_0 k n (l17, (i18 + (1 : Int))))) (
    k l17)) (
   k l17)
def S_FreeJoints (N : Nat) (l_0 : Lnk) : Option (List Int) :=
 S_FreeJoints_l1 N l_0 (fun (l11 : List Int) =>
    some l11) N (([] : List Int), (0 : Int))
set_option maxRecDepth 20000 in
set_option maxHeartbeats 1600000 in
theorem S_FreeJoints_w (N : Nat) (l_0 : Lnk) (r : List Int) (h : S_FreeJoints N l_0 = some r) : PCall Try.prog 86 [lD l_0] [(3, .ints r)] (.row 0 0 r.length) := by
 unfold S_FreeJoints at h
 refine pcall_intro (TT := TT) tt Try.func86 rfl rfl Try.ntmps86 (congrArg Array.toList Try.results86) rfl rfl fun w0 => ?_
 refine vSeq ?_
 refine vRegion ?_
 refine oBox rfl rfl rfl rfl rfl rfl rfl rfl rfl ?_
 refine oVal tt rfl rfl rfl rfl rfl trivial ?_
 refine vNil ?_
 change VC _ _ _ _
 refine vSeq ?_
 refine vRegion ?_
 refine oEmpty tt (wNone rfl) rfl rfl rfl rfl ?_
 refine oVal tt rfl rfl rfl rfl rfl trivial ?_
 refine vNil ?_
 change VC _ _ _ _
 iterate 2 refine vSeq ?_
 refine vRegion ?_
 refine oVal tt rfl rfl rfl rfl rfl trivial ?_
 refine vNil ?_
 change VC _ _ _ _
 refine vJoin (F := fun k => S_FreeJoints_l1 N l_0 k) h (α := List Int) (J := fun (l11 : List Int) => (⟨[(3, .row 26 0 l11.length)], [(26, some (3, .ints l11))], []⟩ : PS)) ?_ ?_
 ·rintro l11 h
  show VC _ _ _ (⟨[(3, .row 26 0 l11.length)], [(26, some (3, .ints l11))], []⟩ : PS)
  refine vSeq ?_
  refine vRegion ?_
  iterate 2 refine oVal tt rfl rfl rfl rfl rfl trivial ?_
  refine vNil ?_
  change VC _ _ _ _
  refine vRet ?_
  change ∃ _, _
  cases h
  exact ⟨[26], _, rfl, ⟨rfl, trivial⟩, rfl, (.eq rfl), rfl⟩
 ·intro k h
  refine vBlock ?_
  refine vNilT 3 26 3 (.ints []) rfl rfl rfl rfl ?_
  refine vLoopS (α := (List Int) × Int) (fun | (l17, i18) => (⟨[(1, .ptr 1 0), (3, .row 26 0 l17.length), (4, .int i18)], [(26, some (3, .ints l17))], [(1, some [.int l_0.f.g.n, .ro false (.pairs l_0.f.g.bars), .ro false (.pairs l_0.f.places), .ro false (.ints l_0.ground)])]⟩ : PS)) (S_FreeJoints_l1 N l_0 k) h (En.of ⟨rfl, rfl, rfl, trivial⟩ ⟨rfl, trivial⟩ ⟨rfl, trivial⟩) (fun _ => rfl) ?_
  rintro n ⟨l17, i18⟩ h
  rw [S_FreeJoints_l1] at h
  show VC _ _ _ (⟨[(1, .ptr 1 0), (3, .row 26 0 l17.length), (4, .int i18)], [(26, some (3, .ints l17))], [(1, some [.int l_0.f.g.n, .ro false (.pairs l_0.f.g.bars), .ro false (.pairs l_0.f.places), .ro false (.ints l_0.ground)])]⟩ : PS)
  iterate 2 refine vSeq ?_
  refine vRegion ?_
  iterate 7 refine oVal tt rfl rfl rfl rfl rfl trivial ?_
  refine oSplit rfl rfl rfl (fun hb1 => ?_) (fun hb1 => ?_)
  ·replace h := cnd_t hb1 h
   refine oValG tt rfl rfl rfl rfl rfl hb1 rfl rfl rfl trivial ?_
   obtain ⟨v21, hc2, h⟩ := bind_inv h
   refine oCallG (S_IsLinkage_w N l_0 v21 hc2) rfl rfl rfl rfl hb1 rfl rfl rfl rfl rfl rfl rfl ⟨⟨rfl, rfl, rfl, rfl, trivial⟩, trivial⟩ ?_
   refine oPick rfl rfl rfl rfl rfl hb1 rfl ?_
   refine vNil ?_
   change VC _ _ _ _
   refine vCond rfl (fun hb3 => ?_) (fun hb3 => ?_)
   ·replace h := cnd_t hb3 h
    refine vSkip ?_
    change VC _ _ _ _
    refine vSeq ?_
    refine vBlock ?_
    refine vSeq ?_
    refine vRegion ?_
    iterate 3 refine oVal tt rfl rfl rfl rfl rfl trivial ?_
    obtain ⟨v22, hc4, h⟩ := bind_inv h
    refine oCall (S_l2Has_w N l_0.ground i18 v22 hc4) rfl rfl rfl rfl rfl rfl rfl rfl ⟨rfl, rfl, trivial⟩ ?_
    refine oVal tt rfl rfl rfl rfl rfl trivial ?_
    refine vNil ?_
    change VC _ _ _ _
    refine vCond rfl (fun hb5 => ?_) (fun hb5 => ?_)
    ·replace h := cnd_t hb5 h
     refine vRegion ?_
     iterate 2 refine oVal tt rfl rfl rfl rfl rfl trivial ?_
     refine oBuild tt rfl rfl rfl rfl rfl rfl rfl rfl rfl rfl rfl ?_
     obtain ⟨hg6, h⟩ := grd_inv h
     refine oAppend tt rfl rfl rfl rfl rfl rfl rfl rfl rfl rfl rfl rfl rfl rfl rfl rfl (Nat.le_of_eq (Nat.zero_add _)) hg6 ?_
     refine oVal tt rfl rfl rfl rfl rfl trivial ?_
     refine vNil ?_
     change VC _ _ _ _
     refine vRegion ?_
     refine oVal tt rfl rfl rfl rfl rfl trivial ?_
     obtain ⟨hg7, h⟩ := grd_inv h
     refine oVal tt rfl rfl rfl rfl rfl hg7 ?_
     refine oVal tt rfl rfl rfl rfl rfl trivial ?_
     refine vNil ?_
     change ∃ _, _
     exact ⟨((l17 ++ ([i18] : List Int)), (i18 + (1 : Int))), (En.of ⟨rfl, rfl, rfl, trivial⟩ ⟨rfl, trivial⟩ ⟨rfl, trivial⟩), h⟩
    ·replace h := cnd_f hb5 h
     refine vSkip ?_
     change VC _ _ _ _
     refine vRegion ?_
     refine oVal tt rfl rfl rfl rfl rfl trivial ?_
     obtain ⟨hg8, h⟩ := grd_inv h
     refine oVal tt rfl rfl rfl rfl rfl hg8 ?_
     refine oVal tt rfl rfl rfl rfl rfl trivial ?_
     refine vNil ?_
     change ∃ _, _
     exact ⟨(l17, (i18 + (1 : Int))), (En.of ⟨rfl, rfl, rfl, trivial⟩ ⟨rfl, trivial⟩ ⟨rfl, trivial⟩), h⟩
   ·replace h := cnd_f hb3 h
    refine vExit ?_
    change ∃ _, _
    exact ⟨l17, (En.of ⟨rfl, trivial⟩ ⟨rfl, trivial⟩ trivial), h⟩
  ·replace h := cnd_f hb1 h
   iterate 2 refine oNoT rfl rfl rfl rfl hb1 rfl rfl ?_
   refine oPickF rfl rfl rfl rfl rfl hb1 rfl ?_
   refine vNil ?_
   change VC _ _ _ _
   refine vCondF rfl rfl ?_
   refine vExit ?_
   change ∃ _, _
   exact ⟨l17, (En.of ⟨rfl, trivial⟩ ⟨rfl, trivial⟩ trivial), h⟩
def I_FreeJoints_l1 (N : Nat) (l_0 : Lnk) (k : (List Int) → Option (List Int)) : Nat → ((List Int) × Int) → Option (List Int)
 | 0, _ => none
 | n + 1, (l12, x13) =>
  cnd (decide (x13 < (l_0.f.places.length : Int))) (
   (G_Contains_int N l_0.ground x13).bind fun v15 =>
   cnd (!v15) (
    grd (l12.length + 1 ≤ 4294967296) <|
    grd (Rg64 (x13 + (1 : Int))) <|
    I_FreeJoints_l1 N l_0 k n ((l12 ++ ([x13] : List Int)), (x13 + (1 : Int)))) (
    grd (Rg64 (x13 + (1 : Int))) <|
    I_FreeJoints_l1 N l_0 k n (l12, (x13 + (1 : Int))))) (
   k l12)
def I_FreeJoints (N : Nat) (l_0 : Lnk) : Option (List Int) :=
 (I_IsLinkage N l_0).bind fun v1 =>
 cnd (!v1) (
  some ([] : List Int)) (
  I_FreeJoints_l1 N l_0 (fun (l8 : List Int) =>
     some l8) N (([] : List Int), (0 : Int)))
set_option maxRecDepth 20000 in
set_option maxHeartbeats 1600000 in
theorem I_FreeJoints_w (N : Nat) (l_0 : Lnk) (r : List Int) (h : I_FreeJoints N l_0 = some r) : PCall Try.prog 85 [lD l_0] [(3, .ints r)] (.row 0 0 r.length) := by
 unfold I_FreeJoints at h
 refine pcall_intro (TT := TT) tt Try.func85 rfl rfl Try.ntmps85 (congrArg Array.toList Try.results85) rfl rfl fun w0 => ?_
 refine vSeq ?_
 refine vRegion ?_
 refine oBox rfl rfl rfl rfl rfl rfl rfl rfl rfl ?_
 refine oVal tt rfl rfl rfl rfl rfl trivial ?_
 refine vNil ?_
 change VC _ _ _ _
 refine vSeq ?_
 refine vRegion ?_
 refine oEmpty tt (wNone rfl) rfl rfl rfl rfl ?_
 refine oVal tt rfl rfl rfl rfl rfl trivial ?_
 refine vNil ?_
 change VC _ _ _ _
 iterate 2 refine vSeq ?_
 refine vRegion ?_
 refine oVal tt rfl rfl rfl rfl rfl trivial ?_
 obtain ⟨v1, hc1, h⟩ := bind_inv h
 refine oCall (I_IsLinkage_w N l_0 v1 hc1) rfl rfl rfl rfl rfl rfl rfl rfl ⟨⟨rfl, rfl, rfl, rfl, trivial⟩, trivial⟩ ?_
 refine oVal tt rfl rfl rfl rfl rfl trivial ?_
 refine vNil ?_
 change VC _ _ _ _
 refine vCond rfl (fun hb2 => ?_) (fun hb2 => ?_)
 ·replace h := cnd_t hb2 h
  refine vSeq ?_
  refine vRegion ?_
  iterate 2 refine oVal tt rfl rfl rfl rfl rfl trivial ?_
  refine vNil ?_
  change VC _ _ _ _
  refine vNilT 2 9001 3 (.ints []) rfl rfl rfl rfl ?_
  refine vRet ?_
  change ∃ _, _
  cases h
  exact ⟨[9001], _, rfl, ⟨rfl, trivial⟩, rfl, (.eq rfl), rfl⟩
 ·replace h := cnd_f hb2 h
  refine vSkip ?_
  change VC _ _ _ _
  iterate 2 refine vSeq ?_
  refine vRegion ?_
  iterate 5 refine oVal tt rfl rfl rfl rfl rfl trivial ?_
  refine vNil ?_
  change VC _ _ _ _
  refine vJoin (F := fun k => I_FreeJoints_l1 N l_0 k) h (α := List Int) (J := fun (l8 : List Int) => (⟨[(3, .row 25 0 l8.length)], [(25, some (3, .ints l8))], []⟩ : PS)) ?_ ?_
  ·rintro l8 h
   show VC _ _ _ (⟨[(3, .row 25 0 l8.length)], [(25, some (3, .ints l8))], []⟩ : PS)
   refine vSeq ?_
   refine vRegion ?_
   iterate 2 refine oVal tt rfl rfl rfl rfl rfl trivial ?_
   refine vNil ?_
   change VC _ _ _ _
   refine vRet ?_
   change ∃ _, _
   cases h
   exact ⟨[25], _, rfl, ⟨rfl, trivial⟩, rfl, (.eq rfl), rfl⟩
  ·intro k h
   refine vBlock ?_
   refine vNilT 3 25 3 (.ints []) rfl rfl rfl rfl ?_
   refine vLoopS (α := (List Int) × Int) (fun | (l12, x13) => (⟨[(1, .ptr 1 0), (3, .row 25 0 l12.length), (13, .int (l_0.f.places.length : Int)), (14, .int x13)], [(25, some (3, .ints l12))], [(1, some [.int l_0.f.g.n, .ro false (.pairs l_0.f.g.bars), .ro false (.pairs l_0.f.places), .ro false (.ints l_0.ground)])]⟩ : PS)) (I_FreeJoints_l1 N l_0 k) h (En.of ⟨rfl, rfl, rfl, rfl, trivial⟩ ⟨rfl, trivial⟩ ⟨rfl, trivial⟩) (fun _ => rfl) ?_
   rintro n ⟨l12, x13⟩ h
   rw [I_FreeJoints_l1] at h
   show VC _ _ _ (⟨[(1, .ptr 1 0), (3, .row 25 0 l12.length), (13, .int (l_0.f.places.length : Int)), (14, .int x13)], [(25, some (3, .ints l12))], [(1, some [.int l_0.f.g.n, .ro false (.pairs l_0.f.g.bars), .ro false (.pairs l_0.f.places), .ro false (.ints l_0.ground)])]⟩ : PS)
   refine vSeq ?_
   refine vRegion ?_
   refine oVal tt rfl rfl rfl rfl rfl trivial ?_
   refine vNil ?_
   change VC _ _ _ _
   refine vSeq ?_
   refine vCond rfl (fun hb3 => ?_) (fun hb3 => ?_)
   ·replace h := cnd_t hb3 h
    refine vSkip ?_
    change VC _ _ _ _
    refine vSeq ?_
    refine vBlock ?_
    refine vSeq ?_
    refine vRegion ?_
    iterate 2 refine oVal tt rfl rfl rfl rfl rfl trivial ?_
    refine vNil ?_
    change VC _ _ _ _
    refine vSeq ?_
    refine vRegion ?_
    iterate 3 refine oVal tt rfl rfl rfl rfl rfl trivial ?_
    obtain ⟨v15, hc4, h⟩ := bind_inv h
    refine oCall (G_Contains_int_w N l_0.ground x13 v15 hc4) rfl rfl rfl rfl rfl rfl rfl rfl ⟨rfl, rfl, trivial⟩ ?_
    refine oVal tt rfl rfl rfl rfl rfl trivial ?_
    refine vNil ?_
    change VC _ _ _ _
    refine vCond rfl (fun hb5 => ?_) (fun hb5 => ?_)
    ·replace h := cnd_t hb5 h
     refine vRegion ?_
     iterate 2 refine oVal tt rfl rfl rfl rfl rfl trivial ?_
     refine oBuild tt rfl rfl rfl rfl rfl rfl rfl rfl rfl rfl rfl ?_
     obtain ⟨hg6, h⟩ := grd_inv h
     refine oAppend tt rfl rfl rfl rfl rfl rfl rfl rfl rfl rfl rfl rfl rfl rfl rfl rfl (Nat.le_of_eq (Nat.zero_add _)) hg6 ?_
     refine oVal tt rfl rfl rfl rfl rfl trivial ?_
     refine vNil ?_
     change VC _ _ _ _
     refine vRegion ?_
     obtain ⟨hg7, h⟩ := grd_inv h
     refine oVal tt rfl rfl rfl rfl rfl hg7 ?_
     refine oVal tt rfl rfl rfl rfl rfl trivial ?_
     refine vNil ?_
     change ∃ _, _
     exact ⟨((l12 ++ ([x13] : List Int)), (x13 + (1 : Int))), (En.of ⟨rfl, rfl, rfl, rfl, trivial⟩ ⟨rfl, trivial⟩ ⟨rfl, trivial⟩), h⟩
    ·replace h := cnd_f hb5 h
     refine vSkip ?_
     change VC _ _ _ _
     refine vRegion ?_
     obtain ⟨hg8, h⟩ := grd_inv h
     refine oVal tt rfl rfl rfl rfl rfl hg8 ?_
     refine oVal tt rfl rfl rfl rfl rfl trivial ?_
     refine vNil ?_
     change ∃ _, _
     exact ⟨(l12, (x13 + (1 : Int))), (En.of ⟨rfl, rfl, rfl, rfl, trivial⟩ ⟨rfl, trivial⟩ ⟨rfl, trivial⟩), h⟩
   ·replace h := cnd_f hb3 h
    refine vExit ?_
    change ∃ _, _
    exact ⟨l12, (En.of ⟨rfl, trivial⟩ ⟨rfl, trivial⟩ trivial), h⟩
end Go.Proofs.Ytcljhpldfanhkaa
namespace Go.Proofs.Ytcljhpldfanhkaa
variable (N : Nat)
def freeJ (l : Lnk) : List Int := cnd (isLk l) (outside l.ground l.f.places.length) []
theorem freeJ_len (l : Lnk) : (freeJ l).length ≤ 8 := by
 unfold freeJ
 cases h : isLk l with
 | false => simp
 | true =>
  obtain ⟨h1, _⟩ := isLk_parts h
  obtain ⟨h2, h3, h4, _⟩ := isFr_parts h1
  have := outside_len l.ground l.f.places.length
  rw [cnd_true]; omega
theorem freeI_s (hN : 4000000 ≤ N) {l : Lnk} (hp : l.f.places.length ≤ 3000000) (hg : l.ground.length ≤ 3000000) : I_FreeJoints N l = some (freeJ l) := by
 unfold I_FreeJoints freeJ
 rw [isLkI_s N hN hp hg, Option.bind_some, cnd_not]
 cases h : isLk l with
 | false => rfl
 | true =>
  rw [cnd_true, cnd_true]
  refine (fold (len := l.f.places.length) (st := outside l.ground) (fin := some (outside l.ground l.f.places.length)) (by omega) ?_ ?_)
  ·intro n i hi
   have hl := outside_len l.ground i
   rw [I_FreeJoints_l1]
   simp (disch := omega) only [Int.toNat_natCast, tk0, List.length_cons, List.length_nil, grd_pos, grd_T, grd_R, cnd_dt, cnd_df, cnd_true, cnd_false, Option.bind_some, contains_s N hN hg, cnd_not, succ_cast, outside_succ]
   cases l.ground.contains (i : Int) <;> rfl
  ·intro n
   rw [I_FreeJoints_l1]
   simp (disch := omega) only [Int.toNat_natCast, tk0, List.length_cons, List.length_nil, grd_pos, grd_T, grd_R, cnd_dt, cnd_df, cnd_true, cnd_false, Option.bind_some]
theorem freeS_s (hN : 4000000 ≤ N) {l : Lnk} (hp : l.f.places.length ≤ 3000000) (hg : l.ground.length ≤ 3000000) : S_FreeJoints N l = some (freeJ l) := by
 unfold S_FreeJoints freeJ
 cases h : isLk l with
 | false =>
  obtain ⟨M, rfl⟩ : ∃ M, N = M + 1 := ⟨N - 1, by omega⟩
  rw [S_FreeJoints_l1, isLkS_s _ hN hp hg, Option.bind_some, h]
  cases decide ((0 : Int) < (l.f.places.length : Int)) <;> rfl
 | true =>
  rw [cnd_true]
  refine (fold (len := l.f.places.length) (st := outside l.ground) (fin := some (outside l.ground l.f.places.length)) (by omega) ?_ ?_)
  ·intro n i hi
   have hl := outside_len l.ground i
   rw [S_FreeJoints_l1]
   simp (disch := omega) only [Int.toNat_natCast, tk0, List.length_cons, List.length_nil, grd_pos, grd_T, grd_R, cnd_dt, cnd_df, cnd_true, cnd_false, Option.bind_some, isLkS_s N hN hp hg, h, l2Has_s N hN hg, cnd_not, succ_cast, outside_succ]
   cases l.ground.contains (i : Int) <;> rfl
  ·intro n
   rw [S_FreeJoints_l1]
   simp (disch := omega) only [Int.toNat_natCast, tk0, List.length_cons, List.length_nil, grd_pos, grd_T, grd_R, cnd_dt, cnd_df, cnd_true, cnd_false, Option.bind_some]
end Go.Proofs.Ytcljhpldfanhkaa
namespace Go.Proofs.Ytcljhpldfanhkaa
abbrev VS := Int → Bool
def Bok (n : Nat) (e : Int × Int) : Prop := 0 ≤ e.1 ∧ e.1 < n ∧ 0 ≤ e.2 ∧ e.2 < n ∧ e.1 ≠ e.2
def v2 (a b : Int) : VS := fun v => v == a || v == b
end Go.Proofs.Ytcljhpldfanhkaa
namespace Go.Proofs.Ytcljhpldfanhkaa
def oth (e : Int × Int) (v : Int) : Int := e.1 + e.2 - v
structure PInv (n : Nat) (E : List (Int × Int)) (f T : List Int) : Prop where
 fl : f.length = n
 tl : T.length = E.length
 ok : ∀ e ∈ E, Bok n e
 en : ∀ i, i < E.length → T.getD i 0 = (E.getD i (0, 0)).1 ∨ T.getD i 0 = (E.getD i (0, 0)).2
 nn : ∀ v : Nat, v < n → 0 ≤ f.getD v 0
 sm : ∀ v : Nat, v < n → f.getD v 0 + (T.count (v : Int) : Int) = 2
variable {n : Nat} {E : List (Int × Int)} {f T : List Int}
theorem getD_mem {α : Type} {l : List α} {i : Nat} {d : α} (h : i < l.length) : l.getD i d ∈ l := by
 rw [List.getD_eq_getElem?_getD, List.getElem?_eq_getElem h]; exact List.getElem_mem h
end Go.Proofs.Ytcljhpldfanhkaa
namespace Go.Proofs.Ytcljhpldfanhkaa
variable {n : Nat} {E : List (Int × Int)} {f T : List Int} {a b : Int} {q : List Int} {fr : Int → Int} {k m : Nat}
end Go.Proofs.Ytcljhpldfanhkaa
namespace Go.Proofs.Ytcljhpldfanhkaa
open Go.RowKit Go.Deep
section
variable {C : Cx} {ops : Array Oper} {K : PS → Prop} {l : List Oper} {s s' : PS} {TT : List (Nat × Ty)} {tm : List (Nat × D)} {rw' : List (Nat × Option (TypeId × Sq))} {bx : List (Nat × Option (List D))}
theorem vEnO (hl : En C s s') (h : VO C ops K l s') : VO C ops K l s := ⟨fun M a w Q hr hk => by
 obtain ⟨M', h'⟩ := hl.out M a w hr
 exact h.out M' a w Q h' hk⟩
theorem oRowB (b i r : Nat) {n n' : Nat} {cs cs' : List D} (hb : (PS.b ⟨tm, rw', bx⟩ b) = some cs) (hi : cs[i]? = some (.row r 0 n)) (hn : n = n') (hcs : fcL (cs.set i (.row r 0 n')) some = some cs')
  (h : VO C ops K l ⟨tm, rw', (b, some cs') :: bx⟩) : VO C ops K l ⟨tm, rw', bx⟩ := by
 subst hn
 rw [fcL_eq] at hcs
 cases hcs
 have e : cs.set i (.row r 0 n) = cs := by
  apply List.ext_getElem?
  intro j
  rw [List.getElem?_set]
  by_cases hj : i = j
  ·subst hj
   have hlt := (List.getElem?_eq_some_iff.1 hi).1
   rw [if_pos rfl, if_pos hlt, hi]
  ·rw [if_neg hj]
 rw [e] at h
 refine vEnO ⟨fun M a w hr => ⟨M, ?_⟩⟩ h
 have hbb : ∀ x, (PS.b ⟨tm, rw', (b, some cs) :: bx⟩ x) = (PS.b ⟨tm, rw', bx⟩ x) := fun x => by
  by_cases hx : b = x
  ·subst hx
   rw [hb]; simp [PS.b, look_cons_self]
  ·simp [PS.b, look_cons_ne hx]
 exact ⟨hr.fr, hr.dfr, hr.sz, hr.tmp, fun x cs hx => hr.box x cs (by rwa [hbb] at hx), fun x hx => hr.boxn x (by rwa [hbb] at hx), hr.row, hr.rown, hr.low, hr.inj1, hr.inj2, hr.inj3, hr.nle, hr.fxb, hr.fxr⟩
end
section
theorem Rel.freeze0 {w0 : World} {O0 : Hd} {n : Nat} {M : Mp} {s : PS} {a : Act} {w : World} (h : Rel w0 O0 n M s a w) {r : Nat} {e : TypeId} {q : Sq} (hF : notF r = true) (hr : s.r r = some (e, q)) :
  ∃ M', Rel w0 O0 n M' ((s.kill r).setR r none) a w ∧ (∀ v, VR M (Ow (Fs w0 O0) M) w (.row r 0 q.len) v → VR M' (Ow (Fs w0 O0) M') w (.ro true q) v) ∧ ∀ d v, VR M (Ow (Fs w0 O0) M) w d v → VR M' (Ow (Fs w0 O0) M') w (klS r d) v := by
 let M' : Mp := ⟨M.β, fun y => if y = r then none else M.γ y⟩
 have hown : ∀ k, M'.owned k → M.owned k := by
  rintro k (⟨b, hb⟩ | ⟨y, c, z, hy⟩)
  ·exact .inl ⟨b, hb⟩
  ·simp only [M'] at hy
   split at hy
   ·cases hy
   ·exact .inr ⟨y, c, z, hy⟩
 have hA : ∀ f b, b < w.heap.size → Ow (Fs w0 O0) M f b → Ow (Fs w0 O0) M' f b ∧ b < w.heap.size ∧ w.heap[b]? = w.heap[b]? := fun f b h1 h2 => ⟨⟨fun h3 => h2.1 (hown b h3), h2.2⟩, h1, rfl⟩
 have hγ : ∀ y z, y ≠ r → M'.γ y = some z → M.γ y = some z := fun y z h1 h2 => by simpa [M', h1] using h2
 have hβ : ∀ b k, M'.β b = some k → M.β b = some k := fun _ _ h => h
 have hbig : ∀ x y, BIG ≤ x → M'.γ x = some y → M.γ x = some y := fun x y hx h1 => by
  simp only [M'] at h1
  split at h1
  ·cases h1
  ·exact h1
 have hv : ∀ v, VR M (Ow (Fs w0 O0) M) w (.row r 0 q.len) v → VR M' (Ow (Fs w0 O0) M') w (.ro true q) v := by
  intro v h0
  cases h0 with
  | row _ _ _ _ g1 g2 =>
   rcases h.row r e q hr with ⟨hg, h0⟩ | ⟨g, cap, cur, hg, hh, hl, hmx, hcs, hc⟩
   ·have := g2 _ hg
    simp only [RowV] at this
    obtain ⟨⟨ao0, rfl⟩, _, _⟩ := this
    have := VR.ro (M := M') (A := Ow (Fs w0 O0) M') (w := w) true q ao0 0 0 0 (fun _ _ => undef) (by omega) (by omega) (by omega) (by intro i j d hi; omega) (by intro i j d hi; omega)
    rwa [h0] at this
   ·have := g2 _ hg
    simp only [RowV] at this
    obtain ⟨h1, ao, h2, h3⟩ := this
    have h4 := h3 (.inr trivial)
    rw [Nat.zero_mul] at h4
    subst h2
    refine .ro true q ao _ g 0 (fun i j => cur.getD (i * q.sz + j) undef) (by omega) (by omega) (fun _ => ⟨h4, (Array.getElem?_eq_some_iff.1 hh).1, ?_, ?_⟩) (fun i j d hi hd => ?_) (fun i j d hi hd => (VR.relem (fun d' hd' => hc i j d' hi hd') hd).elem_any hd hA)
    ·rintro (⟨b, hb⟩ | ⟨y, c, z, hy⟩)
     ·exact h.inj3 _ _ _ _ _ hb hg
     ·simp only [M'] at hy
      split at hy
      ·cases hy
      ·rename_i hyr; exact hyr (h.inj2 _ _ _ _ _ _ _ hy hg)
    ·exact (h.low _ (.inr ⟨r, _, _, hg⟩)).imp_right (O0.sub _ _)
    ·have hj : j < q.sz := by rw [← Sq.elem_len true q i]; exact (List.getElem?_eq_some_iff.1 hd).1
     have hlt : i * q.sz + j < cur.size := by
      rw [hcs]
      have h4 : (i + 1) * q.sz ≤ cap * q.sz := Nat.mul_le_mul_right _ (by omega)
      rw [Nat.add_mul, Nat.one_mul] at h4; omega
     rw [Nat.zero_add, cell_of_row w g _ cur e (0, 0) hh]
     simp [hlt]
 refine ⟨M', ⟨h.fr, h.dfr, h.sz, fun x => ?_, fun b cs hb => ?_, fun b hb => ?_, fun y e' p hy => ?_, fun y hy => ?_, fun k hk => h.low k (hown k hk), h.inj1, fun y y' k c z c' z' h1 h2 => ?_, fun b y k c z h1 h2 => ?_, h.nle, h.fxb, fun y u u' h1 h2 => ?_⟩, hv, fun d v hd => VR.klS hA hγ hβ hd⟩
 ·have : ((s.kill r).setR r none).t x = kl r (s.t x) := PS.t_kill s r x
  rw [this]; exact VR.kl hA hγ hβ (h.tmp x)
 ·have hb' : (s.kill r).b b = some cs := hb
  rw [PS.b_kill] at hb'
  obtain ⟨cs0, h0, rfl⟩ := Option.map_eq_some_iff.1 hb'
  obtain ⟨k, cur, e2, a1, a2, a3, a4⟩ := h.box b cs0 h0
  refine ⟨k, cur, e2, a1, a2, by simpa using a3, fun j d hd => ?_⟩
  rw [List.getElem?_map] at hd
  obtain ⟨d0, h1, rfl⟩ := Option.map_eq_some_iff.1 hd
  exact VR.klS hA hγ hβ (a4 j d0 h1)
 ·have hb' : (s.kill r).b b = none := hb
  rw [PS.b_kill] at hb'
  exact h.boxn b (by simpa using hb')
 ·have hy : ((s.kill r).setR r none).r y = some (e', p) := hy
  rw [PS.r_setR _ _ _ _ hF] at hy
  by_cases hyr : r = y
  ·rw [if_pos hyr] at hy; cases hy
  ·rw [if_neg hyr] at hy
   rcases h.row y e' p hy with ⟨h1, h2⟩ | ⟨g, cap, cur, h1, h2, h3, h4, h5, h6⟩
   ·exact .inl ⟨by simp [M', Ne.symm hyr, h1], h2⟩
   ·exact .inr ⟨g, cap, cur, by simp [M', Ne.symm hyr, h1], h2, h3, h4, h5, fun i j d hi' hd => (h6 i j d hi' hd).relem_any hd hA hbig⟩
 ·have hy : ((s.kill r).setR r none).r y = none := hy
  rw [PS.r_setR _ _ _ _ hF] at hy
  by_cases hyr : r = y
  ·simp [M', hyr]
  ·rw [if_neg hyr] at hy
   simpa [M', Ne.symm hyr] using h.rown y hy
 ·simp only [M'] at h1 h2
  split at h1 <;> split at h2 <;> first | (cases h1; done) | (cases h2; done) | exact h.inj2 _ _ _ _ _ _ _ h1 h2
 ·simp only [M'] at h2
  split at h2
  ·cases h2
  ·exact h.inj3 _ _ _ _ _ h1 h2
 ·simp only [M'] at h2
  split at h2
  ·cases h2
  ·exact h.fxr y u u' h1 h2
end
section
variable {C : Cx} {ops : Array Oper} {K : PS → Prop} {l : List Oper} {s s' : PS} {TT : List (Nat × Ty)} {tm : List (Nat × D)} {rw' : List (Nat × Option (TypeId × Sq))} {bx : List (Nat × Option (List D))}
theorem oFreezeA (t i : Nat) {r m : Nat} {e : TypeId} {q : Sq} {ds : List D} (ht : (PS.t ⟨tm, rw', bx⟩ t) = .agg ds) (hi : ds[i]? = some (.row r 0 m)) (hr : (PS.r ⟨tm, rw', bx⟩ r) = some (e, q)) (hnf : nf ⟨(t, .agg ((ds.map (klS r)).set i (.ro true q))) :: (PS.kill ⟨tm, rw', bx⟩ r).tmp, (r, none) :: rw', (PS.kill ⟨tm, rw', bx⟩ r).box⟩ = some s') (hm : m = q.len)
  (h : VO C ops K l s') (hF : notF r = true := by rfl) : VO C ops K l ⟨tm, rw', bx⟩ := by
 subst hm
 refine vEnO ⟨fun M a w hr' => ?_⟩ h
 rw [nf_ok hnf]
 obtain ⟨M', h1, h2, h3⟩ := hr'.freeze0 hF hr
 refine ⟨M', h1.fr, h1.dfr, h1.sz, fun x => ?_, h1.box, h1.boxn, h1.row, h1.rown, h1.low, h1.inj1, h1.inj2, h1.inj3, h1.nle, h1.fxb, h1.fxr⟩
 by_cases hx : t = x
 ·subst hx
  have hv := hr'.tmp t
  rw [ht] at hv
  have : (PS.t ⟨(t, .agg ((ds.map (klS r)).set i (.ro true q))) :: (PS.kill ⟨tm, rw', bx⟩ r).tmp, (r, none) :: rw', (PS.kill ⟨tm, rw', bx⟩ r).box⟩ t) = .agg ((ds.map (klS r)).set i (.ro true q)) := by simp [PS.t, look_cons_self]
  rw [this]
  generalize a.tmps.getD t undef = v at hv ⊢
  cases hv with
  | agg _ us hl hd =>
   refine .agg _ us (by simpa using hl) fun j d hj => ?_
   rw [List.getElem?_set] at hj
   by_cases hij : i = j
   ·subst hij
    have hlt := (List.getElem?_eq_some_iff.1 hi).1
    rw [if_pos rfl, if_pos (by simpa using hlt)] at hj
    cases hj
    exact h2 _ (hd i _ hi)
   ·rw [if_neg hij, List.getElem?_map] at hj
    obtain ⟨d0, hd0, rfl⟩ := Option.map_eq_some_iff.1 hj
    exact h3 _ _ (hd j d0 hd0)
 ·have : (PS.t ⟨(t, .agg ((ds.map (klS r)).set i (.ro true q))) :: (PS.kill ⟨tm, rw', bx⟩ r).tmp, (r, none) :: rw', (PS.kill ⟨tm, rw', bx⟩ r).box⟩ x) = (PS.setR (PS.kill ⟨tm, rw', bx⟩ r) r none).t x := by simp [PS.t, PS.setR, look_cons_ne hx]
  rw [this]; exact h1.tmp x
variable {o : Oper} {rest : List Oper} {rk rids bk bids pids : List Nat}
theorem oMCloX {f : FuncId} {x : Operand} {args : Array Operand} {ts : Array TypeId} {bs : List Nat} {r0 r1 : List (TypeId × Sq)} {b0 b1 : List (List D)} {d : D} (cs : List Nat) (ds : List D) (hp : MCall C.P f (ds ++ cs.map fun b => .ptr b 0) rk bk r0 r1 b0 b1 d) (rids bids pids : List Nat) (hg : o.guard = none) (hop : o.op = .call { callee := .value x, args := args, argTypes := ts })
  (hx : (PS.ev ⟨tm, rw', bx⟩ x) = .clo f bs) (hcs : cs.map (sgm bk bids) = bs) (hin : cs.all (isInL bk) = true) (hn : dstOk C.n o.dst = true)
  (hchk : mchk rk rids bk bids pids = true) (hf : frB ⟨tm, rw', bx⟩ noB (newP rids pids) = true)
  (hnf : nf ((PS.after ⟨tm, rw', bx⟩ rids pids r1 bids (b1.map fun cs => cs.map (renS (sgm bk bids) (sgm rk pids)))).put o.dst (ren (sgm bk bids) (sgm rk pids) d)) = some s')
  (hr : pairOk (PS.r ⟨tm, rw', bx⟩) rids r0) (hb : pairOk (PS.b ⟨tm, rw', bx⟩) bids (b0.map fun cs => cs.map (renS (sgm bk bids) (sgm rk rids)))) (hfit : fitsM rk rids bk bids ⟨tm, rw', bx⟩ args.toList ds) (h : VO C ops K rest s') (hrf : rfB ⟨tm, rw', bx⟩ rids = true := by rfl) : VO C ops K (o :: rest) ⟨tm, rw', bx⟩ :=
 vOp hg (sMClo hop hx hp hcs hin hn hchk hrf (frB_ok hf) hr hb hfit (vNf hnf h))
end
section
end
section
variable {C : Cx} {ops : Array Oper} {K : PS → Prop} {o : Oper} {rest : List Oper} {s s' : PS} {TT : List (Nat × Ty)} {tm : List (Nat × D)} {rw' : List (Nat × Option (TypeId × Sq))} {bx : List (Nat × Option (List D))} {cr B : List Nat} {j : Nat}
end
end Go.Proofs.Ytcljhpldfanhkaa
namespace Go.Proofs.Ytcljhpldfanhkaa
open Go.RowKit Go.Deep
def klXS (r : Nat) : D → D
 | .row x o n => match (Nat.beq x r || !notF x) with | true => .dead | false => .row x o n
 | .eptr x i o => match (Nat.beq x r || !notF x) with | true => .dead | false => .eptr x i o
 | .agg _ | .tup _ | .irow _ _ _ | .iptr _ _ _ _ => .dead
 | d => d
def klXA (r : Nat) : D → D
 | .agg l => .agg (l.map (klXS r))
 | d => klXS r d
def klX (r : Nat) : D → D
 | .tup l => .tup (l.map (klXA r))
 | d => klXA r d
def PS.killX (s : PS) (r : Nat) : PS := ⟨s.tmp.map fun p => (p.1, klX r p.2), s.row, s.box.map fun p => (p.1, p.2.map fun cs => cs.map (klXS r))⟩
section
variable {M M' : Mp} {A A' : Bool → Nat → Prop} {w w' : World} {r : Nat} {s : PS}
theorem VR.klXS (hA : ∀ f b, b < w.heap.size → A f b → A' f b ∧ b < w'.heap.size ∧ w'.heap[b]? = w.heap[b]?) (hγ : ∀ x y, x ≠ r → notF x = true → M'.γ x = some y → M.γ x = some y) (hβ : ∀ b k, M'.β b = some k → M.β b = some k)
  {d : D} {v : Value} (h : VR M A w d v) : VR M' A' w' (klXS r d) v := by
 cases h with
 | dead v => exact .dead v
 | int n => exact .int n
 | bool b => exact .bool b
 | val v h => exact .val v h
 | nil ao => exact .nil ao
 | ro f q ao cap b o u hn hc hao hu hv => exact VR.ro_any (.ro f q ao cap b o u hn hc hao hu hv) hA
 | row x off n v h1 h =>
  simp only [Ytcljhpldfanhkaa.klXS]
  split
  ·exact .dead _
  ·rename_i hx
   rw [Bool.or_eq_false_iff] at hx
   exact .row _ off n v h1 fun y hy => h y (hγ _ y (fun e => by subst e; rw [Nat.beq_refl] at hx; cases hx.1) (by simpa using hx.2) hy)
 | ptr b off v h1 h => exact .ptr _ off v h1 fun k hk => h k (hβ b k hk)
 | eptr x i off v h =>
  simp only [Ytcljhpldfanhkaa.klXS]
  split
  ·exact .dead _
  ·rename_i hx
   rw [Bool.or_eq_false_iff] at hx
   exact .eptr _ i off v fun g c z hg => h g c z (hγ _ _ (fun e => by subst e; rw [Nat.beq_refl] at hx; cases hx.1) (by simpa using hx.2) hg)
 | rptr f q i off b o u hb hA' hu hv => exact VR.rptr_any (.rptr f q i off b o u hb hA' hu hv) hA
 | agg l us hl h => exact .dead _
 | tup l us hl h => exact .dead _
 | clo f bs v h1 h => exact .clo f bs v h1 fun ks hk => h ks (capsOf_mono' (fun b _ => hβ b) hk)
 | map k l es clock h hl hk => obtain ⟨a1, a2, a3⟩ := hA _ k (heap_lt h) hk; exact .map k l es clock (a3.trans h) hl a1
 | any v h1 => exact .any v h1
 | irow F k n v h1 h => exact .dead _
 | iptr F k i off v h => exact .dead _
 | fam te q v => exact .fam te q v
theorem VR.klXA (hA : ∀ f b, b < w.heap.size → A f b → A' f b ∧ b < w'.heap.size ∧ w'.heap[b]? = w.heap[b]?) (hγ : ∀ x y, x ≠ r → notF x = true → M'.γ x = some y → M.γ x = some y) (hβ : ∀ b k, M'.β b = some k → M.β b = some k)
  {d : D} {v : Value} (h : VR M A w d v) : VR M' A' w' (klXA r d) v := by
 cases d with
 | agg l =>
  cases h with | agg _ us hl h =>
  refine .agg _ us (by simpa using hl) fun i d hd => ?_
  rw [List.getElem?_map] at hd
  obtain ⟨d0, h0, rfl⟩ := Option.map_eq_some_iff.1 hd
  exact (h i d0 h0).klXS hA hγ hβ
 | _ => exact VR.klXS hA hγ hβ h
theorem VR.klX (hA : ∀ f b, b < w.heap.size → A f b → A' f b ∧ b < w'.heap.size ∧ w'.heap[b]? = w.heap[b]?) (hγ : ∀ x y, x ≠ r → notF x = true → M'.γ x = some y → M.γ x = some y) (hβ : ∀ b k, M'.β b = some k → M.β b = some k)
  {d : D} {v : Value} (h : VR M A w d v) : VR M' A' w' (klX r d) v := by
 cases d with
 | tup l =>
  cases h with | tup _ us hl h =>
  refine .tup _ us (by simpa using hl) fun i d hd => ?_
  rw [List.getElem?_map] at hd
  obtain ⟨d0, h0, rfl⟩ := Option.map_eq_some_iff.1 hd
  exact (h i d0 h0).klXA hA hγ hβ
 | _ => exact VR.klXA hA hγ hβ h
theorem PS.t_killX (s : PS) (r t : Nat) : (s.killX r).t t = klX r (s.t t) := by
 unfold PS.t PS.killX
 simp only [look_map (klX r)]
 cases look s.tmp t <;> rfl
theorem PS.b_killX (s : PS) (r b : Nat) : (s.killX r).b b = (s.b b).map fun cs => cs.map (klXS r) := by
 unfold PS.b PS.killX
 simp only [look_map (fun (x : Option (List D)) => x.map fun cs => cs.map (Ytcljhpldfanhkaa.klXS r))]
 cases look s.box b <;> rfl
end
def lone (s : PS) (R F : Nat) : Bool := s.row.all fun p => Nat.beq p.1 R || (match s.r p.1 with | some (_, q) => (match q.refF with | some G => !Nat.beq G F && Nat.blt G 4294967296 | none => true) | none => true)
theorem lone_ok {s : PS} {R F : Nat} (hl : lone s R F = true) {x : Nat} {e : TypeId} {q : Sq} {G : Nat} (hx : s.r x = some (e, q)) (hG : q.refF = some G) : x = R ∨ (G ≠ F ∧ G < 4294967296) := by
 cases hb : Nat.ble BIG x with
 | true =>
  rw [PS.r_hi _ hb] at hx
  have := famr_flat hx
  cases q <;> simp [Sq.refF, Sq.isRefs] at hG this
 | false =>
  have hx' := hx
  rw [PS.r_lo _ hb] at hx'
  split at hx'
  ·rename_i y hy
   have := (List.all_eq_true.1 hl) _ (look_mem hy)
   simp only [hx, hG, Bool.or_eq_true, Bool.and_eq_true, Bool.not_eq_true', Nat.blt_eq] at this
   rcases this with h1 | ⟨h1, h2⟩
   ·exact .inl (Nat.eq_of_beq_eq_true h1)
   ·exact .inr ⟨fun e => (by rw [e, Nat.beq_refl] at h1; cases h1), h2⟩
  ·cases hx'
section
variable {w0 : World} {O0 : Hd} {n : Nat} {M : Mp} {s : PS} {a : Act} {w : World}
theorem Rel.remap (h : Rel w0 O0 n M s a w) {M' : Mp} {s' : PS} (r F : Nat) (hF : F < 4294967296) (hβ : ∀ b, M'.β b = M.β b) (hsub : ∀ x k c z, M'.γ x = some (some (k, c, z)) → ∃ y, M.γ y = some (some (k, c, z)))
  (hinj : ∀ x y k c z c' z', M'.γ x = some (some (k, c, z)) → M'.γ y = some (some (k, c', z')) → x = y)
  (hγ' : ∀ x y, x ≠ r → notF x = true → M'.γ x = some y → M.γ x = some y) (hγk : ∀ x y, x ≠ FK + F → notF x = false → Nat.ble BIG x = false → M'.γ x = some y → M.γ x = some y) (hrr : r < 1000000 ∨ M'.γ r = none) (hfk : ∀ u u', O0.fr (FK + F) = some u → M'.γ (FK + F) = some u' → u' = u)
  (hbg : ∀ G k y, G < 4294967296 → G ≠ F → M'.γ (inn G k) = some y → M.γ (inn G k) = some y)
  (ht : ∀ t, VR M' (Ow (Fs w0 O0) M') w (s'.t t) (a.tmps.getD t undef)) (hb : ∀ b, s'.b b = (s.b b).map fun cs => cs.map (klXS r))
  (hrow : ∀ x e q, s'.r x = some (e, q) → (s.r x = some (e, q) ∧ M'.γ x = M.γ x ∧ ∀ G, q.refF = some G → G ≠ F ∧ G < 4294967296) ∨ RowAt (Fs w0 O0) M' w x e q) (hrown : ∀ x, s'.r x = none → M'.γ x = none) : Rel w0 O0 n M' s' a w := by
 have hown : ∀ k, M'.owned k → M.owned k := by
  rintro k (⟨b, hb⟩ | ⟨y, c, z, hy⟩)
  ·exact .inl ⟨b, by rw [← hβ]; exact hb⟩
  ·obtain ⟨x, hx⟩ := hsub _ _ _ _ hy; exact .inr ⟨x, c, z, hx⟩
 have hA : ∀ f b, b < w.heap.size → Ow (Fs w0 O0) M f b → Ow (Fs w0 O0) M' f b ∧ b < w.heap.size ∧ w.heap[b]? = w.heap[b]? := fun f b h1 h2 => ⟨⟨fun h3 => h2.1 (hown b h3), h2.2⟩, h1, rfl⟩
 refine ⟨h.fr, h.dfr, h.sz, ht, fun b cs hx => ?_, fun b hx => ?_, fun x e q hx => ?_, hrown, fun k hk => h.low k (hown k hk), fun b b' k h1 h2 => h.inj1 b b' k (by rw [← hβ]; exact h1) (by rw [← hβ]; exact h2), hinj, fun b x k c z h1 h2 => ?_, h.nle, fun b k k' h1 h2 => h.fxb b k k' h1 (by rw [← hβ]; exact h2), fun x u u' h1 h2 => ?_⟩
 ·rw [hb] at hx
  obtain ⟨cs0, h0, rfl⟩ := Option.map_eq_some_iff.1 hx
  obtain ⟨k, cur, e2, a1, a2, a3, a4⟩ := h.box b cs0 h0
  refine ⟨k, cur, e2, by rw [hβ]; exact a1, a2, by simpa using a3, fun j d hd => ?_⟩
  rw [List.getElem?_map] at hd
  obtain ⟨d0, h1, rfl⟩ := Option.map_eq_some_iff.1 hd
  exact VR.klXS hA hγ' (fun b k hk => by rw [← hβ]; exact hk) (a4 j d0 h1)
 ·rw [hb] at hx
  rw [hβ]; exact h.boxn b (by simpa using hx)
 ·rcases hrow x e q hx with ⟨h1, h2, h3⟩ | h1
  ·rcases h.row x e q h1 with ⟨g1, g2⟩ | ⟨g, cap, cur, g1, g2, g3, g4, g5, g6⟩
   ·exact .inl ⟨h2.trans g1, g2⟩
   ·refine .inr ⟨g, cap, cur, h2.trans g1, g2, g3, g4, g5, fun i j d hi hd => (g6 i j d hi hd).relem_any2 hd hA fun G hG k y hy => ?_⟩
    exact hbg G k y (h3 G hG).2 (h3 G hG).1 hy
  ·exact h1
 ·obtain ⟨y, hy⟩ := hsub _ _ _ _ h2
  exact h.inj3 _ _ _ _ _ (by rw [← hβ]; exact h1) hy
 ·obtain ⟨h3, h4⟩ := O0.lor x u h1
  have hb1 : Nat.ble BIG x = false := by
   cases hb : Nat.ble BIG x with
   | false => rfl
   | true => have := Nat.le_of_ble_eq_true hb; omega
  by_cases hxr : x = r
  ·subst hxr
   rcases hrr with h5 | h5
   ·omega
   ·rw [h5] at h2; cases h2
  ·cases hn : notF x with
   | true => exact h.fxr x u u' h1 (hγ' x u' hxr hn h2)
   | false =>
    by_cases hxf : x = FK + F
    ·rw [hxf] at h1 h2; exact hfk u u' h1 h2
    ·exact h.fxr x u u' h1 (hγk x u' hxf hn hb1 h2)
end
end Go.Proofs.Ytcljhpldfanhkaa
namespace Go.Proofs.Ytcljhpldfanhkaa
open Go.RowKit Go.Deep
def Fq.len : Fq → Nat
 | .ints L => L.length | .pairs L => L.length | .bools L => L.length
def Fq.push : Fq → Sq → Option Fq
 | .ints L, .ints c => some (.ints (L ++ [some c])) | .pairs L, .pairs c => some (.pairs (L ++ [some c])) | .bools L, .bools c => some (.bools (L ++ [some c]))
 | _, _ => none
def Fq.hole : Fq → Nat → Fq
 | .ints L, k => .ints (L.set k none) | .pairs L, k => .pairs (L.set k none) | .bools L, k => .bools (L.set k none)
theorem getD_snoc {α : Type} (L : List (Option α)) (c : α) (k : Nat) : (L ++ [some c]).getD k none = if k = L.length then some c else L.getD k none := by
 by_cases h : k = L.length
 ·subst h; simp
 ·rw [if_neg h]
  by_cases h2 : k < L.length
  ·simp [List.getElem?_append_left h2]
  ·have h3 : L.length < k := by omega
   simp [List.getElem?_append_right (show L.length ≤ k by omega), List.getElem?_eq_none (show L.length ≤ k by omega), List.getElem?_eq_none (show [some c].length ≤ k - L.length by simp; omega)]
theorem Fq.get_push {fq fq' : Fq} {c : Sq} (h : fq.push c = some fq') (k : Nat) : fq'.get k = if k = fq.len then some c else fq.get k := by
 cases fq <;> cases c <;> simp only [Fq.push, reduceCtorEq, Option.some.injEq] at h <;> subst h <;> simp only [Fq.get, Fq.len, getD_snoc] <;> (rename_i L l; by_cases hk : k = L.length <;> simp [hk])
theorem getD_hole {α : Type} (L : List (Option α)) (k j : Nat) : (L.set k none).getD j none = if j = k then none else L.getD j none := by
 by_cases h : j = k
 ·subst h
  simp only [if_true, List.getD_eq_getElem?_getD, List.getElem?_set]
  split <;> simp
 ·simp [h, List.getD_eq_getElem?_getD, List.getElem?_set, Ne.symm h]
theorem Fq.get_hole (fq : Fq) (k j : Nat) : (fq.hole k).get j = if j = k then none else fq.get j := by
 cases fq <;> simp only [Fq.hole, Fq.get, getD_hole] <;> split <;> split <;> simp_all
theorem Fq.get_flat {fq : Fq} {k : Nat} {c : Sq} (h : fq.get k = some c) : c.isRefs = false := by
 cases fq <;> simp only [Fq.get] at h <;> split at h <;> first | (cases h; done) | (cases h; rfl)
theorem inn_of {x : Nat} (h : Nat.ble BIG x = true) : inn (unF x) (unK x) = x := by
 have h1 := Nat.le_of_ble_eq_true h
 have e : ∀ y : Nat, y / 4294967296 * 4294967296 + y % 4294967296 % 4294967296 = y := fun y => by omega
 have := e (x - BIG)
 unfold inn unF unK
 rw [this]
 omega
theorem fam_r {s : PS} {F : Nat} (hF : F < 4294967296) {te : TypeId} {fq : Fq} (hf : s.r (FK + F) = some (te, .fam fq)) (i : Nat) : s.r (inn F i) = match fq.get i with | some c => some (te, c) | none => none := by
 rw [PS.r_hi _ (inn_hi F i), PS.inn_r, fk_unF hF, hf, unK_inn]
 rfl
def famM (M : Mp) (r F : Nat) (fq : Fq) (g : Nat → Nat) : Mp := ⟨M.β, fun x => match Nat.ble BIG x with
 | true => if unF x = F then (match fq.get (unK x) with | some _ => M.γ (g (unK x)) | none => none) else M.γ x
 | false => if x = r then none else M.γ x⟩
theorem famM_hi (M : Mp) (r F : Nat) (fq : Fq) (g : Nat → Nat) {x : Nat} (hb : Nat.ble BIG x = true) (hu : unF x = F) : (famM M r F fq g).γ x = match fq.get (unK x) with | some _ => M.γ (g (unK x)) | none => none := by
 simp only [famM]
 rw [hb]
 simp [hu]
theorem famM_hi2 (M : Mp) (r F : Nat) (fq : Fq) (g : Nat → Nat) {x : Nat} (hb : Nat.ble BIG x = true) (hu : unF x ≠ F) : (famM M r F fq g).γ x = M.γ x := by
 simp only [famM]
 rw [hb]
 simp [hu]
theorem famM_inn (M : Mp) (r F : Nat) (fq : Fq) (g : Nat → Nat) (hF : F < 4294967296) (k : Nat) : (famM M r F fq g).γ (inn F k) = match fq.get k with | some _ => M.γ (g k) | none => none := by
 have := famM_hi M r F fq g (inn_hi F k) (by rw [unF_inn, Nat.mod_eq_of_lt hF])
 rw [unK_inn] at this
 exact this
theorem famM_inn2 (M : Mp) (r F : Nat) (fq : Fq) (g : Nat → Nat) {G : Nat} (hG : G < 4294967296) (hne : G ≠ F) (k : Nat) : (famM M r F fq g).γ (inn G k) = M.γ (inn G k) :=
 famM_hi2 M r F fq g (inn_hi G k) (by rw [unF_inn, Nat.mod_eq_of_lt hG]; exact hne)
theorem famM_lo (M : Mp) (r F : Nat) (fq : Fq) (g : Nat → Nat) {x : Nat} (hb : Nat.ble BIG x = false) (hx : x ≠ r) : (famM M r F fq g).γ x = M.γ x := by
 simp only [famM]
 rw [hb]
 simp [hx]
theorem famM_r (M : Mp) (r F : Nat) (fq : Fq) (g : Nat → Nat) (hb : Nat.ble BIG r = false) : (famM M r F fq g).γ r = none := by
 simp only [famM]
 rw [hb]
 simp
theorem VR.irow_mv {M M' : Mp} {A A' : Bool → Nat → Prop} {w w' : World} {F F' k k' n : Nat} {v : Value} (hv : VR M A w (.irow F k n) v) (h : ∀ x, M'.γ (inn F' k') = some x → M.γ (inn F k) = some x) : VR M' A' w' (.irow F' k' n) v := by
 cases hv with | irow _ _ _ _ h1 h2 => exact .irow _ _ _ _ h1 fun x hx => h2 x (h x hx)
theorem VR.irow_of {M M' : Mp} {A A' : Bool → Nat → Prop} {w w' : World} {F' r k' n : Nat} {v : Value} (hv : VR M A w (.row r 0 n) v) (h : ∀ x, M'.γ (inn F' k') = some x → M.γ r = some x) : VR M' A' w' (.irow F' k' n) v := by
 cases hv with | row _ _ _ _ h1 h2 => exact .irow _ _ _ _ h1 fun x hx => h2 x (h x hx)
theorem RowAt.mv {F : Bool → Nat → Prop} {M M' : Mp} {w : World} {x y : Nat} {e : TypeId} {q : Sq} (h : RowAt F M w x e q) (hq : q.isRefs = false) (hγ : M'.γ y = M.γ x) (hA : ∀ f b, b < w.heap.size → Ow F M f b → Ow F M' f b ∧ b < w.heap.size ∧ w.heap[b]? = w.heap[b]?) : RowAt F M' w y e q := by
 rcases h with ⟨g1, g2⟩ | ⟨g, cap, cur, g1, g2, g3, g4, g5, g6⟩
 ·exact .inl ⟨hγ.trans g1, g2⟩
 ·refine .inr ⟨g, cap, cur, hγ.trans g1, g2, g3, g4, g5, fun i j d hi hd => ?_⟩
  have hd' := hd
  rw [Sq.relem_eq hq] at hd'
  exact (g6 i j d hi hd).elem_any hd' hA
section
variable {w0 : World} {O0 : Hd} {n : Nat} {M : Mp} {s : PS} {a : Act} {w : World}
theorem Rel.refam (h : Rel w0 O0 n M s a w) {s' : PS} (r R F : Nat) (hF : F < 4294967296) {te : TypeId} {fq fq' : Fq} (g : Nat → Nat) {yR : Option (TypeId × Sq)}
  (hr : r < 1000000) (hR : notF R = true) (hrR : r ≠ R) (hf : s.r (FK + F) = some (te, .fam fq)) (hl : lone s R F = true)
  (hg : ∀ k c, fq'.get k = some c → s.r (g k) = some (te, c)) (hinj : ∀ k k' c c', fq'.get k = some c → fq'.get k' = some c' → g k = g k' → k = k') (hsrc : ∀ k c, fq'.get k = some c → g k = r ∨ ∃ j, g k = inn F j)
  (hs : ∀ x, s'.r x = match Nat.ble BIG x with | true => (if unF x = F then famr (some (some (te, .fam fq'))) (unK x) else s.r x) | false => if x = r then none else if x = FK + F then some (te, .fam fq') else if x = R then yR else s.r x)
  (hyR : ∀ e q, yR = some (e, q) → RowAt (Fs w0 O0) (famM M r F fq' g) w R e q) (hyn : yR = none → M.γ R = none)
  (ht : ∀ t, VR (famM M r F fq' g) (Ow (Fs w0 O0) (famM M r F fq' g)) w (s'.t t) (a.tmps.getD t undef)) (hb : ∀ b, s'.b b = (s.b b).map fun cs => cs.map (klXS r)) : Rel w0 O0 n (famM M r F fq' g) s' a w := by
 have hrb : Nat.ble BIG r = false := notF_big (notF_lo hr)
 have hRb : Nat.ble BIG R = false := notF_big hR
 have hfr : FK + F ≠ r := fun e => by have := notF_lo hr; rw [← e] at this; have h2 := notF_fk (inn F 0); rw [fk_unF hF] at h2; rw [h2] at this; cases this
 have hfR : FK + F ≠ R := fun e => by rw [← e] at hR; have h2 := notF_fk (inn F 0); rw [fk_unF hF] at h2; rw [h2] at hR; cases hR
 have cases3 : ∀ x y, (famM M r F fq' g).γ x = some y → (∃ k c, x = inn F k ∧ fq'.get k = some c ∧ M.γ (g k) = some y) ∨ (M.γ x = some y ∧ x ≠ r ∧ ∀ j, x ≠ inn F j) := fun x y hx => by
  cases hbx : Nat.ble BIG x with
  | true =>
   by_cases hu : unF x = F
   ·have hxe : x = inn F (unK x) := by rw [← hu]; exact (inn_of hbx).symm
    rw [hxe, famM_inn _ _ _ _ _ hF] at hx
    split at hx
    ·rename_i c hc; exact .inl ⟨_, c, hxe, hc, hx⟩
    ·cases hx
   ·simp only [famM, hbx, hu, if_false] at hx
    refine .inr ⟨hx, fun e => (by rw [e, hrb] at hbx; cases hbx), fun j e => hu (by rw [e, unF_inn, Nat.mod_eq_of_lt hF])⟩
  | false =>
   simp only [famM, hbx] at hx
   split at hx
   ·cases hx
   ·rename_i hxr
    exact .inr ⟨hx, hxr, fun j e => by rw [e, inn_hi] at hbx; cases hbx⟩
 have hsub : ∀ x k c z, (famM M r F fq' g).γ x = some (some (k, c, z)) → ∃ y, M.γ y = some (some (k, c, z)) := fun x k c z hx => by
  rcases cases3 x _ hx with ⟨_, _, _, _, h1⟩ | ⟨h1, _⟩
  ·exact ⟨_, h1⟩
  ·exact ⟨_, h1⟩
 have hown : ∀ k, (famM M r F fq' g).owned k → M.owned k := by
  rintro k (⟨b, hb⟩ | ⟨y, c, z, hy⟩)
  ·exact .inl ⟨b, hb⟩
  ·obtain ⟨x, hx⟩ := hsub _ _ _ _ hy; exact .inr ⟨x, c, z, hx⟩
 have hA : ∀ f b, b < w.heap.size → Ow (Fs w0 O0) M f b → Ow (Fs w0 O0) (famM M r F fq' g) f b ∧ b < w.heap.size ∧ w.heap[b]? = w.heap[b]? := fun f b h1 h2 => ⟨⟨fun h3 => h2.1 (hown b h3), h2.2⟩, h1, rfl⟩
 refine h.remap (s' := s') r F hF (fun _ => rfl) hsub (fun x y k c z c' z' h1 h2 => ?_) (fun x y h1 h2 h3 => ?_) (fun x y h1 h2 h3 h4 => ?_) (.inl hr) (fun u u' h1 h2 => ?_) (fun G k y h1 h2 h3 => ?_) ht hb (fun x e q hx => ?_) fun x hx => ?_
 ·rcases cases3 x _ h1 with ⟨k1, c1, rfl, g1, g2⟩ | ⟨g1, g2, g3⟩
  ·rcases cases3 y _ h2 with ⟨k2, c2, rfl, g4, g5⟩ | ⟨g4, g5, g6⟩
   ·have := h.inj2 _ _ _ _ _ _ _ g2 g5
    rw [hinj k1 k2 c1 c2 g1 g4 this]
   ·exfalso
    have := h.inj2 _ _ _ _ _ _ _ g2 g4
    rcases hsrc k1 c1 g1 with h5 | ⟨j, h5⟩
    ·exact g5 (by rw [← this, h5])
    ·exact g6 j (by rw [← this, h5])
  ·rcases cases3 y _ h2 with ⟨k2, c2, rfl, g4, g5⟩ | ⟨g4, g5, g6⟩
   ·exfalso
    have := h.inj2 _ _ _ _ _ _ _ g1 g5
    rcases hsrc k2 c2 g4 with h5 | ⟨j, h5⟩
    ·exact g2 (by rw [this, h5])
    ·exact g3 j (by rw [this, h5])
   ·exact h.inj2 _ _ _ _ _ _ _ g1 g4
 ·rw [famM_lo _ _ _ _ _ (notF_big h2) h1] at h3; exact h3
 ·by_cases hxr : x = r
  ·rw [hxr, famM_r _ _ _ _ _ hrb] at h4; cases h4
  ·rw [famM_lo _ _ _ _ _ h3 hxr] at h4; exact h4
 ·rw [famM_lo _ _ _ _ _ (fk_lo hF) hfr] at h2
  exact h.fxr _ _ _ h1 h2
 ·rw [famM_inn2 _ _ _ _ _ h1 h2] at h3; exact h3
 ·rw [hs] at hx
  cases hbx : Nat.ble BIG x with
  | true =>
   rw [hbx] at hx
   by_cases hu : unF x = F
   ·have hxe : x = inn F (unK x) := by rw [← hu]; exact (inn_of hbx).symm
    simp only [hu, if_true, famr] at hx
    split at hx
    ·rename_i c hc
     cases hx
     right
     have h1 := h.row _ _ _ (hg _ _ hc)
     refine h1.mv (Fq.get_flat hc) ?_ hA
     rw [hxe, famM_inn _ _ _ _ _ hF, unK_inn, hc]
    ·cases hx
   ·simp only [hu, if_false] at hx
    refine .inl ⟨hx, by simp only [famM, hbx, hu, if_false], fun G hG => ?_⟩
    rcases lone_ok hl hx hG with h1 | h1
    ·rw [h1, hRb] at hbx; cases hbx
    ·exact h1
  | false =>
   rw [hbx] at hx
   simp only at hx
   split at hx
   ·cases hx
   rename_i hxr
   split at hx
   ·rename_i hxf
    cases hx
    right
    rcases h.row _ _ _ hf with ⟨g1, g2⟩ | ⟨gg, cap, cur, g1, g2, g3, g4, g5, g6⟩
    ·exact .inl ⟨by rw [hxf, famM_lo _ _ _ _ _ (fk_lo hF) hfr]; exact g1, rfl⟩
    ·exact .inr ⟨gg, cap, cur, by rw [hxf, famM_lo _ _ _ _ _ (fk_lo hF) hfr]; exact g1, g2, Nat.zero_le _, g4, g5, fun i j d hi hd => absurd hi (Nat.not_lt_zero _)⟩
   rename_i hxf
   split at hx
   ·rename_i hxR
    right
    rw [hxR]; exact hyR e q hx
   rename_i hxR
   refine .inl ⟨hx, famM_lo _ _ _ _ _ hbx hxr, fun G hG => ?_⟩
   rcases lone_ok hl hx hG with h1 | h1
   ·exact absurd h1 hxR
   ·exact h1
 ·rw [hs] at hx
  cases hbx : Nat.ble BIG x with
  | true =>
   rw [hbx] at hx
   by_cases hu : unF x = F
   ·have hxe : x = inn F (unK x) := by rw [← hu]; exact (inn_of hbx).symm
    simp only [hu, if_true, famr] at hx
    rw [hxe, famM_inn _ _ _ _ _ hF]
    split at hx
    ·cases hx
    ·rename_i hc; rw [hc]
   ·simp only [hu, if_false] at hx
    simp only [famM, hbx, hu, if_false]
    exact h.rown x hx
  | false =>
   rw [hbx] at hx
   simp only at hx
   split at hx
   ·rename_i hxr; rw [hxr]; exact famM_r _ _ _ _ _ hrb
   rename_i hxr
   split at hx
   ·cases hx
   rename_i hxf
   split at hx
   ·rename_i hxR
    rw [hxR, famM_lo _ _ _ _ _ hRb (Ne.symm hrR)]; exact hyn hx
   rename_i hxR
   rw [famM_lo _ _ _ _ _ hbx hxr]; exact h.rown x hx
end
end Go.Proofs.Ytcljhpldfanhkaa
namespace Go.Proofs.Ytcljhpldfanhkaa
open Go.RowKit Go.Deep
theorem PS.r_app {s s' : PS} {l : List (Nat × Option (TypeId × Sq))} (h : s'.row = l ++ s.row) (x : Nat) : s'.r x = match Nat.ble BIG x with | true => (match look l (FK + unF x) with | some y => famr (some y) (unK x) | none => s.r x) | false => (match look l x with | some y => y | none => s.r x) := by
 cases hb : Nat.ble BIG x with
 | true =>
  rw [PS.r_hi _ hb, PS.r_hi _ hb]
  unfold PS.inn
  rw [h, look_append]
  cases look l (FK + unF x) <;> rfl
 | false =>
  rw [PS.r_lo _ hb, PS.r_lo _ hb, h, look_append]
  cases look l x <;> rfl
def famOf : Sq → Fq
 | .intss X => .ints (X.map some) | .pairss X => .pairs (X.map some) | .boolss X => .bools (X.map some) | .raises X => .ints (X.map fun x => some x.2) | _ => .ints []
theorem dF_fam (q : Sq) : dF q = .fam (famOf q) := by cases q <;> rfl
theorem famOf_get {q : Sq} (hq : q.deep = true) (i : Nat) : (famOf q).get i = if i < q.len then some (q.nn i) else none := by
 have := famr_dF hq 0 i
 rw [dF_fam] at this
 simp only [famr] at this
 cases h : (famOf q).get i with
 | none => rw [h] at this; split at this <;> simp_all
 | some c => rw [h] at this; split at this <;> simp_all
theorem fk_ne {F r : Nat} (hF : F < 4294967296) (hr : notF r = true) : FK + F ≠ r := fun e => by
 have h2 := notF_fk (inn F 0)
 rw [fk_unF hF, e] at h2
 rw [h2] at hr; cases hr
theorem look_one' {α : Type} (k : Nat) (x : α) (i : Nat) : look [(k, x)] i = if k = i then some x else none := by
 by_cases h : k = i
 ·subst h; rw [look_cons_self, if_pos rfl]
 ·rw [look_cons_ne h, if_neg h]; rfl
theorem look_two' {α : Type} (k l : Nat) (x y : α) (i : Nat) : look [(k, x), (l, y)] i = if k = i then some x else if l = i then some y else none := by
 by_cases h : k = i
 ·subst h; rw [look_cons_self, if_pos rfl]
 ·rw [look_cons_ne h, if_neg h]; exact look_one' l y i
section
variable {C : Cx} {tm : List (Nat × D)} {rw' : List (Nat × Option (TypeId × Sq))} {bx : List (Nat × Option (List D))} {s' : PS}
theorem En.newFam (F : Nat) (te : TypeId) (fq : Fq) (h0 : fq.len = 0) (hl : lone ⟨tm, rw', bx⟩ 999999 F = true) (hl2 : PS.r ⟨tm, rw', bx⟩ 999999 = none) (hN : PS.r ⟨tm, rw', bx⟩ (FK + F) = none) (hO : ∀ u, C.O0.fr (FK + F) ≠ some u)
  (hnf : nf ⟨(PS.killX ⟨tm, rw', bx⟩ 999999).tmp, (FK + F, some (te, .fam fq)) :: rw', (PS.killX ⟨tm, rw', bx⟩ 999999).box⟩ = some s') (hF : Nat.blt F 4294967296 = true := by rfl) : En C ⟨tm, rw', bx⟩ s' := ⟨fun M a w h => by
 rw [nf_ok hnf]
 rw [Nat.blt_eq] at hF
 have hget : ∀ k, fq.get k = none := fun k => by
  cases fq <;> simp only [Fq.len, List.length_eq_zero_iff] at h0 <;> subst h0 <;> rfl
 let M' : Mp := ⟨M.β, fun x => if x = FK + F then some none else M.γ x⟩
 have hMi : ∀ G k, M'.γ (inn G k) = M.γ (inn G k) := fun G k => by
  have : inn G k ≠ FK + F := fun e => by have h1 := inn_hi G k; rw [e, fk_lo hF] at h1; cases h1
  simp [M', this]
 have hsub : ∀ x k c z, M'.γ x = some (some (k, c, z)) → M.γ x = some (some (k, c, z)) := fun x k c z hx => by
  simp only [M'] at hx
  split at hx
  ·cases hx
  ·exact hx
 have hown : ∀ k, M'.owned k → M.owned k := by
  rintro k (⟨b, hb⟩ | ⟨y, c, z, hy⟩)
  ·exact .inl ⟨b, hb⟩
  ·exact .inr ⟨y, c, z, hsub _ _ _ _ hy⟩
 have hA : ∀ f b, b < w.heap.size → Ow (Fs C.w0 C.O0) M f b → Ow (Fs C.w0 C.O0) M' f b ∧ b < w.heap.size ∧ w.heap[b]? = w.heap[b]? := fun f b h1 h2 => ⟨⟨fun h3 => h2.1 (hown b h3), h2.2⟩, h1, rfl⟩
 have hγ' : ∀ x y, x ≠ 999999 → notF x = true → M'.γ x = some y → M.γ x = some y := fun x y _ h2 h3 => by
  simp only [M'] at h3
  rw [if_neg (fun e => fk_ne hF h2 e.symm)] at h3
  exact h3
 refine ⟨M', h.remap 999999 F hF (fun _ => rfl) (fun x k c z hx => ⟨x, hsub _ _ _ _ hx⟩) (fun x y k c z c' z' h1 h2 => h.inj2 _ _ _ _ _ _ _ (hsub _ _ _ _ h1) (hsub _ _ _ _ h2)) hγ' (fun x y h1 h2 h3 h4 => ?_) (.inl (by decide)) (fun u u' h1 _ => absurd h1 (hO u)) (fun G k y _ _ h3 => by rw [← hMi]; exact h3) (fun t => ?_) (fun b => ?_) (fun x e q hx => ?_) fun x hx => ?_⟩
 ·simp only [M'] at h4
  rw [if_neg h1] at h4
  exact h4
 ·have : PS.t ⟨(PS.killX ⟨tm, rw', bx⟩ 999999).tmp, (FK + F, some (te, .fam fq)) :: rw', (PS.killX ⟨tm, rw', bx⟩ 999999).box⟩ t = klX 999999 (PS.t ⟨tm, rw', bx⟩ t) := PS.t_killX ⟨tm, rw', bx⟩ 999999 t
  rw [this]
  exact VR.klX hA hγ' (fun _ _ h => h) (h.tmp t)
 ·exact PS.b_killX ⟨tm, rw', bx⟩ 999999 b
 ·rw [PS.r_app (s := ⟨tm, rw', bx⟩) (l := [(FK + F, some (te, .fam fq))]) rfl, look_one', look_one'] at hx
  cases hbx : Nat.ble BIG x with
  | true =>
   rw [hbx] at hx
   have hxf : x ≠ FK + F := fun e => by rw [e, fk_lo hF] at hbx; cases hbx
   have hMx : M'.γ x = M.γ x := by simp [M', hxf]
   by_cases hu : FK + F = FK + unF x
   ·simp only [hu, if_true, famr, hget] at hx
    cases hx
   ·simp only [hu, if_false] at hx
    refine .inl ⟨hx, hMx, fun G hG => ?_⟩
    rcases lone_ok hl hx hG with h1 | h1
    ·rw [h1, hl2] at hx; cases hx
    ·exact h1
  | false =>
   rw [hbx] at hx
   by_cases hxf : FK + F = x
   ·subst hxf
    simp only [if_true] at hx
    cases hx
    exact .inr (.inl ⟨by simp [M'], rfl⟩)
   ·simp only [hxf, if_false] at hx
    refine .inl ⟨hx, by simp [M', Ne.symm hxf], fun G hG => ?_⟩
    rcases lone_ok hl hx hG with h1 | h1
    ·rw [h1, hl2] at hx; cases hx
    ·exact h1
 ·rw [PS.r_app (s := ⟨tm, rw', bx⟩) (l := [(FK + F, some (te, .fam fq))]) rfl, look_one', look_one'] at hx
  cases hbx : Nat.ble BIG x with
  | true =>
   rw [hbx] at hx
   have hxf : x ≠ FK + F := fun e => by rw [e, fk_lo hF] at hbx; cases hbx
   have hMx : M'.γ x = M.γ x := by simp [M', hxf]
   rw [hMx]
   refine h.rown x ?_
   by_cases hu : FK + F = FK + unF x
   ·rw [PS.r_hi _ hbx, PS.inn_r, ← hu, hN]; rfl
   ·simp only [hu, if_false] at hx; exact hx
  | false =>
   rw [hbx] at hx
   by_cases hxf : FK + F = x
   ·simp only [hxf, if_true] at hx; cases hx
   ·simp only [hxf, if_false] at hx
    simp only [M', Ne.symm hxf, if_false]
    exact h.rown x hx⟩
theorem En.asRefs (R F : Nat) {et : TypeId} {q qR : Sq} (hR : PS.r ⟨tm, rw', bx⟩ R = some (et, q)) (h0 : q.len = 0) (h1 : qR.len = 0) (hz : qR.sz = q.sz) (hFR : notF R = true := by rfl) : En C ⟨tm, rw', bx⟩ ⟨tm, (R, some (et, qR)) :: rw', bx⟩ := ⟨fun M a w h => by
 have hPS : ∀ x, PS.r ⟨tm, (R, some (et, qR)) :: rw', bx⟩ x = if R = x then some (et, qR) else PS.r ⟨tm, rw', bx⟩ x := fun x => PS.r_setR ⟨tm, rw', bx⟩ R (some (et, qR)) x hFR
 refine ⟨M, h.fr, h.dfr, h.sz, h.tmp, h.box, h.boxn, fun x e p hx => ?_, fun x hx => ?_, h.low, h.inj1, h.inj2, h.inj3, h.nle, h.fxb, h.fxr⟩
 ·rw [hPS] at hx
  split at hx
  ·rename_i hxR
   cases hx
   subst hxR
   rcases h.row _ _ _ hR with ⟨g1, g2⟩ | ⟨g, cap, cur, g1, g2, g3, g4, g5, g6⟩
   ·exact .inl ⟨g1, h1⟩
   ·exact .inr ⟨g, cap, cur, by rw [hz]; exact g1, g2, by omega, g4, by rw [hz]; exact g5, fun i j d hi hd => by omega⟩
  ·exact h.row x e p hx
 ·rw [hPS] at hx
  split at hx
  ·cases hx
  ·exact h.rown x hx⟩
theorem En.adopt (t r R F : Nat) {n : Nat} {et te : TypeId} {c q : Sq} {fq fq' : Fq} (ht : PS.t ⟨tm, rw', bx⟩ t = .row r 0 n) (hr : PS.r ⟨tm, rw', bx⟩ r = some (te, c)) (hn : n = c.len) (hf : PS.r ⟨tm, rw', bx⟩ (FK + F) = some (te, .fam fq)) (hR : PS.r ⟨tm, rw', bx⟩ R = some (et, dR F q))
  (hq : q.deep = true) (hlen : q.len = fq.len) (hp : fq.push c = some fq') (hl : lone ⟨tm, rw', bx⟩ R F = true) {d' : D} (hd' : d' = .irow F fq.len n)
  (hnf : nf ⟨(t, d') :: (PS.killX ⟨tm, rw', bx⟩ r).tmp, (r, none) :: (FK + F, some (te, .fam fq')) :: rw', (PS.killX ⟨tm, rw', bx⟩ r).box⟩ = some s') (hF : Nat.blt F 4294967296 = true := by rfl) (hr1 : Nat.blt r 1000000 = true := by rfl) (hFR : notF R = true := by rfl) (hrR : Nat.beq r R = false := by rfl) : En C ⟨tm, rw', bx⟩ s' := ⟨fun M a w h => by
 rw [nf_ok hnf]
 rw [Nat.blt_eq] at hF hr1
 subst hn hd'
 have hne : r ≠ R := fun e => by subst e; rw [Nat.beq_refl] at hrR; cases hrR
 have hget := Fq.get_push hp
 have hrn := notF_lo hr1
 let g : Nat → Nat := fun k => if k = fq.len then r else inn F k
 have hinnr : ∀ k, inn F k ≠ r := fun k e => by have := inn_hi F k; rw [e, notF_big hrn] at this; cases this
 have hown : ∀ k, (famM M r F fq' g).owned k → M.owned k := by
  rintro k (⟨b, hb⟩ | ⟨y, c, z, hy⟩)
  ·exact .inl ⟨b, hb⟩
  ·simp only [famM] at hy
   split at hy
   ·split at hy
    ·split at hy
     ·exact .inr ⟨_, c, z, hy⟩
     ·cases hy
    ·exact .inr ⟨_, c, z, hy⟩
   ·split at hy
    ·cases hy
    ·exact .inr ⟨_, c, z, hy⟩
 have hA : ∀ f b, b < w.heap.size → Ow (Fs C.w0 C.O0) M f b → Ow (Fs C.w0 C.O0) (famM M r F fq' g) f b ∧ b < w.heap.size ∧ w.heap[b]? = w.heap[b]? := fun f b h1 h2 => ⟨⟨fun h3 => h2.1 (hown b h3), h2.2⟩, h1, rfl⟩
 have hγ' : ∀ x y, x ≠ r → notF x = true → (famM M r F fq' g).γ x = some y → M.γ x = some y := fun x y h1 h2 h3 => by rw [famM_lo _ _ _ _ _ (notF_big h2) h1] at h3; exact h3
 have hgM : ∀ k, k ≠ fq.len → ∀ y, (famM M r F fq' g).γ (inn F k) = some y → M.γ (inn F k) = some y := fun k hk y hy => by
  rw [famM_inn _ _ _ _ _ hF] at hy
  split at hy
  ·simpa [g, hk] using hy
  ·cases hy
 refine ⟨_, h.refam r R F hF (fq' := fq') g (yR := some (et, dR F q)) hr1 hFR hne hf hl (fun k c' hc => ?_) (fun k k' c1 c2 h1 h2 h3 => ?_) (fun k c' hc => ?_) (fun x => ?_) (fun e p hx => ?_) (fun hx => by cases hx) (fun t' => ?_) fun b => ?_⟩
 ·rw [hget] at hc
  by_cases hk : k = fq.len
  ·rw [if_pos hk] at hc
   cases hc
   simp [g, hk, hr]
  ·rw [if_neg hk] at hc
   simp only [g, hk, if_false]
   rw [fam_r hF hf, hc]
 ·simp only [g] at h3
  split at h3 <;> split at h3
  ·omega
  ·exact absurd h3.symm (hinnr _)
  ·exact absurd h3 (hinnr _)
  ·exact (inn_inj h3).2
 ·by_cases hk : k = fq.len
  ·exact .inl (by simp [g, hk])
  ·exact .inr ⟨k, by simp [g, hk]⟩
 ·rw [PS.r_app (s := ⟨tm, rw', bx⟩) (l := [(r, none), (FK + F, some (te, .fam fq'))]) rfl, look_two', look_two']
  cases hbx : Nat.ble BIG x with
  | true =>
   have h1 : r ≠ FK + unF x := fun e => by have := notF_fk x; rw [← e, hrn] at this; cases this
   simp only [h1, if_false]
   by_cases hu : unF x = F
   ·simp [hu]
   ·simp [hu, Ne.symm hu]
  | false =>
   simp only
   by_cases hxr : r = x
   ·simp [hxr]
   ·simp only [hxr, if_false, Ne.symm hxr]
    by_cases hxf : FK + F = x
    ·simp [hxf]
    ·simp only [hxf, if_false, Ne.symm hxf]
     by_cases hxR : x = R
     ·simp [hxR, hR]
     ·simp [hxR]
 ·cases hx
  rcases h.row _ _ _ hR with ⟨g1, g2⟩ | ⟨gg, cap, cur, g1, g2, g3, g4, g5, g6⟩
  ·exact .inl ⟨by rw [famM_lo _ _ _ _ _ (notF_big hFR) (Ne.symm hne)]; exact g1, g2⟩
  ·refine .inr ⟨gg, cap, cur, by rw [famM_lo _ _ _ _ _ (notF_big hFR) (Ne.symm hne)]; exact g1, g2, g3, g4, g5, fun i j d hi hd => ?_⟩
   have hv := g6 i j d hi hd
   rw [dR_len] at hi
   rcases dR_relem hq hi hd with ⟨rfl, _⟩ | ⟨x, rfl, _⟩
   ·exact hv.irow_mv (hgM i (by omega))
   ·rw [hv.int_inv]; exact .int _
 ·have hk := PS.t_killX ⟨tm, rw', bx⟩ r t'
  by_cases htt : t = t'
  ·subst htt
   have : PS.t ⟨(t, .irow F fq.len c.len) :: (PS.killX ⟨tm, rw', bx⟩ r).tmp, (r, none) :: (FK + F, some (te, .fam fq')) :: rw', (PS.killX ⟨tm, rw', bx⟩ r).box⟩ t = .irow F fq.len c.len := by simp [PS.t, look_cons_self]
   rw [this]
   have hv := h.tmp t
   rw [ht] at hv
   refine hv.irow_of fun x hx => ?_
   rw [famM_inn _ _ _ _ _ hF] at hx
   split at hx
   ·simpa [g] using hx
   ·cases hx
  ·have : PS.t ⟨(t, .irow F fq.len c.len) :: (PS.killX ⟨tm, rw', bx⟩ r).tmp, (r, none) :: (FK + F, some (te, .fam fq')) :: rw', (PS.killX ⟨tm, rw', bx⟩ r).box⟩ t' = PS.t (PS.killX ⟨tm, rw', bx⟩ r) t' := by simp [PS.t, look_cons_ne htt]
   rw [this, hk]
   exact VR.klX hA hγ' (fun _ _ h => h) (h.tmp t')
 ·exact PS.b_killX ⟨tm, rw', bx⟩ r b⟩
end
end Go.Proofs.Ytcljhpldfanhkaa
namespace Go.Proofs.Ytcljhpldfanhkaa
open Go.RowKit Go.Deep
structure ReOK (F : Nat) (qR : Sq) (fq : Fq) (q' : Sq) : Prop where
 deep : q'.deep = true
 len : q'.len = qR.len
 sz : q'.sz = qR.sz
 κ : ∃ κ : Nat → Nat, (∀ i, i < q'.len → fq.get (κ i) = some (q'.nn i)) ∧ (∀ i j, i < q'.len → j < q'.len → κ i = κ j → i = j) ∧
  ∀ (i j n : Nat), i < q'.len → (((dR F q').relem i)[j]? = some (D.irow F i n) → (qR.relem i)[j]? = some (D.irow F (κ i) n)) ∧ ∀ x : Int, ((dR F q').relem i)[j]? = some (D.int x) → (qR.relem i)[j]? = some (D.int x)
section
variable {C : Cx} {tm : List (Nat × D)} {rw' : List (Nat × Option (TypeId × Sq))} {bx : List (Nat × Option (List D))} {s' : PS}
theorem En.re (R F : Nat) {et te : TypeId} {qR q' : Sq} {fq : Fq} (hR : PS.r ⟨tm, rw', bx⟩ R = some (et, qR)) (hf : PS.r ⟨tm, rw', bx⟩ (FK + F) = some (te, .fam fq)) (hre : ReOK F qR fq q') (hl : lone ⟨tm, rw', bx⟩ R F = true) (h9 : PS.r ⟨tm, rw', bx⟩ 999999 = none)
  (hnf : nf ⟨(PS.killX ⟨tm, rw', bx⟩ 999999).tmp, (R, some (et, dR F q')) :: (FK + F, some (te, dF q')) :: rw', (PS.killX ⟨tm, rw', bx⟩ 999999).box⟩ = some s') (hF : Nat.blt F 4294967296 = true := by rfl) (hFR : notF R = true := by rfl) (hrR : Nat.beq R 999999 = false := by rfl) : En C ⟨tm, rw', bx⟩ s' := ⟨fun M a w h => by
 rw [nf_ok hnf]
 rw [Nat.blt_eq] at hF
 obtain ⟨hq, hlen, hsz, κ, k1, k2, k3⟩ := hre
 have hne : (999999 : Nat) ≠ R := fun e => by rw [← e, Nat.beq_refl] at hrR; cases hrR
 have h9n : notF 999999 = true := notF_lo (by decide)
 let g : Nat → Nat := fun k => inn F (κ k)
 have hget := famOf_get hq
 have hown : ∀ k, (famM M 999999 F (famOf q') g).owned k → M.owned k := by
  rintro k (⟨b, hb⟩ | ⟨y, c, z, hy⟩)
  ·exact .inl ⟨b, hb⟩
  ·simp only [famM] at hy
   split at hy
   ·split at hy
    ·split at hy
     ·exact .inr ⟨_, c, z, hy⟩
     ·cases hy
    ·exact .inr ⟨_, c, z, hy⟩
   ·split at hy
    ·cases hy
    ·exact .inr ⟨_, c, z, hy⟩
 have hA : ∀ f b, b < w.heap.size → Ow (Fs C.w0 C.O0) M f b → Ow (Fs C.w0 C.O0) (famM M 999999 F (famOf q') g) f b ∧ b < w.heap.size ∧ w.heap[b]? = w.heap[b]? := fun f b h1 h2 => ⟨⟨fun h3 => h2.1 (hown b h3), h2.2⟩, h1, rfl⟩
 have hγ' : ∀ x y, x ≠ 999999 → notF x = true → (famM M 999999 F (famOf q') g).γ x = some y → M.γ x = some y := fun x y h1 h2 h3 => by rw [famM_lo _ _ _ _ _ (notF_big h2) h1] at h3; exact h3
 rw [dF_fam]
 refine ⟨_, h.refam 999999 R F hF (fq' := famOf q') g (yR := some (et, dR F q')) (by decide) hFR hne hf hl (fun k c' hc => ?_) (fun k k' c1 c2 h1 h2 h3 => ?_) (fun k c' hc => .inr ⟨κ k, rfl⟩) (fun x => ?_) (fun e p hx => ?_) (fun hx => by cases hx) (fun t' => ?_) fun b => ?_⟩
 ·rw [hget] at hc
  split at hc
  ·rename_i hk
   cases hc
   show PS.r _ (inn F (κ k)) = _
   rw [fam_r hF hf, k1 k hk]
  ·cases hc
 ·rw [hget] at h1 h2
  split at h1
  ·split at h2
   ·rename_i a1 a2; exact k2 k k' a1 a2 (inn_inj h3).2
   ·cases h2
  ·cases h1
 ·rw [PS.r_app (s := ⟨tm, rw', bx⟩) (l := [(R, some (et, dR F q')), (FK + F, some (te, .fam (famOf q')))]) rfl, look_two', look_two']
  cases hbx : Nat.ble BIG x with
  | true =>
   have h1 : R ≠ FK + unF x := fun e => by have := notF_fk x; rw [← e, hFR] at this; cases this
   simp only [h1, if_false]
   by_cases hu : unF x = F
   ·simp [hu]
   ·simp [hu, Ne.symm hu]
  | false =>
   simp only
   by_cases hx9 : x = 999999
   ·subst hx9
    have h2 : FK + F ≠ 999999 := fk_ne hF h9n
    simp [Ne.symm hne, h2, h9]
   ·simp only [hx9, if_false]
    by_cases hxR : R = x
    ·subst hxR
     have h2 : R ≠ FK + F := Ne.symm (fk_ne hF hFR)
     simp [h2]
    ·simp only [hxR, if_false, Ne.symm hxR]
     by_cases hxf : FK + F = x
     ·simp [hxf]
     ·simp [hxf, Ne.symm hxf]
 ·cases hx
  rcases h.row _ _ _ hR with ⟨g1, g2⟩ | ⟨gg, cap, cur, g1, g2, g3, g4, g5, g6⟩
  ·exact .inl ⟨by rw [famM_lo _ _ _ _ _ (notF_big hFR) (Ne.symm hne)]; exact g1, by rw [dR_len, hlen]; exact g2⟩
  ·refine .inr ⟨gg, cap, cur, by rw [famM_lo _ _ _ _ _ (notF_big hFR) (Ne.symm hne), dR_sz, hsz]; exact g1, g2, by rw [dR_len, hlen]; exact g3, g4, by rw [dR_sz, hsz]; exact g5, fun i j d hi hd => ?_⟩
   rw [dR_len] at hi
   rw [dR_sz, hsz]
   rcases dR_relem hq hi hd with ⟨rfl, _⟩ | ⟨x, rfl, _⟩
   ·have h1 := (k3 i j _ hi).1 hd
    have hv := g6 i j _ (by omega) h1
    refine hv.irow_mv fun x hx => ?_
    rw [famM_inn _ _ _ _ _ hF, hget, if_pos hi] at hx
    exact hx
   ·have h1 := (k3 i j 0 hi).2 x hd
    rw [(g6 i j _ (by omega) h1).int_inv]; exact .int _
 ·have : PS.t ⟨(PS.killX ⟨tm, rw', bx⟩ 999999).tmp, (R, some (et, dR F q')) :: (FK + F, some (te, .fam (famOf q'))) :: rw', (PS.killX ⟨tm, rw', bx⟩ 999999).box⟩ t' = klX 999999 (PS.t ⟨tm, rw', bx⟩ t') := PS.t_killX ⟨tm, rw', bx⟩ 999999 t'
  rw [this]
  exact VR.klX hA hγ' (fun _ _ h => h) (h.tmp t')
 ·exact PS.b_killX ⟨tm, rw', bx⟩ 999999 b⟩
theorem En.pull (t r F k : Nat) {n : Nat} {te : TypeId} {c : Sq} {fq : Fq} (ht : PS.t ⟨tm, rw', bx⟩ t = .irow F k n) (hn : n = c.len) (hc : fq.get k = some c) (hf : PS.r ⟨tm, rw', bx⟩ (FK + F) = some (te, .fam fq)) (hfr : frB ⟨tm, rw', bx⟩ noB (isR r) = true) (hrn : PS.r ⟨tm, rw', bx⟩ r = none)
  (hnf : nf ⟨(t, .row r 0 n) :: (PS.killX ⟨tm, rw', bx⟩ r).tmp, (r, some (te, c)) :: (FK + F, some (te, .fam (fq.hole k))) :: rw', (PS.killX ⟨tm, rw', bx⟩ r).box⟩ = some s') (hF : Nat.blt F 4294967296 = true := by rfl) (hr1 : Nat.blt r 1000000 = true := by rfl) : En C ⟨tm, rw', bx⟩ s' := ⟨fun M a w h => by
 rw [nf_ok hnf]
 rw [Nat.blt_eq] at hF hr1
 subst hn
 have hrn' := notF_lo hr1
 have hrb := notF_big hrn'
 have hget := Fq.get_hole fq k
 have hfr' : FK + F ≠ r := fk_ne hF hrn'
 have hir : ∀ G l, inn G l ≠ r := fun G l e => by have := inn_hi G l; rw [e, hrb] at this; cases this
 have hinn := fam_r hF hf k
 rw [hc] at hinn
 let M' : Mp := ⟨M.β, fun x => if x = r then M.γ (inn F k) else if x = inn F k then none else M.γ x⟩
 have m1 : M'.γ r = M.γ (inn F k) := by simp [M']
 have m2 : ∀ x, x ≠ r → x ≠ inn F k → M'.γ x = M.γ x := fun x h1 h2 => by simp [M', h1, h2]
 have m3 : M'.γ (inn F k) = none := by simp [M', hir]
 have m4 : ∀ x y, x ≠ r → M'.γ x = some y → M.γ x = some y := fun x y h1 h2 => by
  by_cases hx : x = inn F k
  ·rw [hx, m3] at h2; cases h2
  ·rw [m2 x h1 hx] at h2; exact h2
 have hsub : ∀ x k c z, M'.γ x = some (some (k, c, z)) → ∃ y, M.γ y = some (some (k, c, z)) := fun x k' c z hx => by
  by_cases h1 : x = r
  ·rw [h1, m1] at hx; exact ⟨_, hx⟩
  ·exact ⟨x, m4 x _ h1 hx⟩
 have hown : ∀ k, M'.owned k → M.owned k := by
  rintro k' (⟨b, hb⟩ | ⟨y, c, z, hy⟩)
  ·exact .inl ⟨b, hb⟩
  ·obtain ⟨x, hx⟩ := hsub _ _ _ _ hy; exact .inr ⟨x, c, z, hx⟩
 have hA : ∀ f b, b < w.heap.size → Ow (Fs C.w0 C.O0) M f b → Ow (Fs C.w0 C.O0) M' f b ∧ b < w.heap.size ∧ w.heap[b]? = w.heap[b]? := fun f b h1 h2 => ⟨⟨fun h3 => h2.1 (hown b h3), h2.2⟩, h1, rfl⟩
 have hγ' : ∀ x y, x ≠ r → notF x = true → M'.γ x = some y → M.γ x = some y := fun x y h1 _ h3 => m4 x y h1 h3
 have hrow0 : ∀ x e q, s'.r x = some (e, q) → True := fun _ _ _ _ => trivial
 have mvrow : ∀ x e q, PS.r ⟨tm, rw', bx⟩ x = some (e, q) → x ≠ r → x ≠ inn F k → RowAt (Fs C.w0 C.O0) M' w x e q := fun x e q hx h1 h2 => by
  rcases h.row x e q hx with ⟨g1, g2⟩ | ⟨g, cap, cur, g1, g2, g3, g4, g5, g6⟩
  ·exact .inl ⟨(m2 x h1 h2).trans g1, g2⟩
  ·exact .inr ⟨g, cap, cur, (m2 x h1 h2).trans g1, g2, g3, g4, g5, fun i j d hi hd => (g6 i j d hi hd).relem_any2 hd hA fun G _ l y hy => m4 _ y (hir G l) hy⟩
 refine ⟨M', h.remap r F hF (fun _ => rfl) hsub (fun x y k' c z c' z' h1 h2 => ?_) hγ' (fun x y h1 h2 h3 h4 => ?_) (.inl hr1) (fun u u' h1 h2 => ?_) (fun G l y _ _ h3 => m4 _ y (hir G l) h3) (fun t' => ?_) (fun b => ?_) (fun x e q hx => .inr ?_) fun x hx => ?_⟩
 ·by_cases hx : x = r
  ·by_cases hy : y = r
   ·rw [hx, hy]
   ·rw [hx, m1] at h1
    by_cases hyk : y = inn F k
    ·rw [hyk, m3] at h2; cases h2
    ·rw [m2 y hy hyk] at h2
     exact absurd (h.inj2 _ _ _ _ _ _ _ h1 h2).symm hyk
  ·by_cases hy : y = r
   ·rw [hy, m1] at h2
    by_cases hxk : x = inn F k
    ·rw [hxk, m3] at h1; cases h1
    ·rw [m2 x hx hxk] at h1
     exact absurd (h.inj2 _ _ _ _ _ _ _ h1 h2) hxk
   ·exact h.inj2 _ _ _ _ _ _ _ (m4 _ _ hx h1) (m4 _ _ hy h2)
 ·by_cases hx : x = r
  ·rw [hx, hrn'] at h2; cases h2
  ·exact m4 x y hx h4
 ·exact h.fxr _ _ _ h1 (m4 _ _ hfr' h2)
 ·have hk := PS.t_killX ⟨tm, rw', bx⟩ r t'
  by_cases htt : t = t'
  ·subst htt
   have : PS.t ⟨(t, .row r 0 c.len) :: (PS.killX ⟨tm, rw', bx⟩ r).tmp, (r, some (te, c)) :: (FK + F, some (te, .fam (fq.hole k))) :: rw', (PS.killX ⟨tm, rw', bx⟩ r).box⟩ t = .row r 0 c.len := by simp [PS.t, look_cons_self]
   rw [this]
   have hv := h.tmp t
   rw [ht] at hv
   generalize a.tmps.getD t undef = v at hv
   cases hv with
   | irow _ _ _ _ g1 g2 => exact .row _ _ _ _ g1 fun x hx => g2 x (by rw [← m1]; exact hx)
  ·have : PS.t ⟨(t, .row r 0 c.len) :: (PS.killX ⟨tm, rw', bx⟩ r).tmp, (r, some (te, c)) :: (FK + F, some (te, .fam (fq.hole k))) :: rw', (PS.killX ⟨tm, rw', bx⟩ r).box⟩ t' = PS.t (PS.killX ⟨tm, rw', bx⟩ r) t' := by simp [PS.t, look_cons_ne htt]
   rw [this, hk]
   exact VR.klX hA hγ' (fun _ _ h => h) (h.tmp t')
 ·exact PS.b_killX ⟨tm, rw', bx⟩ r b
 ·rw [PS.r_app (s := ⟨tm, rw', bx⟩) (l := [(r, some (te, c)), (FK + F, some (te, .fam (fq.hole k)))]) rfl, look_two', look_two'] at hx
  cases hbx : Nat.ble BIG x with
  | true =>
   rw [hbx] at hx
   have h1 : r ≠ FK + unF x := fun e => by have := notF_fk x; rw [← e, hrn'] at this; cases this
   have hxr : x ≠ r := fun e => by rw [e, hrb] at hbx; cases hbx
   simp only [h1, if_false] at hx
   by_cases hu : unF x = F
   ·have hxe : x = inn F (unK x) := by rw [← hu]; exact (inn_of hbx).symm
    simp only [hu, if_true, famr, hget] at hx
    by_cases hk : unK x = k
    ·simp only [hk, if_true] at hx; cases hx
    ·simp only [hk, if_false] at hx
     split at hx
     ·rename_i c' hc'
      cases hx
      refine mvrow x _ _ ?_ hxr (fun e => hk (by rw [e, unK_inn]))
      rw [hxe, fam_r hF hf, hc']
     ·cases hx
   ·simp only [Ne.symm hu, Nat.add_left_cancel_iff, if_false] at hx
    exact mvrow x e q hx hxr (fun e' => hu (by rw [e', unF_inn, Nat.mod_eq_of_lt hF]))
  | false =>
   rw [hbx] at hx
   have hxk : x ≠ inn F k := fun e => by rw [e, inn_hi] at hbx; cases hbx
   by_cases hxr : r = x
   ·subst hxr
    simp only [if_true] at hx
    cases hx
    exact (h.row _ _ _ hinn).mv (Fq.get_flat hc) m1 hA
   ·simp only [hxr, if_false] at hx
    by_cases hxf : FK + F = x
    ·subst hxf
     simp only [if_true] at hx
     cases hx
     rcases h.row _ _ _ hf with ⟨g1, g2⟩ | ⟨gg, cap, cur, g1, g2, g3, g4, g5, g6⟩
     ·exact .inl ⟨(m2 _ hfr' hxk).trans g1, rfl⟩
     ·exact .inr ⟨gg, cap, cur, (m2 _ hfr' hxk).trans g1, g2, Nat.zero_le _, g4, g5, fun i j d hi hd => absurd hi (Nat.not_lt_zero _)⟩
    ·simp only [hxf, if_false] at hx
     exact mvrow x e q hx (Ne.symm hxr) hxk
 ·rw [PS.r_app (s := ⟨tm, rw', bx⟩) (l := [(r, some (te, c)), (FK + F, some (te, .fam (fq.hole k)))]) rfl, look_two', look_two'] at hx
  cases hbx : Nat.ble BIG x with
  | true =>
   rw [hbx] at hx
   have h1 : r ≠ FK + unF x := fun e => by have := notF_fk x; rw [← e, hrn'] at this; cases this
   have hxr : x ≠ r := fun e => by rw [e, hrb] at hbx; cases hbx
   simp only [h1, if_false] at hx
   by_cases hxk : x = inn F k
   ·rw [hxk]; exact m3
   rw [m2 x hxr hxk]
   refine h.rown x ?_
   by_cases hu : unF x = F
   ·have hxe : x = inn F (unK x) := by rw [← hu]; exact (inn_of hbx).symm
    simp only [hu, if_true, famr, hget] at hx
    have hk : unK x ≠ k := fun e => hxk (by rw [hxe, e])
    simp only [hk, if_false] at hx
    rw [hxe, fam_r hF hf]
    split at hx
    ·cases hx
    ·rename_i hc'; rw [hc']
   ·simp only [Ne.symm hu, Nat.add_left_cancel_iff, if_false] at hx
    exact hx
  | false =>
   rw [hbx] at hx
   have hxk : x ≠ inn F k := fun e => by rw [e, inn_hi] at hbx; cases hbx
   by_cases hxr : r = x
   ·simp only [hxr, if_true] at hx; cases hx
   ·simp only [hxr, if_false] at hx
    by_cases hxf : FK + F = x
    ·simp only [hxf, if_true] at hx; cases hx
    ·simp only [hxf, if_false] at hx
     rw [m2 x (Ne.symm hxr) hxk]; exact h.rown x hx⟩
theorem En.freezeD (t R F : Nat) {n : Nat} {et te : TypeId} {q : Sq} (ht : PS.t ⟨tm, rw', bx⟩ t = .row R 0 n) (hR : PS.r ⟨tm, rw', bx⟩ R = some (et, dR F q)) (hf : PS.r ⟨tm, rw', bx⟩ (FK + F) = some (te, dF q)) (hq : q.deep = true) (hn : n = q.len) (hl : lone ⟨tm, rw', bx⟩ R F = true)
  (hnf : nf ⟨(t, .ro true q) :: (PS.killX ⟨tm, rw', bx⟩ R).tmp, (R, none) :: (FK + F, none) :: rw', (PS.killX ⟨tm, rw', bx⟩ R).box⟩ = some s') (hF : Nat.blt F 4294967296 = true := by rfl) (hr1 : Nat.blt R 1000000 = true := by rfl) : En C ⟨tm, rw', bx⟩ s' := ⟨fun M a w h => by
 rw [nf_ok hnf]
 rw [Nat.blt_eq] at hF hr1
 subst hn
 have hrn' := notF_lo hr1
 have hrb := notF_big hrn'
 have hfr' : FK + F ≠ R := fk_ne hF hrn'
 let M' : Mp := ⟨M.β, fun x => if x = R ∨ x = FK + F ∨ (Nat.ble BIG x = true ∧ unF x = F) then none else M.γ x⟩
 have m4 : ∀ x y, M'.γ x = some y → M.γ x = some y ∧ x ≠ R ∧ x ≠ FK + F ∧ ¬ (Nat.ble BIG x = true ∧ unF x = F) := fun x y h2 => by
  simp only [M'] at h2
  split at h2
  ·cases h2
  ·rename_i hno
   simp only [not_or] at hno
   exact ⟨h2, hno.1, hno.2.1, hno.2.2⟩
 have hown : ∀ k, M'.owned k → M.owned k := by
  rintro k' (⟨b, hb⟩ | ⟨y, c, z, hy⟩)
  ·exact .inl ⟨b, hb⟩
  ·exact .inr ⟨y, c, z, (m4 _ _ hy).1⟩
 have hA : ∀ f b, b < w.heap.size → Ow (Fs C.w0 C.O0) M f b → Ow (Fs C.w0 C.O0) M' f b ∧ b < w.heap.size ∧ w.heap[b]? = w.heap[b]? := fun f b h1 h2 => ⟨⟨fun h3 => h2.1 (hown b h3), h2.2⟩, h1, rfl⟩
 have hγ' : ∀ x y, x ≠ R → notF x = true → M'.γ x = some y → M.γ x = some y := fun x y h1 _ h3 => (m4 x y h3).1
 have hgone : ∀ x g cp z, M.γ x = some (some (g, cp, z)) → M'.γ x = none → Ow (Fs C.w0 C.O0) M' true g := fun x g cp z hx hx' => by
  refine ⟨?_, (h.low g (.inr ⟨x, cp, z, hx⟩)).imp_right (C.O0.sub true g)⟩
  rintro (⟨b, hb⟩ | ⟨y, c, z', hy⟩)
  ·exact h.inj3 _ _ _ _ _ hb hx
  ·have := h.inj2 _ _ _ _ _ _ _ (m4 _ _ hy).1 hx
   rw [this, hx'] at hy; cases hy
 refine ⟨M', h.remap R F hF (fun _ => rfl) (fun x k c z hx => ⟨x, (m4 _ _ hx).1⟩) (fun x y k' c z c' z' h1 h2 => h.inj2 _ _ _ _ _ _ _ (m4 _ _ h1).1 (m4 _ _ h2).1) hγ' (fun x y _ _ _ h4 => (m4 _ _ h4).1) (.inl hr1) (fun u u' h1 h2 => absurd rfl (m4 _ _ h2).2.2.1) (fun G l y _ _ h3 => (m4 _ y h3).1) (fun t' => ?_) (fun b => ?_) (fun x e p hx => ?_) fun x hx => ?_⟩
 ·have hk := PS.t_killX ⟨tm, rw', bx⟩ R t'
  by_cases htt : t = t'
  ·subst htt
   have : PS.t ⟨(t, .ro true q) :: (PS.killX ⟨tm, rw', bx⟩ R).tmp, (R, none) :: (FK + F, none) :: rw', (PS.killX ⟨tm, rw', bx⟩ R).box⟩ t = .ro true q := by simp [PS.t, look_cons_self]
   rw [this]
   have hv := h.tmp t
   rw [ht] at hv
   exact deep_ro h hF hq hR hf hv true (fun g cp z hg => hgone R g cp z hg (by simp [M'])) (fun i g cp z hg => hgone _ g cp z hg (by
    show (if inn F i = R ∨ inn F i = FK + F ∨ (Nat.ble BIG (inn F i) = true ∧ unF (inn F i) = F) then none else M.γ (inn F i)) = none
    rw [if_pos (.inr (.inr ⟨inn_hi F i, by rw [unF_inn, Nat.mod_eq_of_lt hF]⟩))])) hA
  ·have : PS.t ⟨(t, .ro true q) :: (PS.killX ⟨tm, rw', bx⟩ R).tmp, (R, none) :: (FK + F, none) :: rw', (PS.killX ⟨tm, rw', bx⟩ R).box⟩ t' = PS.t (PS.killX ⟨tm, rw', bx⟩ R) t' := by simp [PS.t, look_cons_ne htt]
   rw [this, hk]
   exact VR.klX hA hγ' (fun _ _ h => h) (h.tmp t')
 ·exact PS.b_killX ⟨tm, rw', bx⟩ R b
 ·rw [PS.r_app (s := ⟨tm, rw', bx⟩) (l := [(R, none), (FK + F, none)]) rfl, look_two', look_two'] at hx
  left
  have key : PS.r ⟨tm, rw', bx⟩ x = some (e, p) ∧ x ≠ R ∧ x ≠ FK + F ∧ ¬ (Nat.ble BIG x = true ∧ unF x = F) := by
   cases hbx : Nat.ble BIG x with
   | true =>
    rw [hbx] at hx
    have h1 : R ≠ FK + unF x := fun e => by have := notF_fk x; rw [← e, hrn'] at this; cases this
    simp only [h1, if_false] at hx
    by_cases hu : unF x = F
    ·simp only [hu, if_true, famr] at hx; cases hx
    ·simp only [Ne.symm hu, Nat.add_left_cancel_iff, if_false] at hx
     exact ⟨hx, fun e => (by rw [e, hrb] at hbx; cases hbx), fun e => (by rw [e, fk_lo hF] at hbx; cases hbx), fun h => hu h.2⟩
   | false =>
    rw [hbx] at hx
    by_cases hxr : R = x
    ·simp only [hxr, if_true] at hx; cases hx
    ·simp only [hxr, if_false] at hx
     by_cases hxf : FK + F = x
     ·simp only [hxf, if_true] at hx; cases hx
     ·simp only [hxf, if_false] at hx
      exact ⟨hx, Ne.symm hxr, Ne.symm hxf, fun h => by cases h.1⟩
  obtain ⟨k1, k2, k3, k4⟩ := key
  refine ⟨k1, ?_, fun G hG => (lone_ok hl k1 hG).resolve_left k2⟩
  show (if x = R ∨ x = FK + F ∨ (Nat.ble BIG x = true ∧ unF x = F) then none else M.γ x) = M.γ x
  rw [if_neg]
  rintro (h1 | h1 | h1)
  ·exact k2 h1
  ·exact k3 h1
  ·exact k4 h1
 ·cases hx' : M'.γ x with
  | none => rfl
  | some y =>
   exfalso
   obtain ⟨k1, k2, k3, k4⟩ := m4 x y hx'
   rw [PS.r_app (s := ⟨tm, rw', bx⟩) (l := [(R, none), (FK + F, none)]) rfl, look_two', look_two'] at hx
   have hn : PS.r ⟨tm, rw', bx⟩ x = none := by
    cases hbx : Nat.ble BIG x with
    | true =>
     rw [hbx] at hx
     have h1 : R ≠ FK + unF x := fun e => by have := notF_fk x; rw [← e, hrn'] at this; cases this
     have hu : unF x ≠ F := fun e => k4 ⟨hbx, e⟩
     simp only [h1, Ne.symm hu, Nat.add_left_cancel_iff, if_false] at hx
     exact hx
    | false =>
     rw [hbx] at hx
     simp only [Ne.symm k2, Ne.symm k3, if_false] at hx
     exact hx
   rw [h.rown x hn] at k1
   cases k1⟩
end
end Go.Proofs.Ytcljhpldfanhkaa
namespace Go.Proofs.Ytcljhpldfanhkaa
open Go.RowKit Go.Deep
section
variable {w0 : World} {O0 : Hd} {n : Nat} {M : Mp} {s : PS} {a : Act} {w : World}
theorem Rel.newRowR (h : Rel w0 O0 n M s a w) {r m : Nat} {e : TypeId} {q : Sq} {cur : Array Value} (hq : q.len = m) (hm : m ≤ maxLen) (hc : cur.size = m * q.sz)
  (hv : ∀ i j d, i < m → (q.relem i)[j]? = some d → VR M (Ow (Fs w0 O0) M) w d (cur.getD (i * q.sz + j) undef)) (hf : Fresh s noB (isR r)) (hlo : r < 1000000) :
  ∃ M', Rel w0 O0 n M' (s.setR r (some (e, q))) a (w.alloc (.cells cur e)) ∧ VR M' (Ow (Fs w0 O0) M') (w.alloc (.cells cur e)) (.row r 0 m) (.slice (some ⟨w.heap.size, 0, none⟩) m m) := by
 have hF := notF_lo hlo
 let M' : Mp := ⟨M.β, fun x => if x = r then some (some (w.heap.size, m, q.sz)) else M.γ x⟩
 have m1 : M'.γ r = some (some (w.heap.size, m, q.sz)) := by simp [M']
 have m2 : ∀ x, x ≠ r → M'.γ x = M.γ x := fun x hx => by simp [M', hx]
 have hown : ∀ k, M'.owned k → M.owned k ∨ k = w.heap.size := by
  rintro k (⟨x, hx⟩ | ⟨y, c, z, hy⟩)
  ·exact .inl (.inl ⟨x, hx⟩)
  ·by_cases hyr : y = r
   ·rw [hyr, m1] at hy; cases hy; exact .inr rfl
   ·rw [m2 y hyr] at hy; exact .inl (.inr ⟨y, c, z, hy⟩)
 have hA : ∀ f k, k < w.heap.size → Ow (Fs w0 O0) M f k → Ow (Fs w0 O0) M' f k ∧ k < (w.alloc (.cells cur e)).heap.size ∧ (w.alloc (.cells cur e)).heap[k]? = w.heap[k]? := fun f k h1 h2 =>
  ⟨⟨fun h3 => by rcases hown k h3 with h4 | h4; exact h2.1 h4; omega, h2.2⟩, by simp; omega, Below.heap_alloc w _ k h1⟩
 have hγ : ∀ x y, isR r x = false → M'.γ x = some y → M.γ x = some y := fun x y h1 h2 => by
  rw [m2 x (fun e => by subst e; simp [isR, Nat.beq_refl] at h1)] at h2; exact h2
 have hrb := notF_big hF
 have hbig : ∀ x y, BIG ≤ x → M'.γ x = some y → M.γ x = some y := fun x y hx h2 => by
  rw [m2 x (fun e => by rw [← e, Nat.ble_eq_true_of_le hx] at hrb; cases hrb)] at h2; exact h2
 have hno : ∀ y c z, M.γ y ≠ some (some (w.heap.size, c, z)) := fun y c z hy => by have := h.lt _ (.inr ⟨y, c, z, hy⟩); omega
 refine ⟨M', ⟨?_, h.dfr, h.sz, fun t => ?_, fun x ds hx => ?_, fun x hx => h.boxn x hx, fun x e' p hx => ?_, fun x hx => ?_, fun k hk => ?_, h.inj1, fun x y k c z c' z' h1 h2 => ?_, fun x y k c z h1 h2 => ?_, h.nle, h.fxb, fun x u u' h1 h2 => ?_⟩, ?_⟩
 ·exact h.fr.step rfl rfl rfl (by simp) fun k h1 _ => Below.heap_alloc w _ k (Nat.lt_of_lt_of_le h1 h.fr.size)
 ·exact VR.new (b := noB) (r := isR r) hA hγ (fun _ _ _ h => h) (hf.t t) (h.tmp t) (hi := fun _ => hbig)
 ·obtain ⟨k, cur', e', h1, h2, h3, h4⟩ := h.box x ds hx
  have hlt := (Array.getElem?_eq_some_iff.1 h2).1
  exact ⟨k, cur', e', h1, (Below.heap_alloc w _ k hlt).trans h2, h3, fun j d hd => VR.newS (b := noB) (r := isR r) hA hγ (fun _ _ _ h => h) (hf.b _ _ hx d (List.mem_of_getElem? hd)) (h4 j d hd) (hi := fun _ => hbig)⟩
 ·rw [PS.r_setR _ _ _ _ hF] at hx
  by_cases hxr : r = x
  ·subst hxr
   rw [if_pos rfl] at hx
   cases hx
   exact .inr ⟨w.heap.size, m, cur, m1, heap_alloc_new w _, by omega, hm, hc, fun i j d hi hd => (hv i j d (by omega) hd).relem_any hd hA hbig⟩
  ·rw [if_neg hxr] at hx
   rcases h.row x e' p hx with ⟨h1, h2⟩ | ⟨g, cap, cur', h1, h2, h3, h4, h5, h6⟩
   ·exact .inl ⟨(m2 x (Ne.symm hxr)).trans h1, h2⟩
   ·have hlt := (Array.getElem?_eq_some_iff.1 h2).1
    exact .inr ⟨g, cap, cur', (m2 x (Ne.symm hxr)).trans h1, (Below.heap_alloc w _ g hlt).trans h2, h3, h4, h5, fun i j d hi hd => (h6 i j d hi hd).relem_any hd hA hbig⟩
 ·rw [PS.r_setR _ _ _ _ hF] at hx
  by_cases hxr : r = x
  ·rw [if_pos hxr] at hx; cases hx
  ·rw [if_neg hxr] at hx; exact (m2 x (Ne.symm hxr)).trans (h.rown x hx)
 ·rcases hown k hk with h1 | rfl
  ·exact h.low k h1
  ·exact .inl h.fr.size
 ·by_cases hx : x = r
  ·by_cases hy : y = r
   ·rw [hx, hy]
   ·rw [hx, m1] at h1; cases h1; rw [m2 y hy] at h2; exact absurd h2 (hno _ _ _)
  ·by_cases hy : y = r
   ·rw [hy, m1] at h2; cases h2; rw [m2 x hx] at h1; exact absurd h1 (hno _ _ _)
   ·rw [m2 x hx] at h1; rw [m2 y hy] at h2; exact h.inj2 _ _ _ _ _ _ _ h1 h2
 ·by_cases hy : y = r
  ·rw [hy, m1] at h2; cases h2
   have := h.lt _ (.inl ⟨x, h1⟩); omega
  ·rw [m2 y hy] at h2; exact h.inj3 _ _ _ _ _ h1 h2
 ·have h3 := (O0.lor x u h1).1
  rw [m2 x (by omega)] at h2
  exact h.fxr x u u' h1 h2
 ·exact .row _ _ _ _ rfl fun x hx => by rw [m1] at hx; cases hx; exact ⟨by omega, _, by rw [Nat.sub_zero], fun _ => by rw [Nat.zero_mul]⟩
end
def refOf : D → Option Sq
 | .irow F k n => some (.irefs F [(k, n)])
 | .agg [.int p, .irow F k n] => some (.rrefs F [(p, k, n)])
 | _ => none
theorem refOf_ok {d : D} {q : Sq} (h : refOf d = some q) : d.flat = true ∧ d.cells = q.relem 0 ∧ q.len = 1 := by
 unfold refOf at h
 split at h
 ·cases h; exact ⟨rfl, rfl, rfl⟩
 ·cases h; exact ⟨rfl, rfl, rfl⟩
 ·cases h
section
variable {C : Cx} {ops : Array Oper} {K : PS → Prop} {o : Oper} {rest : List Oper} {s : PS} {TT : List (Nat × Ty)} {tm : List (Nat × D)} {rw' : List (Nat × Option (TypeId × Sq))} {bx : List (Nat × Option (List D))}
theorem oBuildI (hT : TTOK C.P TT) (hg : o.guard = none) {t e : TypeId} {k q : Sq} {by' b : Nat} {x : Operand} {d : D} (hop : o.op = .buildSlice t 1 #[(0, x)]) (hd : o.dst = some b) (hy : look TT t = some (.sl e k by')) (hx : (PS.ev ⟨tm, rw', bx⟩ x) = d)
  (hq : refOf d = some q) (hz : Nat.beq k.sz q.sz = true) (hbig : Nat.ble (1 * k.sz) 16777216 = true) (hn : Nat.blt b C.n = true) (hf : frB ⟨tm, rw', bx⟩ noB (isR b) = true) (h : VO C ops K rest ⟨(b, .row b 0 1) :: tm, (b, some (e, q)) :: rw', bx⟩) : VO C ops K (o :: rest) ⟨tm, rw', bx⟩ := by
 refine vOp hg ⟨fun M a w Q K' hrl hk => ?_⟩
 have hev := hrl.ev x
 rw [hx] at hev
 obtain ⟨r1, r2, r3⟩ := refOf_ok hq
 have hz' := Nat.eq_of_beq_eq_true hz
 obtain ⟨c1, c2, _⟩ := hev.cells r1
 rw [r2, Sq.relem_len, ← hz'] at c1
 have hvs : ∀ v ∈ [a.eval x], v.cells.size = k.sz := by intro v hv; simp at hv; subst hv; exact c1.symm
 have hbig' := Nat.le_of_ble_eq_true hbig
 have hfill : ∀ cells : Array Value, cells.size = 1 * k.sz → Instr.fill (fun i => some (i * k.sz, k.sz)) cells (idxL 0 [a.eval x]) = some ([a.eval x].flatMap fun v => v.cells.toList).toArray := fun cells hc => by
  have := fill_all k.sz [a.eval x] 0 cells hvs (by rw [hc]; rfl)
  simpa using this
 have hrun : (execOp a.eval o).run C.P w = .ok (.value (.slice (some ⟨w.heap.size, 0, none⟩) 1 1)) (w.alloc (.cells ([a.eval x].flatMap fun v => v.cells.toList).toArray e)) := by
  have hparts : ((#[(0, x)] : Array (Nat × Operand)).map fun (p : Nat × Operand) => (p.1, a.eval p.2)).toList = idxL 0 [a.eval x] := by simp [idxL]
  have := run_buildSlice (hT t _ hy) w 1 _ ([a.eval x].flatMap fun v => v.cells.toList).toArray (by omega) (fun cells hc => by rw [hparts]; exact hfill cells hc)
  unfold execOp
  rw [hop]
  simp only [Sem.run_bind, this, Result.andThen_ok]
  rfl
 obtain ⟨M', h1, h2⟩ := hrl.newRowR (r := b) (m := 1) (e := e) (q := q) (cur := ([a.eval x].flatMap fun v => v.cells.toList).toArray) r3 (by unfold maxLen; omega)
  (by simp only [List.size_toArray]; rw [flatMap_len _ hvs, ← hz']; rfl) (fun i j d' hi hd' => by
   obtain rfl : i = 0 := by omega
   have := c2 j d' (by rw [r2]; exact hd')
   simpa using this) (frB_ok hf) (by have h1000 := hrl.nle; rw [Nat.blt_eq] at hn; omega)
 unfold Oper.wp
 rw [hrun]
 refine hk M' _ _ _ h ?_
 rw [hd]
 exact h1.put (o := some b) hn h2
end
end Go.Proofs.Ytcljhpldfanhkaa
namespace Go.Proofs.Ytcljhpldfanhkaa
open Go.RowKit Go.Deep
section
variable {P : Program} {w0 : World} {O0 : Hd} {n : Nat} {M : Mp} {s : PS} {a : Act} {w w' : World}
theorem fam_row {F : Nat} (hF : F < 4294967296) {te : TypeId} {fq' : Fq} (x : Nat) : PS.r ⟨s.tmp, (FK + F, some (te, .fam fq')) :: s.row, s.box⟩ x = match Nat.ble BIG x with | true => (if unF x = F then famr (some (some (te, .fam fq'))) (unK x) else s.r x) | false => if x = FK + F then some (te, .fam fq') else s.r x := by
 rw [PS.r_app (s := s) (l := [(FK + F, some (te, .fam fq'))]) rfl, look_one', look_one']
 cases hbx : Nat.ble BIG x with
 | true =>
  by_cases hu : unF x = F
  ·simp [hu]
  ·simp [hu, Ne.symm hu]
 | false =>
  by_cases hx : FK + F = x
  ·simp [hx]
  ·simp [hx, Ne.symm hx]
theorem Rel.inPlace (h : Rel w0 O0 n M s a w) {F k g cap : Nat} (hF : F < 4294967296) {te : TypeId} {c c' : Sq} {fq fq' : Fq} {cur' : Array Value} (hf : s.r (FK + F) = some (te, .fam fq)) (hc : fq.get k = some c) (hfq : ∀ j, fq'.get j = if j = k then some c' else fq.get j)
  (hos : w'.os = w.os) (ht : w'.tape = w.tape) (ho : w'.output = w.output) (hs : w.heap.size ≤ w'.heap.size)
  (hcase : (M.γ (inn F k) = some none ∧ c'.len = 0 ∧ ∀ x, x < w.heap.size → w'.heap[x]? = w.heap[x]?) ∨
   (M.γ (inn F k) = some (some (g, cap, c'.sz)) ∧ (∀ x, x < w.heap.size → x ≠ g → w'.heap[x]? = w.heap[x]?) ∧ w'.heap[g]? = some (.cells cur' te (0, 0)) ∧ c'.len ≤ cap ∧ cap ≤ maxLen ∧ cur'.size = cap * c'.sz ∧ ∀ i j d, i < c'.len → (c'.relem i)[j]? = some d → VR M (Ow (Fs w0 O0) M) w' d (cur'.getD (i * c'.sz + j) undef))) :
  Rel w0 O0 n M ⟨s.tmp, (FK + F, some (te, .fam fq')) :: s.row, s.box⟩ a w' ∧ ∀ d v, VR M (Ow (Fs w0 O0) M) w d v → VR M (Ow (Fs w0 O0) M) w' d v := by
 have hinn : s.r (inn F k) = some (te, c) := by rw [fam_r hF hf, hc]
 have hoth : ∀ x y cp z, M.γ y = some (some (x, cp, z)) → y ≠ inn F k → w'.heap[x]? = w.heap[x]? := fun x y cp z hy hne => by
  have hlt := h.lt x (.inr ⟨y, cp, z, hy⟩)
  rcases hcase with ⟨_, _, h3⟩ | ⟨h1, h2, _⟩
  ·exact h3 x hlt
  ·exact h2 x hlt fun e => hne (h.inj2 _ _ _ _ _ _ _ hy (by rw [e]; exact h1))
 have hbox : ∀ x b, M.β b = some x → w'.heap[x]? = w.heap[x]? := fun x b hb => by
  have hlt := h.lt x (.inl ⟨b, hb⟩)
  rcases hcase with ⟨_, _, h3⟩ | ⟨h1, h2, _⟩
  ·exact h3 x hlt
  ·exact h2 x hlt fun e => h.inj3 _ _ _ _ _ hb (by rw [e]; exact h1)
 have hun : ∀ x, x < w.heap.size → ¬ M.owned x → w'.heap[x]? = w.heap[x]? := fun x hlt hx => by
  rcases hcase with ⟨_, _, h3⟩ | ⟨h1, h2, _⟩
  ·exact h3 x hlt
  ·exact h2 x hlt fun e => hx (.inr ⟨_, _, _, by rw [e]; exact h1⟩)
 have hA : ∀ f b, b < w.heap.size → Ow (Fs w0 O0) M f b → Ow (Fs w0 O0) M f b ∧ b < w'.heap.size ∧ w'.heap[b]? = w.heap[b]? := fun f b h1 h2 => ⟨h2, by omega, hun b h1 h2.1⟩
 have g4 : ∀ d v, VR M (Ow (Fs w0 O0) M) w d v → VR M (Ow (Fs w0 O0) M) w' d v := fun d v hv => hv.mono hA (fun _ _ h => h) (fun _ _ h => h)
 have keep : ∀ x e q, s.r x = some (e, q) → x ≠ inn F k → RowAt (Fs w0 O0) M w' x e q := fun x e q hx hne => by
  rcases h.row x e q hx with ⟨h1, h2⟩ | ⟨g', cap', cur2, b1, b2, b3, b4, b5, b6⟩
  ·exact .inl ⟨h1, h2⟩
  ·exact .inr ⟨g', cap', cur2, b1, (hoth _ _ _ _ b1 hne).trans b2, b3, b4, b5, fun i j d hi hd => g4 _ _ (b6 i j d hi hd)⟩
 refine ⟨⟨?_, h.dfr, h.sz, fun t => g4 _ _ (h.tmp t), fun x ds hx => ?_, h.boxn, fun x e q hx => ?_, fun x hx => ?_, h.low, h.inj1, h.inj2, h.inj3, h.nle, h.fxb, h.fxr⟩, g4⟩
 ·refine h.fr.step hos ht ho hs fun x h1 h2 => hun x (Nat.lt_of_lt_of_le h1 h.fr.size) fun hx => ?_
  rcases h.low x hx with h3 | h3
  ·omega
  ·exact h2 h3
 ·obtain ⟨k2, cur2, e2, b1, b2, b3, b4⟩ := h.box x ds hx
  exact ⟨k2, cur2, e2, b1, (hbox _ _ b1).trans b2, b3, fun i d' hd => g4 _ _ (b4 i d' hd)⟩
 ·rw [fam_row hF] at hx
  cases hbx : Nat.ble BIG x with
  | true =>
   rw [hbx] at hx
   by_cases hu : unF x = F
   ·have hxe : x = inn F (unK x) := by rw [← hu]; exact (inn_of hbx).symm
    simp only [hu, if_true, famr, hfq] at hx
    by_cases hk : unK x = k
    ·simp only [hk, if_true, Option.some.injEq, Prod.mk.injEq] at hx
     obtain ⟨rfl, rfl⟩ := hx
     rw [hxe, hk]
     rcases hcase with ⟨h1, h2, _⟩ | ⟨h1, _, h3, h4, h5, h6, h7⟩
     ·exact .inl ⟨h1, h2⟩
     ·exact .inr ⟨g, cap, cur', h1, h3, h4, h5, h6, h7⟩
    ·simp only [hk, if_false] at hx
     split at hx
     ·rename_i c2 hc2
      cases hx
      refine keep x _ _ ?_ (fun e => hk (by rw [e, unK_inn]))
      rw [hxe, fam_r hF hf, hc2]
     ·cases hx
   ·simp only [hu, if_false] at hx
    exact keep x e q hx (fun e' => hu (by rw [e', unF_inn, Nat.mod_eq_of_lt hF]))
  | false =>
   rw [hbx] at hx
   have hxk : x ≠ inn F k := fun e => by rw [e, inn_hi] at hbx; cases hbx
   simp only at hx
   split at hx
   ·rename_i hxf
    cases hx
    rw [hxf]
    rcases h.row _ _ _ hf with ⟨g1, g2⟩ | ⟨gg, cp, cur, g1, g2, g3, g4', g5, g6⟩
    ·exact .inl ⟨g1, rfl⟩
    ·exact .inr ⟨gg, cp, cur, g1, (hoth _ _ _ _ g1 (by rw [← hxf]; exact hxk)).trans g2, Nat.zero_le _, g4', g5, fun i j d hi hd => absurd hi (Nat.not_lt_zero _)⟩
   ·exact keep x e q hx hxk
 ·rw [fam_row hF] at hx
  cases hbx : Nat.ble BIG x with
  | true =>
   rw [hbx] at hx
   by_cases hu : unF x = F
   ·have hxe : x = inn F (unK x) := by rw [← hu]; exact (inn_of hbx).symm
    simp only [hu, if_true, famr, hfq] at hx
    by_cases hk : unK x = k
    ·simp only [hk, if_true] at hx; cases hx
    ·simp only [hk, if_false] at hx
     refine h.rown x ?_
     rw [hxe, fam_r hF hf]
     split at hx
     ·cases hx
     ·rename_i h2; rw [h2]
   ·simp only [hu, if_false] at hx
    exact h.rown x hx
  | false =>
   rw [hbx] at hx
   simp only at hx
   split at hx
   ·cases hx
   ·exact h.rown x hx
theorem irow_form (h : Rel w0 O0 n M s a w) {F k m : Nat} {te : TypeId} {c : Sq} {v : Value} (hr : s.r (inn F k) = some (te, c)) (hv : VR M (Ow (Fs w0 O0) M) w (.irow F k m) v) :
  (M.γ (inn F k) = some none ∧ c.len = 0 ∧ m = 0 ∧ ∃ ao, v = .slice ao 0 0) ∨ ∃ g cap cur, M.γ (inn F k) = some (some (g, cap, c.sz)) ∧ v = .slice (some ⟨g, 0, none⟩) m cap ∧ m ≤ cap ∧ w.heap[g]? = some (.cells cur te (0, 0)) ∧ c.len ≤ cap ∧ cap ≤ maxLen ∧ cur.size = cap * c.sz ∧
   ∀ i j d, i < c.len → (c.relem i)[j]? = some d → VR M (Ow (Fs w0 O0) M) w d (cur.getD (i * c.sz + j) undef) := by
 cases hv with
 | irow _ _ _ _ h1 g2 =>
  rcases h.row _ te c hr with ⟨hg, h0⟩ | ⟨g, cap, cur, hg, hh, hl, hmx, hcs, hcc⟩
  ·have := g2 _ hg
   simp only [RowV] at this
   exact .inl ⟨hg, h0, this.2.1, this.1⟩
  ·have := g2 _ hg
   simp only [RowV] at this
   obtain ⟨h1, ao, h2, h3⟩ := this
   have h4 := h3 (.inr trivial)
   rw [Nat.zero_mul] at h4
   subst h4
   exact .inr ⟨g, cap, cur, hg, h2, by omega, hh, hl, hmx, hcs, hcc⟩
end
section
variable {C : Cx} {ops : Array Oper} {K : PS → Prop} {o : Oper} {rest : List Oper} {s : PS} {TT : List (Nat × Ty)} {tm : List (Nat × D)} {rw' : List (Nat × Option (TypeId × Sq))} {bx : List (Nat × Option (List D))} {cr B : List Nat} {j : Nat}
structure PurF (C : Cx) (o : Oper) (s : PS) (d : D) : Prop where
 out : ∀ s1, (∀ x ∈ o.op.operands, s1.ev x = s.ev x) → (∀ r, notF r = false → s1.r r = s.r r) → ∀ M a w, Rel C.w0 C.O0 C.n M s1 a w → ∃ v, (execOp a.eval o).run C.P w = .ok (.value v) w ∧ VR M (Ow (Fs C.w0 C.O0) M) w d v
theorem PurF.step {d : D} (h : PurF C o s d) (ho : dstOk C.n o.dst = true) {s1 : PS} (hs : ∀ x ∈ o.op.operands, s1.ev x = s.ev x) (hfk : ∀ r, notF r = false → s1.r r = s.r r) : Step C o s1 (fun s' => s' = s1.put o.dst d) := sRun (fun M a w hr => h.out s1 hs hfk M a w hr) ho rfl
theorem oPureF (hw : Wanted C ops o ⟨tm, rw', bx⟩) {d : D} (hp : PurF C o ⟨tm, rw', bx⟩ d) {t : Nat} (hd : o.dst = some t) (hn : Nat.blt t C.n = true) (h : VO C ops K rest ⟨(t, d) :: tm, rw', bx⟩) : VO C ops K (o :: rest) ⟨tm, rw', bx⟩ := by
 refine oStepW hw (Step.weak (hp.step (by rw [hd]; exact hn) (fun _ _ => rfl) (fun _ _ => rfl)) fun s' hs' => ?_)
 rw [hs', hd]; exact h
theorem nPureF (hw : Wanted C ops o ⟨tm, rw', bx⟩) {d : D} (hp : PurF C o ⟨tm, rw', bx⟩ d) {t : Nat} (hd : o.dst = some t) (hn : Nat.blt t C.n = true) (hc : chkE ops cr B j ⟨d, [], []⟩ = true) (h : QN C ops cr B K (j + 1) rest ⟨(t, d) :: tm, rw', bx⟩) : QN C ops cr B K j (o :: rest) ⟨tm, rw', bx⟩ :=
 nStep (e := ⟨d, [], []⟩) hw hc (fun s1 hag => Step.weak (hp.step (by rw [hd]; exact hn) (fun x hx => hag.ev x hx) hag.fk) fun s' hs' => by rw [hs', hd]; rfl) (by rw [hd]; exact h)
theorem fk_notF {F : Nat} : notF (FK + F) = false := by
 cases hn : notF (FK + F) with
 | false => rfl
 | true => have := notF_lt hn; omega
theorem pIdxI (hT : TTOK C.P TT) {x y : Operand} {t e te : TypeId} {kk q : Sq} {by' F k m : Nat} {i : Int} (hop : o.op = .indexAddr t x y) (hy : look TT t = some (.sl e kk by')) (hx : s.ev x = .irow F k m) (hyy : s.ev y = .int i) (hf : s.r (FK + F) = some (te, dF q)) (hq : q.deep = true) (hk : k < q.len) (hz : Nat.beq kk.sz (q.nn k).sz = true) (hi : 0 ≤ i ∧ i < (m : Int)) (hF : Nat.blt F 4294967296 = true := by rfl) : PurF C o s (.iptr F k i 0) :=
 ⟨fun s1 hs hfk M a w hr => by
  rw [Nat.blt_eq] at hF
  have hev := hr.ev x
  rw [hs x (by rw [hop]; simp [Op.operands]), hx] at hev
  have hev2 := hr.ev y
  rw [hs y (by rw [hop]; simp [Op.operands]), hyy] at hev2
  have hinn := deep_r hF hq (s := s1) (by rw [hfk _ fk_notF]; exact hf) k
  rw [if_pos hk] at hinn
  have hz' := Nat.eq_of_beq_eq_true hz
  have hty := hT t _ hy
  rcases irow_form hr hinn hev with ⟨_, _, rfl, ao, hv⟩ | ⟨g, cap, cur, hg, hv, _⟩
  ·omega
  ·refine ⟨.pointer (some ⟨g, 0 + i.toNat * kk.sz, none⟩), ?_, .iptr _ _ _ _ _ fun g' c' z' hg' => ?_⟩
   ·have hrun : (Instr.indexAt t (a.eval x) (a.eval y)).run C.P w = .ok (.pointer (some ⟨g, 0 + i.toNat * kk.sz, none⟩)) w := by
     rw [hv, hev2.int_inv]
     simp [Instr.indexAt, asIntOf, ty_sl hty, ty_size hty, go_sem, hi.1, hi.2, add_lit]
    unfold execOp
    rw [hop]
    show ((do pure (Next.value (← Instr.indexAt t (a.eval x) (a.eval y))) : Sem Next)).run C.P w = _
    rw [Sem.run_bind, hrun]; rfl
   ·rw [hg] at hg'; cases hg'
    simp [hz']⟩
theorem pLoadI (hT : TTOK C.P TT) {x : Operand} {t te : TypeId} {q : Sq} {z : Value} {F k off : Nat} {i : Int} {d : D} (hop : o.op = .load t x) (hy : look TT t = some (.sc z)) (hx : s.ev x = .iptr F k i off) (hf : s.r (FK + F) = some (te, dF q)) (hq : q.deep = true) (hk : k < q.len) (hi : 0 ≤ i ∧ i < ((q.nn k).len : Int)) (hd : ((q.nn k).elem true i.toNat)[off]? = some d) (hF : Nat.blt F 4294967296 = true := by rfl) : PurF C o s d :=
 ⟨fun s1 hs hfk M a w hr => by
  rw [Nat.blt_eq] at hF
  have hev := hr.ev x
  rw [hs x (by rw [hop]; simp [Op.operands]), hx] at hev
  have hinn := deep_r hF hq (s := s1) (by rw [hfk _ fk_notF]; exact hf) k
  rw [if_pos hk] at hinn
  have hflat : (q.nn k).isRefs = false := nn_refs q k
  rcases hr.row _ _ _ hinn with ⟨hg, h0⟩ | ⟨g, cap, cur, hg, hh, hl, hm, hcs, hc⟩
  ·omega
  ·generalize hgv : a.eval x = v at hev
   cases hev with
   | iptr _ _ _ _ _ hv =>
    have hv' := hv g cap _ hg
    have hi' : i.toNat < (q.nn k).len := by omega
    have hoff : off < (q.nn k).sz := by rw [← Sq.elem_len true (q.nn k) i.toNat]; exact (List.getElem?_eq_some_iff.1 hd).1
    have hlt : i.toNat * (q.nn k).sz + off < cur.size := by
     rw [hcs]
     have h4 : (i.toNat + 1) * (q.nn k).sz ≤ cap * (q.nn k).sz := Nat.mul_le_mul_right _ (by omega)
     rw [Nat.add_mul, Nat.one_mul] at h4; omega
    have hcell : w.cell? ⟨g, i.toNat * (q.nn k).sz + off, none⟩ = some (cur.getD (i.toNat * (q.nn k).sz + off) undef) := by
     rw [cell_of_row w g _ cur te (0, 0) hh]; simp [hlt]
    refine ⟨_, ?_, hc i.toNat off d hi' (by rw [Sq.relem_eq hflat]; exact hd)⟩
    obtain ⟨⟨dd, hu, hn1, hn2⟩, _⟩ := hT t _ hy
    have hag : (isAgg t).run C.P w = .ok false w := by
     cases dd <;> simp [isAgg, Go.run_underlying hu, go_sem]
     all_goals first | exact hn1 _ rfl | exact hn2 _ _ rfl
    have hrun : (Instr.loadAt t (a.eval x)).run C.P w = .ok (cur.getD (i.toNat * (q.nn k).sz + off) undef) w := by
     rw [hgv, hv']
     simp [Instr.loadAt, Instr.sureAddr, loadVar, hag, go_sem, hcell]
    unfold execOp
    rw [hop]
    show ((do pure (Next.value (← Instr.loadAt t (a.eval x))) : Sem Next)).run C.P w = _
    rw [Sem.run_bind, hrun]; rfl⟩
end
end Go.Proofs.Ytcljhpldfanhkaa
namespace Go.Proofs.Ytcljhpldfanhkaa
open Go.RowKit Go.Deep
structure SetIn (F : Nat) (q q' : Sq) (k : Nat) (c' : Sq) : Prop where
 get : ∀ j, (famOf q').get j = if j = k then some c' else (famOf q).get j
 dR : dR F q = dR F q'
section
variable {C : Cx} {ops : Array Oper} {K : PS → Prop} {o : Oper} {rest : List Oper} {s : PS} {TT : List (Nat × Ty)} {tm : List (Nat × D)} {rw' : List (Nat × Option (TypeId × Sq))} {bx : List (Nat × Option (List D))}
theorem Rel.outer {w0 : World} {O0 : Hd} {n : Nat} {M : Mp} {a : Act} {w : World} {R F : Nat} {et : TypeId} {qo qo' : Sq} {z : Option (TypeId × Sq)} (hF : F < 4294967296) (hFR : notF R = true) (hR : PS.r ⟨tm, rw', bx⟩ R = some (et, qo)) (he : qo = qo') (h : Rel w0 O0 n M ⟨tm, (FK + F, z) :: rw', bx⟩ a w) :
  Rel w0 O0 n M ⟨tm, (R, some (et, qo')) :: (FK + F, z) :: rw', bx⟩ a w := by
 subst he
 have hne : FK + F ≠ R := fk_ne hF hFR
 have hrr : ∀ x, PS.r ⟨tm, (R, some (et, qo)) :: (FK + F, z) :: rw', bx⟩ x = PS.r ⟨tm, (FK + F, z) :: rw', bx⟩ x := fun x => by
  rw [PS.r_app (s := ⟨tm, rw', bx⟩) (s' := ⟨tm, (R, some (et, qo)) :: (FK + F, z) :: rw', bx⟩) (l := [(R, some (et, qo)), (FK + F, z)]) rfl, PS.r_app (s := ⟨tm, rw', bx⟩) (s' := ⟨tm, (FK + F, z) :: rw', bx⟩) (l := [(FK + F, z)]) rfl, look_two', look_two', look_one', look_one']
  cases hbx : Nat.ble BIG x with
  | true =>
   have h1 : R ≠ FK + unF x := fun e => by have := notF_fk x; rw [← e, hFR] at this; cases this
   simp [h1]
  | false =>
   by_cases hx : R = x
   ·subst hx; simp [hR, hne]
   ·simp [hx]
 exact ⟨h.fr, h.dfr, h.sz, h.tmp, h.box, h.boxn, fun x e p hx => h.row x e p (by rw [← hrr]; exact hx), fun x hx => h.rown x (by rw [← hrr]; exact hx), h.low, h.inj1, h.inj2, h.inj3, h.nle, h.fxb, h.fxr⟩
theorem oStoreI (R : Nat) (q' : Sq) (hT : TTOK C.P TT) (hg : o.guard = none) {t te et : TypeId} {p x : Operand} {z : Value} {q c' : Sq} {F k off : Nat} {i : Int} {d : D} (hop : o.op = .store t p x) (hd : o.dst = none) (hy : look TT t = some (.sc z)) (hp : (PS.ev ⟨tm, rw', bx⟩ p) = .iptr F k i off) (hx : (PS.ev ⟨tm, rw', bx⟩ x) = d) (hone : d.one = true)
  (hf : PS.r ⟨tm, rw', bx⟩ (FK + F) = some (te, dF q)) (hR : PS.r ⟨tm, rw', bx⟩ R = some (et, dR F q)) (hq : q.deep = true) (hk : k < q.len) (hi : 0 ≤ i ∧ i < ((q.nn k).len : Int)) (hset : (q.nn k).set i.toNat off d = some c') (hin : SetIn F q q' k c')
  (h : VO C ops K rest ⟨tm, (R, some (et, dR F q')) :: (FK + F, some (te, dF q')) :: rw', bx⟩) (hF : Nat.blt F 4294967296 = true := by rfl) (hFR : notF R = true := by rfl) : VO C ops K (o :: rest) ⟨tm, rw', bx⟩ := by
 refine vOp hg ⟨fun M a w Q K' hr hkk => ?_⟩
 rw [Nat.blt_eq] at hF
 have hevp := hr.ev p
 rw [hp] at hevp
 have hevx := hr.ev x
 rw [hx] at hevx
 have hinn := deep_r hF hq (s := ⟨tm, rw', bx⟩) hf k
 rw [if_pos hk] at hinn
 have h1c := hevx.one hone
 have hflat : (q.nn k).isRefs = false := nn_refs q k
 obtain ⟨q1, q2, q3, q4, q5⟩ := Sq.set_ok hset
 have hi' : i.toNat < (q.nn k).len := by omega
 have hf' := hf
 rw [dF_fam] at hf'
 rcases hr.row _ _ _ hinn with ⟨hg', h0⟩ | ⟨g, cap, cur, hg', hh, hl, hm, hcs, hc⟩
 ·omega
 have hpv : a.eval p = .pointer (some ⟨g, i.toNat * (q.nn k).sz + off, none⟩) := by
  generalize a.eval p = v at hevp
  cases hevp with | iptr _ _ _ _ _ hv => exact hv g cap _ hg'
 have hpos : i.toNat * (q.nn k).sz + off < cur.size := by
  rw [hcs]
  have h4 : (i.toNat + 1) * (q.nn k).sz ≤ cap * (q.nn k).sz := Nat.mul_le_mul_right _ (by omega)
  rw [Nat.add_mul, Nat.one_mul] at h4; omega
 have hrunS : (store ⟨g, i.toNat * (q.nn k).sz + off, none⟩ (a.eval x)).run C.P w = .ok () (w.setCell ⟨g, i.toNat * (q.nn k).sz + off, none⟩ (a.eval x)) := by
  rw [run_store C.P w _ (a.eval x) _ h1c, cell_of_row w g _ cur te (0, 0) hh]
  simp [hpos, World.frozen?, hh]
 have hrun : (execOp a.eval o).run C.P w = .ok .skip (w.setCell ⟨g, i.toNat * (q.nn k).sz + off, none⟩ (a.eval x)) := by
  obtain ⟨⟨dd, hu, hn1, hn2⟩, hz1, _⟩ := hT t _ hy
  simp only [execOp, hop, Instr.storeAt, Instr.sureAddr, storeVar, hpv, Sem.run_bind, ty_sizeOf (hT t _ hy), Result.andThen_ok]
  have hcz : (a.eval x).cells = #[a.eval x] := cells_one h1c
  rw [hcz]
  generalize a.eval x = vx at hrunS ⊢
  simp [go_sem, storeCells, add_lit, hrunS, tySize]
 have hoth : ∀ y, y ≠ g → (w.setCell ⟨g, i.toNat * (q.nn k).sz + off, none⟩ (a.eval x)).heap[y]? = w.heap[y]? := fun y hy => Below.heap_setCell _ _ _ _ hy
 have hself := heap_setCell_at w g (i.toNat * (q.nn k).sz + off) cur te (a.eval x) hh
 have hA : ∀ f b, b < w.heap.size → Ow (Fs C.w0 C.O0) M f b → Ow (Fs C.w0 C.O0) M f b ∧ b < (w.setCell ⟨g, i.toNat * (q.nn k).sz + off, none⟩ (a.eval x)).heap.size ∧ (w.setCell ⟨g, i.toNat * (q.nn k).sz + off, none⟩ (a.eval x)).heap[b]? = w.heap[b]? := fun f b h2 h3 =>
  ⟨h3, by simpa [World.setCell] using h2, hoth b (fun e => h3.1 (by subst e; exact .inr ⟨_, _, _, hg'⟩))⟩
 have mono : ∀ d v, VR M (Ow (Fs C.w0 C.O0) M) w d v → VR M (Ow (Fs C.w0 C.O0) M) (w.setCell ⟨g, i.toNat * (q.nn k).sz + off, none⟩ (a.eval x)) d v := fun d v hv => hv.mono hA (fun _ _ h => h) (fun _ _ h => h)
 obtain ⟨r1, _⟩ := hr.inPlace (w' := w.setCell ⟨g, i.toNat * (q.nn k).sz + off, none⟩ (a.eval x)) (g := g) (cap := cap) (c' := c') (fq' := famOf q') (cur' := cur.setIfInBounds (i.toNat * (q.nn k).sz + off) (a.eval x)) hF hf' (by rw [famOf_get hq, if_pos hk]) hin.get rfl rfl rfl (by simp [World.setCell])
  (.inr ⟨by rw [q2]; exact hg', fun y _ hy => hoth y hy, hself, by omega, hm, by simp [hcs, q2], fun i' j' d' hi1 hd' => by
   rw [q2]
   by_cases hii : i' = i.toNat
   ·subst hii
    rw [q5 hi', List.getElem?_set] at hd'
    by_cases hjj : off = j'
    ·subst hjj
     rw [if_pos rfl, Sq.relem_len, if_pos q3] at hd'
     cases hd'
     simpa [hpos] using mono _ _ hevx
    ·rw [if_neg hjj] at hd'
     have := hc i.toNat j' d' hi' hd'
     have hne : i.toNat * (q.nn k).sz + off ≠ i.toNat * (q.nn k).sz + j' := by omega
     simpa [Array.getElem?_setIfInBounds_ne hne] using mono _ _ this
   ·rw [q4 i' hii] at hd'
    have hj' : j' < (q.nn k).sz := by rw [← Sq.relem_len (q.nn k) i']; exact (List.getElem?_eq_some_iff.1 hd').1
    have := hc i' j' d' (by omega) hd'
    have hne : i.toNat * (q.nn k).sz + off ≠ i' * (q.nn k).sz + j' := by
     intro he
     rcases Nat.lt_or_gt_of_ne hii with h5 | h5
     ·have : (i' + 1) * (q.nn k).sz ≤ i.toNat * (q.nn k).sz := Nat.mul_le_mul_right _ h5
      rw [Nat.add_mul, Nat.one_mul] at this; omega
     ·have : (i.toNat + 1) * (q.nn k).sz ≤ i' * (q.nn k).sz := Nat.mul_le_mul_right _ h5
      rw [Nat.add_mul, Nat.one_mul] at this; omega
    simpa [Array.getElem?_setIfInBounds_ne hne] using mono _ _ this⟩)
 unfold Oper.wp
 rw [hrun]
 have : (a.put o.dst undef) = a := by rw [hd]; rfl
 show K' (a.put o.dst undef) _
 rw [this]
 refine hkk M _ _ _ h ?_
 rw [dF_fam]
 exact Rel.outer hF hFR hR hin.dR r1
end
end Go.Proofs.Ytcljhpldfanhkaa
