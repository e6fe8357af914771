/- Texts that the proof needs, put together: G54 Qk G86. -/
import Derived.Test.YtgindcgphnbnaaaBP3
import Derived.Test.YtgindcgphnbnaaaBP4
import Derived.Test.YtgindcgphnbnaaaBP5
import Derived.Test.YtgindcgphnbnaaaBP6
set_option linter.unusedVariables false
set_option linter.unusedSimpArgs false
namespace Go.Proofs.Ytgindcgphnbnaaa
open Go.RowKit Go.Deep
def S_FindRaising_l2 (N : Nat) (p_0 : Pin) (v1 : List Int) (l147 : List (Int × List Int)) (l148 : List Int) (k : ((List (Int × List Int)) × (List Int)) → Option ((List (Int × List Int)) × Bool)) : Nat → Int → Option ((List (Int × List Int)) × Bool)
 | 0, _ => none
 | n + 1, i179 =>
  cnd (decide (i179 < (v1.length : Int))) (
   grd (0 ≤ i179 ∧ i179 < (v1.length : Int)) <|
   (S_l26Bars N p_0 l148 (v1.getD ((i179).toNat) 0)).bind fun v182 =>
   (S_l2Has N l148 (v1.getD ((i179).toNat) 0)).bind fun v183 =>
   cnd (!v183) (
    cnd (decide ((v182.length : Int) ≥ (2 : Int))) (
     grd (l147.length + 1 ≤ 4294967296) <|
     grd (l148.length + 1 ≤ 4294967296) <|
     k ((l147 ++ ([((v1.getD ((i179).toNat) 0), v182)] : List (Int × List Int))), (l148 ++ ([(v1.getD ((i179).toNat) 0)] : List Int)))) (
     grd (Rg64 (i179 + (1 : Int))) <|
     S_FindRaising_l2 N p_0 v1 l147 l148 k n (i179 + (1 : Int)))) (
    grd (Rg64 (i179 + (1 : Int))) <|
    S_FindRaising_l2 N p_0 v1 l147 l148 k n (i179 + (1 : Int)))) (
   k (l147, l148))
def S_FindRaising_l1 (N : Nat) (p_0 : Pin) (v1 : List Int) (k : ((List (Int × List Int)) × (List Int)) → Option ((List (Int × List Int)) × Bool)) : Nat → ((List (Int × List Int)) × (List Int) × Int) → Option ((List (Int × List Int)) × Bool)
 | 0, _ => none
 | n + 1, (l147, l148, n149) =>
  cnd (decide (n149 < (v1.length : Int))) (
   S_FindRaising_l2 N p_0 v1 l147 l148 (fun (x : (List (Int × List Int)) × (List Int)) =>
     match x with
     | (l174, l175) =>
      grd (Rg64 (n149 + (1 : Int))) <|
      S_FindRaising_l1 N p_0 v1 k n (l174, l175, (n149 + (1 : Int)))) N (0 : Int)) (
   k (l147, l148))
def S_FindRaising (N : Nat) (p_0 : Pin) : Option ((List (Int × List Int)) × Bool) :=
 (S_InnerPoints N p_0).bind fun v1 =>
 S_FindRaising_l1 N p_0 v1 (fun (x : (List (Int × List Int)) × (List Int)) =>
   match x with
   | (l91, l92) =>
    (S_IsPinned N p_0).bind fun v93 =>
    cnd (!v93) (
     some (([] : List (Int × List Int)), false)) (
     cnd (decide ((l92.length : Int) < (v1.length : Int))) (
      some (([] : List (Int × List Int)), false)) (
      some (l91, true)))) N (([] : List (Int × List Int)), ([] : List Int), (0 : Int))
set_option maxRecDepth 20000 in
set_option maxHeartbeats 1600000 in
theorem S_FindRaising_w (N : Nat) (p_0 : Pin) (r : (List (Int × List Int)) × Bool) (h : S_FindRaising N p_0 = some r) : PCall Try.prog 35 [pD p_0] [(93, .raises r.1)] (.tup [.row 0 0 r.1.length, .bool r.2]) := by
 unfold S_FindRaising at h
 refine pcall_intro (TT := TT) tt Try.func35 rfl rfl Try.ntmps35 (congrArg Array.toList Try.results35) rfl rfl fun w0 => ?_
 refine vSeq ?_
 refine vRegion ?_
 refine oBox rfl rfl rfl rfl rfl rfl rfl rfl rfl ?_
 iterate 2 refine oVal tt rfl rfl rfl rfl rfl trivial ?_
 refine vNil ?_
 change VC _ _ _ _
 refine vSeq ?_
 refine vRegion ?_
 refine oEmpty tt (wNone rfl) rfl rfl rfl rfl ?_
 refine oVal tt rfl rfl rfl rfl rfl trivial ?_
 refine vNil ?_
 change VC _ _ _ _
 refine vSeq ?_
 refine vRegion ?_
 refine oEmpty tt (wNone rfl) rfl rfl rfl rfl ?_
 refine oVal tt rfl rfl rfl rfl rfl trivial ?_
 refine vNil ?_
 change VC _ _ _ _
 refine vSeq ?_
 refine vRegion ?_
 refine oVal tt rfl rfl rfl rfl rfl trivial ?_
 obtain ⟨v1, hc1, h⟩ := bind_inv h
 refine oCall (S_InnerPoints_w N p_0 v1 hc1) rfl rfl rfl rfl rfl rfl rfl rfl ⟨⟨rfl, rfl, rfl, trivial⟩, trivial⟩ ?_
 refine oVal tt rfl rfl rfl rfl rfl trivial ?_
 refine vNil ?_
 change VC _ _ _ _
 iterate 2 refine vSeq ?_
 refine vRegion ?_
 refine oVal tt rfl rfl rfl rfl rfl trivial ?_
 refine vNil ?_
 change VC _ _ _ _
 refine vJoin (F := fun k => S_FindRaising_l1 N p_0 v1 k) h (α := (List (Int × List Int)) × (List Int)) (J := fun | (l91, l92) => (⟨[(1, .ptr 1 0), (4, .row 53 0 l91.length), (5, .row 60 0 l92.length), (6, .row 1130 0 v1.length)], [(53, some (93, .raises l91)), (60, some (3, .ints l92)), (1130, some (3, .ints v1))], [(1, some [.int p_0.g.n, .ro false (.pairs p_0.g.bars), .ro false (.ints p_0.ground)])]⟩ : PS)) ?_ ?_
 ·rintro ⟨l91, l92⟩ h
  show VC _ _ _ (⟨[(1, .ptr 1 0), (4, .row 53 0 l91.length), (5, .row 60 0 l92.length), (6, .row 1130 0 v1.length)], [(53, some (93, .raises l91)), (60, some (3, .ints l92)), (1130, some (3, .ints v1))], [(1, some [.int p_0.g.n, .ro false (.pairs p_0.g.bars), .ro false (.ints p_0.ground)])]⟩ : PS)
  iterate 2 refine vSeq ?_
  refine vRegion ?_
  refine oVal tt rfl rfl rfl rfl rfl trivial ?_
  obtain ⟨v93, hc2, h⟩ := bind_inv h
  refine oCall (S_IsPinned_w N p_0 v93 hc2) rfl rfl rfl rfl rfl rfl rfl rfl ⟨⟨rfl, rfl, rfl, trivial⟩, trivial⟩ ?_
  iterate 2 refine oVal tt rfl rfl rfl rfl rfl trivial ?_
  refine oSplit rfl rfl rfl (fun hb3 => ?_) (fun hb3 => ?_)
  ·replace h := cnd_t hb3 h
   iterate 5 refine oNoF rfl rfl rfl rfl hb3 rfl rfl ?_
   refine oPick rfl rfl rfl rfl rfl hb3 rfl ?_
   refine vNil ?_
   change VC _ _ _ _
   refine vCondT rfl rfl ?_
   refine vSeq ?_
   refine vRegion ?_
   refine oEmpty tt (wNone rfl) rfl rfl rfl rfl ?_
   iterate 2 refine oVal tt rfl rfl rfl rfl rfl trivial ?_
   refine vNil ?_
   change VC _ _ _ _
   refine vNilT 2 9001 93 (.raises []) rfl rfl rfl rfl ?_
   refine vRet ?_
   change ∃ _, _
   cases h
   exact ⟨[9001], _, rfl, ⟨rfl, trivial⟩, rfl, (.eq rfl), rfl⟩
  ·replace h := cnd_f hb3 h
   iterate 5 refine oValG tt rfl rfl rfl rfl rfl hb3 rfl rfl rfl trivial ?_
   refine oPickF rfl rfl rfl rfl rfl hb3 rfl ?_
   refine vNil ?_
   change VC _ _ _ _
   refine vCond rfl (fun hb4 => ?_) (fun hb4 => ?_)
   ·replace h := cnd_t hb4 h
    refine vSeq ?_
    refine vRegion ?_
    refine oEmpty tt (wNone rfl) rfl rfl rfl rfl ?_
    iterate 2 refine oVal tt rfl rfl rfl rfl rfl trivial ?_
    refine vNil ?_
    change VC _ _ _ _
    refine vNilT 2 9001 93 (.raises []) rfl rfl rfl rfl ?_
    refine vRet ?_
    change ∃ _, _
    cases h
    exact ⟨[9001], _, rfl, ⟨rfl, trivial⟩, rfl, (.eq rfl), rfl⟩
   ·replace h := cnd_f hb4 h
    refine vSkip ?_
    change VC _ _ _ _
    refine vSeq ?_
    refine vRegion ?_
    iterate 3 refine oVal tt rfl rfl rfl rfl rfl trivial ?_
    refine vNil ?_
    change VC _ _ _ _
    refine vRet ?_
    change ∃ _, _
    cases h
    exact ⟨[53], _, rfl, ⟨rfl, trivial⟩, rfl, (.eq rfl), rfl⟩
 ·intro k h
  refine vBlock ?_
  refine vNilT 4 53 93 (.raises []) rfl rfl rfl rfl ?_
  refine vNilT 5 60 3 (.ints []) rfl rfl rfl rfl ?_
  refine vLoopS (α := (List (Int × List Int)) × (List Int) × Int) (fun | (l147, l148, n149) => (⟨[(1, .ptr 1 0), (4, .row 53 0 l147.length), (5, .row 60 0 l148.length), (6, .row 1130 0 v1.length), (7, .int n149)], [(53, some (93, .raises l147)), (60, some (3, .ints l148)), (1130, some (3, .ints v1))], [(1, some [.int p_0.g.n, .ro false (.pairs p_0.g.bars), .ro false (.ints p_0.ground)])]⟩ : PS)) (S_FindRaising_l1 N p_0 v1 k) h (En.of ⟨rfl, rfl, rfl, rfl, rfl, trivial⟩ ⟨rfl, rfl, rfl, trivial⟩ ⟨rfl, trivial⟩) (fun _ => rfl) ?_
  rintro n ⟨l147, l148, n149⟩ h
  rw [S_FindRaising_l1] at h
  show VC _ _ _ (⟨[(1, .ptr 1 0), (4, .row 53 0 l147.length), (5, .row 60 0 l148.length), (6, .row 1130 0 v1.length), (7, .int n149)], [(53, some (93, .raises l147)), (60, some (3, .ints l148)), (1130, some (3, .ints v1))], [(1, some [.int p_0.g.n, .ro false (.pairs p_0.g.bars), .ro false (.ints p_0.ground)])]⟩ : PS)
  iterate 2 refine vSeq ?_
  refine vRegion ?_
  iterate 4 refine oVal tt rfl rfl rfl rfl rfl trivial ?_
  refine vNil ?_
  change VC _ _ _ _
  refine vCond rfl (fun hb5 => ?_) (fun hb5 => ?_)
  ·replace h := cnd_t hb5 h
   refine vSkip ?_
   change VC _ _ _ _
   refine vSeq ?_
   refine vBlock ?_
   refine vSeq ?_
   refine vRegion ?_
   refine oVal tt rfl rfl rfl rfl rfl trivial ?_
   refine vNil ?_
   change VC _ _ _ _
   refine vJoin (F := fun k => S_FindRaising_l2 N p_0 v1 l147 l148 k) h (α := (List (Int × List Int)) × (List Int)) (J := fun | (l174, l175) => (⟨[(1, .ptr 1 0), (4, .row 53 0 l174.length), (5, .row 60 0 l175.length), (6, .row 1130 0 v1.length), (7, .int n149)], [(53, some (93, .raises l174)), (60, some (3, .ints l175)), (1130, some (3, .ints v1))], [(1, some [.int p_0.g.n, .ro false (.pairs p_0.g.bars), .ro false (.ints p_0.ground)])]⟩ : PS)) ?_ ?_
   ·rintro ⟨l174, l175⟩ h
    show VC _ _ _ (⟨[(1, .ptr 1 0), (4, .row 53 0 l174.length), (5, .row 60 0 l175.length), (6, .row 1130 0 v1.length), (7, .int n149)], [(53, some (93, .raises l174)), (60, some (3, .ints l175)), (1130, some (3, .ints v1))], [(1, some [.int p_0.g.n, .ro false (.pairs p_0.g.bars), .ro false (.ints p_0.ground)])]⟩ : PS)
    refine vRegion ?_
    refine oVal tt rfl rfl rfl rfl rfl trivial ?_
    obtain ⟨hg6, h⟩ := grd_inv h
    refine oVal tt rfl rfl rfl rfl rfl hg6 ?_
    refine oVal tt rfl rfl rfl rfl rfl trivial ?_
    refine vNil ?_
    change ∃ _, _
    exact ⟨(l174, l175, (n149 + (1 : Int))), (En.of ⟨rfl, rfl, rfl, rfl, rfl, trivial⟩ ⟨rfl, rfl, rfl, trivial⟩ ⟨rfl, trivial⟩), h⟩
   ·intro k h
    refine vBlock ?_
    refine vLoopS (α := Int) (fun (i179 : Int) => (⟨[(1, .ptr 1 0), (4, .row 53 0 l147.length), (5, .row 60 0 l148.length), (6, .row 1130 0 v1.length), (7, .int n149), (8, .int i179)], [(53, some (93, .raises l147)), (60, some (3, .ints l148)), (1130, some (3, .ints v1))], [(1, some [.int p_0.g.n, .ro false (.pairs p_0.g.bars), .ro false (.ints p_0.ground)])]⟩ : PS)) (S_FindRaising_l2 N p_0 v1 l147 l148 k) h (En.of ⟨rfl, rfl, rfl, rfl, rfl, rfl, trivial⟩ ⟨rfl, rfl, rfl, trivial⟩ ⟨rfl, trivial⟩) (fun _ => rfl) ?_
    rintro n i179 h
    rw [S_FindRaising_l2] at h
    show VC _ _ _ (⟨[(1, .ptr 1 0), (4, .row 53 0 l147.length), (5, .row 60 0 l148.length), (6, .row 1130 0 v1.length), (7, .int n149), (8, .int i179)], [(53, some (93, .raises l147)), (60, some (3, .ints l148)), (1130, some (3, .ints v1))], [(1, some [.int p_0.g.n, .ro false (.pairs p_0.g.bars), .ro false (.ints p_0.ground)])]⟩ : PS)
    iterate 2 refine vSeq ?_
    refine vRegion ?_
    iterate 4 refine oVal tt rfl rfl rfl rfl rfl trivial ?_
    refine vNil ?_
    change VC _ _ _ _
    refine vCond rfl (fun hb7 => ?_) (fun hb7 => ?_)
    ·replace h := cnd_t hb7 h
     refine vSkip ?_
     change VC _ _ _ _
     refine vSeq ?_
     refine vBlock ?_
     refine vSeq ?_
     refine vRegionN 6 [] [0, 0, 0, 0, 12, 28, 63, 127] (by kernel_rfl) (by kernel_rfl) (by kernel_rfl) (by kernel_rfl) (by kernel_rfl) rfl (by rfl) ?_
     iterate 4 refine nVal tt rfl (wNone rfl) rfl rfl rfl rfl rfl trivial ?_
     obtain ⟨hg8, h⟩ := grd_inv h
     iterate 2 refine nVal tt rfl (wNone rfl) rfl rfl rfl rfl rfl hg8 ?_
     refine nNil ?_
     change VO _ _ _ _ _
     obtain ⟨v182, hc9, h⟩ := bind_inv h
     refine oCall (S_l26Bars_w N p_0 l148 (v1.getD ((i179).toNat) 0) v182 hc9) rfl rfl rfl rfl rfl rfl rfl rfl ⟨⟨rfl, rfl, rfl, trivial⟩, (.inl ⟨rfl, rfl⟩), rfl, trivial⟩ ?_
     refine oVal tt rfl rfl rfl rfl rfl trivial ?_
     refine vNil ?_
     change VC _ _ _ _
     refine vSeq ?_
     refine vRegion ?_
     iterate 3 refine oVal tt rfl rfl rfl rfl rfl trivial ?_
     iterate 2 refine oVal tt rfl rfl rfl rfl rfl hg8 ?_
     obtain ⟨v183, hc10, h⟩ := bind_inv h
     refine oCall (S_l2Has_w N l148 (v1.getD ((i179).toNat) 0) v183 hc10) rfl rfl rfl rfl rfl rfl rfl rfl ⟨(.inl ⟨rfl, rfl⟩), rfl, trivial⟩ ?_
     iterate 2 refine oVal tt rfl rfl rfl rfl rfl trivial ?_
     refine oSplit rfl rfl rfl (fun hb11 => ?_) (fun hb11 => ?_)
     ·replace h := cnd_t hb11 h
      iterate 3 refine oValG tt rfl rfl rfl rfl rfl hb11 rfl rfl rfl trivial ?_
      refine oPick rfl rfl rfl rfl rfl hb11 rfl ?_
      refine vNil ?_
      change VC _ _ _ _
      refine vCond rfl (fun hb12 => ?_) (fun hb12 => ?_)
      ·replace h := cnd_t hb12 h
       refine vSeq ?_
       refine vRegion ?_
       iterate 3 refine oVal tt rfl rfl rfl rfl rfl trivial ?_
       iterate 2 refine oVal tt rfl rfl rfl rfl rfl hg8 ?_
       refine oVal tt rfl rfl rfl rfl rfl trivial ?_
       refine oPure (wNone rfl) (pBuild bld_impl_Raise rfl rfl) rfl rfl ?_
       refine oFreezeA 51 1 rfl rfl rfl rfl rfl ?_
       refine oBuild tt rfl rfl rfl rfl rfl rfl rfl rfl rfl rfl rfl ?_
       obtain ⟨hg13, h⟩ := grd_inv h
       refine oAppend tt rfl rfl rfl rfl rfl rfl rfl rfl rfl rfl rfl rfl rfl rfl rfl rfl (Nat.le_of_eq (Nat.zero_add _)) hg13 ?_
       refine oVal tt rfl rfl rfl rfl rfl trivial ?_
       refine vNil ?_
       change VC _ _ _ _
       refine vSeq ?_
       refine vRegion ?_
       iterate 3 refine oVal tt rfl rfl rfl rfl rfl trivial ?_
       iterate 2 refine oVal tt rfl rfl rfl rfl rfl hg8 ?_
       refine oBuild tt rfl rfl rfl rfl rfl rfl rfl rfl rfl rfl rfl ?_
       obtain ⟨hg14, h⟩ := grd_inv h
       refine oAppend tt rfl rfl rfl rfl rfl rfl rfl rfl rfl rfl rfl rfl rfl rfl rfl rfl (Nat.le_of_eq (Nat.zero_add _)) hg14 ?_
       refine oVal tt rfl rfl rfl rfl rfl trivial ?_
       refine vNil ?_
       change VC _ _ _ _
       refine vExit ?_
       change ∃ _, _
       exact ⟨((l147 ++ ([((v1.getD ((i179).toNat) 0), v182)] : List (Int × List Int))), (l148 ++ ([(v1.getD ((i179).toNat) 0)] : List Int))), (En.of ⟨rfl, rfl, rfl, rfl, rfl, trivial⟩ ⟨rfl, rfl, rfl, trivial⟩ ⟨rfl, trivial⟩), h⟩
      ·replace h := cnd_f hb12 h
       refine vSkip ?_
       change VC _ _ _ _
       refine vRegion ?_
       refine oVal tt rfl rfl rfl rfl rfl trivial ?_
       obtain ⟨hg15, h⟩ := grd_inv h
       refine oVal tt rfl rfl rfl rfl rfl hg15 ?_
       refine oVal tt rfl rfl rfl rfl rfl trivial ?_
       refine vNil ?_
       change ∃ _, _
       exact ⟨(i179 + (1 : Int)), (En.of ⟨rfl, rfl, rfl, rfl, rfl, rfl, trivial⟩ ⟨rfl, rfl, rfl, trivial⟩ ⟨rfl, trivial⟩), h⟩
     ·replace h := cnd_f hb11 h
      iterate 3 refine oNoT rfl rfl rfl rfl hb11 rfl rfl ?_
      refine oPickF rfl rfl rfl rfl rfl hb11 rfl ?_
      refine vNil ?_
      change VC _ _ _ _
      refine vCondF rfl rfl ?_
      refine vSkip ?_
      change VC _ _ _ _
      refine vRegion ?_
      refine oVal tt rfl rfl rfl rfl rfl trivial ?_
      obtain ⟨hg16, h⟩ := grd_inv h
      refine oVal tt rfl rfl rfl rfl rfl hg16 ?_
      refine oVal tt rfl rfl rfl rfl rfl trivial ?_
      refine vNil ?_
      change ∃ _, _
      exact ⟨(i179 + (1 : Int)), (En.of ⟨rfl, rfl, rfl, rfl, rfl, rfl, trivial⟩ ⟨rfl, rfl, rfl, trivial⟩ ⟨rfl, trivial⟩), h⟩
    ·replace h := cnd_f hb7 h
     refine vExit ?_
     change ∃ _, _
     exact ⟨(l147, l148), (En.of ⟨rfl, rfl, rfl, rfl, rfl, trivial⟩ ⟨rfl, rfl, rfl, trivial⟩ ⟨rfl, trivial⟩), h⟩
  ·replace h := cnd_f hb5 h
   refine vExit ?_
   change ∃ _, _
   exact ⟨(l147, l148), (En.of ⟨rfl, rfl, rfl, rfl, trivial⟩ ⟨rfl, rfl, rfl, trivial⟩ ⟨rfl, trivial⟩), h⟩
def I_FindRaising_l2 (N : Nat) (p_0 : Pin) (v2 : List Int) (l148 : List Int) (i149 : Int) (k : (List Int) → Option ((List (Int × List Int)) × Bool)) : Nat → ((List Int) × Int) → Option ((List (Int × List Int)) × Bool)
 | 0, _ => none
 | n + 1, (l180, x181) =>
  cnd (decide (x181 < (p_0.g.bars.length : Int))) (
   (M_Pinned_holds N p_0 l148 (v2.getD ((i149).toNat) 0) x181).bind fun v183 =>
   cnd v183 (
    grd (l180.length + 1 ≤ 4294967296) <|
    grd (Rg64 (x181 + (1 : Int))) <|
    I_FindRaising_l2 N p_0 v2 l148 i149 k n ((l180 ++ ([x181] : List Int)), (x181 + (1 : Int)))) (
    grd (Rg64 (x181 + (1 : Int))) <|
    I_FindRaising_l2 N p_0 v2 l148 i149 k n (l180, (x181 + (1 : Int))))) (
   k l180)
def I_FindRaising_l1 (N : Nat) (p_0 : Pin) (v2 : List Int) (k : ((List (Int × List Int)) × (List Int)) → Option ((List (Int × List Int)) × Bool)) : Nat → ((List (Int × List Int)) × (List Int) × Int) → Option ((List (Int × List Int)) × Bool)
 | 0, _ => none
 | n + 1, (l147, l148, i149) =>
  cnd (decide (i149 < (v2.length : Int))) (
   grd (0 ≤ i149 ∧ i149 < (v2.length : Int)) <|
   I_FindRaising_l2 N p_0 v2 l148 i149 (fun (l174 : List Int) =>
      (I_IsRaise N p_0 l148 (⟨(v2.getD ((i149).toNat) 0), l174⟩ : Rse)).bind fun v175 =>
      cnd v175 (
       grd (l147.length + 1 ≤ 4294967296) <|
       grd (l148.length + 1 ≤ 4294967296) <|
       grd (Rg64 ((-1 : Int) + (1 : Int))) <|
       I_FindRaising_l1 N p_0 v2 k n ((l147 ++ [((v2.getD ((i149).toNat) 0), l174)]), (l148 ++ ([(v2.getD ((i149).toNat) 0)] : List Int)), ((-1 : Int) + (1 : Int)))) (
       grd (Rg64 (i149 + (1 : Int))) <|
       I_FindRaising_l1 N p_0 v2 k n (l147, l148, (i149 + (1 : Int))))) N (([] : List Int), (0 : Int))) (
   k (l147, l148))
def I_FindRaising (N : Nat) (p_0 : Pin) : Option ((List (Int × List Int)) × Bool) :=
 (I_IsPinned N p_0).bind fun v1 =>
 cnd (!v1) (
  some (([] : List (Int × List Int)), false)) (
  (I_InnerPoints N p_0).bind fun v2 =>
  I_FindRaising_l1 N p_0 v2 (fun (x : (List (Int × List Int)) × (List Int)) =>
    match x with
    | (l92, l93) =>
     cnd ((l93.length : Int) != (v2.length : Int)) (
      some (([] : List (Int × List Int)), false)) (
      some (l92, true))) N (([] : List (Int × List Int)), ([] : List Int), (0 : Int)))
set_option maxRecDepth 20000 in
set_option maxHeartbeats 1600000 in
theorem I_FindRaising_w (N : Nat) (p_0 : Pin) (r : (List (Int × List Int)) × Bool) (h : I_FindRaising N p_0 = some r) : PCallD Try.prog 36 [pD p_0] 93 3 (.raises r.1) (.tup [.row 0 0 r.1.length, .bool r.2]) := by
 unfold I_FindRaising at h
 refine pcallD_intro (TT := TT) tt Try.func36 rfl rfl Try.ntmps36 (congrArg Array.toList Try.results36) rfl rfl rfl fun w0 => ?_
 refine vSeq ?_
 refine vRegion ?_
 refine oBox rfl rfl rfl rfl rfl rfl rfl rfl rfl ?_
 iterate 2 refine oVal tt rfl rfl rfl rfl rfl trivial ?_
 refine vNil ?_
 change VC _ _ _ _
 refine vSeq ?_
 refine vRegion ?_
 refine oEmpty tt (wNone rfl) rfl rfl rfl rfl ?_
 refine oVal tt rfl rfl rfl rfl rfl trivial ?_
 refine vNil ?_
 change VC _ _ _ _
 iterate 2 refine vSeq ?_
 refine vRegion ?_
 refine oVal tt rfl rfl rfl rfl rfl trivial ?_
 obtain ⟨v1, hc1, h⟩ := bind_inv h
 refine oCall (I_IsPinned_w N p_0 v1 hc1) rfl rfl rfl rfl rfl rfl rfl rfl ⟨⟨rfl, rfl, rfl, trivial⟩, trivial⟩ ?_
 refine oVal tt rfl rfl rfl rfl rfl trivial ?_
 refine vNil ?_
 change VC _ _ _ _
 refine vCond rfl (fun hb2 => ?_) (fun hb2 => ?_)
 ·replace h := cnd_t hb2 h
  refine vSeq ?_
  refine vRegion ?_
  iterate 3 refine oVal tt rfl rfl rfl rfl rfl trivial ?_
  refine vNil ?_
  change VC _ _ _ _
  refine vNilT 2 9001 93 (.raises []) rfl rfl rfl rfl ?_
  refine vEn (En.newFam 11 3 (.ints []) rfl rfl rfl rfl (fun _ h => by cases h) rfl) ?_
  refine vEn (En.asRefs 9001 11 (q := .raises []) (qR := dR 11 (.raises [])) rfl rfl rfl rfl) ?_
  refine vRet ?_
  change ∃ _, _
  cases h
  exact ⟨9001, 11, _, rfl, rfl, rfl, rfl, rfl, (.eq rfl), rfl⟩
 ·replace h := cnd_f hb2 h
  refine vSkip ?_
  change VC _ _ _ _
  refine vSeq ?_
  refine vRegion ?_
  refine oEmpty tt (wNone rfl) rfl rfl rfl rfl ?_
  refine oVal tt rfl rfl rfl rfl rfl trivial ?_
  refine vNil ?_
  change VC _ _ _ _
  refine vSeq ?_
  refine vRegion ?_
  refine oVal tt rfl rfl rfl rfl rfl trivial ?_
  obtain ⟨v2, hc3, h⟩ := bind_inv h
  refine oCall (I_InnerPoints_w N p_0 v2 hc3) rfl rfl rfl rfl rfl rfl rfl rfl ⟨⟨rfl, rfl, rfl, trivial⟩, trivial⟩ ?_
  refine oVal tt rfl rfl rfl rfl rfl trivial ?_
  refine vNil ?_
  change VC _ _ _ _
  iterate 2 refine vSeq ?_
  refine vRegion ?_
  refine oVal tt rfl rfl rfl rfl rfl trivial ?_
  refine vNil ?_
  change VC _ _ _ _
  refine vJoin (F := fun k => I_FindRaising_l1 N p_0 v2 k) h (α := (List (Int × List Int)) × (List Int)) (J := fun | (l92, l93) => (⟨[(4, .row 9506 0 l92.length), (5, .row 61 0 l93.length), (6, .row 1170 0 v2.length)], [(9506, some (93, dR 10 (.raises l92))), (8589934602, some (3, dF (.raises l92))), (61, some (3, .ints l93)), (1170, some (3, .ints v2))], []⟩ : PS)) ?_ ?_
  ·rintro ⟨l92, l93⟩ h
   show VC _ _ _ (⟨[(4, .row 9506 0 l92.length), (5, .row 61 0 l93.length), (6, .row 1170 0 v2.length)], [(9506, some (93, dR 10 (.raises l92))), (8589934602, some (3, dF (.raises l92))), (61, some (3, .ints l93)), (1170, some (3, .ints v2))], []⟩ : PS)
   iterate 2 refine vSeq ?_
   refine vRegion ?_
   iterate 5 refine oVal tt rfl rfl rfl rfl rfl trivial ?_
   refine vNil ?_
   change VC _ _ _ _
   refine vCond rfl (fun hb4 => ?_) (fun hb4 => ?_)
   ·replace h := cnd_t hb4 h
    refine vSeq ?_
    refine vRegion ?_
    refine oEmpty tt (wNone rfl) rfl rfl rfl rfl ?_
    iterate 2 refine oVal tt rfl rfl rfl rfl rfl trivial ?_
    refine vNil ?_
    change VC _ _ _ _
    refine vNilT 2 9001 93 (.raises []) rfl rfl rfl rfl ?_
    refine vEn (En.newFam 11 3 (.ints []) rfl rfl rfl rfl (fun _ h => by cases h) rfl) ?_
    refine vEn (En.asRefs 9001 11 (q := .raises []) (qR := dR 11 (.raises [])) rfl rfl rfl rfl) ?_
    refine vRet ?_
    change ∃ _, _
    cases h
    exact ⟨9001, 11, _, rfl, rfl, rfl, rfl, rfl, (.eq rfl), rfl⟩
   ·replace h := cnd_f hb4 h
    refine vSkip ?_
    change VC _ _ _ _
    refine vSeq ?_
    refine vRegion ?_
    iterate 3 refine oVal tt rfl rfl rfl rfl rfl trivial ?_
    refine vNil ?_
    change VC _ _ _ _
    refine vRet ?_
    change ∃ _, _
    cases h
    exact ⟨9506, 10, _, rfl, rfl, rfl, rfl, rfl, (.eq rfl), rfl⟩
  ·intro k h
   refine vBlock ?_
   refine vNilT 4 9508 93 (.raises []) rfl rfl rfl rfl ?_
   refine vEn (En.newFam 10 3 (.ints []) rfl rfl rfl rfl (fun _ h => by cases h) rfl) ?_
   refine vEn (En.asRefs 9508 10 (q := .raises []) (qR := dR 10 (.raises [])) rfl rfl rfl rfl) ?_
   refine vNilT 5 61 3 (.ints []) rfl rfl rfl rfl ?_
   refine vLoopS (α := (List (Int × List Int)) × (List Int) × Int) (fun | (l147, l148, i149) => (⟨[(1, .ptr 1 0), (4, .row 9508 0 l147.length), (5, .row 61 0 l148.length), (6, .row 1170 0 v2.length), (7, .int i149)], [(9508, some (93, dR 10 (.raises l147))), (8589934602, some (3, dF (.raises l147))), (61, some (3, .ints l148)), (1170, some (3, .ints v2))], [(1, some [.int p_0.g.n, .ro false (.pairs p_0.g.bars), .ro false (.ints p_0.ground)])]⟩ : PS)) (I_FindRaising_l1 N p_0 v2 k) h (En.of ⟨rfl, rfl, rfl, rfl, rfl, trivial⟩ ⟨rfl, rfl, rfl, rfl, trivial⟩ ⟨rfl, trivial⟩) (fun _ => rfl) ?_
   rintro n ⟨l147, l148, i149⟩ h
   rw [I_FindRaising_l1] at h
   show VC _ _ _ (⟨[(1, .ptr 1 0), (4, .row 9508 0 l147.length), (5, .row 61 0 l148.length), (6, .row 1170 0 v2.length), (7, .int i149)], [(9508, some (93, dR 10 (.raises l147))), (8589934602, some (3, dF (.raises l147))), (61, some (3, .ints l148)), (1170, some (3, .ints v2))], [(1, some [.int p_0.g.n, .ro false (.pairs p_0.g.bars), .ro false (.ints p_0.ground)])]⟩ : PS)
   iterate 2 refine vSeq ?_
   refine vRegion ?_
   iterate 4 refine oVal tt rfl rfl rfl rfl rfl trivial ?_
   refine vNil ?_
   change VC _ _ _ _
   refine vCond rfl (fun hb5 => ?_) (fun hb5 => ?_)
   ·replace h := cnd_t hb5 h
    refine vSkip ?_
    change VC _ _ _ _
    refine vSeq ?_
    refine vBlock ?_
    refine vSeq ?_
    refine vRegion ?_
    iterate 2 refine oVal tt rfl rfl rfl rfl rfl trivial ?_
    obtain ⟨hg6, h⟩ := grd_inv h
    iterate 2 refine oVal tt rfl rfl rfl rfl rfl hg6 ?_
    refine oPure (wNone rfl) (pBuild bld_impl_Raise rfl rfl) rfl rfl ?_
    refine oAlloc tt rfl rfl rfl rfl rfl rfl rfl rfl rfl ?_
    refine oStore tt rfl rfl rfl rfl rfl rfl rfl rfl rfl rfl rfl ⟨trivial, trivial, trivial⟩ ?_
    refine vNil ?_
    change VC _ _ _ _
    iterate 2 refine vSeq ?_
    refine vRegion ?_
    iterate 5 refine oVal tt rfl rfl rfl rfl rfl trivial ?_
    refine vNil ?_
    change VC _ _ _ _
    refine vJoin (F := fun k => I_FindRaising_l2 N p_0 v2 l148 i149 k) h (α := List Int) (J := fun (l174 : List Int) => (⟨[(1, .ptr 1 0), (4, .row 9508 0 l147.length), (5, .row 61 0 l148.length), (6, .row 1170 0 v2.length), (7, .int i149), (8, .ptr 8 0)], [(9508, some (93, dR 10 (.raises l147))), (8589934602, some (3, dF (.raises l147))), (61, some (3, .ints l148)), (1170, some (3, .ints v2)), (46, some (3, .ints l174))], [(1, some [.int p_0.g.n, .ro false (.pairs p_0.g.bars), .ro false (.ints p_0.ground)]), (8, some [.int (v2.getD ((i149).toNat) 0), .row 46 0 l174.length])]⟩ : PS)) ?_ ?_
    ·rintro l174 h
     show VC _ _ _ (⟨[(1, .ptr 1 0), (4, .row 9508 0 l147.length), (5, .row 61 0 l148.length), (6, .row 1170 0 v2.length), (7, .int i149), (8, .ptr 8 0)], [(9508, some (93, dR 10 (.raises l147))), (8589934602, some (3, dF (.raises l147))), (61, some (3, .ints l148)), (1170, some (3, .ints v2)), (46, some (3, .ints l174))], [(1, some [.int p_0.g.n, .ro false (.pairs p_0.g.bars), .ro false (.ints p_0.ground)]), (8, some [.int (v2.getD ((i149).toNat) 0), .row 46 0 l174.length])]⟩ : PS)
     refine vSeq ?_
     refine vRegion ?_
     iterate 3 refine oVal tt rfl rfl rfl rfl rfl trivial ?_
     obtain ⟨v175, hc7, h⟩ := bind_inv h
     refine oCall (I_IsRaise_w N p_0 l148 (⟨(v2.getD ((i149).toNat) 0), l174⟩ : Rse) v175 hc7) rfl rfl rfl rfl rfl rfl rfl rfl ⟨⟨rfl, rfl, rfl, trivial⟩, (.inl ⟨rfl, rfl⟩), ⟨rfl, (.inl ⟨rfl, rfl⟩), trivial⟩, trivial⟩ ?_
     refine vNil ?_
     change VC _ _ _ _
     refine vCond rfl (fun hb8 => ?_) (fun hb8 => ?_)
     ·replace h := cnd_t hb8 h
      refine vSeq ?_
      refine vRegion ?_
      iterate 2 refine oVal tt rfl rfl rfl rfl rfl trivial ?_
      refine vEnO (En.adoptA 54 1 46 9508 10 (q := (.raises l147)) rfl rfl rfl rfl rfl rfl rfl (by simp [Sq.len, Fq.len, famOf, Fq.hole]) (pushR _ (v2.getD ((i149).toNat) 0) _) rfl (dl' := [.int (v2.getD ((i149).toNat) 0), .irow 10 l147.length l174.length]) (by simp [Fq.len, klXS]) rfl) ?_
      refine oBuildI tt rfl rfl rfl rfl rfl rfl rfl rfl rfl rfl ?_
      obtain ⟨hg9, h⟩ := grd_inv h
      refine oAppendD (.raises (l147 ++ [((v2.getD ((i149).toNat) 0), l174)])) tt (q := (.raises l147)) rfl rfl rfl rfl rfl rfl rfl rfl (Nat.le_of_eq (Nat.zero_add _)) rfl rfl rfl rfl rfl rfl rfl (appR 10 l147 (v2.getD ((i149).toNat) 0) l174) hg9 ?_
      refine oVal tt rfl rfl rfl rfl rfl trivial ?_
      refine vNil ?_
      change VC _ _ _ _
      refine vSeq ?_
      refine vRegion ?_
      iterate 3 refine oVal tt rfl rfl rfl rfl rfl trivial ?_
      refine oBuild tt rfl rfl rfl rfl rfl rfl rfl rfl rfl rfl rfl ?_
      obtain ⟨hg10, h⟩ := grd_inv h
      refine oAppend tt rfl rfl rfl rfl rfl rfl rfl rfl rfl rfl rfl rfl rfl rfl rfl rfl (Nat.le_of_eq (Nat.zero_add _)) hg10 ?_
      refine oVal tt rfl rfl rfl rfl rfl trivial ?_
      refine vNil ?_
      change VC _ _ _ _
      refine vRegion ?_
      refine oVal tt rfl rfl rfl rfl rfl trivial ?_
      refine vNil ?_
      change VC _ _ _ _
      refine vRegion ?_
      refine oVal tt rfl rfl rfl rfl rfl trivial ?_
      obtain ⟨hg11, h⟩ := grd_inv h
      refine oVal tt rfl rfl rfl rfl rfl hg11 ?_
      refine oVal tt rfl rfl rfl rfl rfl trivial ?_
      refine vNil ?_
      change ∃ _, _
      exact ⟨((l147 ++ [((v2.getD ((i149).toNat) 0), l174)]), (l148 ++ ([(v2.getD ((i149).toNat) 0)] : List Int)), ((-1 : Int) + (1 : Int))), (En.of ⟨rfl, rfl, rfl, rfl, rfl, trivial⟩ ⟨rfl, rfl, rfl, rfl, trivial⟩ ⟨rfl, trivial⟩), h⟩
     ·replace h := cnd_f hb8 h
      refine vSkip ?_
      change VC _ _ _ _
      refine vRegion ?_
      refine oVal tt rfl rfl rfl rfl rfl trivial ?_
      obtain ⟨hg12, h⟩ := grd_inv h
      refine oVal tt rfl rfl rfl rfl rfl hg12 ?_
      refine oVal tt rfl rfl rfl rfl rfl trivial ?_
      refine vNil ?_
      change ∃ _, _
      exact ⟨(l147, l148, (i149 + (1 : Int))), (En.of ⟨rfl, rfl, rfl, rfl, rfl, trivial⟩ ⟨rfl, rfl, rfl, rfl, trivial⟩ ⟨rfl, trivial⟩), h⟩
    ·intro k h
     refine vBlock ?_
     refine vNilB 8 1 46 3 (.ints []) rfl rfl rfl rfl rfl ?_
     refine vLoopS (α := (List Int) × Int) (fun | (l180, x181) => (⟨[(1, .ptr 1 0), (4, .row 9508 0 l147.length), (5, .row 61 0 l148.length), (6, .row 1170 0 v2.length), (7, .int i149), (8, .ptr 8 0), (32, .int (p_0.g.bars.length : Int)), (33, .int x181)], [(9508, some (93, dR 10 (.raises l147))), (8589934602, some (3, dF (.raises l147))), (61, some (3, .ints l148)), (1170, some (3, .ints v2)), (46, some (3, .ints l180))], [(1, some [.int p_0.g.n, .ro false (.pairs p_0.g.bars), .ro false (.ints p_0.ground)]), (8, some [.int (v2.getD ((i149).toNat) 0), .row 46 0 l180.length])]⟩ : PS)) (I_FindRaising_l2 N p_0 v2 l148 i149 k) h (En.of ⟨rfl, rfl, rfl, rfl, rfl, rfl, rfl, rfl, trivial⟩ ⟨rfl, rfl, rfl, rfl, rfl, trivial⟩ ⟨rfl, rfl, trivial⟩) (fun _ => rfl) ?_
     rintro n ⟨l180, x181⟩ h
     rw [I_FindRaising_l2] at h
     show VC _ _ _ (⟨[(1, .ptr 1 0), (4, .row 9508 0 l147.length), (5, .row 61 0 l148.length), (6, .row 1170 0 v2.length), (7, .int i149), (8, .ptr 8 0), (32, .int (p_0.g.bars.length : Int)), (33, .int x181)], [(9508, some (93, dR 10 (.raises l147))), (8589934602, some (3, dF (.raises l147))), (61, some (3, .ints l148)), (1170, some (3, .ints v2)), (46, some (3, .ints l180))], [(1, some [.int p_0.g.n, .ro false (.pairs p_0.g.bars), .ro false (.ints p_0.ground)]), (8, some [.int (v2.getD ((i149).toNat) 0), .row 46 0 l180.length])]⟩ : PS)
     refine vSeq ?_
     refine vRegion ?_
     refine oVal tt rfl rfl rfl rfl rfl trivial ?_
     refine vNil ?_
     change VC _ _ _ _
     refine vSeq ?_
     refine vCond rfl (fun hb13 => ?_) (fun hb13 => ?_)
     ·replace h := cnd_t hb13 h
      refine vSkip ?_
      change VC _ _ _ _
      refine vSeq ?_
      refine vBlock ?_
      refine vSeq ?_
      refine vRegion ?_
      iterate 2 refine oVal tt rfl rfl rfl rfl rfl trivial ?_
      refine vNil ?_
      change VC _ _ _ _
      refine vSeq ?_
      refine vRegion ?_
      iterate 5 refine oVal tt rfl rfl rfl rfl rfl trivial ?_
      obtain ⟨v183, hc14, h⟩ := bind_inv h
      refine oCall (M_Pinned_holds_w N p_0 l148 (v2.getD ((i149).toNat) 0) x181 v183 hc14) rfl rfl rfl rfl rfl rfl rfl rfl ⟨⟨rfl, rfl, rfl, trivial⟩, (.inl ⟨rfl, rfl⟩), rfl, rfl, trivial⟩ ?_
      refine vNil ?_
      change VC _ _ _ _
      refine vCond rfl (fun hb15 => ?_) (fun hb15 => ?_)
      ·replace h := cnd_t hb15 h
       refine vRegion ?_
       iterate 3 refine oVal tt rfl rfl rfl rfl rfl trivial ?_
       refine oBuild tt rfl rfl rfl rfl rfl rfl rfl rfl rfl rfl rfl ?_
       obtain ⟨hg16, h⟩ := grd_inv h
       refine oAppend tt rfl rfl rfl rfl rfl rfl rfl rfl rfl rfl rfl rfl rfl rfl rfl rfl (Nat.le_of_eq (Nat.zero_add _)) hg16 ?_
       refine oVal tt rfl rfl rfl rfl rfl trivial ?_
       refine oStore tt rfl rfl rfl rfl rfl rfl rfl rfl rfl rfl rfl ⟨trivial, trivial⟩ ?_
       refine vNil ?_
       change VC _ _ _ _
       refine vRegion ?_
       obtain ⟨hg17, h⟩ := grd_inv h
       refine oVal tt rfl rfl rfl rfl rfl hg17 ?_
       refine oVal tt rfl rfl rfl rfl rfl trivial ?_
       refine vNil ?_
       change ∃ _, _
       exact ⟨((l180 ++ ([x181] : List Int)), (x181 + (1 : Int))), (En.of ⟨rfl, rfl, rfl, rfl, rfl, rfl, rfl, rfl, trivial⟩ ⟨rfl, rfl, rfl, rfl, rfl, trivial⟩ ⟨rfl, rfl, trivial⟩), h⟩
      ·replace h := cnd_f hb15 h
       refine vSkip ?_
       change VC _ _ _ _
       refine vRegion ?_
       obtain ⟨hg18, h⟩ := grd_inv h
       refine oVal tt rfl rfl rfl rfl rfl hg18 ?_
       refine oVal tt rfl rfl rfl rfl rfl trivial ?_
       refine vNil ?_
       change ∃ _, _
       exact ⟨(l180, (x181 + (1 : Int))), (En.of ⟨rfl, rfl, rfl, rfl, rfl, rfl, rfl, rfl, trivial⟩ ⟨rfl, rfl, rfl, rfl, rfl, trivial⟩ ⟨rfl, rfl, trivial⟩), h⟩
     ·replace h := cnd_f hb13 h
      refine vExit ?_
      change ∃ _, _
      exact ⟨l180, (En.of ⟨rfl, rfl, rfl, rfl, rfl, rfl, trivial⟩ ⟨rfl, rfl, rfl, rfl, rfl, trivial⟩ ⟨rfl, rfl, trivial⟩), h⟩
   ·replace h := cnd_f hb5 h
    refine vExit ?_
    change ∃ _, _
    exact ⟨(l147, l148), (En.ren [9506] [9508] rfl ⟨.inr rfl, .inr rfl, .inr rfl, trivial⟩ ⟨.inr rfl, .inr rfl, .inr rfl, .inr rfl, trivial⟩ trivial), h⟩
end Go.Proofs.Ytgindcgphnbnaaa
namespace Go.Proofs.Ytgindcgphnbnaaa
variable {N : Nat}
def barsTo (p : Pin) (dn : List Int) (v : Int) (m : Nat) : List Int := ((List.range m).map Int.ofNat).filter fun e => holdP p dn v e
theorem barsTo_succ (p : Pin) (dn : List Int) (v : Int) (m : Nat) : barsTo p dn v (m + 1) = cnd (holdP p dn v (m : Int)) (barsTo p dn v m ++ [(m : Int)]) (barsTo p dn v m) := by
 simp only [barsTo, List.range_succ, List.map_append, List.filter_append, List.map_cons, List.map_nil, List.filter_cons, List.filter_nil]
 have e : Int.ofNat m = (m : Int) := rfl
 rw [e]
 cases holdP p dn v (m : Int) <;> simp [cnd]
theorem barsTo_len (p : Pin) (dn : List Int) (v : Int) (m : Nat) : (barsTo p dn v m).length ≤ m := by
 refine Nat.le_trans (List.length_filter_le _ _) (by simp)
theorem barsTo_mem {p : Pin} {dn : List Int} {v : Int} {m : Nat} {e : Int} (h : e ∈ barsTo p dn v m) : holdP p dn v e = true ∧ 0 ≤ e ∧ e < (m : Int) := by
 simp only [barsTo, List.mem_filter, List.mem_map, List.mem_range] at h
 obtain ⟨⟨k, hk, rfl⟩, h2⟩ := h
 exact ⟨h2, by simp, by simp; omega⟩
theorem barsTo_asc (p : Pin) (dn : List Int) (v : Int) : ∀ m, (barsTo p dn v m).Pairwise (· < ·) := by
 intro m
 induction m with
 | zero => exact List.Pairwise.nil
 | succ m ih =>
  rw [barsTo_succ]
  cases holdP p dn v (m : Int) with
  | false => exact ih
  | true =>
   rw [cnd_true, List.pairwise_append]
   refine ⟨ih, List.pairwise_singleton _ _, fun a ha b hb => ?_⟩
   have := (barsTo_mem ha).2.2
   simp at hb; omega
abbrev barsOf (p : Pin) (dn : List Int) (v : Int) : List Int := barsTo p dn v p.g.bars.length
theorem barsI_s (hN : 4000000 ≤ N) {p : Pin} (hp : isPinned p = true) {dn v2 : List Int} (hd : dn.length ≤ 3000000) {i0 : Int} {k : List Int → Option ((List (Int × List Int)) × Bool)} : ∀ (fuel i : Nat), i ≤ p.g.bars.length → p.g.bars.length < fuel + i →
  I_FindRaising_l2 N p v2 dn i0 k fuel (barsTo p dn (v2.getD (i0).toNat 0) i, (i : Int)) = k (barsOf p dn (v2.getD (i0).toNat 0)) := by
 have hbd := isPinned_bd hp
 intro fuel
 induction fuel with
 | zero => intro i h1 h2; omega
 | succ fuel ih =>
  intro i h1 h2
  have hl := barsTo_len p dn (v2.getD (i0).toNat 0) i
  rw [I_FindRaising_l2]
  by_cases hi : i < p.g.bars.length
  ·rw [cnd_dt (by omega), holds_s N hN hp hd, Option.bind_some]
   have hs := barsTo_succ p dn (v2.getD (i0).toNat 0) i
   have := ih (i + 1) (by omega) (by omega)
   rw [hs] at this
   cases hh : holdP p dn (v2.getD (i0).toNat 0) (i : Int) with
   | true =>
    rw [hh, cnd_true] at this
    rw [cnd_true, grd_pos (by omega), grd_R (by omega) (by omega), succ_cast]
    exact this
   | false =>
    rw [hh, cnd_false] at this
    rw [cnd_false, grd_R (by omega) (by omega), succ_cast]
    exact this
  ·obtain rfl : i = p.g.bars.length := by omega
   rw [cnd_df (by omega)]
theorem holdP_at {p : Pin} {dn : List Int} {v : Int} {i : Nat} (hi : i < p.g.bars.length) : holdP p dn v (i : Int) = (hasEnd (p.g.bars.getD i (0, 0)) v && (p.ground.contains (otherEnd (p.g.bars.getD i (0, 0)) v) || dn.contains (otherEnd (p.g.bars.getD i (0, 0)) v))) := by
 unfold holdP
 rw [inB_true.2 ⟨by omega, by omega⟩, Bool.true_and, Int.toNat_natCast]
theorem barsS_s (hN : 4000000 ≤ N) {p : Pin} (hp : isPinned p = true) {dn : List Int} (hd : dn.length ≤ 3000000) (v : Int) : S_l26Bars N p dn v = some (barsOf p dn v) := by
 have hbd := isPinned_bd hp
 have key : ∀ (fuel i : Nat), i ≤ p.g.bars.length → p.g.bars.length < fuel + i → S_l26Bars_l1 N p dn v (fun x => some x) fuel (barsTo p dn v i, (i : Int)) = some (barsOf p dn v) := by
  intro fuel
  induction fuel with
  | zero => intro i h1 h2; omega
  | succ fuel ih =>
   intro i h1 h2
   have hl := barsTo_len p dn v i
   rw [S_l26Bars_l1]
   by_cases hi : i < p.g.bars.length
   ·have hb := isPinned_bar hp hi
    have hs := barsTo_succ p dn v i
    have hr := ih (i + 1) (by omega) (by omega)
    rw [hs, holdP_at hi] at hr
    have e2 : ((i : Int)).toNat = i := by omega
    rw [cnd_dt (by omega), grd_pos (by omega), e2]
    by_cases ha : (p.g.bars.getD i (0, 0)).1 = v
    ·have he : hasEnd (p.g.bars.getD i (0, 0)) v = true := hasEnd_1 ha
     rw [he, Bool.true_and] at hr
     rw [cnd_eqt ha, l4Other_s N (by omega) (by omega) (by omega) (by omega) he, Option.bind_some, l2Has_s N hN (by omega), Option.bind_some, l2Has_s N hN hd, Option.bind_some]
     generalize p.ground.contains (otherEnd (p.g.bars.getD i (0, 0)) v) = bg at hr ⊢
     generalize dn.contains (otherEnd (p.g.bars.getD i (0, 0)) v) = bd at hr ⊢
     cases bg with
     | true => rw [cnd_true, grd_pos (by omega), grd_R (by omega) (by omega), succ_cast]; exact hr
     | false =>
      cases bd with
      | true => rw [cnd_false, cnd_true, grd_pos (by omega), grd_R (by omega) (by omega), succ_cast]; exact hr
      | false => rw [cnd_false, cnd_false, grd_R (by omega) (by omega), succ_cast]; exact hr
    ·by_cases hc : (p.g.bars.getD i (0, 0)).2 = v
     ·have he : hasEnd (p.g.bars.getD i (0, 0)) v = true := hasEnd_2 hc
      rw [he, Bool.true_and] at hr
      rw [cnd_eqf ha, cnd_eqt hc, l4Other_s N (by omega) (by omega) (by omega) (by omega) he, Option.bind_some, l2Has_s N hN (by omega), Option.bind_some, l2Has_s N hN hd, Option.bind_some]
      generalize p.ground.contains (otherEnd (p.g.bars.getD i (0, 0)) v) = bg at hr ⊢
      generalize dn.contains (otherEnd (p.g.bars.getD i (0, 0)) v) = bd at hr ⊢
      cases bg with
      | true => rw [cnd_true, grd_pos (by omega), grd_R (by omega) (by omega), succ_cast]; exact hr
      | false =>
       cases bd with
       | true => rw [cnd_false, cnd_true, grd_pos (by omega), grd_R (by omega) (by omega), succ_cast]; exact hr
       | false => rw [cnd_false, cnd_false, grd_R (by omega) (by omega), succ_cast]; exact hr
     ·have he : hasEnd (p.g.bars.getD i (0, 0)) v = false := hasEnd_0 ha hc
      rw [he, Bool.false_and, cnd_false] at hr
      rw [cnd_eqf ha, cnd_eqf hc, grd_R (by omega) (by omega), succ_cast]
      exact hr
   ·obtain rfl : i = p.g.bars.length := by omega
    rw [cnd_df (by omega)]
 have h0 := key N 0 (by omega) (by omega)
 rw [show barsTo p dn v 0 = [] from rfl] at h0
 unfold S_l26Bars
 exact h0
def upOk (p : Pin) (dn : List Int) (v : Int) : Bool := !dn.contains v && decide (2 ≤ (barsOf p dn v).length)
theorem raiseOk_of {p : Pin} (hp : isPinned p = true) {dn : List Int} {v : Int} (hv : isIn p v = true) : raiseOk p dn ⟨v, barsOf p dn v⟩ = upOk p dn v := by
 unfold raiseOk upOk
 have h : ((List.range (barsOf p dn v).length).all (raiseAt p dn ⟨v, barsOf p dn v⟩)) = true := by
  rw [List.all_eq_true]
  intro i hi
  rw [List.mem_range] at hi
  unfold raiseAt
  have hm : (barsOf p dn v).getD i 0 ∈ barsOf p dn v := getD_mem hi
  rw [Bool.and_eq_true]
  refine ⟨(barsTo_mem hm).1, ?_⟩
  by_cases h0 : i = 0
  ·simp [h0]
  ·have ha := List.pairwise_iff_getElem.1 (barsTo_asc p dn v p.g.bars.length) (i - 1) i (by have := hi; show i - 1 < (barsOf p dn v).length; omega) hi (by omega)
   have e1 : (barsOf p dn v).getD (i - 1) 0 = (barsOf p dn v)[i - 1]'(by omega) := by simp [List.getD_eq_getElem?_getD, List.getElem?_eq_getElem (show i - 1 < (barsOf p dn v).length by omega)]
   have e2 : (barsOf p dn v).getD i 0 = (barsOf p dn v)[i]'hi := by simp [List.getD_eq_getElem?_getD, List.getElem?_eq_getElem hi]
   rw [e1, e2, Bool.or_eq_true]
   exact .inr (decide_eq_true ha)
 rw [hp, hv, h]; simp
def raiseRun (p : Pin) (l : List Int) : Nat → List (Int × List Int) × List Int → List (Int × List Int) × List Int
 | 0, st => st
 | k + 1, st => match l.find? (upOk p st.2) with
  | some v => raiseRun p l k (st.1 ++ [(v, barsOf p st.2 v)], st.2 ++ [v])
  | none => st
theorem raiseRun_bars {p : Pin} {l : List Int} : ∀ (k : Nat) (st : List (Int × List Int) × List Int), (∀ x ∈ st.1, x.2.length ≤ p.g.bars.length) → ∀ x ∈ (raiseRun p l k st).1, x.2.length ≤ p.g.bars.length
 | 0, st, h => h
 | k + 1, st, h => by
  rw [raiseRun]
  split
  ·rename_i v hv
   refine raiseRun_bars k _ fun x hx => ?_
   rcases List.mem_append.1 hx with hx | hx
   ·exact h x hx
   ·rw [List.mem_singleton.1 hx]; exact barsTo_len p st.2 v p.g.bars.length
  ·exact h
theorem raiseRun_none {p : Pin} {l : List Int} {st : List (Int × List Int) × List Int} (h : l.find? (upOk p st.2) = none) : ∀ k, raiseRun p l k st = st
 | 0 => rfl
 | k + 1 => by rw [raiseRun, h]
theorem raiseRun_len {p : Pin} {l : List Int} : ∀ (k : Nat) (st : List (Int × List Int) × List Int), (raiseRun p l k st).1.length ≤ st.1.length + k ∧ (raiseRun p l k st).2.length ≤ st.2.length + k
 | 0, st => by simp [raiseRun]
 | k + 1, st => by
  rw [raiseRun]
  split
  ·rename_i v hv
   have := raiseRun_len (p := p) (l := l) k (st.1 ++ [(v, barsOf p st.2 v)], st.2 ++ [v])
   simp only [List.length_append, List.length_cons, List.length_nil] at this
   omega
  ·omega
theorem find_at {l : List Int} {f : Int → Bool} {i : Nat} (hi : i < l.length) (h : f (l.getD i 0) = true) (hb : ∀ j, j < i → f (l.getD j 0) = false) : l.find? f = some (l.getD i 0) := by
 have e : l.getD i 0 = l[i] := by simp [List.getD_eq_getElem?_getD, List.getElem?_eq_getElem hi]
 rw [e] at h ⊢
 rw [List.find?_eq_some_iff_getElem]
 refine ⟨h, i, hi, rfl, fun j hj => ?_⟩
 have := hb j hj
 have e2 : l.getD j 0 = l[j] := by simp [List.getD_eq_getElem?_getD, List.getElem?_eq_getElem (show j < l.length by omega)]
 rw [e2] at this
 simp [this]
theorem find_no {l : List Int} {f : Int → Bool} (hb : ∀ j, j < l.length → f (l.getD j 0) = false) : l.find? f = none := by
 rw [List.find?_eq_none]
 intro x hx
 obtain ⟨j, hj, rfl⟩ := List.getElem_of_mem hx
 have := hb j hj
 have e2 : l.getD j 0 = l[j] := by simp [List.getD_eq_getElem?_getD, List.getElem?_eq_getElem hj]
 rw [e2] at this
 simp [this]
def leftN (l dn : List Int) : Nat := l.countP fun v => !dn.contains v
theorem leftN_push {l dn : List Int} {v : Int} (hv : v ∈ l) (hn : dn.contains v = false) : leftN l (dn ++ [v]) + 1 ≤ leftN l dn := by
 unfold leftN
 induction l with
 | nil => simp at hv
 | cons x l ih =>
  simp only [List.countP_cons]
  have hle : (l.countP fun w => !(dn ++ [v]).contains w) ≤ l.countP fun w => !dn.contains w := by
   refine List.countP_mono_left fun w _ h => ?_
   simp only [List.contains_append, Bool.not_or, Bool.and_eq_true] at h
   exact h.1
  by_cases hx : x = v
  ·subst hx
   have e1 : (!(dn ++ [x]).contains x) = false := by simp
   rw [e1, hn]
   simp only [Bool.not_false, if_true, Bool.false_eq_true, if_false]
   omega
  ·have hv' : v ∈ l := by simpa [Ne.symm hx] using hv
   have e : (!(dn ++ [v]).contains x) = !dn.contains x := by
    simp only [List.contains_append, List.contains_cons, List.contains_nil, Bool.or_false]
    have : (x == v) = false := by simpa using hx
    rw [this, Bool.or_false]
   rw [e]
   have := ih hv'
   omega
theorem raiseI_s (hN : 4000000 ≤ N) {p : Pin} (hp : isPinned p = true) {l : List Int} (hl : l.length ≤ 8) (hin : ∀ v ∈ l, isIn p v = true) {k : ((List (Int × List Int)) × (List Int)) → Option ((List (Int × List Int)) × Bool)} :
  ∀ (fuel i : Nat) (st : List (Int × List Int) × List Int), i ≤ l.length → st.1.length + leftN l st.2 ≤ 100 → st.2.length + leftN l st.2 ≤ 100 → (∀ j, j < i → upOk p st.2 (l.getD j 0) = false) → (leftN l st.2) * 9 + l.length < fuel + i →
  I_FindRaising_l1 N p l k fuel (st.1, st.2, (i : Int)) = k (raiseRun p l (leftN l st.2) st) := by
 intro fuel
 induction fuel with
 | zero => intro i st h1 _ _ _ h2; omega
 | succ fuel ih =>
  intro i st h1 hb1 hb2 hno h2
  rw [I_FindRaising_l1]
  by_cases hi : i < l.length
  ·have e2 : ((i : Int)).toNat = i := by omega
   have hbd := isPinned_bd hp
   have hm : l.getD i 0 ∈ l := getD_mem hi
   rw [cnd_dt (by omega), grd_pos (by omega)]
   have hb := barsI_s (N := N) hN hp (dn := st.2) (v2 := l) (by omega) (i0 := (i : Int)) (k := fun (l174 : List Int) =>
      (I_IsRaise N p st.2 (⟨(l.getD ((i : Int)).toNat 0), l174⟩ : Rse)).bind fun v175 =>
      cnd v175 (
       grd (st.1.length + 1 ≤ 4294967296) <|
       grd (st.2.length + 1 ≤ 4294967296) <|
       grd (Rg64 ((-1 : Int) + (1 : Int))) <|
       I_FindRaising_l1 N p l k fuel ((st.1 ++ ([((l.getD ((i : Int)).toNat 0), l174)] : List (Int × List Int))), (st.2 ++ ([(l.getD ((i : Int)).toNat 0)] : List Int)), ((-1 : Int) + (1 : Int)))) (
       grd (Rg64 ((i : Int) + (1 : Int))) <|
       I_FindRaising_l1 N p l k fuel (st.1, st.2, ((i : Int) + (1 : Int))))) N 0 (by omega) (by omega)
   have e0 : barsTo p st.2 (l.getD ((i : Int)).toNat 0) 0 = [] := rfl
   rw [e0] at hb
   refine hb.trans ?_
   show (I_IsRaise N p st.2 (⟨(l.getD ((i : Int)).toNat 0), barsOf p st.2 (l.getD ((i : Int)).toNat 0)⟩ : Rse)).bind _ = _
   have hlb := barsTo_len p st.2 (l.getD i 0) p.g.bars.length
   rw [e2, isRaiseI_s N hN (by omega) (by omega) (by omega) (by show (barsTo p st.2 (l.getD i 0) p.g.bars.length).length ≤ 3000000; omega), Option.bind_some, raiseOk_of hp (hin _ hm)]
   cases hu : upOk p st.2 (l.getD i 0) with
   | true =>
    have hnc : st.2.contains (l.getD i 0) = false := by
     unfold upOk at hu
     simp only [Bool.and_eq_true, Bool.not_eq_true'] at hu
     exact hu.1
    have hp1 := leftN_push (l := l) hm hnc
    rw [cnd_true, grd_pos (by omega), grd_pos (by omega), grd_R (by omega) (by omega)]
    have hpos : ∃ c, leftN l st.2 = c + 1 := ⟨leftN l st.2 - 1, by omega⟩
    obtain ⟨c, hc⟩ := hpos
    have hrec := ih 0 (st.1 ++ [(l.getD i 0, barsOf p st.2 (l.getD i 0))], st.2 ++ [l.getD i 0]) (by omega) (by simp only [List.length_append, List.length_cons, List.length_nil]; omega) (by simp only [List.length_append, List.length_cons, List.length_nil]; omega) (by intro j hj; omega) (by simp only [List.length_append, List.length_cons, List.length_nil]; omega)
    have ez : ((-1 : Int) + 1) = ((0 : Nat) : Int) := by omega
    rw [ez]
    refine hrec.trans ?_
    congr 1
    rw [hc, raiseRun, find_at hi hu hno]
    have mono : ∀ (a b : Nat) (s : List (Int × List Int) × List Int), leftN l s.2 ≤ a → a ≤ b → raiseRun p l a s = raiseRun p l b s := by
     intro a
     induction a with
     | zero =>
      intro b s h3 h4
      have : l.find? (upOk p s.2) = none := by
       rw [List.find?_eq_none]
       intro x hx hxu
       have : 0 < leftN l s.2 := by
        unfold leftN
        rw [List.countP_pos_iff]
        refine ⟨x, hx, ?_⟩
        unfold upOk at hxu
        simp only [Bool.and_eq_true] at hxu
        exact hxu.1
       omega
      rw [raiseRun_none this b]; rfl
     | succ a iha =>
      intro b s h3 h4
      obtain ⟨b', rfl⟩ : ∃ b', b = b' + 1 := ⟨b - 1, by omega⟩
      rw [raiseRun, raiseRun]
      split
      ·rename_i v hv
       have hvm := List.mem_of_find?_eq_some hv
       have hvu := List.find?_some hv
       have hvc : s.2.contains v = false := by
        unfold upOk at hvu
        simp only [Bool.and_eq_true, Bool.not_eq_true'] at hvu
        exact hvu.1
       have := leftN_push (l := l) hvm hvc
       exact iha b' _ (by show leftN l (s.2 ++ [v]) ≤ a; omega) (by omega)
      ·rfl
    exact mono _ _ _ (Nat.le_refl _) (by show leftN l (st.2 ++ [l.getD i 0]) ≤ c; omega)
   | false =>
    rw [cnd_false, grd_R (by omega) (by omega), succ_cast]
    exact ih (i + 1) st (by omega) hb1 hb2 (fun j hj => by
     by_cases hji : j = i
     ·subst hji; exact hu
     ·exact hno j (by omega)) (by omega)
  ·obtain rfl : i = l.length := by omega
   rw [cnd_df (by omega), raiseRun_none (find_no hno)]
theorem raiseS2_s (hN : 4000000 ≤ N) {p : Pin} (hp : isPinned p = true) {l : List Int} (hl : l.length ≤ 8) {st : List (Int × List Int) × List Int} (hb1 : st.1.length ≤ 100) (hb2 : st.2.length ≤ 100) {k : ((List (Int × List Int)) × (List Int)) → Option ((List (Int × List Int)) × Bool)} :
  ∀ (fuel i : Nat), i ≤ l.length → l.length < fuel + i → (∀ j, j < i → upOk p st.2 (l.getD j 0) = false) → S_FindRaising_l2 N p l st.1 st.2 k fuel (i : Int) = k (raiseRun p l 1 st) := by
 intro fuel
 induction fuel with
 | zero => intro i h1 h2; omega
 | succ fuel ih =>
  intro i h1 h2 hno
  rw [S_FindRaising_l2]
  by_cases hi : i < l.length
  ·have e2 : ((i : Int)).toNat = i := by omega
   rw [cnd_dt (by omega), grd_pos (by omega), e2, barsS_s hN hp (by omega), Option.bind_some, l2Has_s N hN (by omega), Option.bind_some]
   have step : upOk p st.2 (l.getD i 0) = false → grd (Rg64 ((i : Int) + (1 : Int))) (S_FindRaising_l2 N p l st.1 st.2 k fuel ((i : Int) + (1 : Int))) = k (raiseRun p l 1 st) := fun hu => by
    rw [grd_R (by omega) (by omega), succ_cast]
    exact ih (i + 1) (by omega) (by omega) (fun j hj => by
     by_cases hji : j = i
     ·subst hji; exact hu
     ·exact hno j (by omega))
   cases hc : st.2.contains (l.getD i 0) with
   | true =>
    rw [Bool.not_true, cnd_false]
    exact step (by unfold upOk; rw [hc]; rfl)
   | false =>
    rw [Bool.not_false, cnd_true]
    by_cases h2' : 2 ≤ (barsOf p st.2 (l.getD i 0)).length
    ·have hu : upOk p st.2 (l.getD i 0) = true := by unfold upOk; rw [hc, decide_eq_true h2']; rfl
     rw [cnd_dt (by omega), grd_pos (by omega), grd_pos (by omega), raiseRun, find_at hi hu hno]
     rfl
    ·rw [cnd_df (by omega)]
     exact step (by unfold upOk; rw [hc, decide_eq_false h2']; rfl)
  ·obtain rfl : i = l.length := by omega
   rw [cnd_df (by omega), raiseRun_none (find_no hno)]
theorem raiseRun_add {p : Pin} {l : List Int} (b : Nat) : ∀ (a : Nat) (st : List (Int × List Int) × List Int), raiseRun p l b (raiseRun p l a st) = raiseRun p l (a + b) st
 | 0, st => by rw [Nat.zero_add]; rfl
 | a + 1, st => by
  rw [raiseRun, show a + 1 + b = (a + b) + 1 by omega, raiseRun]
  cases h : l.find? (upOk p st.2) with
  | some v => exact raiseRun_add b a _
  | none => exact raiseRun_none h b
theorem raiseS_s (hN : 4000000 ≤ N) {p : Pin} (hp : isPinned p = true) {l : List Int} (hl : l.length ≤ 8) {k : ((List (Int × List Int)) × (List Int)) → Option ((List (Int × List Int)) × Bool)} :
  ∀ (fuel i : Nat) (st : List (Int × List Int) × List Int), i ≤ l.length → l.length < fuel + i → st.1.length ≤ i → st.2.length ≤ i → S_FindRaising_l1 N p l k fuel (st.1, st.2, (i : Int)) = k (raiseRun p l (l.length - i) st) := by
 intro fuel
 induction fuel with
 | zero => intro i st h1 h2; omega
 | succ fuel ih =>
  intro i st h1 h2 h3 h4
  rw [S_FindRaising_l1]
  by_cases hi : i < l.length
  ·rw [cnd_dt (by omega)]
   have h5 := raiseS2_s (N := N) hN hp hl (st := st) (by omega) (by omega) (k := fun (x : (List (Int × List Int)) × (List Int)) =>
     match x with
     | (l174, l175) =>
      grd (Rg64 ((i : Int) + (1 : Int))) <|
      S_FindRaising_l1 N p l k fuel (l174, l175, ((i : Int) + (1 : Int)))) N 0 (by omega) (by omega) (by intro j hj; omega)
   refine h5.trans ?_
   have hlen := raiseRun_len (p := p) (l := l) 1 st
   show grd _ (S_FindRaising_l1 N p l k fuel ((raiseRun p l 1 st).1, (raiseRun p l 1 st).2, ((i : Int) + 1))) = _
   rw [grd_R (by omega) (by omega), succ_cast]
   refine (ih (i + 1) (raiseRun p l 1 st) (by omega) (by omega) (by omega) (by omega)).trans ?_
   rw [raiseRun_add, show 1 + (l.length - (i + 1)) = l.length - i by omega]
  ·obtain rfl : i = l.length := by omega
   rw [cnd_df (by omega), Nat.sub_self]; rfl
theorem inner_isIn {p : Pin} (hp : isPinned p = true) : ∀ v ∈ innerPts p, isIn p v = true := fun v hv => by
 rw [← innerPts_mem hp]; simpa using hv
theorem innerPts_len {p : Pin} : (innerPts p).length ≤ 8 := by
 unfold innerPts
 cases hp : isPinned p with
 | false => simp
 | true =>
  have hbd := isPinned_bd hp
  rw [cnd_true, inner_outside]
  have := outside_len p.ground p.g.n.toNat
  omega
theorem findRaising_x (hN : 4000000 ≤ N) {p : Pin} (hb : p.g.bars.length ≤ 3000000) (hg : p.ground.length ≤ 3000000) : ∃ (l : List (Int × List Int)) (b : Bool), l.length ≤ 8 ∧ (∀ x ∈ l, x.2.length ≤ 15) ∧ S_FindRaising N p = some (l, b) ∧ I_FindRaising N p = some (l, b) := by
 unfold S_FindRaising I_FindRaising
 rw [innerS_s N hN hb hg, isPinnedI_s N hN hb hg, Option.bind_some, Option.bind_some]
 have hl := innerPts_len (p := p)
 cases hp : isPinned p with
 | false =>
  refine ⟨[], false, by simp, by simp, ?_, rfl⟩
  have h0 : innerPts p = [] := by unfold innerPts; rw [hp]; rfl
  rw [h0]
  obtain ⟨m, rfl⟩ : ∃ m, N = m + 1 := ⟨N - 1, by omega⟩
  rw [S_FindRaising_l1, cnd_df (by simp)]
  show (S_IsPinned _ p).bind _ = _
  rw [isPinnedS_s _ hN hb hg, hp]; rfl
 | true =>
  rw [Bool.not_true, cnd_false, innerI_s N hN hb hg, Option.bind_some]
  have hc : leftN (innerPts p) [] = (innerPts p).length := by
   unfold leftN
   rw [List.countP_eq_length]
   intro v _; rfl
  have h1 := raiseS_s (N := N) hN hp hl (k := fun (x : (List (Int × List Int)) × (List Int)) =>
   match x with
   | (l91, l92) =>
    (S_IsPinned N p).bind fun v93 =>
    cnd (!v93) (
     some (([] : List (Int × List Int)), false)) (
     cnd (decide ((l92.length : Int) < ((innerPts p).length : Int))) (
      some (([] : List (Int × List Int)), false)) (
      some (l91, true)))) N 0 ([], []) (by omega) (by omega) (by simp) (by simp)
  have h2 := raiseI_s (N := N) hN hp hl (inner_isIn hp) (k := fun (x : (List (Int × List Int)) × (List Int)) =>
    match x with
    | (l92, l93) =>
     cnd ((l93.length : Int) != ((innerPts p).length : Int)) (
      some (([] : List (Int × List Int)), false)) (
      some (l92, true))) N 0 ([], []) (by omega) (by simp only [List.length_nil]; omega) (by simp only [List.length_nil]; omega) (by intro j hj; omega) (by simp only [hc]; omega)
  have hlen := raiseRun_len (p := p) (l := innerPts p) (innerPts p).length ([], [])
  simp only [List.length_nil, Nat.zero_add] at hlen
  have hbars := raiseRun_bars (p := p) (l := innerPts p) (innerPts p).length ([], []) (by simp)
  have hbd := isPinned_bd hp
  rw [Nat.sub_zero] at h1
  simp only [hc] at h2
  by_cases hq : (raiseRun p (innerPts p) (innerPts p).length ([], [])).2.length = (innerPts p).length
  ·refine ⟨(raiseRun p (innerPts p) (innerPts p).length ([], [])).1, true, by omega, fun x hx => by have := hbars x hx; omega, h1.trans ?_, h2.trans ?_⟩
   ·show (S_IsPinned N p).bind _ = _
    rw [isPinnedS_s N hN hb hg, hp, Option.bind_some, Bool.not_true, cnd_false, cnd_df (by omega)]
   ·show cnd _ _ _ = _
    rw [cnd_nef (by omega)]
  ·refine ⟨[], false, by simp, by simp, h1.trans ?_, h2.trans ?_⟩
   ·show (S_IsPinned N p).bind _ = _
    rw [isPinnedS_s N hN hb hg, hp, Option.bind_some, Bool.not_true, cnd_false, cnd_dt (by omega)]
   ·show cnd _ _ _ = _
    rw [cnd_net (by omega)]
end Go.Proofs.Ytgindcgphnbnaaa
namespace Go.Proofs.Ytgindcgphnbnaaa
open Go.RowKit
def L_FnExactFindRaising (N : Nat) (aP_0 : Pin) : Option (Bool) :=
 (L_szPinned N aP_0 (1048576 : Int)).bind fun v1 =>
 cnd (decide (v1 < (0 : Int))) (
  some true) (
  (L_toPinned N aP_0).bind fun v2 =>
  (S_FindRaising N v2).bind fun v3 =>
  (L_toPinned N aP_0).bind fun v4 =>
  (I_FindRaising N v4).bind fun v5 =>
  (L_eqRaiseS N v5.1 v3.1).bind fun v6 =>
  cnd (!v6) (
   some false) (
   cnd (v5.2 != v3.2) (
    some false) (
    (L_toPinned N aP_0).bind fun v7 =>
    (L_eqPinned N v4 v7).bind fun v8 =>
    cnd (!v8) (
     some false) (
     (L_markPinned N (⟨⟨v4.g.n, v4.g.bars⟩, v4.ground⟩ : Pin) (1 : Int)).bind fun v9 =>
     cnd (decide (v9.1 < (0 : Int))) (
      some false) (
      (L_eqRaiseS N v5.1 v3.1).bind fun v10 =>
      cnd (!v10) (
       some false) (
       (L_markRaiseS N v5.1 (1 : Int)).bind fun v11 =>
       grd (v5.1.length = v11.2.length) <|
       (L_heldRaiseS N v11.2 (1 : Int)).bind fun v12 =>
       cnd (decide (v12 < (0 : Int))) (
        some false) (
        cnd (v12 != v11.1) (
         some false) (
         (L_toPinned N aP_0).bind fun v13 =>
         (I_FindRaising N v13).bind fun v14 =>
         (L_eqRaiseS N v14.1 v3.1).bind fun v15 =>
         cnd (!v15) (
          some false) (
          cnd (v14.2 != v3.2) (
           some false) (
           (L_heldRaiseS N v11.2 (1 : Int)).bind fun v16 =>
           cnd (decide (v16 < (0 : Int))) (
            some false) (
            cnd (v16 != v11.1) (
             some false) (
             some true))))))))))))
set_option maxRecDepth 20000 in
set_option maxHeartbeats 1600000 in
theorem L_FnExactFindRaising_w (N : Nat) (aP_0 : Pin) (r : Bool) (h : L_FnExactFindRaising N aP_0 = some r) : PCall Try.prog 8 [pD aP_0] [] (.bool r) := by
 unfold L_FnExactFindRaising at h
 refine pcall_intro (TT := TT) tt Try.func8 rfl rfl Try.ntmps8 (congrArg Array.toList Try.results8) rfl rfl fun w0 => ?_
 refine vSeq ?_
 refine vRegion ?_
 refine oBox rfl rfl rfl rfl rfl rfl rfl rfl rfl ?_
 refine oVal tt rfl rfl rfl rfl rfl trivial ?_
 refine vNil ?_
 change VC _ _ _ _
 refine vSeq ?_
 refine vRegion ?_
 refine oVal tt rfl rfl rfl rfl rfl trivial ?_
 refine vNil ?_
 change VC _ _ _ _
 refine vSeq ?_
 refine vRegion ?_
 iterate 2 refine oVal tt rfl rfl rfl rfl rfl trivial ?_
 obtain ⟨v1, hc1, h⟩ := bind_inv h
 refine oCall (L_szPinned_w N aP_0 (1048576 : Int) v1 hc1) rfl rfl rfl rfl rfl rfl rfl rfl ⟨⟨rfl, rfl, rfl, trivial⟩, rfl, trivial⟩ ?_
 refine oVal tt rfl rfl rfl rfl rfl trivial ?_
 refine vNil ?_
 change VC _ _ _ _
 iterate 2 refine vSeq ?_
 refine vRegion ?_
 iterate 2 refine oVal tt rfl rfl rfl rfl rfl trivial ?_
 refine vNil ?_
 change VC _ _ _ _
 refine vCond rfl (fun hb2 => ?_) (fun hb2 => ?_)
 ·replace h := cnd_t hb2 h
  refine vSeq ?_
  refine vRegion ?_
  refine oVal tt rfl rfl rfl rfl rfl trivial ?_
  refine vNil ?_
  change VC _ _ _ _
  refine vRet ?_
  change ∃ _, _
  cases h
  exact ⟨[], _, rfl, trivial, rfl, (.eq rfl), rfl⟩
 ·replace h := cnd_f hb2 h
  refine vSkip ?_
  change VC _ _ _ _
  refine vSeq ?_
  refine vRegion ?_
  refine oVal tt rfl rfl rfl rfl rfl trivial ?_
  obtain ⟨v2, hc3, h⟩ := bind_inv h
  refine oCall (L_toPinned_w N aP_0 v2 hc3) rfl rfl rfl rfl rfl rfl rfl rfl ⟨⟨rfl, rfl, rfl, trivial⟩, trivial⟩ ?_
  obtain ⟨v3, hc4, h⟩ := bind_inv h
  refine oCall (S_FindRaising_w N v2 v3 hc4) rfl rfl rfl rfl rfl rfl rfl rfl ⟨⟨rfl, (.inl ⟨rfl, rfl⟩), (.inl ⟨rfl, rfl⟩), trivial⟩, trivial⟩ ?_
  iterate 5 refine oVal tt rfl rfl rfl rfl rfl trivial ?_
  refine vNil ?_
  change VC _ _ _ _
  refine vSeq ?_
  refine vRegion ?_
  refine oVal tt rfl rfl rfl rfl rfl trivial ?_
  obtain ⟨v4, hc5, h⟩ := bind_inv h
  refine oCall (L_toPinned_w N aP_0 v4 hc5) rfl rfl rfl rfl rfl rfl rfl rfl ⟨⟨rfl, rfl, rfl, trivial⟩, trivial⟩ ?_
  refine oAlloc tt rfl rfl rfl rfl rfl rfl rfl rfl rfl ?_
  refine oStore tt rfl rfl rfl rfl rfl rfl rfl rfl rfl rfl rfl ⟨trivial, trivial, trivial, trivial⟩ ?_
  refine vNil ?_
  change VC _ _ _ _
  refine vSeq ?_
  refine vRegion ?_
  refine oVal tt rfl rfl rfl rfl rfl trivial ?_
  obtain ⟨v5, hc6, h⟩ := bind_inv h
  refine oCallD 10 (I_FindRaising_w N v4 v5 hc6) rfl rfl rfl rfl rfl rfl rfl rfl rfl rfl rfl (fun _ h => by cases h) ⟨⟨rfl, (.inl ⟨rfl, rfl⟩), (.inl ⟨rfl, rfl⟩), trivial⟩, trivial⟩ ?_
  iterate 5 refine oVal tt rfl rfl rfl rfl rfl trivial ?_
  refine vNil ?_
  change VC _ _ _ _
  iterate 2 refine vSeq ?_
  refine vRegion ?_
  iterate 2 refine oVal tt rfl rfl rfl rfl rfl trivial ?_
  obtain ⟨v6, hc7, h⟩ := bind_inv h
  refine oCall (L_eqRaiseS_w N v5.1 v3.1 v6 hc7) rfl rfl rfl rfl rfl rfl rfl rfl ⟨(.inr (.inr ⟨10, _, by decide, rfl, rfl, rfl, rfl⟩)), (.inl ⟨rfl, rfl⟩), trivial⟩ ?_
  iterate 2 refine oVal tt rfl rfl rfl rfl rfl trivial ?_
  refine oSplit rfl rfl rfl (fun hb8 => ?_) (fun hb8 => ?_)
  ·replace h := cnd_t hb8 h
   iterate 3 refine oNoF rfl rfl rfl rfl hb8 rfl rfl ?_
   refine oPick rfl rfl rfl rfl rfl hb8 rfl ?_
   refine vNil ?_
   change VC _ _ _ _
   refine vCondT rfl rfl ?_
   refine vSeq ?_
   refine vRegion ?_
   refine oVal tt rfl rfl rfl rfl rfl trivial ?_
   refine vNil ?_
   change VC _ _ _ _
   refine vRet ?_
   change ∃ _, _
   cases h
   exact ⟨[], _, rfl, trivial, rfl, (.eq rfl), rfl⟩
  ·replace h := cnd_f hb8 h
   iterate 2 refine oValG tt rfl rfl rfl rfl rfl hb8 rfl rfl rfl trivial ?_
   refine oPure (wSome rfl rfl rfl rfl hb8) (pNeB Try.underlying4 rfl rfl rfl) rfl rfl ?_
   refine oPickF rfl rfl rfl rfl rfl hb8 rfl ?_
   refine vNil ?_
   change VC _ _ _ _
   refine vCond rfl (fun hb9 => ?_) (fun hb9 => ?_)
   ·replace h := cnd_t hb9 h
    refine vSeq ?_
    refine vRegion ?_
    refine oVal tt rfl rfl rfl rfl rfl trivial ?_
    refine vNil ?_
    change VC _ _ _ _
    refine vRet ?_
    change ∃ _, _
    cases h
    exact ⟨[], _, rfl, trivial, rfl, (.eq rfl), rfl⟩
   ·replace h := cnd_f hb9 h
    refine vSkip ?_
    change VC _ _ _ _
    iterate 2 refine vSeq ?_
    refine vRegionN 3 [2] [0, 0, 2, 7, 15] (by kernel_rfl) (by kernel_rfl) (by kernel_rfl) (by kernel_rfl) (by kernel_rfl) rfl (by rfl) ?_
    iterate 2 refine nVal tt rfl (wNone rfl) rfl rfl rfl rfl rfl trivial ?_
    obtain ⟨v7, hc10, h⟩ := bind_inv h
    refine nCallR (L_toPinned_w N aP_0 v7 hc10) rfl (wNone rfl) rfl rfl rfl rfl rfl rfl (by first | rfl | kernel_rfl | (simp [nrL, nm, gdst, nmT, rowB]; done)) rfl (by first | rfl | kernel_rfl | (simp [chkE, nrL, nm, gdst, nmT, rowB, hid, ment, mentA, mentS]; done) | (simp [chkE, nrL, nm, gdst, nmT, rowB, hid, ment, mentA, mentS]; decide)) ⟨⟨rfl, rfl, rfl, trivial⟩, trivial⟩ ?_
    refine nNil ?_
    change VO _ _ _ _ _
    obtain ⟨v8, hc11, h⟩ := bind_inv h
    refine oCall (L_eqPinned_w N v4 v7 v8 hc11) rfl rfl rfl rfl rfl rfl rfl rfl ⟨⟨rfl, (.inl ⟨rfl, rfl⟩), (.inl ⟨rfl, rfl⟩), trivial⟩, ⟨rfl, (.inl ⟨rfl, rfl⟩), (.inl ⟨rfl, rfl⟩), trivial⟩, trivial⟩ ?_
    refine oVal tt rfl rfl rfl rfl rfl trivial ?_
    refine vNil ?_
    change VC _ _ _ _
    refine vCond rfl (fun hb12 => ?_) (fun hb12 => ?_)
    ·replace h := cnd_t hb12 h
     refine vSeq ?_
     refine vRegion ?_
     refine oVal tt rfl rfl rfl rfl rfl trivial ?_
     refine vNil ?_
     change VC _ _ _ _
     refine vRet ?_
     change ∃ _, _
     cases h
     exact ⟨[], _, rfl, trivial, rfl, (.eq rfl), rfl⟩
    ·replace h := cnd_f hb12 h
     refine vSkip ?_
     change VC _ _ _ _
     refine vSeq ?_
     refine vRegion ?_
     refine oVal tt rfl rfl rfl rfl rfl trivial ?_
     refine vNil ?_
     change VC _ _ _ _
     refine vSeq ?_
     refine vRegion ?_
     iterate 2 refine oVal tt rfl rfl rfl rfl rfl trivial ?_
     obtain ⟨v9, hc13, h⟩ := bind_inv h
     refine oMCall (L_markPinned_w N (⟨⟨v4.g.n, v4.g.bars⟩, v4.ground⟩ : Pin) (1 : Int) v9 hc13) [1260, 1261] [] [1260, 1261] rfl rfl rfl rfl rfl rfl ⟨rfl, rfl, trivial⟩ trivial ⟨⟨⟨rfl, rfl⟩, ⟨rfl, rfl⟩, ⟨rfl, rfl⟩, trivial⟩, ⟨rfl, rfl⟩, trivial⟩ ?_
     refine oVal tt rfl rfl rfl rfl rfl trivial ?_
     refine vNil ?_
     change VC _ _ _ _
     iterate 2 refine vSeq ?_
     refine vRegion ?_
     iterate 3 refine oVal tt rfl rfl rfl rfl rfl trivial ?_
     refine oSplit rfl rfl rfl (fun hb14 => ?_) (fun hb14 => ?_)
     ·replace h := cnd_t hb14 h
      iterate 4 refine oNoF rfl rfl rfl rfl hb14 rfl rfl ?_
      refine oPick rfl rfl rfl rfl rfl hb14 rfl ?_
      refine oVal tt rfl rfl rfl rfl rfl trivial ?_
      iterate 3 refine oNoF rfl rfl rfl rfl rfl rfl rfl ?_
      refine oPick rfl rfl rfl rfl rfl rfl rfl ?_
      refine vNil ?_
      change VC _ _ _ _
      refine vCondT rfl rfl ?_
      refine vSeq ?_
      refine vRegion ?_
      refine oVal tt rfl rfl rfl rfl rfl trivial ?_
      refine vNil ?_
      change VC _ _ _ _
      refine vRet ?_
      change ∃ _, _
      cases h
      exact ⟨[], _, rfl, trivial, rfl, (.eq rfl), rfl⟩
     ·replace h := cnd_f hb14 h
      iterate 2 refine oValG tt rfl rfl rfl rfl rfl hb14 rfl rfl rfl trivial ?_
      obtain ⟨v10, hc15, h⟩ := bind_inv h
      refine oCallG (L_eqRaiseS_w N v5.1 v3.1 v10 hc15) rfl rfl rfl rfl hb14 rfl rfl rfl rfl rfl rfl rfl ⟨(.inr (.inr ⟨10, _, by decide, rfl, rfl, rfl, rfl⟩)), (.inl ⟨rfl, rfl⟩), trivial⟩ ?_
      refine oValG tt rfl rfl rfl rfl rfl hb14 rfl rfl rfl trivial ?_
      refine oPickF rfl rfl rfl rfl rfl hb14 rfl ?_
      refine oVal tt rfl rfl rfl rfl rfl trivial ?_
      refine oSplit rfl rfl rfl (fun hb16 => ?_) (fun hb16 => ?_)
      ·replace h := cnd_t hb16 h
       iterate 3 refine oNoF rfl rfl rfl rfl hb16 rfl rfl ?_
       refine oPick rfl rfl rfl rfl rfl hb16 rfl ?_
       refine vNil ?_
       change VC _ _ _ _
       refine vCondT rfl rfl ?_
       refine vSeq ?_
       refine vRegion ?_
       refine oVal tt rfl rfl rfl rfl rfl trivial ?_
       refine vNil ?_
       change VC _ _ _ _
       refine vRet ?_
       change ∃ _, _
       cases h
       exact ⟨[], _, rfl, trivial, rfl, (.eq rfl), rfl⟩
      ·replace h := cnd_f hb16 h
       iterate 2 refine oValG tt rfl rfl rfl rfl rfl hb16 rfl rfl rfl trivial ?_
       refine oPure (wSome rfl rfl rfl rfl hb16) (pNeB Try.underlying4 rfl rfl rfl) rfl rfl ?_
       refine oPickF rfl rfl rfl rfl rfl hb16 rfl ?_
       refine vNil ?_
       change VC _ _ _ _
       refine vCondF rfl hb9 ?_
       refine vSkip ?_
       change VC _ _ _ _
       refine vSeq ?_
       refine vRegion ?_
       refine oVal tt rfl rfl rfl rfl rfl trivial ?_
       refine vNil ?_
       change VC _ _ _ _
       refine vSeq ?_
       refine vRegion ?_
       iterate 2 refine oVal tt rfl rfl rfl rfl rfl trivial ?_
       obtain ⟨v11, hc17, h⟩ := bind_inv h
       refine oMCall (L_markRaiseS_w N v5.1 (1 : Int) v11 hc17) [1290, 8589934602] [] [1290, 8589934602] rfl rfl rfl rfl rfl rfl ⟨rfl, rfl, trivial⟩ trivial ⟨⟨rfl, rfl⟩, ⟨rfl, rfl⟩, trivial⟩ ?_
       refine oVal tt rfl rfl rfl rfl rfl trivial ?_
       refine vNil ?_
       change VC _ _ _ _
       refine vSeq ?_
       refine vRegion ?_
       refine oVal tt rfl rfl rfl rfl rfl trivial ?_
       refine vNil ?_
       change VC _ _ _ _
       refine vSeq ?_
       refine vRegion ?_
       iterate 2 refine oVal tt rfl rfl rfl rfl rfl trivial ?_
       obtain ⟨hg18, h⟩ := grd_inv h
       obtain ⟨v12, hc19, h⟩ := bind_inv h
       refine oCall (L_heldRaiseS_w N v11.2 (1 : Int) v12 hc19) rfl rfl rfl rfl rfl rfl rfl rfl ⟨(.inr (.inr ⟨10, _, by decide, rfl, rfl, rfl, hg18⟩)), rfl, trivial⟩ ?_
       refine oVal tt rfl rfl rfl rfl rfl trivial ?_
       refine vNil ?_
       change VC _ _ _ _
       iterate 2 refine vSeq ?_
       refine vRegion ?_
       iterate 2 refine oVal tt rfl rfl rfl rfl rfl trivial ?_
       refine vNil ?_
       change VC _ _ _ _
       refine vCond rfl (fun hb20 => ?_) (fun hb20 => ?_)
       ·replace h := cnd_t hb20 h
        refine vSeq ?_
        refine vRegion ?_
        refine oVal tt rfl rfl rfl rfl rfl trivial ?_
        refine vNil ?_
        change VC _ _ _ _
        refine vRet ?_
        change ∃ _, _
        cases h
        exact ⟨[], _, rfl, trivial, rfl, (.eq rfl), rfl⟩
       ·replace h := cnd_f hb20 h
        refine vSkip ?_
        change VC _ _ _ _
        iterate 2 refine vSeq ?_
        refine vRegion ?_
        iterate 3 refine oVal tt rfl rfl rfl rfl rfl trivial ?_
        refine vNil ?_
        change VC _ _ _ _
        refine vCond rfl (fun hb21 => ?_) (fun hb21 => ?_)
        ·replace h := cnd_t hb21 h
         refine vSeq ?_
         refine vRegion ?_
         refine oVal tt rfl rfl rfl rfl rfl trivial ?_
         refine vNil ?_
         change VC _ _ _ _
         refine vRet ?_
         change ∃ _, _
         cases h
         exact ⟨[], _, rfl, trivial, rfl, (.eq rfl), rfl⟩
        ·replace h := cnd_f hb21 h
         refine vSkip ?_
         change VC _ _ _ _
         refine vSeq ?_
         refine vRegion ?_
         refine oVal tt rfl rfl rfl rfl rfl trivial ?_
         obtain ⟨v13, hc22, h⟩ := bind_inv h
         refine oCall (L_toPinned_w N aP_0 v13 hc22) rfl rfl rfl rfl rfl rfl rfl rfl ⟨⟨rfl, rfl, rfl, trivial⟩, trivial⟩ ?_
         obtain ⟨v14, hc23, h⟩ := bind_inv h
         refine oCallD 11 (I_FindRaising_w N v13 v14 hc23) rfl rfl rfl rfl rfl rfl rfl rfl rfl rfl rfl (fun _ h => by cases h) ⟨⟨rfl, (.inl ⟨rfl, rfl⟩), (.inl ⟨rfl, rfl⟩), trivial⟩, trivial⟩ ?_
         iterate 5 refine oVal tt rfl rfl rfl rfl rfl trivial ?_
         refine vNil ?_
         change VC _ _ _ _
         iterate 2 refine vSeq ?_
         refine vRegion ?_
         iterate 2 refine oVal tt rfl rfl rfl rfl rfl trivial ?_
         obtain ⟨v15, hc24, h⟩ := bind_inv h
         refine oCall (L_eqRaiseS_w N v14.1 v3.1 v15 hc24) rfl rfl rfl rfl rfl rfl rfl rfl ⟨(.inr (.inr ⟨11, _, by decide, rfl, rfl, rfl, rfl⟩)), (.inl ⟨rfl, rfl⟩), trivial⟩ ?_
         iterate 2 refine oVal tt rfl rfl rfl rfl rfl trivial ?_
         refine oSplit rfl rfl rfl (fun hb25 => ?_) (fun hb25 => ?_)
         ·replace h := cnd_t hb25 h
          iterate 3 refine oNoF rfl rfl rfl rfl hb25 rfl rfl ?_
          refine oPick rfl rfl rfl rfl rfl hb25 rfl ?_
          refine vNil ?_
          change VC _ _ _ _
          refine vCondT rfl rfl ?_
          refine vSeq ?_
          refine vRegion ?_
          refine oVal tt rfl rfl rfl rfl rfl trivial ?_
          refine vNil ?_
          change VC _ _ _ _
          refine vRet ?_
          change ∃ _, _
          cases h
          exact ⟨[], _, rfl, trivial, rfl, (.eq rfl), rfl⟩
         ·replace h := cnd_f hb25 h
          iterate 2 refine oValG tt rfl rfl rfl rfl rfl hb25 rfl rfl rfl trivial ?_
          refine oPure (wSome rfl rfl rfl rfl hb25) (pNeB Try.underlying4 rfl rfl rfl) rfl rfl ?_
          refine oPickF rfl rfl rfl rfl rfl hb25 rfl ?_
          refine vNil ?_
          change VC _ _ _ _
          refine vCond rfl (fun hb26 => ?_) (fun hb26 => ?_)
          ·replace h := cnd_t hb26 h
           refine vSeq ?_
           refine vRegion ?_
           refine oVal tt rfl rfl rfl rfl rfl trivial ?_
           refine vNil ?_
           change VC _ _ _ _
           refine vRet ?_
           change ∃ _, _
           cases h
           exact ⟨[], _, rfl, trivial, rfl, (.eq rfl), rfl⟩
          ·replace h := cnd_f hb26 h
           refine vSkip ?_
           change VC _ _ _ _
           refine vSeq ?_
           refine vRegion ?_
           refine oVal tt rfl rfl rfl rfl rfl trivial ?_
           refine vNil ?_
           change VC _ _ _ _
           refine vSeq ?_
           refine vRegion ?_
           iterate 2 refine oVal tt rfl rfl rfl rfl rfl trivial ?_
           obtain ⟨v16, hc27, h⟩ := bind_inv h
           refine oCall (L_heldRaiseS_w N v11.2 (1 : Int) v16 hc27) rfl rfl rfl rfl rfl rfl rfl rfl ⟨(.inr (.inr ⟨10, _, by decide, rfl, rfl, rfl, hg18⟩)), rfl, trivial⟩ ?_
           refine oVal tt rfl rfl rfl rfl rfl trivial ?_
           refine vNil ?_
           change VC _ _ _ _
           iterate 2 refine vSeq ?_
           refine vRegion ?_
           iterate 2 refine oVal tt rfl rfl rfl rfl rfl trivial ?_
           refine vNil ?_
           change VC _ _ _ _
           refine vCond rfl (fun hb28 => ?_) (fun hb28 => ?_)
           ·replace h := cnd_t hb28 h
            refine vSeq ?_
            refine vRegion ?_
            refine oVal tt rfl rfl rfl rfl rfl trivial ?_
            refine vNil ?_
            change VC _ _ _ _
            refine vRet ?_
            change ∃ _, _
            cases h
            exact ⟨[], _, rfl, trivial, rfl, (.eq rfl), rfl⟩
           ·replace h := cnd_f hb28 h
            refine vSkip ?_
            change VC _ _ _ _
            iterate 2 refine vSeq ?_
            refine vRegion ?_
            iterate 3 refine oVal tt rfl rfl rfl rfl rfl trivial ?_
            refine vNil ?_
            change VC _ _ _ _
            refine vCond rfl (fun hb29 => ?_) (fun hb29 => ?_)
            ·replace h := cnd_t hb29 h
             refine vSeq ?_
             refine vRegion ?_
             refine oVal tt rfl rfl rfl rfl rfl trivial ?_
             refine vNil ?_
             change VC _ _ _ _
             refine vRet ?_
             change ∃ _, _
             cases h
             exact ⟨[], _, rfl, trivial, rfl, (.eq rfl), rfl⟩
            ·replace h := cnd_f hb29 h
             refine vSkip ?_
             change VC _ _ _ _
             refine vSeq ?_
             refine vRegion ?_
             refine oVal tt rfl rfl rfl rfl rfl trivial ?_
             refine vNil ?_
             change VC _ _ _ _
             refine vRet ?_
             change ∃ _, _
             cases h
             exact ⟨[], _, rfl, trivial, rfl, (.eq rfl), rfl⟩
end Go.Proofs.Ytgindcgphnbnaaa
