/- Plain texts of functions, and that the program computes them (printed by gen.py). -/
import Derived.Test.YtlmlfbjcpajinaaShb
import Derived.Test.YtlmlfbjcpajinaaG5
import Derived.Test.YtlmlfbjcpajinaaG10
import Derived.Test.YtlmlfbjcpajinaaG11
import Derived.Test.YtlmlfbjcpajinaaG14
import Derived.Test.YtlmlfbjcpajinaaG15
import Derived.Test.YtlmlfbjcpajinaaG17
namespace Go.Proofs.Ytlmlfbjcpajinaa
open Go.RowKit
set_option linter.unusedVariables false
set_option linter.unusedSimpArgs false
def S_FreeJoints_l1 (N : Nat) (l_0 : Lnk) (k : (List Int) → Option (List Int)) : Nat → ((List Int) × Int) → Option (List Int)
  | 0, _ => none
  | n + 1, (l17, i18) =>
    cnd (decide (i18 < (l_0.f.places.length : Int))) (
      (S_IsLinkage N l_0).bind fun v21 =>
      cnd v21 (
        (S_l2Has N l_0.ground i18).bind fun v22 =>
        cnd (!v22) (
          grd (l17.length + 1 ≤ 4294967296) <|
          grd (Rg64 (i18 + (1 : Int))) <|
          S_FreeJoints_l1 N l_0 k n ((l17 ++ ([i18] : List Int)), (i18 + (1 : Int)))) (
          grd (Rg64 (i18 + (1 : Int))) <|
          S_FreeJoints_l1 N l_0 k n (l17, (i18 + (1 : Int))))) (
        k l17)) (
      k l17)
def S_FreeJoints (N : Nat) (l_0 : Lnk) : Option (List Int) :=
  S_FreeJoints_l1 N l_0 (fun (l11 : List Int) =>
        some l11) N (([] : List Int), (0 : Int))
set_option maxRecDepth 20000 in
set_option maxHeartbeats 1600000 in
theorem S_FreeJoints_w (N : Nat) (l_0 : Lnk) (r : List Int) (h : S_FreeJoints N l_0 = some r) : PCall Try.prog 60 [lD l_0] [(3, .ints r)] (.row 0 0 r.length) := by
  unfold S_FreeJoints at h
  refine pcall_intro (TT := TT) tt Try.func60 rfl rfl Try.ntmps60 (congrArg Array.toList Try.results60) rfl rfl fun w0 => ?_
  refine vSeq ?_
  refine vRegion ?_
  refine oBox rfl rfl rfl rfl rfl rfl rfl rfl rfl ?_
  refine oVal tt rfl rfl rfl rfl rfl trivial ?_
  refine vNil ?_
  change VC _ _ _ _
  refine vSeq ?_
  refine vRegion ?_
  refine oEmpty tt (wNone rfl) rfl rfl rfl rfl ?_
  refine oVal tt rfl rfl rfl rfl rfl trivial ?_
  refine vNil ?_
  change VC _ _ _ _
  iterate 2 refine vSeq ?_
  refine vRegion ?_
  refine oVal tt rfl rfl rfl rfl rfl trivial ?_
  refine vNil ?_
  change VC _ _ _ _
  refine vJoin (F := fun k => S_FreeJoints_l1 N l_0 k) h (α := List Int) (J := fun (l11 : List Int) => (⟨[(3, .row 26 0 l11.length)], [(26, some (3, .ints l11))], []⟩ : PS)) ?_ ?_
  · rintro l11 h
    show VC _ _ _ (⟨[(3, .row 26 0 l11.length)], [(26, some (3, .ints l11))], []⟩ : PS)
    refine vSeq ?_
    refine vRegion ?_
    iterate 2 refine oVal tt rfl rfl rfl rfl rfl trivial ?_
    refine vNil ?_
    change VC _ _ _ _
    refine vRet ?_
    change ∃ _, _
    cases h
    exact ⟨[26], _, rfl, ⟨rfl, trivial⟩, rfl, (.eq rfl), rfl⟩
  · intro k h
    refine vBlock ?_
    refine vNilT 3 26 3 (.ints []) rfl rfl rfl rfl ?_
    refine vLoopS (α := (List Int) × Int) (fun | (l17, i18) => (⟨[(1, .ptr 1 0), (3, .row 26 0 l17.length), (4, .int i18)], [(26, some (3, .ints l17))], [(1, some [.int l_0.f.g.n, .ro false (.pairs l_0.f.g.bars), .ro false (.pairs l_0.f.places), .ro false (.ints l_0.ground)])]⟩ : PS)) (S_FreeJoints_l1 N l_0 k) h (En.of ⟨rfl, rfl, rfl, trivial⟩ ⟨rfl, trivial⟩ ⟨rfl, trivial⟩) (fun _ => rfl) ?_
    rintro n ⟨l17, i18⟩ h
    rw [S_FreeJoints_l1] at h
    show VC _ _ _ (⟨[(1, .ptr 1 0), (3, .row 26 0 l17.length), (4, .int i18)], [(26, some (3, .ints l17))], [(1, some [.int l_0.f.g.n, .ro false (.pairs l_0.f.g.bars), .ro false (.pairs l_0.f.places), .ro false (.ints l_0.ground)])]⟩ : PS)
    iterate 2 refine vSeq ?_
    refine vRegion ?_
    iterate 7 refine oVal tt rfl rfl rfl rfl rfl trivial ?_
    refine oSplit rfl rfl rfl (fun hb1 => ?_) (fun hb1 => ?_)
    · replace h := cnd_t hb1 h
      refine oValG tt rfl rfl rfl rfl rfl hb1 rfl rfl rfl trivial ?_
      obtain ⟨v21, hc2, h⟩ := bind_inv h
      refine oCallG (S_IsLinkage_w N l_0 v21 hc2) rfl rfl rfl rfl hb1 rfl rfl rfl rfl rfl rfl rfl ⟨⟨rfl, rfl, rfl, rfl, trivial⟩, trivial⟩ ?_
      refine oPick rfl rfl rfl rfl rfl hb1 rfl ?_
      refine vNil ?_
      change VC _ _ _ _
      refine vCond rfl (fun hb3 => ?_) (fun hb3 => ?_)
      · replace h := cnd_t hb3 h
        refine vSkip ?_
        change VC _ _ _ _
        refine vSeq ?_
        refine vBlock ?_
        refine vSeq ?_
        refine vRegion ?_
        iterate 3 refine oVal tt rfl rfl rfl rfl rfl trivial ?_
        obtain ⟨v22, hc4, h⟩ := bind_inv h
        refine oCall (S_l2Has_w N l_0.ground i18 v22 hc4) rfl rfl rfl rfl rfl rfl rfl rfl ⟨rfl, rfl, trivial⟩ ?_
        refine oVal tt rfl rfl rfl rfl rfl trivial ?_
        refine vNil ?_
        change VC _ _ _ _
        refine vCond rfl (fun hb5 => ?_) (fun hb5 => ?_)
        · replace h := cnd_t hb5 h
          refine vRegion ?_
          iterate 2 refine oVal tt rfl rfl rfl rfl rfl trivial ?_
          refine oBuild tt rfl rfl rfl rfl rfl rfl rfl rfl rfl rfl rfl ?_
          obtain ⟨hg6, h⟩ := grd_inv h
          refine oAppend tt rfl rfl rfl rfl rfl rfl rfl rfl rfl rfl rfl rfl rfl rfl rfl rfl (Nat.le_of_eq (Nat.zero_add _)) hg6 ?_
          refine oVal tt rfl rfl rfl rfl rfl trivial ?_
          refine vNil ?_
          change VC _ _ _ _
          refine vRegion ?_
          refine oVal tt rfl rfl rfl rfl rfl trivial ?_
          obtain ⟨hg7, h⟩ := grd_inv h
          refine oVal tt rfl rfl rfl rfl rfl hg7 ?_
          refine oVal tt rfl rfl rfl rfl rfl trivial ?_
          refine vNil ?_
          change ∃ _, _
          exact ⟨((l17 ++ ([i18] : List Int)), (i18 + (1 : Int))), (En.of ⟨rfl, rfl, rfl, trivial⟩ ⟨rfl, trivial⟩ ⟨rfl, trivial⟩), h⟩
        · replace h := cnd_f hb5 h
          refine vSkip ?_
          change VC _ _ _ _
          refine vRegion ?_
          refine oVal tt rfl rfl rfl rfl rfl trivial ?_
          obtain ⟨hg8, h⟩ := grd_inv h
          refine oVal tt rfl rfl rfl rfl rfl hg8 ?_
          refine oVal tt rfl rfl rfl rfl rfl trivial ?_
          refine vNil ?_
          change ∃ _, _
          exact ⟨(l17, (i18 + (1 : Int))), (En.of ⟨rfl, rfl, rfl, trivial⟩ ⟨rfl, trivial⟩ ⟨rfl, trivial⟩), h⟩
      · replace h := cnd_f hb3 h
        refine vExit ?_
        change ∃ _, _
        exact ⟨l17, (En.of ⟨rfl, trivial⟩ ⟨rfl, trivial⟩ trivial), h⟩
    · replace h := cnd_f hb1 h
      iterate 2 refine oNoT rfl rfl rfl rfl hb1 rfl rfl ?_
      refine oPickF rfl rfl rfl rfl rfl hb1 rfl ?_
      refine vNil ?_
      change VC _ _ _ _
      refine vCondF rfl rfl ?_
      refine vExit ?_
      change ∃ _, _
      exact ⟨l17, (En.of ⟨rfl, trivial⟩ ⟨rfl, trivial⟩ trivial), h⟩
def I_FreeJoints_l1 (N : Nat) (l_0 : Lnk) (k : (List Int) → Option (List Int)) : Nat → ((List Int) × Int) → Option (List Int)
  | 0, _ => none
  | n + 1, (l12, x13) =>
    cnd (decide (x13 < (l_0.f.places.length : Int))) (
      (G_Contains_int N l_0.ground x13).bind fun v15 =>
      cnd (!v15) (
        grd (l12.length + 1 ≤ 4294967296) <|
        grd (Rg64 (x13 + (1 : Int))) <|
        I_FreeJoints_l1 N l_0 k n ((l12 ++ ([x13] : List Int)), (x13 + (1 : Int)))) (
        grd (Rg64 (x13 + (1 : Int))) <|
        I_FreeJoints_l1 N l_0 k n (l12, (x13 + (1 : Int))))) (
      k l12)
def I_FreeJoints (N : Nat) (l_0 : Lnk) : Option (List Int) :=
  (I_IsLinkage N l_0).bind fun v1 =>
  cnd (!v1) (
    some ([] : List Int)) (
    I_FreeJoints_l1 N l_0 (fun (l8 : List Int) =>
          some l8) N (([] : List Int), (0 : Int)))
set_option maxRecDepth 20000 in
set_option maxHeartbeats 1600000 in
theorem I_FreeJoints_w (N : Nat) (l_0 : Lnk) (r : List Int) (h : I_FreeJoints N l_0 = some r) : PCall Try.prog 61 [lD l_0] [(3, .ints r)] (.row 0 0 r.length) := by
  unfold I_FreeJoints at h
  refine pcall_intro (TT := TT) tt Try.func61 rfl rfl Try.ntmps61 (congrArg Array.toList Try.results61) rfl rfl fun w0 => ?_
  refine vSeq ?_
  refine vRegion ?_
  refine oBox rfl rfl rfl rfl rfl rfl rfl rfl rfl ?_
  refine oVal tt rfl rfl rfl rfl rfl trivial ?_
  refine vNil ?_
  change VC _ _ _ _
  refine vSeq ?_
  refine vRegion ?_
  refine oEmpty tt (wNone rfl) rfl rfl rfl rfl ?_
  refine oVal tt rfl rfl rfl rfl rfl trivial ?_
  refine vNil ?_
  change VC _ _ _ _
  iterate 2 refine vSeq ?_
  refine vRegion ?_
  refine oVal tt rfl rfl rfl rfl rfl trivial ?_
  obtain ⟨v1, hc1, h⟩ := bind_inv h
  refine oCall (I_IsLinkage_w N l_0 v1 hc1) rfl rfl rfl rfl rfl rfl rfl rfl ⟨⟨rfl, rfl, rfl, rfl, trivial⟩, trivial⟩ ?_
  refine oVal tt rfl rfl rfl rfl rfl trivial ?_
  refine vNil ?_
  change VC _ _ _ _
  refine vCond rfl (fun hb2 => ?_) (fun hb2 => ?_)
  · replace h := cnd_t hb2 h
    refine vSeq ?_
    refine vRegion ?_
    iterate 2 refine oVal tt rfl rfl rfl rfl rfl trivial ?_
    refine vNil ?_
    change VC _ _ _ _
    refine vNilT 2 9001 3 (.ints []) rfl rfl rfl rfl ?_
    refine vRet ?_
    change ∃ _, _
    cases h
    exact ⟨[9001], _, rfl, ⟨rfl, trivial⟩, rfl, (.eq rfl), rfl⟩
  · replace h := cnd_f hb2 h
    refine vSkip ?_
    change VC _ _ _ _
    iterate 2 refine vSeq ?_
    refine vRegion ?_
    iterate 5 refine oVal tt rfl rfl rfl rfl rfl trivial ?_
    refine vNil ?_
    change VC _ _ _ _
    refine vJoin (F := fun k => I_FreeJoints_l1 N l_0 k) h (α := List Int) (J := fun (l8 : List Int) => (⟨[(3, .row 25 0 l8.length)], [(25, some (3, .ints l8))], []⟩ : PS)) ?_ ?_
    · rintro l8 h
      show VC _ _ _ (⟨[(3, .row 25 0 l8.length)], [(25, some (3, .ints l8))], []⟩ : PS)
      refine vSeq ?_
      refine vRegion ?_
      iterate 2 refine oVal tt rfl rfl rfl rfl rfl trivial ?_
      refine vNil ?_
      change VC _ _ _ _
      refine vRet ?_
      change ∃ _, _
      cases h
      exact ⟨[25], _, rfl, ⟨rfl, trivial⟩, rfl, (.eq rfl), rfl⟩
    · intro k h
      refine vBlock ?_
      refine vNilT 3 25 3 (.ints []) rfl rfl rfl rfl ?_
      refine vLoopS (α := (List Int) × Int) (fun | (l12, x13) => (⟨[(1, .ptr 1 0), (3, .row 25 0 l12.length), (13, .int (l_0.f.places.length : Int)), (14, .int x13)], [(25, some (3, .ints l12))], [(1, some [.int l_0.f.g.n, .ro false (.pairs l_0.f.g.bars), .ro false (.pairs l_0.f.places), .ro false (.ints l_0.ground)])]⟩ : PS)) (I_FreeJoints_l1 N l_0 k) h (En.of ⟨rfl, rfl, rfl, rfl, trivial⟩ ⟨rfl, trivial⟩ ⟨rfl, trivial⟩) (fun _ => rfl) ?_
      rintro n ⟨l12, x13⟩ h
      rw [I_FreeJoints_l1] at h
      show VC _ _ _ (⟨[(1, .ptr 1 0), (3, .row 25 0 l12.length), (13, .int (l_0.f.places.length : Int)), (14, .int x13)], [(25, some (3, .ints l12))], [(1, some [.int l_0.f.g.n, .ro false (.pairs l_0.f.g.bars), .ro false (.pairs l_0.f.places), .ro false (.ints l_0.ground)])]⟩ : PS)
      refine vSeq ?_
      refine vRegion ?_
      refine oVal tt rfl rfl rfl rfl rfl trivial ?_
      refine vNil ?_
      change VC _ _ _ _
      refine vSeq ?_
      refine vCond rfl (fun hb3 => ?_) (fun hb3 => ?_)
      · replace h := cnd_t hb3 h
        refine vSkip ?_
        change VC _ _ _ _
        refine vSeq ?_
        refine vBlock ?_
        refine vSeq ?_
        refine vRegion ?_
        iterate 2 refine oVal tt rfl rfl rfl rfl rfl trivial ?_
        refine vNil ?_
        change VC _ _ _ _
        refine vSeq ?_
        refine vRegion ?_
        iterate 3 refine oVal tt rfl rfl rfl rfl rfl trivial ?_
        obtain ⟨v15, hc4, h⟩ := bind_inv h
        refine oCall (G_Contains_int_w N l_0.ground x13 v15 hc4) rfl rfl rfl rfl rfl rfl rfl rfl ⟨rfl, rfl, trivial⟩ ?_
        refine oVal tt rfl rfl rfl rfl rfl trivial ?_
        refine vNil ?_
        change VC _ _ _ _
        refine vCond rfl (fun hb5 => ?_) (fun hb5 => ?_)
        · replace h := cnd_t hb5 h
          refine vRegion ?_
          iterate 2 refine oVal tt rfl rfl rfl rfl rfl trivial ?_
          refine oBuild tt rfl rfl rfl rfl rfl rfl rfl rfl rfl rfl rfl ?_
          obtain ⟨hg6, h⟩ := grd_inv h
          refine oAppend tt rfl rfl rfl rfl rfl rfl rfl rfl rfl rfl rfl rfl rfl rfl rfl rfl (Nat.le_of_eq (Nat.zero_add _)) hg6 ?_
          refine oVal tt rfl rfl rfl rfl rfl trivial ?_
          refine vNil ?_
          change VC _ _ _ _
          refine vRegion ?_
          obtain ⟨hg7, h⟩ := grd_inv h
          refine oVal tt rfl rfl rfl rfl rfl hg7 ?_
          refine oVal tt rfl rfl rfl rfl rfl trivial ?_
          refine vNil ?_
          change ∃ _, _
          exact ⟨((l12 ++ ([x13] : List Int)), (x13 + (1 : Int))), (En.of ⟨rfl, rfl, rfl, rfl, trivial⟩ ⟨rfl, trivial⟩ ⟨rfl, trivial⟩), h⟩
        · replace h := cnd_f hb5 h
          refine vSkip ?_
          change VC _ _ _ _
          refine vRegion ?_
          obtain ⟨hg8, h⟩ := grd_inv h
          refine oVal tt rfl rfl rfl rfl rfl hg8 ?_
          refine oVal tt rfl rfl rfl rfl rfl trivial ?_
          refine vNil ?_
          change ∃ _, _
          exact ⟨(l12, (x13 + (1 : Int))), (En.of ⟨rfl, rfl, rfl, rfl, trivial⟩ ⟨rfl, trivial⟩ ⟨rfl, trivial⟩), h⟩
      · replace h := cnd_f hb3 h
        refine vExit ?_
        change ∃ _, _
        exact ⟨l12, (En.of ⟨rfl, trivial⟩ ⟨rfl, trivial⟩ trivial), h⟩
def S_RaisedPoints_l1 (N : Nat) (p_0 : Pin) (l_1 : List (Int × List Int)) (k : (List Int) → Option (List Int)) : Nat → ((List Int) × Int) → Option (List Int)
  | 0, _ => none
  | n + 1, (l11, i12) =>
    cnd (decide (i12 < (l_1.length : Int))) (
      grd (0 ≤ i12 ∧ i12 < (l_1.length : Int)) <|
      (S_IsRaise N p_0 l11 (⟨(l_1.getD ((i12).toNat) (0, [])).1, (l_1.getD ((i12).toNat) (0, [])).2⟩ : Rse)).bind fun v14 =>
      cnd (!v14) (
        some l11) (
        grd (l11.length + 1 ≤ 4294967296) <|
        grd (Rg64 (i12 + (1 : Int))) <|
        S_RaisedPoints_l1 N p_0 l_1 k n ((l11 ++ ([(l_1.getD ((i12).toNat) (0, [])).1] : List Int)), (i12 + (1 : Int))))) (
      k l11)
def S_RaisedPoints (N : Nat) (p_0 : Pin) (l_1 : List (Int × List Int)) : Option (List Int) :=
  S_RaisedPoints_l1 N p_0 l_1 (fun (l7 : List Int) =>
        some l7) N (([] : List Int), (0 : Int))
set_option maxRecDepth 20000 in
set_option maxHeartbeats 1600000 in
theorem S_RaisedPoints_w (N : Nat) (p_0 : Pin) (l_1 : List (Int × List Int)) (r : List Int) (h : S_RaisedPoints N p_0 l_1 = some r) : PCall Try.prog 111 [pD p_0, .ro false (.raises l_1)] [(3, .ints r)] (.row 0 0 r.length) := by
  unfold S_RaisedPoints at h
  refine pcall_intro (TT := TT) tt Try.func111 rfl rfl Try.ntmps111 (congrArg Array.toList Try.results111) rfl rfl fun w0 => ?_
  refine vSeq ?_
  refine vRegion ?_
  refine oBox rfl rfl rfl rfl rfl rfl rfl rfl rfl ?_
  refine oVal tt rfl rfl rfl rfl rfl trivial ?_
  refine vNil ?_
  change VC _ _ _ _
  refine vSeq ?_
  refine vRegion ?_
  refine oEmpty tt (wNone rfl) rfl rfl rfl rfl ?_
  refine oVal tt rfl rfl rfl rfl rfl trivial ?_
  refine vNil ?_
  change VC _ _ _ _
  iterate 2 refine vSeq ?_
  refine vRegion ?_
  refine oVal tt rfl rfl rfl rfl rfl trivial ?_
  refine vNil ?_
  change VC _ _ _ _
  refine vJoin (F := fun k => S_RaisedPoints_l1 N p_0 l_1 k) h (α := List Int) (J := fun (l7 : List Int) => (⟨[(5, .row 30 0 l7.length)], [(30, some (3, .ints l7))], []⟩ : PS)) ?_ ?_
  · rintro l7 h
    show VC _ _ _ (⟨[(5, .row 30 0 l7.length)], [(30, some (3, .ints l7))], []⟩ : PS)
    refine vSeq ?_
    refine vRegion ?_
    iterate 2 refine oVal tt rfl rfl rfl rfl rfl trivial ?_
    refine vNil ?_
    change VC _ _ _ _
    refine vRet ?_
    change ∃ _, _
    cases h
    exact ⟨[30], _, rfl, ⟨rfl, trivial⟩, rfl, (.eq rfl), rfl⟩
  · intro k h
    refine vBlock ?_
    refine vNilT 5 30 3 (.ints []) rfl rfl rfl rfl ?_
    refine vLoopS (α := (List Int) × Int) (fun | (l11, i12) => (⟨[(1, .ro false (.raises l_1)), (2, .ptr 2 0), (5, .row 30 0 l11.length), (6, .int i12)], [(30, some (3, .ints l11))], [(2, some [.int p_0.g.n, .ro false (.pairs p_0.g.bars), .ro false (.ints p_0.ground)])]⟩ : PS)) (S_RaisedPoints_l1 N p_0 l_1 k) h (En.of ⟨rfl, rfl, rfl, rfl, trivial⟩ ⟨rfl, trivial⟩ ⟨rfl, trivial⟩) (fun _ => rfl) ?_
    rintro n ⟨l11, i12⟩ h
    rw [S_RaisedPoints_l1] at h
    show VC _ _ _ (⟨[(1, .ro false (.raises l_1)), (2, .ptr 2 0), (5, .row 30 0 l11.length), (6, .int i12)], [(30, some (3, .ints l11))], [(2, some [.int p_0.g.n, .ro false (.pairs p_0.g.bars), .ro false (.ints p_0.ground)])]⟩ : PS)
    iterate 2 refine vSeq ?_
    refine vRegion ?_
    iterate 4 refine oVal tt rfl rfl rfl rfl rfl trivial ?_
    refine vNil ?_
    change VC _ _ _ _
    refine vCond rfl (fun hb1 => ?_) (fun hb1 => ?_)
    · replace h := cnd_t hb1 h
      refine vSkip ?_
      change VC _ _ _ _
      refine vSeq ?_
      refine vBlock ?_
      iterate 2 refine vSeq ?_
      refine vRegionD (by kernel_rfl) (by kernel_rfl) ?_
      iterate 4 refine cVal tt rfl (wNone rfl) rfl rfl rfl trivial ?_
      obtain ⟨hg2, h⟩ := grd_inv h
      refine cVal tt rfl (wNone rfl) rfl rfl rfl hg2 ?_
      refine cVal tt rfl (wNone rfl) rfl rfl rfl trivial ?_
      obtain ⟨v14, hc3, h⟩ := bind_inv h
      refine cCall (S_IsRaise_w N p_0 l11 (⟨(l_1.getD ((i12).toNat) (0, [])).1, (l_1.getD ((i12).toNat) (0, [])).2⟩ : Rse) v14 hc3) rfl (wNone rfl) rfl rfl rfl rfl rfl rfl ⟨⟨rfl, rfl, rfl, trivial⟩, (.inl ⟨rfl, rfl⟩), ⟨rfl, rfl, trivial⟩, trivial⟩ ?_
      refine cVal tt rfl (wNone rfl) rfl rfl rfl trivial ?_
      refine cNil ?_
      change VC _ _ _ _
      refine vCond rfl (fun hb4 => ?_) (fun hb4 => ?_)
      · replace h := cnd_t hb4 h
        refine vSeq ?_
        refine vRegion ?_
        iterate 2 refine oVal tt rfl rfl rfl rfl rfl trivial ?_
        refine vNil ?_
        change VC _ _ _ _
        refine vRet ?_
        change ∃ _, _
        cases h
        exact ⟨[30], _, rfl, ⟨rfl, trivial⟩, rfl, (.eq rfl), rfl⟩
      · replace h := cnd_f hb4 h
        refine vSkip ?_
        change VC _ _ _ _
        refine vRegion ?_
        iterate 3 refine oVal tt rfl rfl rfl rfl rfl trivial ?_
        refine oVal tt rfl rfl rfl rfl rfl hg2 ?_
        iterate 2 refine oVal tt rfl rfl rfl rfl rfl trivial ?_
        refine oBuild tt rfl rfl rfl rfl rfl rfl rfl rfl rfl rfl rfl ?_
        obtain ⟨hg5, h⟩ := grd_inv h
        refine oAppend tt rfl rfl rfl rfl rfl rfl rfl rfl rfl rfl rfl rfl rfl rfl rfl rfl (Nat.le_of_eq (Nat.zero_add _)) hg5 ?_
        refine oVal tt rfl rfl rfl rfl rfl trivial ?_
        refine vNil ?_
        change VC _ _ _ _
        refine vRegion ?_
        refine oVal tt rfl rfl rfl rfl rfl trivial ?_
        obtain ⟨hg6, h⟩ := grd_inv h
        refine oVal tt rfl rfl rfl rfl rfl hg6 ?_
        refine oVal tt rfl rfl rfl rfl rfl trivial ?_
        refine vNil ?_
        change ∃ _, _
        exact ⟨((l11 ++ ([(l_1.getD ((i12).toNat) (0, [])).1] : List Int)), (i12 + (1 : Int))), (En.of ⟨rfl, rfl, rfl, rfl, trivial⟩ ⟨rfl, trivial⟩ ⟨rfl, trivial⟩), h⟩
    · replace h := cnd_f hb1 h
      refine vExit ?_
      change ∃ _, _
      exact ⟨l11, (En.of ⟨rfl, trivial⟩ ⟨rfl, trivial⟩ trivial), h⟩
def S_IsRaising_l1 (N : Nat) (l_1 : List (Int × List Int)) (k : Int → Option (Bool)) : Nat → (Int × Int) → Option (Bool)
  | 0, _ => none
  | n + 1, (bars8, i9) =>
    cnd (decide (i9 < (l_1.length : Int))) (
      grd (0 ≤ i9 ∧ i9 < (l_1.length : Int)) <|
      grd (Rg64 (bars8 + (((l_1.getD ((i9).toNat) (0, [])).2).length : Int))) <|
      grd (Rg64 (i9 + (1 : Int))) <|
      S_IsRaising_l1 N l_1 k n ((bars8 + (((l_1.getD ((i9).toNat) (0, [])).2).length : Int)), (i9 + (1 : Int)))) (
      k bars8)
def S_IsRaising (N : Nat) (p_0 : Pin) (l_1 : List (Int × List Int)) : Option (Bool) :=
  S_IsRaising_l1 N l_1 (fun (bars3 : Int) =>
        (S_IsPinned N p_0).bind fun v4 =>
        cnd v4 (
          (S_RaisedPoints N p_0 l_1).bind fun v5 =>
          cnd ((v5.length : Int) == (l_1.length : Int)) (
            (S_InnerPoints N p_0).bind fun v6 =>
            cnd ((l_1.length : Int) == (v6.length : Int)) (
              some (bars3 == (p_0.g.bars.length : Int))) (
              some false)) (
            some false)) (
          some false)) N ((0 : Int), (0 : Int))
set_option maxRecDepth 20000 in
set_option maxHeartbeats 1600000 in
theorem S_IsRaising_w (N : Nat) (p_0 : Pin) (l_1 : List (Int × List Int)) (r : Bool) (h : S_IsRaising N p_0 l_1 = some r) : PCall Try.prog 63 [pD p_0, .ro false (.raises l_1)] [] (.bool r) := by
  unfold S_IsRaising at h
  refine pcall_intro (TT := TT) tt Try.func63 rfl rfl Try.ntmps63 (congrArg Array.toList Try.results63) rfl rfl fun w0 => ?_
  refine vSeq ?_
  refine vRegion ?_
  refine oBox rfl rfl rfl rfl rfl rfl rfl rfl rfl ?_
  refine oVal tt rfl rfl rfl rfl rfl trivial ?_
  refine vNil ?_
  change VC _ _ _ _
  refine vSeq ?_
  refine vRegion ?_
  refine oVal tt rfl rfl rfl rfl rfl trivial ?_
  refine vNil ?_
  change VC _ _ _ _
  iterate 2 refine vSeq ?_
  refine vRegion ?_
  refine oVal tt rfl rfl rfl rfl rfl trivial ?_
  refine vNil ?_
  change VC _ _ _ _
  refine vJoin (F := fun k => S_IsRaising_l1 N l_1 k) h (α := Int) (J := fun (bars3 : Int) => (⟨[(1, .ro false (.raises l_1)), (2, .ptr 2 0), (5, .int bars3)], [], [(2, some [.int p_0.g.n, .ro false (.pairs p_0.g.bars), .ro false (.ints p_0.ground)])]⟩ : PS)) ?_ ?_
  · rintro bars3 h
    show VC _ _ _ (⟨[(1, .ro false (.raises l_1)), (2, .ptr 2 0), (5, .int bars3)], [], [(2, some [.int p_0.g.n, .ro false (.pairs p_0.g.bars), .ro false (.ints p_0.ground)])]⟩ : PS)
    refine vSeq ?_
    refine vRegion ?_
    refine oVal tt rfl rfl rfl rfl rfl trivial ?_
    obtain ⟨v4, hc1, h⟩ := bind_inv h
    refine oCall (S_IsPinned_w N p_0 v4 hc1) rfl rfl rfl rfl rfl rfl rfl rfl ⟨⟨rfl, rfl, rfl, trivial⟩, trivial⟩ ?_
    refine oVal tt rfl rfl rfl rfl rfl trivial ?_
    refine oSplit rfl rfl rfl (fun hb2 => ?_) (fun hb2 => ?_)
    · replace h := cnd_t hb2 h
      iterate 2 refine oValG tt rfl rfl rfl rfl rfl hb2 rfl rfl rfl trivial ?_
      obtain ⟨v5, hc3, h⟩ := bind_inv h
      refine oCallG (S_RaisedPoints_w N p_0 l_1 v5 hc3) rfl rfl rfl rfl hb2 rfl rfl rfl rfl rfl rfl rfl ⟨⟨rfl, rfl, rfl, trivial⟩, rfl, trivial⟩ ?_
      iterate 4 refine oValG tt rfl rfl rfl rfl rfl hb2 rfl rfl rfl trivial ?_
      refine oPick rfl rfl rfl rfl rfl hb2 rfl ?_
      refine oVal tt rfl rfl rfl rfl rfl trivial ?_
      refine oSplit rfl rfl rfl (fun hb4 => ?_) (fun hb4 => ?_)
      · replace h := cnd_t hb4 h
        iterate 3 refine oValG tt rfl rfl rfl rfl rfl hb4 rfl rfl rfl trivial ?_
        obtain ⟨v6, hc5, h⟩ := bind_inv h
        refine oCallG (S_InnerPoints_w N p_0 v6 hc5) rfl rfl rfl rfl hb4 rfl rfl rfl rfl rfl rfl rfl ⟨⟨rfl, rfl, rfl, trivial⟩, trivial⟩ ?_
        iterate 2 refine oValG tt rfl rfl rfl rfl rfl hb4 rfl rfl rfl trivial ?_
        refine oPick rfl rfl rfl rfl rfl hb4 rfl ?_
        refine oVal tt rfl rfl rfl rfl rfl trivial ?_
        refine oSplit rfl rfl rfl (fun hb6 => ?_) (fun hb6 => ?_)
        · replace h := cnd_t hb6 h
          iterate 6 refine oValG tt rfl rfl rfl rfl rfl hb6 rfl rfl rfl trivial ?_
          refine oPick rfl rfl rfl rfl rfl hb6 rfl ?_
          refine oVal tt rfl rfl rfl rfl rfl trivial ?_
          refine vNil ?_
          change VC _ _ _ _
          refine vRet ?_
          change ∃ _, _
          cases h
          exact ⟨[], _, rfl, trivial, rfl, (.eq rfl), rfl⟩
        · replace h := cnd_f hb6 h
          iterate 6 refine oNoT rfl rfl rfl rfl hb6 rfl rfl ?_
          refine oPickF rfl rfl rfl rfl rfl hb6 rfl ?_
          refine oVal tt rfl rfl rfl rfl rfl trivial ?_
          refine vNil ?_
          change VC _ _ _ _
          refine vRet ?_
          change ∃ _, _
          cases h
          exact ⟨[], _, rfl, trivial, rfl, (.eq rfl), rfl⟩
      · replace h := cnd_f hb4 h
        iterate 6 refine oNoT rfl rfl rfl rfl hb4 rfl rfl ?_
        refine oPickF rfl rfl rfl rfl rfl hb4 rfl ?_
        refine oVal tt rfl rfl rfl rfl rfl trivial ?_
        iterate 6 refine oNoT rfl rfl rfl rfl rfl rfl rfl ?_
        refine oPickF rfl rfl rfl rfl rfl rfl rfl ?_
        refine oVal tt rfl rfl rfl rfl rfl trivial ?_
        refine vNil ?_
        change VC _ _ _ _
        refine vRet ?_
        change ∃ _, _
        cases h
        exact ⟨[], _, rfl, trivial, rfl, (.eq rfl), rfl⟩
    · replace h := cnd_f hb2 h
      iterate 7 refine oNoT rfl rfl rfl rfl hb2 rfl rfl ?_
      refine oPickF rfl rfl rfl rfl rfl hb2 rfl ?_
      refine oVal tt rfl rfl rfl rfl rfl trivial ?_
      iterate 6 refine oNoT rfl rfl rfl rfl rfl rfl rfl ?_
      refine oPickF rfl rfl rfl rfl rfl rfl rfl ?_
      refine oVal tt rfl rfl rfl rfl rfl trivial ?_
      iterate 6 refine oNoT rfl rfl rfl rfl rfl rfl rfl ?_
      refine oPickF rfl rfl rfl rfl rfl rfl rfl ?_
      refine oVal tt rfl rfl rfl rfl rfl trivial ?_
      refine vNil ?_
      change VC _ _ _ _
      refine vRet ?_
      change ∃ _, _
      cases h
      exact ⟨[], _, rfl, trivial, rfl, (.eq rfl), rfl⟩
  · intro k h
    refine vBlock ?_
    refine vLoopS (α := Int × Int) (fun | (bars8, i9) => (⟨[(1, .ro false (.raises l_1)), (2, .ptr 2 0), (5, .int bars8), (6, .int i9)], [], [(2, some [.int p_0.g.n, .ro false (.pairs p_0.g.bars), .ro false (.ints p_0.ground)])]⟩ : PS)) (S_IsRaising_l1 N l_1 k) h (En.of ⟨rfl, rfl, rfl, rfl, trivial⟩ trivial ⟨rfl, trivial⟩) (fun _ => rfl) ?_
    rintro n ⟨bars8, i9⟩ h
    rw [S_IsRaising_l1] at h
    show VC _ _ _ (⟨[(1, .ro false (.raises l_1)), (2, .ptr 2 0), (5, .int bars8), (6, .int i9)], [], [(2, some [.int p_0.g.n, .ro false (.pairs p_0.g.bars), .ro false (.ints p_0.ground)])]⟩ : PS)
    iterate 2 refine vSeq ?_
    refine vRegion ?_
    iterate 4 refine oVal tt rfl rfl rfl rfl rfl trivial ?_
    refine vNil ?_
    change VC _ _ _ _
    refine vCond rfl (fun hb7 => ?_) (fun hb7 => ?_)
    · replace h := cnd_t hb7 h
      refine vSkip ?_
      change VC _ _ _ _
      refine vSeq ?_
      refine vBlock ?_
      refine vRegion ?_
      iterate 3 refine oVal tt rfl rfl rfl rfl rfl trivial ?_
      obtain ⟨hg8, h⟩ := grd_inv h
      refine oVal tt rfl rfl rfl rfl rfl hg8 ?_
      iterate 3 refine oVal tt rfl rfl rfl rfl rfl trivial ?_
      obtain ⟨hg9, h⟩ := grd_inv h
      refine oVal tt rfl rfl rfl rfl rfl hg9 ?_
      refine oVal tt rfl rfl rfl rfl rfl trivial ?_
      refine vNil ?_
      change VC _ _ _ _
      refine vRegion ?_
      refine oVal tt rfl rfl rfl rfl rfl trivial ?_
      obtain ⟨hg10, h⟩ := grd_inv h
      refine oVal tt rfl rfl rfl rfl rfl hg10 ?_
      refine oVal tt rfl rfl rfl rfl rfl trivial ?_
      refine vNil ?_
      change ∃ _, _
      exact ⟨((bars8 + (((l_1.getD ((i9).toNat) (0, [])).2).length : Int)), (i9 + (1 : Int))), (En.of ⟨rfl, rfl, rfl, rfl, trivial⟩ trivial ⟨rfl, trivial⟩), h⟩
    · replace h := cnd_f hb7 h
      refine vExit ?_
      change ∃ _, _
      exact ⟨bars8, (En.of ⟨rfl, rfl, rfl, trivial⟩ trivial ⟨rfl, trivial⟩), h⟩
def I_RaisedPoints_l1 (N : Nat) (p_0 : Pin) (l_1 : List (Int × List Int)) (k : (List Int) → Option (List Int)) : Nat → ((List Int) × Int) → Option (List Int)
  | 0, _ => none
  | n + 1, (l11, x12) =>
    cnd (decide (x12 < (l_1.length : Int))) (
      grd (0 ≤ x12 ∧ x12 < (l_1.length : Int)) <|
      (I_IsRaise N p_0 l11 (⟨(l_1.getD ((x12).toNat) (0, [])).1, (l_1.getD ((x12).toNat) (0, [])).2⟩ : Rse)).bind fun v14 =>
      cnd (!v14) (
        k l11) (
        grd (l11.length + 1 ≤ 4294967296) <|
        grd (Rg64 (x12 + (1 : Int))) <|
        I_RaisedPoints_l1 N p_0 l_1 k n ((l11 ++ ([(l_1.getD ((x12).toNat) (0, [])).1] : List Int)), (x12 + (1 : Int))))) (
      k l11)
def I_RaisedPoints (N : Nat) (p_0 : Pin) (l_1 : List (Int × List Int)) : Option (List Int) :=
  I_RaisedPoints_l1 N p_0 l_1 (fun (l7 : List Int) =>
        some l7) N (([] : List Int), (0 : Int))
set_option maxRecDepth 20000 in
set_option maxHeartbeats 1600000 in
theorem I_RaisedPoints_w (N : Nat) (p_0 : Pin) (l_1 : List (Int × List Int)) (r : List Int) (h : I_RaisedPoints N p_0 l_1 = some r) : PCall Try.prog 112 [pD p_0, .ro false (.raises l_1)] [(3, .ints r)] (.row 0 0 r.length) := by
  unfold I_RaisedPoints at h
  refine pcall_intro (TT := TT) tt Try.func112 rfl rfl Try.ntmps112 (congrArg Array.toList Try.results112) rfl rfl fun w0 => ?_
  refine vSeq ?_
  refine vRegion ?_
  refine oBox rfl rfl rfl rfl rfl rfl rfl rfl rfl ?_
  refine oVal tt rfl rfl rfl rfl rfl trivial ?_
  refine vNil ?_
  change VC _ _ _ _
  refine vSeq ?_
  refine vRegion ?_
  refine oEmpty tt (wNone rfl) rfl rfl rfl rfl ?_
  refine oVal tt rfl rfl rfl rfl rfl trivial ?_
  refine vNil ?_
  change VC _ _ _ _
  iterate 2 refine vSeq ?_
  refine vRegion ?_
  iterate 3 refine oVal tt rfl rfl rfl rfl rfl trivial ?_
  refine vNil ?_
  change VC _ _ _ _
  refine vJoin (F := fun k => I_RaisedPoints_l1 N p_0 l_1 k) h (α := List Int) (J := fun (l7 : List Int) => (⟨[(5, .row 24 0 l7.length)], [(24, some (3, .ints l7))], []⟩ : PS)) ?_ ?_
  · rintro l7 h
    show VC _ _ _ (⟨[(5, .row 24 0 l7.length)], [(24, some (3, .ints l7))], []⟩ : PS)
    refine vSeq ?_
    refine vRegion ?_
    iterate 2 refine oVal tt rfl rfl rfl rfl rfl trivial ?_
    refine vNil ?_
    change VC _ _ _ _
    refine vRet ?_
    change ∃ _, _
    cases h
    exact ⟨[24], _, rfl, ⟨rfl, trivial⟩, rfl, (.eq rfl), rfl⟩
  · intro k h
    refine vBlock ?_
    refine vNilT 5 24 3 (.ints []) rfl rfl rfl rfl ?_
    refine vLoopS (α := (List Int) × Int) (fun | (l11, x12) => (⟨[(2, .ptr 2 0), (5, .row 24 0 l11.length), (9, .ro false (.raises l_1)), (10, .int (l_1.length : Int)), (11, .int x12)], [(24, some (3, .ints l11))], [(2, some [.int p_0.g.n, .ro false (.pairs p_0.g.bars), .ro false (.ints p_0.ground)])]⟩ : PS)) (I_RaisedPoints_l1 N p_0 l_1 k) h (En.of ⟨rfl, rfl, rfl, rfl, rfl, trivial⟩ ⟨rfl, trivial⟩ ⟨rfl, trivial⟩) (fun _ => rfl) ?_
    rintro n ⟨l11, x12⟩ h
    rw [I_RaisedPoints_l1] at h
    show VC _ _ _ (⟨[(2, .ptr 2 0), (5, .row 24 0 l11.length), (9, .ro false (.raises l_1)), (10, .int (l_1.length : Int)), (11, .int x12)], [(24, some (3, .ints l11))], [(2, some [.int p_0.g.n, .ro false (.pairs p_0.g.bars), .ro false (.ints p_0.ground)])]⟩ : PS)
    refine vSeq ?_
    refine vRegion ?_
    refine oVal tt rfl rfl rfl rfl rfl trivial ?_
    refine vNil ?_
    change VC _ _ _ _
    refine vSeq ?_
    refine vCond rfl (fun hb1 => ?_) (fun hb1 => ?_)
    · replace h := cnd_t hb1 h
      refine vSkip ?_
      change VC _ _ _ _
      refine vSeq ?_
      refine vBlock ?_
      refine vSeq ?_
      refine vRegion ?_
      obtain ⟨hg2, h⟩ := grd_inv h
      refine oVal tt rfl rfl rfl rfl rfl hg2 ?_
      refine oVal tt rfl rfl rfl rfl rfl trivial ?_
      refine oAlloc tt rfl rfl rfl rfl rfl rfl rfl rfl rfl ?_
      refine oStore tt rfl rfl rfl rfl rfl rfl rfl rfl rfl rfl rfl ⟨trivial, trivial, trivial⟩ ?_
      refine vNil ?_
      change VC _ _ _ _
      iterate 2 refine vSeq ?_
      refine vRegion ?_
      iterate 3 refine oVal tt rfl rfl rfl rfl rfl trivial ?_
      obtain ⟨v14, hc3, h⟩ := bind_inv h
      refine oCall (I_IsRaise_w N p_0 l11 (⟨(l_1.getD ((x12).toNat) (0, [])).1, (l_1.getD ((x12).toNat) (0, [])).2⟩ : Rse) v14 hc3) rfl rfl rfl rfl rfl rfl rfl rfl ⟨⟨rfl, rfl, rfl, trivial⟩, (.inl ⟨rfl, rfl⟩), ⟨rfl, rfl, trivial⟩, trivial⟩ ?_
      refine oVal tt rfl rfl rfl rfl rfl trivial ?_
      refine vNil ?_
      change VC _ _ _ _
      refine vCond rfl (fun hb4 => ?_) (fun hb4 => ?_)
      · replace h := cnd_t hb4 h
        refine vExit ?_
        change ∃ _, _
        exact ⟨l11, (En.of ⟨rfl, trivial⟩ ⟨rfl, trivial⟩ trivial), h⟩
      · replace h := cnd_f hb4 h
        refine vSkip ?_
        change VC _ _ _ _
        refine vRegion ?_
        iterate 3 refine oVal tt rfl rfl rfl rfl rfl trivial ?_
        refine oBuild tt rfl rfl rfl rfl rfl rfl rfl rfl rfl rfl rfl ?_
        obtain ⟨hg5, h⟩ := grd_inv h
        refine oAppend tt rfl rfl rfl rfl rfl rfl rfl rfl rfl rfl rfl rfl rfl rfl rfl rfl (Nat.le_of_eq (Nat.zero_add _)) hg5 ?_
        refine oVal tt rfl rfl rfl rfl rfl trivial ?_
        refine vNil ?_
        change VC _ _ _ _
        refine vRegion ?_
        obtain ⟨hg6, h⟩ := grd_inv h
        refine oVal tt rfl rfl rfl rfl rfl hg6 ?_
        refine oVal tt rfl rfl rfl rfl rfl trivial ?_
        refine vNil ?_
        change ∃ _, _
        exact ⟨((l11 ++ ([(l_1.getD ((x12).toNat) (0, [])).1] : List Int)), (x12 + (1 : Int))), (En.of ⟨rfl, rfl, rfl, rfl, rfl, trivial⟩ ⟨rfl, trivial⟩ ⟨rfl, trivial⟩), h⟩
    · replace h := cnd_f hb1 h
      refine vExit ?_
      change ∃ _, _
      exact ⟨l11, (En.of ⟨rfl, trivial⟩ ⟨rfl, trivial⟩ trivial), h⟩
def I_IsRaising_l1 (N : Nat) (l_1 : List (Int × List Int)) (k : Int → Option (Bool)) : Nat → (Int × Int) → Option (Bool)
  | 0, _ => none
  | n + 1, (bars8, x9) =>
    cnd (decide (x9 < (l_1.length : Int))) (
      grd (0 ≤ x9 ∧ x9 < (l_1.length : Int)) <|
      grd (Rg64 (bars8 + (((l_1.getD ((x9).toNat) (0, [])).2).length : Int))) <|
      grd (Rg64 (x9 + (1 : Int))) <|
      I_IsRaising_l1 N l_1 k n ((bars8 + (((l_1.getD ((x9).toNat) (0, [])).2).length : Int)), (x9 + (1 : Int)))) (
      k bars8)
def I_IsRaising (N : Nat) (p_0 : Pin) (l_1 : List (Int × List Int)) : Option (Bool) :=
  I_IsRaising_l1 N l_1 (fun (bars3 : Int) =>
        (I_RaisedPoints N p_0 l_1).bind fun v4 =>
        (I_IsPinned N p_0).bind fun v5 =>
        cnd v5 (
          cnd ((v4.length : Int) == (l_1.length : Int)) (
            (I_InnerPoints N p_0).bind fun v6 =>
            cnd ((v4.length : Int) == (v6.length : Int)) (
              some (bars3 == (p_0.g.bars.length : Int))) (
              some false)) (
            some false)) (
          some false)) N ((0 : Int), (0 : Int))
set_option maxRecDepth 20000 in
set_option maxHeartbeats 1600000 in
theorem I_IsRaising_w (N : Nat) (p_0 : Pin) (l_1 : List (Int × List Int)) (r : Bool) (h : I_IsRaising N p_0 l_1 = some r) : PCall Try.prog 64 [pD p_0, .ro false (.raises l_1)] [] (.bool r) := by
  unfold I_IsRaising at h
  refine pcall_intro (TT := TT) tt Try.func64 rfl rfl Try.ntmps64 (congrArg Array.toList Try.results64) rfl rfl fun w0 => ?_
  refine vSeq ?_
  refine vRegion ?_
  refine oBox rfl rfl rfl rfl rfl rfl rfl rfl rfl ?_
  refine oVal tt rfl rfl rfl rfl rfl trivial ?_
  refine vNil ?_
  change VC _ _ _ _
  refine vSeq ?_
  refine vRegion ?_
  refine oVal tt rfl rfl rfl rfl rfl trivial ?_
  refine vNil ?_
  change VC _ _ _ _
  iterate 2 refine vSeq ?_
  refine vRegion ?_
  iterate 3 refine oVal tt rfl rfl rfl rfl rfl trivial ?_
  refine vNil ?_
  change VC _ _ _ _
  refine vJoin (F := fun k => I_IsRaising_l1 N l_1 k) h (α := Int) (J := fun (bars3 : Int) => (⟨[(1, .ro false (.raises l_1)), (2, .ptr 2 0), (5, .int bars3)], [], [(2, some [.int p_0.g.n, .ro false (.pairs p_0.g.bars), .ro false (.ints p_0.ground)])]⟩ : PS)) ?_ ?_
  · rintro bars3 h
    show VC _ _ _ (⟨[(1, .ro false (.raises l_1)), (2, .ptr 2 0), (5, .int bars3)], [], [(2, some [.int p_0.g.n, .ro false (.pairs p_0.g.bars), .ro false (.ints p_0.ground)])]⟩ : PS)
    refine vSeq ?_
    refine vRegion ?_
    iterate 2 refine oVal tt rfl rfl rfl rfl rfl trivial ?_
    obtain ⟨v4, hc1, h⟩ := bind_inv h
    refine oCall (I_RaisedPoints_w N p_0 l_1 v4 hc1) rfl rfl rfl rfl rfl rfl rfl rfl ⟨⟨rfl, rfl, rfl, trivial⟩, rfl, trivial⟩ ?_
    iterate 2 refine oVal tt rfl rfl rfl rfl rfl trivial ?_
    refine vNil ?_
    change VC _ _ _ _
    refine vSeq ?_
    refine vRegion ?_
    refine oVal tt rfl rfl rfl rfl rfl trivial ?_
    obtain ⟨v5, hc2, h⟩ := bind_inv h
    refine oCall (I_IsPinned_w N p_0 v5 hc2) rfl rfl rfl rfl rfl rfl rfl rfl ⟨⟨rfl, rfl, rfl, trivial⟩, trivial⟩ ?_
    refine oVal tt rfl rfl rfl rfl rfl trivial ?_
    refine oSplit rfl rfl rfl (fun hb3 => ?_) (fun hb3 => ?_)
    · replace h := cnd_t hb3 h
      iterate 4 refine oValG tt rfl rfl rfl rfl rfl hb3 rfl rfl rfl trivial ?_
      refine oPick rfl rfl rfl rfl rfl hb3 rfl ?_
      refine oVal tt rfl rfl rfl rfl rfl trivial ?_
      refine oSplit rfl rfl rfl (fun hb4 => ?_) (fun hb4 => ?_)
      · replace h := cnd_t hb4 h
        iterate 2 refine oValG tt rfl rfl rfl rfl rfl hb4 rfl rfl rfl trivial ?_
        obtain ⟨v6, hc5, h⟩ := bind_inv h
        refine oCallG (I_InnerPoints_w N p_0 v6 hc5) rfl rfl rfl rfl hb4 rfl rfl rfl rfl rfl rfl rfl ⟨⟨rfl, rfl, rfl, trivial⟩, trivial⟩ ?_
        iterate 2 refine oValG tt rfl rfl rfl rfl rfl hb4 rfl rfl rfl trivial ?_
        refine oPick rfl rfl rfl rfl rfl hb4 rfl ?_
        refine oVal tt rfl rfl rfl rfl rfl trivial ?_
        refine oSplit rfl rfl rfl (fun hb6 => ?_) (fun hb6 => ?_)
        · replace h := cnd_t hb6 h
          iterate 6 refine oValG tt rfl rfl rfl rfl rfl hb6 rfl rfl rfl trivial ?_
          refine oPick rfl rfl rfl rfl rfl hb6 rfl ?_
          refine oVal tt rfl rfl rfl rfl rfl trivial ?_
          refine vNil ?_
          change VC _ _ _ _
          refine vRet ?_
          change ∃ _, _
          cases h
          exact ⟨[], _, rfl, trivial, rfl, (.eq rfl), rfl⟩
        · replace h := cnd_f hb6 h
          iterate 6 refine oNoT rfl rfl rfl rfl hb6 rfl rfl ?_
          refine oPickF rfl rfl rfl rfl rfl hb6 rfl ?_
          refine oVal tt rfl rfl rfl rfl rfl trivial ?_
          refine vNil ?_
          change VC _ _ _ _
          refine vRet ?_
          change ∃ _, _
          cases h
          exact ⟨[], _, rfl, trivial, rfl, (.eq rfl), rfl⟩
      · replace h := cnd_f hb4 h
        iterate 5 refine oNoT rfl rfl rfl rfl hb4 rfl rfl ?_
        refine oPickF rfl rfl rfl rfl rfl hb4 rfl ?_
        refine oVal tt rfl rfl rfl rfl rfl trivial ?_
        iterate 6 refine oNoT rfl rfl rfl rfl rfl rfl rfl ?_
        refine oPickF rfl rfl rfl rfl rfl rfl rfl ?_
        refine oVal tt rfl rfl rfl rfl rfl trivial ?_
        refine vNil ?_
        change VC _ _ _ _
        refine vRet ?_
        change ∃ _, _
        cases h
        exact ⟨[], _, rfl, trivial, rfl, (.eq rfl), rfl⟩
    · replace h := cnd_f hb3 h
      iterate 4 refine oNoT rfl rfl rfl rfl hb3 rfl rfl ?_
      refine oPickF rfl rfl rfl rfl rfl hb3 rfl ?_
      refine oVal tt rfl rfl rfl rfl rfl trivial ?_
      iterate 5 refine oNoT rfl rfl rfl rfl rfl rfl rfl ?_
      refine oPickF rfl rfl rfl rfl rfl rfl rfl ?_
      refine oVal tt rfl rfl rfl rfl rfl trivial ?_
      iterate 6 refine oNoT rfl rfl rfl rfl rfl rfl rfl ?_
      refine oPickF rfl rfl rfl rfl rfl rfl rfl ?_
      refine oVal tt rfl rfl rfl rfl rfl trivial ?_
      refine vNil ?_
      change VC _ _ _ _
      refine vRet ?_
      change ∃ _, _
      cases h
      exact ⟨[], _, rfl, trivial, rfl, (.eq rfl), rfl⟩
  · intro k h
    refine vBlock ?_
    refine vLoopS (α := Int × Int) (fun | (bars8, x9) => (⟨[(1, .ro false (.raises l_1)), (2, .ptr 2 0), (5, .int bars8), (9, .ro false (.raises l_1)), (10, .int (l_1.length : Int)), (11, .int x9)], [], [(2, some [.int p_0.g.n, .ro false (.pairs p_0.g.bars), .ro false (.ints p_0.ground)])]⟩ : PS)) (I_IsRaising_l1 N l_1 k) h (En.of ⟨rfl, rfl, rfl, rfl, rfl, rfl, trivial⟩ trivial ⟨rfl, trivial⟩) (fun _ => rfl) ?_
    rintro n ⟨bars8, x9⟩ h
    rw [I_IsRaising_l1] at h
    show VC _ _ _ (⟨[(1, .ro false (.raises l_1)), (2, .ptr 2 0), (5, .int bars8), (9, .ro false (.raises l_1)), (10, .int (l_1.length : Int)), (11, .int x9)], [], [(2, some [.int p_0.g.n, .ro false (.pairs p_0.g.bars), .ro false (.ints p_0.ground)])]⟩ : PS)
    refine vSeq ?_
    refine vRegion ?_
    refine oVal tt rfl rfl rfl rfl rfl trivial ?_
    refine vNil ?_
    change VC _ _ _ _
    refine vSeq ?_
    refine vCond rfl (fun hb7 => ?_) (fun hb7 => ?_)
    · replace h := cnd_t hb7 h
      refine vSkip ?_
      change VC _ _ _ _
      refine vSeq ?_
      refine vBlock ?_
      refine vSeq ?_
      refine vRegion ?_
      obtain ⟨hg8, h⟩ := grd_inv h
      refine oVal tt rfl rfl rfl rfl rfl hg8 ?_
      refine oVal tt rfl rfl rfl rfl rfl trivial ?_
      refine oAlloc tt rfl rfl rfl rfl rfl rfl rfl rfl rfl ?_
      refine oStore tt rfl rfl rfl rfl rfl rfl rfl rfl rfl rfl rfl ⟨trivial, trivial, trivial⟩ ?_
      refine vNil ?_
      change VC _ _ _ _
      refine vRegion ?_
      iterate 4 refine oVal tt rfl rfl rfl rfl rfl trivial ?_
      obtain ⟨hg9, h⟩ := grd_inv h
      refine oVal tt rfl rfl rfl rfl rfl hg9 ?_
      refine oVal tt rfl rfl rfl rfl rfl trivial ?_
      refine vNil ?_
      change VC _ _ _ _
      refine vRegion ?_
      obtain ⟨hg10, h⟩ := grd_inv h
      refine oVal tt rfl rfl rfl rfl rfl hg10 ?_
      refine oVal tt rfl rfl rfl rfl rfl trivial ?_
      refine vNil ?_
      change ∃ _, _
      exact ⟨((bars8 + (((l_1.getD ((x9).toNat) (0, [])).2).length : Int)), (x9 + (1 : Int))), (En.of ⟨rfl, rfl, rfl, rfl, rfl, rfl, trivial⟩ trivial ⟨rfl, trivial⟩), h⟩
    · replace h := cnd_f hb7 h
      refine vExit ?_
      change ∃ _, _
      exact ⟨bars8, (En.of ⟨rfl, rfl, rfl, trivial⟩ trivial ⟨rfl, trivial⟩), h⟩
end Go.Proofs.Ytlmlfbjcpajinaa
