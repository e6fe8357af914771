/- Plain texts of functions, and that the program computes them (printed by gen.py). -/
import Derived.Test.YtlmlfbjcpajinaaShb
import Derived.Test.YtlmlfbjcpajinaaG10
import Derived.Test.YtlmlfbjcpajinaaG11
import Derived.Test.YtlmlfbjcpajinaaG15
import Derived.Test.YtlmlfbjcpajinaaG19
namespace Go.Proofs.Ytlmlfbjcpajinaa
open Go.RowKit
set_option linter.unusedVariables false
set_option linter.unusedSimpArgs false
def S_l6Same_l1 (N : Nat) (a_0 : List Int) (b_1 : List Int) (k : Unit → Option (Bool)) : Nat → Int → Option (Bool)
  | 0, _ => none
  | n + 1, i3 =>
    cnd (decide (i3 < (a_0.length : Int))) (
      grd (0 ≤ i3 ∧ i3 < (a_0.length : Int)) <|
      grd (0 ≤ i3 ∧ i3 < (b_1.length : Int)) <|
      cnd ((a_0.getD ((i3).toNat) 0) != (b_1.getD ((i3).toNat) 0)) (
        some false) (
        grd (Rg64 (i3 + (1 : Int))) <|
        S_l6Same_l1 N a_0 b_1 k n (i3 + (1 : Int)))) (
      k ())
def S_l6Same (N : Nat) (a_0 : List Int) (b_1 : List Int) : Option (Bool) :=
  cnd ((a_0.length : Int) != (b_1.length : Int)) (
    some false) (
    S_l6Same_l1 N a_0 b_1 (fun (_ : Unit) =>
          some true) N (0 : Int))
set_option maxRecDepth 20000 in
set_option maxHeartbeats 1600000 in
theorem S_l6Same_w (N : Nat) (a_0 : List Int) (b_1 : List Int) (r : Bool) (h : S_l6Same N a_0 b_1 = some r) : PCall Try.prog 128 [.ro false (.ints a_0), .ro false (.ints b_1)] [] (.bool r) := by
  unfold S_l6Same at h
  refine pcall_intro (TT := TT) tt Try.func128 rfl rfl Try.ntmps128 (congrArg Array.toList Try.results128) rfl rfl fun w0 => ?_
  refine vSeq ?_
  refine vRegion ?_
  refine oVal tt rfl rfl rfl rfl rfl trivial ?_
  refine vNil ?_
  change VC _ _ _ _
  iterate 2 refine vSeq ?_
  refine vRegion ?_
  iterate 5 refine oVal tt rfl rfl rfl rfl rfl trivial ?_
  refine vNil ?_
  change VC _ _ _ _
  refine vCond rfl (fun hb1 => ?_) (fun hb1 => ?_)
  · replace h := cnd_t hb1 h
    refine vSeq ?_
    refine vRegion ?_
    refine oVal tt rfl rfl rfl rfl rfl trivial ?_
    refine vNil ?_
    change VC _ _ _ _
    refine vRet ?_
    change ∃ _, _
    cases h
    exact ⟨[], _, rfl, trivial, rfl, (.eq rfl), rfl⟩
  · replace h := cnd_f hb1 h
    refine vSkip ?_
    change VC _ _ _ _
    iterate 2 refine vSeq ?_
    refine vRegion ?_
    refine oVal tt rfl rfl rfl rfl rfl trivial ?_
    refine vNil ?_
    change VC _ _ _ _
    refine vJoin (F := fun k => S_l6Same_l1 N a_0 b_1 k) h (α := Unit) (J := fun (_ : Unit) => (⟨[], [], []⟩ : PS)) ?_ ?_
    · rintro ⟨⟩ h
      show VC _ _ _ (⟨[], [], []⟩ : PS)
      refine vSeq ?_
      refine vRegion ?_
      refine oVal tt rfl rfl rfl rfl rfl trivial ?_
      refine vNil ?_
      change VC _ _ _ _
      refine vRet ?_
      change ∃ _, _
      cases h
      exact ⟨[], _, rfl, trivial, rfl, (.eq rfl), rfl⟩
    · intro k h
      refine vBlock ?_
      refine vLoopS (α := Int) (fun (i3 : Int) => (⟨[(0, .ro false (.ints a_0)), (1, .ro false (.ints b_1)), (5, .int i3)], [], []⟩ : PS)) (S_l6Same_l1 N a_0 b_1 k) h (En.of ⟨rfl, rfl, rfl, trivial⟩ trivial trivial) (fun _ => rfl) ?_
      rintro n i3 h
      rw [S_l6Same_l1] at h
      show VC _ _ _ (⟨[(0, .ro false (.ints a_0)), (1, .ro false (.ints b_1)), (5, .int i3)], [], []⟩ : PS)
      iterate 2 refine vSeq ?_
      refine vRegion ?_
      iterate 4 refine oVal tt rfl rfl rfl rfl rfl trivial ?_
      refine vNil ?_
      change VC _ _ _ _
      refine vCond rfl (fun hb2 => ?_) (fun hb2 => ?_)
      · replace h := cnd_t hb2 h
        refine vSkip ?_
        change VC _ _ _ _
        refine vSeq ?_
        refine vBlock ?_
        refine vSeq ?_
        refine vRegionD (by kernel_rfl) (by kernel_rfl) ?_
        iterate 2 refine cVal tt rfl (wNone rfl) rfl rfl rfl trivial ?_
        obtain ⟨hg3, h⟩ := grd_inv h
        refine cVal tt rfl (wNone rfl) rfl rfl rfl hg3 ?_
        iterate 3 refine cVal tt rfl (wNone rfl) rfl rfl rfl trivial ?_
        obtain ⟨hg4, h⟩ := grd_inv h
        refine cVal tt rfl (wNone rfl) rfl rfl rfl hg4 ?_
        iterate 2 refine cVal tt rfl (wNone rfl) rfl rfl rfl trivial ?_
        refine cNil ?_
        change VC _ _ _ _
        refine vCond rfl (fun hb5 => ?_) (fun hb5 => ?_)
        · replace h := cnd_t hb5 h
          refine vSeq ?_
          refine vRegion ?_
          refine oVal tt rfl rfl rfl rfl rfl trivial ?_
          refine vNil ?_
          change VC _ _ _ _
          refine vRet ?_
          change ∃ _, _
          cases h
          exact ⟨[], _, rfl, trivial, rfl, (.eq rfl), rfl⟩
        · replace h := cnd_f hb5 h
          refine vSkip ?_
          change VC _ _ _ _
          refine vRegion ?_
          refine oVal tt rfl rfl rfl rfl rfl trivial ?_
          obtain ⟨hg6, h⟩ := grd_inv h
          refine oVal tt rfl rfl rfl rfl rfl hg6 ?_
          refine oVal tt rfl rfl rfl rfl rfl trivial ?_
          refine vNil ?_
          change ∃ _, _
          exact ⟨(i3 + (1 : Int)), (En.of ⟨rfl, rfl, rfl, trivial⟩ trivial trivial), h⟩
      · replace h := cnd_f hb2 h
        refine vExit ?_
        change ∃ _, _
        exact ⟨(), (En.of trivial trivial trivial), h⟩
def S_SquareLengths_l1 (N : Nat) (f_0 : Frm) (k : (List Int) → Option (List Int)) : Nat → ((List Int) × Int) → Option (List Int)
  | 0, _ => none
  | n + 1, (l11, i12) =>
    cnd (decide (i12 < (f_0.g.bars.length : Int))) (
      (S_IsFramework N f_0).bind fun v14 =>
      cnd v14 (
        grd (0 ≤ i12 ∧ i12 < (f_0.g.bars.length : Int)) <|
        grd (0 ≤ ((f_0.g.bars.getD ((i12).toNat) (0, 0)).1) ∧ ((f_0.g.bars.getD ((i12).toNat) (0, 0)).1) < (f_0.places.length : Int)) <|
        grd (0 ≤ ((f_0.g.bars.getD ((i12).toNat) (0, 0)).2) ∧ ((f_0.g.bars.getD ((i12).toNat) (0, 0)).2) < (f_0.places.length : Int)) <|
        grd (Rg64 (((f_0.places.getD (((f_0.g.bars.getD ((i12).toNat) (0, 0)).1).toNat) (0, 0)).1) - ((f_0.places.getD (((f_0.g.bars.getD ((i12).toNat) (0, 0)).2).toNat) (0, 0)).1))) <|
        grd (Rg64 ((((f_0.places.getD (((f_0.g.bars.getD ((i12).toNat) (0, 0)).1).toNat) (0, 0)).1) - ((f_0.places.getD (((f_0.g.bars.getD ((i12).toNat) (0, 0)).2).toNat) (0, 0)).1)) * (((f_0.places.getD (((f_0.g.bars.getD ((i12).toNat) (0, 0)).1).toNat) (0, 0)).1) - ((f_0.places.getD (((f_0.g.bars.getD ((i12).toNat) (0, 0)).2).toNat) (0, 0)).1)))) <|
        grd (Rg64 (((f_0.places.getD (((f_0.g.bars.getD ((i12).toNat) (0, 0)).1).toNat) (0, 0)).2) - ((f_0.places.getD (((f_0.g.bars.getD ((i12).toNat) (0, 0)).2).toNat) (0, 0)).2))) <|
        grd (Rg64 ((((f_0.places.getD (((f_0.g.bars.getD ((i12).toNat) (0, 0)).1).toNat) (0, 0)).2) - ((f_0.places.getD (((f_0.g.bars.getD ((i12).toNat) (0, 0)).2).toNat) (0, 0)).2)) * (((f_0.places.getD (((f_0.g.bars.getD ((i12).toNat) (0, 0)).1).toNat) (0, 0)).2) - ((f_0.places.getD (((f_0.g.bars.getD ((i12).toNat) (0, 0)).2).toNat) (0, 0)).2)))) <|
        grd (Rg64 (((((f_0.places.getD (((f_0.g.bars.getD ((i12).toNat) (0, 0)).1).toNat) (0, 0)).1) - ((f_0.places.getD (((f_0.g.bars.getD ((i12).toNat) (0, 0)).2).toNat) (0, 0)).1)) * (((f_0.places.getD (((f_0.g.bars.getD ((i12).toNat) (0, 0)).1).toNat) (0, 0)).1) - ((f_0.places.getD (((f_0.g.bars.getD ((i12).toNat) (0, 0)).2).toNat) (0, 0)).1))) + ((((f_0.places.getD (((f_0.g.bars.getD ((i12).toNat) (0, 0)).1).toNat) (0, 0)).2) - ((f_0.places.getD (((f_0.g.bars.getD ((i12).toNat) (0, 0)).2).toNat) (0, 0)).2)) * (((f_0.places.getD (((f_0.g.bars.getD ((i12).toNat) (0, 0)).1).toNat) (0, 0)).2) - ((f_0.places.getD (((f_0.g.bars.getD ((i12).toNat) (0, 0)).2).toNat) (0, 0)).2))))) <|
        grd (l11.length + 1 ≤ 4294967296) <|
        grd (Rg64 (i12 + (1 : Int))) <|
        S_SquareLengths_l1 N f_0 k n ((l11 ++ ([(((((f_0.places.getD (((f_0.g.bars.getD ((i12).toNat) (0, 0)).1).toNat) (0, 0)).1) - ((f_0.places.getD (((f_0.g.bars.getD ((i12).toNat) (0, 0)).2).toNat) (0, 0)).1)) * (((f_0.places.getD (((f_0.g.bars.getD ((i12).toNat) (0, 0)).1).toNat) (0, 0)).1) - ((f_0.places.getD (((f_0.g.bars.getD ((i12).toNat) (0, 0)).2).toNat) (0, 0)).1))) + ((((f_0.places.getD (((f_0.g.bars.getD ((i12).toNat) (0, 0)).1).toNat) (0, 0)).2) - ((f_0.places.getD (((f_0.g.bars.getD ((i12).toNat) (0, 0)).2).toNat) (0, 0)).2)) * (((f_0.places.getD (((f_0.g.bars.getD ((i12).toNat) (0, 0)).1).toNat) (0, 0)).2) - ((f_0.places.getD (((f_0.g.bars.getD ((i12).toNat) (0, 0)).2).toNat) (0, 0)).2))))] : List Int)), (i12 + (1 : Int)))) (
        k l11)) (
      k l11)
def S_SquareLengths (N : Nat) (f_0 : Frm) : Option (List Int) :=
  S_SquareLengths_l1 N f_0 (fun (l7 : List Int) =>
        some l7) N (([] : List Int), (0 : Int))
set_option maxRecDepth 20000 in
set_option maxHeartbeats 1600000 in
theorem S_SquareLengths_w (N : Nat) (f_0 : Frm) (r : List Int) (h : S_SquareLengths N f_0 = some r) : PCall Try.prog 129 [fD f_0] [(3, .ints r)] (.row 0 0 r.length) := by
  unfold S_SquareLengths at h
  refine pcall_intro (TT := TT) tt Try.func129 rfl rfl Try.ntmps129 (congrArg Array.toList Try.results129) rfl rfl fun w0 => ?_
  refine vSeq ?_
  refine vRegion ?_
  refine oBox rfl rfl rfl rfl rfl rfl rfl rfl rfl ?_
  refine oVal tt rfl rfl rfl rfl rfl trivial ?_
  refine vNil ?_
  change VC _ _ _ _
  refine vSeq ?_
  refine vRegion ?_
  refine oEmpty tt (wNone rfl) rfl rfl rfl rfl ?_
  refine oVal tt rfl rfl rfl rfl rfl trivial ?_
  refine vNil ?_
  change VC _ _ _ _
  iterate 2 refine vSeq ?_
  refine vRegion ?_
  refine oVal tt rfl rfl rfl rfl rfl trivial ?_
  refine vNil ?_
  change VC _ _ _ _
  refine vJoin (F := fun k => S_SquareLengths_l1 N f_0 k) h (α := List Int) (J := fun (l7 : List Int) => (⟨[(3, .row 67 0 l7.length)], [(67, some (3, .ints l7))], []⟩ : PS)) ?_ ?_
  · rintro l7 h
    show VC _ _ _ (⟨[(3, .row 67 0 l7.length)], [(67, some (3, .ints l7))], []⟩ : PS)
    refine vSeq ?_
    refine vRegion ?_
    iterate 2 refine oVal tt rfl rfl rfl rfl rfl trivial ?_
    refine vNil ?_
    change VC _ _ _ _
    refine vRet ?_
    change ∃ _, _
    cases h
    exact ⟨[67], _, rfl, ⟨rfl, trivial⟩, rfl, (.eq rfl), rfl⟩
  · intro k h
    refine vBlock ?_
    refine vNilT 3 67 3 (.ints []) rfl rfl rfl rfl ?_
    refine vLoopS (α := (List Int) × Int) (fun | (l11, i12) => (⟨[(1, .ptr 1 0), (3, .row 67 0 l11.length), (4, .int i12)], [(67, some (3, .ints l11))], [(1, some [.int f_0.g.n, .ro false (.pairs f_0.g.bars), .ro false (.pairs f_0.places)])]⟩ : PS)) (S_SquareLengths_l1 N f_0 k) h (En.of ⟨rfl, rfl, rfl, trivial⟩ ⟨rfl, trivial⟩ ⟨rfl, trivial⟩) (fun _ => rfl) ?_
    rintro n ⟨l11, i12⟩ h
    rw [S_SquareLengths_l1] at h
    show VC _ _ _ (⟨[(1, .ptr 1 0), (3, .row 67 0 l11.length), (4, .int i12)], [(67, some (3, .ints l11))], [(1, some [.int f_0.g.n, .ro false (.pairs f_0.g.bars), .ro false (.pairs f_0.places)])]⟩ : PS)
    iterate 2 refine vSeq ?_
    refine vRegion ?_
    iterate 7 refine oVal tt rfl rfl rfl rfl rfl trivial ?_
    refine oSplit rfl rfl rfl (fun hb1 => ?_) (fun hb1 => ?_)
    · replace h := cnd_t hb1 h
      refine oValG tt rfl rfl rfl rfl rfl hb1 rfl rfl rfl trivial ?_
      obtain ⟨v14, hc2, h⟩ := bind_inv h
      refine oCallG (S_IsFramework_w N f_0 v14 hc2) rfl rfl rfl rfl hb1 rfl rfl rfl rfl rfl rfl rfl ⟨⟨rfl, rfl, rfl, trivial⟩, trivial⟩ ?_
      refine oPick rfl rfl rfl rfl rfl hb1 rfl ?_
      refine vNil ?_
      change VC _ _ _ _
      refine vCond rfl (fun hb3 => ?_) (fun hb3 => ?_)
      · replace h := cnd_t hb3 h
        refine vSkip ?_
        change VC _ _ _ _
        refine vSeq ?_
        refine vBlock ?_
        refine vSeq ?_
        refine vRegionN 12 [11] [0, 1, 0, 4, 12, 0, 60, 124, 252, 511, 1023, 0, 4095] (by kernel_rfl) (by kernel_rfl) (by kernel_rfl) (by kernel_rfl) (by kernel_rfl) rfl (by rfl) ?_
        iterate 6 refine nVal tt rfl (wNone rfl) rfl rfl rfl rfl rfl trivial ?_
        obtain ⟨hg4, h⟩ := grd_inv h
        refine nVal tt rfl (wNone rfl) rfl rfl rfl rfl rfl hg4 ?_
        iterate 2 refine nVal tt rfl (wNone rfl) rfl rfl rfl rfl rfl trivial ?_
        obtain ⟨hg5, h⟩ := grd_inv h
        refine nVal tt rfl (wNone rfl) rfl rfl rfl rfl rfl hg5 ?_
        refine nVal tt rfl (wNone rfl) rfl rfl rfl rfl rfl trivial ?_
        refine nAlloc tt (wNone rfl) rfl rfl rfl rfl rfl rfl rfl rfl rfl rfl ?_
        refine nNil ?_
        change VO _ _ _ _ _
        refine oStore tt rfl rfl rfl rfl rfl rfl rfl rfl rfl rfl rfl ⟨trivial, trivial, trivial⟩ ?_
        refine vNil ?_
        change VC _ _ _ _
        refine vSeq ?_
        refine vRegionN 12 [11] [0, 1, 0, 4, 12, 0, 60, 124, 252, 511, 1023, 0, 4095] (by kernel_rfl) (by kernel_rfl) (by kernel_rfl) (by kernel_rfl) (by kernel_rfl) rfl (by rfl) ?_
        iterate 6 refine nVal tt rfl (wNone rfl) rfl rfl rfl rfl rfl trivial ?_
        refine nVal tt rfl (wNone rfl) rfl rfl rfl rfl rfl hg4 ?_
        iterate 2 refine nVal tt rfl (wNone rfl) rfl rfl rfl rfl rfl trivial ?_
        obtain ⟨hg6, h⟩ := grd_inv h
        refine nVal tt rfl (wNone rfl) rfl rfl rfl rfl rfl hg6 ?_
        refine nVal tt rfl (wNone rfl) rfl rfl rfl rfl rfl trivial ?_
        refine nAlloc tt (wNone rfl) rfl rfl rfl rfl rfl rfl rfl rfl rfl rfl ?_
        refine nNil ?_
        change VO _ _ _ _ _
        refine oStore tt rfl rfl rfl rfl rfl rfl rfl rfl rfl rfl rfl ⟨trivial, trivial, trivial⟩ ?_
        refine vNil ?_
        change VC _ _ _ _
        refine vRegion ?_
        iterate 5 refine oVal tt rfl rfl rfl rfl rfl trivial ?_
        obtain ⟨hg7, h⟩ := grd_inv h
        refine oVal tt rfl rfl rfl rfl rfl hg7 ?_
        iterate 4 refine oVal tt rfl rfl rfl rfl rfl trivial ?_
        refine oVal tt rfl rfl rfl rfl rfl hg7 ?_
        obtain ⟨hg8, h⟩ := grd_inv h
        refine oVal tt rfl rfl rfl rfl rfl hg8 ?_
        iterate 4 refine oVal tt rfl rfl rfl rfl rfl trivial ?_
        obtain ⟨hg9, h⟩ := grd_inv h
        refine oVal tt rfl rfl rfl rfl rfl hg9 ?_
        iterate 4 refine oVal tt rfl rfl rfl rfl rfl trivial ?_
        refine oVal tt rfl rfl rfl rfl rfl hg9 ?_
        obtain ⟨hg10, h⟩ := grd_inv h
        refine oVal tt rfl rfl rfl rfl rfl hg10 ?_
        obtain ⟨hg11, h⟩ := grd_inv h
        refine oVal tt rfl rfl rfl rfl rfl hg11 ?_
        refine oBuild tt rfl rfl rfl rfl rfl rfl rfl rfl rfl rfl rfl ?_
        obtain ⟨hg12, h⟩ := grd_inv h
        refine oAppend tt rfl rfl rfl rfl rfl rfl rfl rfl rfl rfl rfl rfl rfl rfl rfl rfl (Nat.le_of_eq (Nat.zero_add _)) hg12 ?_
        refine oVal tt rfl rfl rfl rfl rfl trivial ?_
        refine vNil ?_
        change VC _ _ _ _
        refine vRegion ?_
        refine oVal tt rfl rfl rfl rfl rfl trivial ?_
        obtain ⟨hg13, h⟩ := grd_inv h
        refine oVal tt rfl rfl rfl rfl rfl hg13 ?_
        refine oVal tt rfl rfl rfl rfl rfl trivial ?_
        refine vNil ?_
        change ∃ _, _
        exact ⟨((l11 ++ ([(((((f_0.places.getD (((f_0.g.bars.getD ((i12).toNat) (0, 0)).1).toNat) (0, 0)).1) - ((f_0.places.getD (((f_0.g.bars.getD ((i12).toNat) (0, 0)).2).toNat) (0, 0)).1)) * (((f_0.places.getD (((f_0.g.bars.getD ((i12).toNat) (0, 0)).1).toNat) (0, 0)).1) - ((f_0.places.getD (((f_0.g.bars.getD ((i12).toNat) (0, 0)).2).toNat) (0, 0)).1))) + ((((f_0.places.getD (((f_0.g.bars.getD ((i12).toNat) (0, 0)).1).toNat) (0, 0)).2) - ((f_0.places.getD (((f_0.g.bars.getD ((i12).toNat) (0, 0)).2).toNat) (0, 0)).2)) * (((f_0.places.getD (((f_0.g.bars.getD ((i12).toNat) (0, 0)).1).toNat) (0, 0)).2) - ((f_0.places.getD (((f_0.g.bars.getD ((i12).toNat) (0, 0)).2).toNat) (0, 0)).2))))] : List Int)), (i12 + (1 : Int))), (En.of ⟨rfl, rfl, rfl, trivial⟩ ⟨rfl, trivial⟩ ⟨rfl, trivial⟩), h⟩
      · replace h := cnd_f hb3 h
        refine vExit ?_
        change ∃ _, _
        exact ⟨l11, (En.of ⟨rfl, trivial⟩ ⟨rfl, trivial⟩ trivial), h⟩
    · replace h := cnd_f hb1 h
      iterate 2 refine oNoT rfl rfl rfl rfl hb1 rfl rfl ?_
      refine oPickF rfl rfl rfl rfl rfl hb1 rfl ?_
      refine vNil ?_
      change VC _ _ _ _
      refine vCondF rfl rfl ?_
      refine vExit ?_
      change ∃ _, _
      exact ⟨l11, (En.of ⟨rfl, trivial⟩ ⟨rfl, trivial⟩ trivial), h⟩
def S_AreSameLengths (N : Nat) (a_0 : Frm) (b_1 : Frm) : Option (Bool) :=
  (S_IsFramework N a_0).bind fun v1 =>
  cnd v1 (
    (S_IsFramework N b_1).bind fun v2 =>
    cnd v2 (
      (S_EqualGraphs N a_0.g b_1.g).bind fun v3 =>
      cnd v3 (
        (S_SquareLengths N a_0).bind fun v4 =>
        (S_SquareLengths N b_1).bind fun v5 =>
        (S_l6Same N v4 v5).bind fun v6 =>
        some v6) (
        some false)) (
      some false)) (
    some false)
set_option maxRecDepth 20000 in
set_option maxHeartbeats 1600000 in
theorem S_AreSameLengths_w (N : Nat) (a_0 : Frm) (b_1 : Frm) (r : Bool) (h : S_AreSameLengths N a_0 b_1 = some r) : PCall Try.prog 105 [fD a_0, fD b_1] [] (.bool r) := by
  unfold S_AreSameLengths at h
  refine pcall_intro (TT := TT) tt Try.func105 rfl rfl Try.ntmps105 (congrArg Array.toList Try.results105) rfl rfl fun w0 => ?_
  refine vSeq ?_
  refine vRegion ?_
  iterate 2 refine oBox rfl rfl rfl rfl rfl rfl rfl rfl rfl ?_
  refine oVal tt rfl rfl rfl rfl rfl trivial ?_
  refine vNil ?_
  change VC _ _ _ _
  refine vSeq ?_
  refine vRegionN 17 [15] [0, 1, 3, 7, 15, 31, 63, 127, 255, 127, 639, 2047, 4095, 8191, 16383, 32767, 16383, 131071, 262143, 524287, 1048575] (by kernel_rfl) (by kernel_rfl) (by kernel_rfl) (by kernel_rfl) (by kernel_rfl) rfl (by rfl) ?_
  refine nVal tt rfl (wNone rfl) rfl rfl rfl rfl rfl trivial ?_
  obtain ⟨v1, hc1, h⟩ := bind_inv h
  refine nCall (S_IsFramework_w N a_0 v1 hc1) rfl (wNone rfl) rfl rfl rfl rfl rfl rfl rfl rfl ⟨⟨rfl, rfl, rfl, trivial⟩, trivial⟩ ?_
  refine nVal tt rfl (wNone rfl) rfl rfl rfl rfl rfl trivial ?_
  refine nSplit rfl rfl rfl (fun hb2 => ?_) (fun hb2 => ?_)
  · replace h := cnd_t hb2 h
    refine nVal tt rfl (wSome rfl rfl rfl rfl hb2) rfl rfl rfl rfl rfl trivial ?_
    obtain ⟨v2, hc3, h⟩ := bind_inv h
    refine nCall (S_IsFramework_w N b_1 v2 hc3) rfl (wSome rfl rfl rfl rfl hb2) rfl rfl rfl rfl rfl rfl rfl rfl ⟨⟨rfl, rfl, rfl, trivial⟩, trivial⟩ ?_
    refine nPickT rfl (wNone rfl) rfl rfl rfl hb2 rfl rfl ?_
    refine nVal tt rfl (wNone rfl) rfl rfl rfl rfl rfl trivial ?_
    refine nSplit rfl rfl rfl (fun hb4 => ?_) (fun hb4 => ?_)
    · replace h := cnd_t hb4 h
      iterate 4 refine nVal tt rfl (wSome rfl rfl rfl rfl hb4) rfl rfl rfl rfl rfl trivial ?_
      obtain ⟨v3, hc5, h⟩ := bind_inv h
      refine nCall (S_EqualGraphs_w N a_0.g b_1.g v3 hc5) rfl (wSome rfl rfl rfl rfl hb4) rfl rfl rfl rfl rfl rfl rfl rfl ⟨⟨rfl, rfl, trivial⟩, ⟨rfl, rfl, trivial⟩, trivial⟩ ?_
      refine nPickT rfl (wNone rfl) rfl rfl rfl hb4 rfl rfl ?_
      refine nVal tt rfl (wNone rfl) rfl rfl rfl rfl rfl trivial ?_
      refine nSplit rfl rfl rfl (fun hb6 => ?_) (fun hb6 => ?_)
      · replace h := cnd_t hb6 h
        refine nVal tt rfl (wSome rfl rfl rfl rfl hb6) rfl rfl rfl rfl rfl trivial ?_
        obtain ⟨v4, hc7, h⟩ := bind_inv h
        refine nCallR (S_SquareLengths_w N a_0 v4 hc7) rfl (wSome rfl rfl rfl rfl hb6) rfl rfl rfl rfl rfl rfl (by first | rfl | kernel_rfl | (simp [nrL, nm, gdst, nmT, rowB]; done)) rfl (by first | rfl | kernel_rfl | (simp [chkE, nrL, nm, gdst, nmT, rowB, hid, ment, mentA, mentS]; done) | (simp [chkE, nrL, nm, gdst, nmT, rowB, hid, ment, mentA, mentS]; decide)) ⟨⟨rfl, rfl, rfl, trivial⟩, trivial⟩ ?_
        refine nVal tt rfl (wSome rfl rfl rfl rfl hb6) rfl rfl rfl rfl rfl trivial ?_
        refine nNil ?_
        change VO _ _ _ _ _
        obtain ⟨v5, hc8, h⟩ := bind_inv h
        refine oCallG (S_SquareLengths_w N b_1 v5 hc8) rfl rfl rfl rfl hb6 rfl rfl rfl rfl rfl rfl rfl ⟨⟨rfl, rfl, rfl, trivial⟩, trivial⟩ ?_
        obtain ⟨v6, hc9, h⟩ := bind_inv h
        refine oCallG (S_l6Same_w N v4 v5 v6 hc9) rfl rfl rfl rfl hb6 rfl rfl rfl rfl rfl rfl rfl ⟨(.inl ⟨rfl, rfl⟩), (.inl ⟨rfl, rfl⟩), trivial⟩ ?_
        refine oPick rfl rfl rfl rfl rfl hb6 rfl ?_
        refine oVal tt rfl rfl rfl rfl rfl trivial ?_
        refine vNil ?_
        change VC _ _ _ _
        refine vRet ?_
        change ∃ _, _
        cases h
        exact ⟨[], _, rfl, trivial, rfl, (.eq rfl), rfl⟩
      · replace h := cnd_f hb6 h
        iterate 3 refine nNoT rfl rfl rfl rfl hb6 rfl rfl ?_
        refine nNil ?_
        change VO _ _ _ _ _
        iterate 2 refine oNoT rfl rfl rfl rfl hb6 rfl rfl ?_
        refine oPickF rfl rfl rfl rfl rfl hb6 rfl ?_
        refine oVal tt rfl rfl rfl rfl rfl trivial ?_
        refine vNil ?_
        change VC _ _ _ _
        refine vRet ?_
        change ∃ _, _
        cases h
        exact ⟨[], _, rfl, trivial, rfl, (.eq rfl), rfl⟩
    · replace h := cnd_f hb4 h
      iterate 5 refine nNoT rfl rfl rfl rfl hb4 rfl rfl ?_
      refine nPickF rfl (wNone rfl) rfl rfl rfl hb4 rfl rfl ?_
      refine nVal tt rfl (wNone rfl) rfl rfl rfl rfl rfl trivial ?_
      iterate 3 refine nNoT rfl rfl rfl rfl rfl rfl rfl ?_
      refine nNil ?_
      change VO _ _ _ _ _
      iterate 2 refine oNoT rfl rfl rfl rfl rfl rfl rfl ?_
      refine oPickF rfl rfl rfl rfl rfl rfl rfl ?_
      refine oVal tt rfl rfl rfl rfl rfl trivial ?_
      refine vNil ?_
      change VC _ _ _ _
      refine vRet ?_
      change ∃ _, _
      cases h
      exact ⟨[], _, rfl, trivial, rfl, (.eq rfl), rfl⟩
  · replace h := cnd_f hb2 h
    iterate 2 refine nNoT rfl rfl rfl rfl hb2 rfl rfl ?_
    refine nPickF rfl (wNone rfl) rfl rfl rfl hb2 rfl rfl ?_
    refine nVal tt rfl (wNone rfl) rfl rfl rfl rfl rfl trivial ?_
    iterate 5 refine nNoT rfl rfl rfl rfl rfl rfl rfl ?_
    refine nPickF rfl (wNone rfl) rfl rfl rfl rfl rfl rfl ?_
    refine nVal tt rfl (wNone rfl) rfl rfl rfl rfl rfl trivial ?_
    iterate 3 refine nNoT rfl rfl rfl rfl rfl rfl rfl ?_
    refine nNil ?_
    change VO _ _ _ _ _
    iterate 2 refine oNoT rfl rfl rfl rfl rfl rfl rfl ?_
    refine oPickF rfl rfl rfl rfl rfl rfl rfl ?_
    refine oVal tt rfl rfl rfl rfl rfl trivial ?_
    refine vNil ?_
    change VC _ _ _ _
    refine vRet ?_
    change ∃ _, _
    cases h
    exact ⟨[], _, rfl, trivial, rfl, (.eq rfl), rfl⟩
def S_IsPose_l1 (N : Nat) (l_0 : Lnk) (p_1 : List (Int × Int)) (k : Unit → Option (Bool)) : Nat → Int → Option (Bool)
  | 0, _ => none
  | n + 1, i5 =>
    cnd (decide (i5 < (l_0.ground.length : Int))) (
      grd (0 ≤ i5 ∧ i5 < (l_0.ground.length : Int)) <|
      grd (0 ≤ (l_0.ground.getD ((i5).toNat) 0) ∧ (l_0.ground.getD ((i5).toNat) 0) < (p_1.length : Int)) <|
      grd (0 ≤ (l_0.ground.getD ((i5).toNat) 0) ∧ (l_0.ground.getD ((i5).toNat) 0) < (l_0.f.places.length : Int)) <|
      cnd (!(((p_1.getD (((l_0.ground.getD ((i5).toNat) 0)).toNat) (0, 0)).1 == (l_0.f.places.getD (((l_0.ground.getD ((i5).toNat) 0)).toNat) (0, 0)).1) && ((p_1.getD (((l_0.ground.getD ((i5).toNat) 0)).toNat) (0, 0)).2 == (l_0.f.places.getD (((l_0.ground.getD ((i5).toNat) 0)).toNat) (0, 0)).2))) (
        some false) (
        grd (Rg64 (i5 + (1 : Int))) <|
        S_IsPose_l1 N l_0 p_1 k n (i5 + (1 : Int)))) (
      k ())
def S_IsPose (N : Nat) (l_0 : Lnk) (p_1 : List (Int × Int)) : Option (Bool) :=
  (S_IsLinkage N l_0).bind fun v1 =>
  cnd (!v1) (
    some false) (
    cnd ((p_1.length : Int) != (l_0.f.places.length : Int)) (
      some false) (
      S_IsPose_l1 N l_0 p_1 (fun (_ : Unit) =>
            (S_AreSameLengths N l_0.f (⟨⟨l_0.f.g.n, l_0.f.g.bars⟩, p_1⟩ : Frm)).bind fun v3 =>
            some v3) N (0 : Int)))
set_option maxRecDepth 20000 in
set_option maxHeartbeats 1600000 in
theorem S_IsPose_w (N : Nat) (l_0 : Lnk) (p_1 : List (Int × Int)) (r : Bool) (h : S_IsPose N l_0 p_1 = some r) : PCall Try.prog 56 [lD l_0, .ro false (.pairs p_1)] [] (.bool r) := by
  unfold S_IsPose at h
  refine pcall_intro (TT := TT) tt Try.func56 rfl rfl Try.ntmps56 (congrArg Array.toList Try.results56) rfl rfl fun w0 => ?_
  refine vSeq ?_
  refine vRegion ?_
  refine oBox rfl rfl rfl rfl rfl rfl rfl rfl rfl ?_
  refine oVal tt rfl rfl rfl rfl rfl trivial ?_
  refine vNil ?_
  change VC _ _ _ _
  iterate 2 refine vSeq ?_
  refine vRegion ?_
  refine oVal tt rfl rfl rfl rfl rfl trivial ?_
  obtain ⟨v1, hc1, h⟩ := bind_inv h
  refine oCall (S_IsLinkage_w N l_0 v1 hc1) rfl rfl rfl rfl rfl rfl rfl rfl ⟨⟨rfl, rfl, rfl, rfl, trivial⟩, trivial⟩ ?_
  iterate 2 refine oVal tt rfl rfl rfl rfl rfl trivial ?_
  refine oSplit rfl rfl rfl (fun hb2 => ?_) (fun hb2 => ?_)
  · replace h := cnd_t hb2 h
    iterate 7 refine oNoF rfl rfl rfl rfl hb2 rfl rfl ?_
    refine oPick rfl rfl rfl rfl rfl hb2 rfl ?_
    refine vNil ?_
    change VC _ _ _ _
    refine vCondT rfl rfl ?_
    refine vSeq ?_
    refine vRegion ?_
    refine oVal tt rfl rfl rfl rfl rfl trivial ?_
    refine vNil ?_
    change VC _ _ _ _
    refine vRet ?_
    change ∃ _, _
    cases h
    exact ⟨[], _, rfl, trivial, rfl, (.eq rfl), rfl⟩
  · replace h := cnd_f hb2 h
    iterate 7 refine oValG tt rfl rfl rfl rfl rfl hb2 rfl rfl rfl trivial ?_
    refine oPickF rfl rfl rfl rfl rfl hb2 rfl ?_
    refine vNil ?_
    change VC _ _ _ _
    refine vCond rfl (fun hb3 => ?_) (fun hb3 => ?_)
    · replace h := cnd_t hb3 h
      refine vSeq ?_
      refine vRegion ?_
      refine oVal tt rfl rfl rfl rfl rfl trivial ?_
      refine vNil ?_
      change VC _ _ _ _
      refine vRet ?_
      change ∃ _, _
      cases h
      exact ⟨[], _, rfl, trivial, rfl, (.eq rfl), rfl⟩
    · replace h := cnd_f hb3 h
      refine vSkip ?_
      change VC _ _ _ _
      iterate 2 refine vSeq ?_
      refine vRegion ?_
      refine oVal tt rfl rfl rfl rfl rfl trivial ?_
      refine vNil ?_
      change VC _ _ _ _
      refine vJoin (F := fun k => S_IsPose_l1 N l_0 p_1 k) h (α := Unit) (J := fun (_ : Unit) => (⟨[(1, .ro false (.pairs p_1)), (2, .ptr 2 0)], [], [(2, some [.int l_0.f.g.n, .ro false (.pairs l_0.f.g.bars), .ro false (.pairs l_0.f.places), .ro false (.ints l_0.ground)])]⟩ : PS)) ?_ ?_
      · rintro ⟨⟩ h
        show VC _ _ _ (⟨[(1, .ro false (.pairs p_1)), (2, .ptr 2 0)], [], [(2, some [.int l_0.f.g.n, .ro false (.pairs l_0.f.g.bars), .ro false (.pairs l_0.f.places), .ro false (.ints l_0.ground)])]⟩ : PS)
        refine vSeq ?_
        refine vRegion ?_
        iterate 6 refine oVal tt rfl rfl rfl rfl rfl trivial ?_
        refine oPure (wNone rfl) (pBuild bld_impl_Framework rfl rfl) rfl rfl ?_
        obtain ⟨v3, hc4, h⟩ := bind_inv h
        refine oCall (S_AreSameLengths_w N l_0.f (⟨⟨l_0.f.g.n, l_0.f.g.bars⟩, p_1⟩ : Frm) v3 hc4) rfl rfl rfl rfl rfl rfl rfl rfl ⟨⟨rfl, rfl, rfl, trivial⟩, ⟨rfl, rfl, rfl, trivial⟩, trivial⟩ ?_
        refine oVal tt rfl rfl rfl rfl rfl trivial ?_
        refine vNil ?_
        change VC _ _ _ _
        refine vRet ?_
        change ∃ _, _
        cases h
        exact ⟨[], _, rfl, trivial, rfl, (.eq rfl), rfl⟩
      · intro k h
        refine vBlock ?_
        refine vLoopS (α := Int) (fun (i5 : Int) => (⟨[(1, .ro false (.pairs p_1)), (2, .ptr 2 0), (5, .int i5)], [], [(2, some [.int l_0.f.g.n, .ro false (.pairs l_0.f.g.bars), .ro false (.pairs l_0.f.places), .ro false (.ints l_0.ground)])]⟩ : PS)) (S_IsPose_l1 N l_0 p_1 k) h (En.of ⟨rfl, rfl, rfl, trivial⟩ trivial ⟨rfl, trivial⟩) (fun _ => rfl) ?_
        rintro n i5 h
        rw [S_IsPose_l1] at h
        show VC _ _ _ (⟨[(1, .ro false (.pairs p_1)), (2, .ptr 2 0), (5, .int i5)], [], [(2, some [.int l_0.f.g.n, .ro false (.pairs l_0.f.g.bars), .ro false (.pairs l_0.f.places), .ro false (.ints l_0.ground)])]⟩ : PS)
        iterate 2 refine vSeq ?_
        refine vRegion ?_
        iterate 5 refine oVal tt rfl rfl rfl rfl rfl trivial ?_
        refine vNil ?_
        change VC _ _ _ _
        refine vCond rfl (fun hb5 => ?_) (fun hb5 => ?_)
        · replace h := cnd_t hb5 h
          refine vSkip ?_
          change VC _ _ _ _
          refine vSeq ?_
          refine vBlock ?_
          refine vSeq ?_
          refine vRegionD (by kernel_rfl) (by kernel_rfl) ?_
          iterate 4 refine cVal tt rfl (wNone rfl) rfl rfl rfl trivial ?_
          obtain ⟨hg6, h⟩ := grd_inv h
          refine cVal tt rfl (wNone rfl) rfl rfl rfl hg6 ?_
          refine cVal tt rfl (wNone rfl) rfl rfl rfl trivial ?_
          obtain ⟨hg7, h⟩ := grd_inv h
          refine cVal tt rfl (wNone rfl) rfl rfl rfl hg7 ?_
          iterate 7 refine cVal tt rfl (wNone rfl) rfl rfl rfl trivial ?_
          refine cVal tt rfl (wNone rfl) rfl rfl rfl hg6 ?_
          refine cVal tt rfl (wNone rfl) rfl rfl rfl trivial ?_
          obtain ⟨hg8, h⟩ := grd_inv h
          refine cVal tt rfl (wNone rfl) rfl rfl rfl hg8 ?_
          refine cVal tt rfl (wNone rfl) rfl rfl rfl trivial ?_
          refine cPure (wNone rfl) (pNeP eqP_impl_Place rfl rfl rfl) rfl rfl ?_
          refine cNil ?_
          change VC _ _ _ _
          refine vCond rfl (fun hb9 => ?_) (fun hb9 => ?_)
          · replace h := cnd_t hb9 h
            refine vSeq ?_
            refine vRegion ?_
            refine oVal tt rfl rfl rfl rfl rfl trivial ?_
            refine vNil ?_
            change VC _ _ _ _
            refine vRet ?_
            change ∃ _, _
            cases h
            exact ⟨[], _, rfl, trivial, rfl, (.eq rfl), rfl⟩
          · replace h := cnd_f hb9 h
            refine vSkip ?_
            change VC _ _ _ _
            refine vRegion ?_
            refine oVal tt rfl rfl rfl rfl rfl trivial ?_
            obtain ⟨hg10, h⟩ := grd_inv h
            refine oVal tt rfl rfl rfl rfl rfl hg10 ?_
            refine oVal tt rfl rfl rfl rfl rfl trivial ?_
            refine vNil ?_
            change ∃ _, _
            exact ⟨(i5 + (1 : Int)), (En.of ⟨rfl, rfl, rfl, trivial⟩ trivial ⟨rfl, trivial⟩), h⟩
        · replace h := cnd_f hb5 h
          refine vExit ?_
          change ∃ _, _
          exact ⟨(), (En.of ⟨rfl, rfl, trivial⟩ trivial ⟨rfl, trivial⟩), h⟩
def M_Framework_square (N : Nat) (f_0 : Frm) (a_1 : Int) (b_2 : Int) : Option (Int) :=
  grd (0 ≤ a_1 ∧ a_1 < (f_0.places.length : Int)) <|
  grd (0 ≤ b_2 ∧ b_2 < (f_0.places.length : Int)) <|
  grd (Rg64 (((f_0.places.getD ((a_1).toNat) (0, 0)).1) - ((f_0.places.getD ((b_2).toNat) (0, 0)).1))) <|
  grd (Rg64 (((f_0.places.getD ((a_1).toNat) (0, 0)).2) - ((f_0.places.getD ((b_2).toNat) (0, 0)).2))) <|
  grd (Rg64 ((((f_0.places.getD ((a_1).toNat) (0, 0)).1) - ((f_0.places.getD ((b_2).toNat) (0, 0)).1)) * (((f_0.places.getD ((a_1).toNat) (0, 0)).1) - ((f_0.places.getD ((b_2).toNat) (0, 0)).1)))) <|
  grd (Rg64 ((((f_0.places.getD ((a_1).toNat) (0, 0)).2) - ((f_0.places.getD ((b_2).toNat) (0, 0)).2)) * (((f_0.places.getD ((a_1).toNat) (0, 0)).2) - ((f_0.places.getD ((b_2).toNat) (0, 0)).2)))) <|
  grd (Rg64 (((((f_0.places.getD ((a_1).toNat) (0, 0)).1) - ((f_0.places.getD ((b_2).toNat) (0, 0)).1)) * (((f_0.places.getD ((a_1).toNat) (0, 0)).1) - ((f_0.places.getD ((b_2).toNat) (0, 0)).1))) + ((((f_0.places.getD ((a_1).toNat) (0, 0)).2) - ((f_0.places.getD ((b_2).toNat) (0, 0)).2)) * (((f_0.places.getD ((a_1).toNat) (0, 0)).2) - ((f_0.places.getD ((b_2).toNat) (0, 0)).2))))) <|
  some (((((f_0.places.getD ((a_1).toNat) (0, 0)).1) - ((f_0.places.getD ((b_2).toNat) (0, 0)).1)) * (((f_0.places.getD ((a_1).toNat) (0, 0)).1) - ((f_0.places.getD ((b_2).toNat) (0, 0)).1))) + ((((f_0.places.getD ((a_1).toNat) (0, 0)).2) - ((f_0.places.getD ((b_2).toNat) (0, 0)).2)) * (((f_0.places.getD ((a_1).toNat) (0, 0)).2) - ((f_0.places.getD ((b_2).toNat) (0, 0)).2))))
set_option maxRecDepth 20000 in
set_option maxHeartbeats 1600000 in
theorem M_Framework_square_w (N : Nat) (f_0 : Frm) (a_1 : Int) (b_2 : Int) (r : Int) (h : M_Framework_square N f_0 a_1 b_2 = some r) : PCall Try.prog 108 [fD f_0, .int a_1, .int b_2] [] (.int r) := by
  unfold M_Framework_square at h
  refine pcall_intro (TT := TT) tt Try.func108 rfl rfl Try.ntmps108 (congrArg Array.toList Try.results108) rfl rfl fun w0 => ?_
  refine vSeq ?_
  refine vRegion ?_
  refine oBox rfl rfl rfl rfl rfl rfl rfl rfl rfl ?_
  refine oVal tt rfl rfl rfl rfl rfl trivial ?_
  refine vNil ?_
  change VC _ _ _ _
  refine vSeq ?_
  refine vRegionD (by kernel_rfl) (by kernel_rfl) ?_
  iterate 3 refine cVal tt rfl (wNone rfl) rfl rfl rfl trivial ?_
  obtain ⟨hg1, h⟩ := grd_inv h
  refine cVal tt rfl (wNone rfl) rfl rfl rfl hg1 ?_
  iterate 5 refine cVal tt rfl (wNone rfl) rfl rfl rfl trivial ?_
  obtain ⟨hg2, h⟩ := grd_inv h
  refine cVal tt rfl (wNone rfl) rfl rfl rfl hg2 ?_
  iterate 2 refine cVal tt rfl (wNone rfl) rfl rfl rfl trivial ?_
  obtain ⟨hg3, h⟩ := grd_inv h
  refine cVal tt rfl (wNone rfl) rfl rfl rfl hg3 ?_
  iterate 3 refine cVal tt rfl (wNone rfl) rfl rfl rfl trivial ?_
  refine cVal tt rfl (wNone rfl) rfl rfl rfl hg1 ?_
  iterate 5 refine cVal tt rfl (wNone rfl) rfl rfl rfl trivial ?_
  refine cVal tt rfl (wNone rfl) rfl rfl rfl hg2 ?_
  iterate 2 refine cVal tt rfl (wNone rfl) rfl rfl rfl trivial ?_
  obtain ⟨hg4, h⟩ := grd_inv h
  refine cVal tt rfl (wNone rfl) rfl rfl rfl hg4 ?_
  iterate 2 refine cVal tt rfl (wNone rfl) rfl rfl rfl trivial ?_
  refine cNil ?_
  change VC _ _ _ _
  refine vSeq ?_
  refine vRegion ?_
  iterate 2 refine oVal tt rfl rfl rfl rfl rfl trivial ?_
  obtain ⟨hg5, h⟩ := grd_inv h
  refine oVal tt rfl rfl rfl rfl rfl hg5 ?_
  iterate 2 refine oVal tt rfl rfl rfl rfl rfl trivial ?_
  obtain ⟨hg6, h⟩ := grd_inv h
  refine oVal tt rfl rfl rfl rfl rfl hg6 ?_
  obtain ⟨hg7, h⟩ := grd_inv h
  refine oVal tt rfl rfl rfl rfl rfl hg7 ?_
  refine oVal tt rfl rfl rfl rfl rfl trivial ?_
  refine vNil ?_
  change VC _ _ _ _
  refine vRet ?_
  change ∃ _, _
  cases h
  exact ⟨[], _, rfl, trivial, rfl, (.eq rfl), rfl⟩
def I_IsPose_l1 (N : Nat) (l_0 : Lnk) (p_1 : List (Int × Int)) (k : Unit → Option (Bool)) : Nat → Int → Option (Bool)
  | 0, _ => none
  | n + 1, x19 =>
    cnd (decide (x19 < (l_0.f.g.bars.length : Int))) (
      grd (0 ≤ x19 ∧ x19 < (l_0.f.g.bars.length : Int)) <|
      (M_Framework_square N l_0.f ((l_0.f.g.bars.getD ((x19).toNat) (0, 0)).1) ((l_0.f.g.bars.getD ((x19).toNat) (0, 0)).2)).bind fun v22 =>
      (M_Framework_square N (⟨⟨(0 : Int), ([] : List (Int × Int))⟩, p_1⟩ : Frm) ((l_0.f.g.bars.getD ((x19).toNat) (0, 0)).1) ((l_0.f.g.bars.getD ((x19).toNat) (0, 0)).2)).bind fun v23 =>
      cnd (v22 != v23) (
        some false) (
        grd (Rg64 (x19 + (1 : Int))) <|
        I_IsPose_l1 N l_0 p_1 k n (x19 + (1 : Int)))) (
      k ())
def I_IsPose_l2 (N : Nat) (l_0 : Lnk) (p_1 : List (Int × Int)) (k : Unit → Option (Bool)) : Nat → Int → Option (Bool)
  | 0, _ => none
  | n + 1, x27 =>
    cnd (decide (x27 < (p_1.length : Int))) (
      grd (0 ≤ x27 ∧ x27 < (p_1.length : Int)) <|
      (I_isPlace N (p_1.getD ((x27).toNat) (0, 0))).bind fun v30 =>
      cnd (!v30) (
        some false) (
        (G_Contains_int N l_0.ground x27).bind fun v31 =>
        cnd v31 (
          grd (0 ≤ x27 ∧ x27 < (l_0.f.places.length : Int)) <|
          cnd (!(((p_1.getD ((x27).toNat) (0, 0)).1 == (l_0.f.places.getD ((x27).toNat) (0, 0)).1) && ((p_1.getD ((x27).toNat) (0, 0)).2 == (l_0.f.places.getD ((x27).toNat) (0, 0)).2))) (
            some false) (
            grd (Rg64 (x27 + (1 : Int))) <|
            I_IsPose_l2 N l_0 p_1 k n (x27 + (1 : Int)))) (
          grd (Rg64 (x27 + (1 : Int))) <|
          I_IsPose_l2 N l_0 p_1 k n (x27 + (1 : Int))))) (
      k ())
def I_IsPose (N : Nat) (l_0 : Lnk) (p_1 : List (Int × Int)) : Option (Bool) :=
  (I_IsLinkage N l_0).bind fun v1 =>
  cnd (!v1) (
    some false) (
    cnd ((p_1.length : Int) != (l_0.f.places.length : Int)) (
      some false) (
      I_IsPose_l2 N l_0 p_1 (fun (_ : Unit) =>
            I_IsPose_l1 N l_0 p_1 (fun (_ : Unit) =>
                  some true) N (0 : Int)) N (0 : Int)))
set_option maxRecDepth 20000 in
set_option maxHeartbeats 1600000 in
theorem I_IsPose_w (N : Nat) (l_0 : Lnk) (p_1 : List (Int × Int)) (r : Bool) (h : I_IsPose N l_0 p_1 = some r) : PCall Try.prog 58 [lD l_0, .ro false (.pairs p_1)] [] (.bool r) := by
  unfold I_IsPose at h
  refine pcall_intro (TT := TT) tt Try.func58 rfl rfl Try.ntmps58 (congrArg Array.toList Try.results58) rfl rfl fun w0 => ?_
  refine vSeq ?_
  refine vRegion ?_
  refine oBox rfl rfl rfl rfl rfl rfl rfl rfl rfl ?_
  refine oVal tt rfl rfl rfl rfl rfl trivial ?_
  refine vNil ?_
  change VC _ _ _ _
  refine vSeq ?_
  refine vRegion ?_
  iterate 2 refine oVal tt rfl rfl rfl rfl rfl trivial ?_
  refine oAlloc tt rfl rfl rfl rfl rfl rfl rfl rfl rfl ?_
  refine oStore tt rfl rfl rfl rfl rfl rfl rfl rfl rfl rfl rfl ⟨trivial, trivial, trivial, trivial⟩ ?_
  refine vNil ?_
  change VC _ _ _ _
  iterate 2 refine vSeq ?_
  refine vRegion ?_
  refine oVal tt rfl rfl rfl rfl rfl trivial ?_
  obtain ⟨v1, hc1, h⟩ := bind_inv h
  refine oCall (I_IsLinkage_w N l_0 v1 hc1) rfl rfl rfl rfl rfl rfl rfl rfl ⟨⟨rfl, rfl, rfl, rfl, trivial⟩, trivial⟩ ?_
  iterate 2 refine oVal tt rfl rfl rfl rfl rfl trivial ?_
  refine oSplit rfl rfl rfl (fun hb2 => ?_) (fun hb2 => ?_)
  · replace h := cnd_t hb2 h
    iterate 6 refine oNoF rfl rfl rfl rfl hb2 rfl rfl ?_
    refine oPick rfl rfl rfl rfl rfl hb2 rfl ?_
    refine vNil ?_
    change VC _ _ _ _
    refine vCondT rfl rfl ?_
    refine vSeq ?_
    refine vRegion ?_
    refine oVal tt rfl rfl rfl rfl rfl trivial ?_
    refine vNil ?_
    change VC _ _ _ _
    refine vRet ?_
    change ∃ _, _
    cases h
    exact ⟨[], _, rfl, trivial, rfl, (.eq rfl), rfl⟩
  · replace h := cnd_f hb2 h
    iterate 6 refine oValG tt rfl rfl rfl rfl rfl hb2 rfl rfl rfl trivial ?_
    refine oPickF rfl rfl rfl rfl rfl hb2 rfl ?_
    refine vNil ?_
    change VC _ _ _ _
    refine vCond rfl (fun hb3 => ?_) (fun hb3 => ?_)
    · replace h := cnd_t hb3 h
      refine vSeq ?_
      refine vRegion ?_
      refine oVal tt rfl rfl rfl rfl rfl trivial ?_
      refine vNil ?_
      change VC _ _ _ _
      refine vRet ?_
      change ∃ _, _
      cases h
      exact ⟨[], _, rfl, trivial, rfl, (.eq rfl), rfl⟩
    · replace h := cnd_f hb3 h
      refine vSkip ?_
      change VC _ _ _ _
      iterate 2 refine vSeq ?_
      refine vRegion ?_
      iterate 3 refine oVal tt rfl rfl rfl rfl rfl trivial ?_
      refine vNil ?_
      change VC _ _ _ _
      refine vJoin (F := fun k => I_IsPose_l2 N l_0 p_1 k) h (α := Unit) (J := fun (_ : Unit) => (⟨[(1, .ro false (.pairs p_1)), (5, .ptr 5 0)], [], [(5, some [.int l_0.f.g.n, .ro false (.pairs l_0.f.g.bars), .ro false (.pairs l_0.f.places)])]⟩ : PS)) ?_ ?_
      · rintro ⟨⟩ h
        show VC _ _ _ (⟨[(1, .ro false (.pairs p_1)), (5, .ptr 5 0)], [], [(5, some [.int l_0.f.g.n, .ro false (.pairs l_0.f.g.bars), .ro false (.pairs l_0.f.places)])]⟩ : PS)
        refine vSeq ?_
        refine vRegion ?_
        refine oVal tt rfl rfl rfl rfl rfl trivial ?_
        refine oPure (wNone rfl) (pBuild bld_impl_Framework rfl rfl) rfl rfl ?_
        refine oAlloc tt rfl rfl rfl rfl rfl rfl rfl rfl rfl ?_
        refine oStore tt rfl rfl rfl rfl rfl rfl rfl rfl rfl rfl rfl ⟨trivial, trivial, trivial, trivial⟩ ?_
        refine vNil ?_
        change VC _ _ _ _
        iterate 2 refine vSeq ?_
        refine vRegion ?_
        iterate 5 refine oVal tt rfl rfl rfl rfl rfl trivial ?_
        refine vNil ?_
        change VC _ _ _ _
        refine vJoin (F := fun k => I_IsPose_l1 N l_0 p_1 k) h (α := Unit) (J := fun (_ : Unit) => (⟨[], [], []⟩ : PS)) ?_ ?_
        · rintro ⟨⟩ h
          show VC _ _ _ (⟨[], [], []⟩ : PS)
          refine vSeq ?_
          refine vRegion ?_
          refine oVal tt rfl rfl rfl rfl rfl trivial ?_
          refine vNil ?_
          change VC _ _ _ _
          refine vRet ?_
          change ∃ _, _
          cases h
          exact ⟨[], _, rfl, trivial, rfl, (.eq rfl), rfl⟩
        · intro k h
          refine vBlock ?_
          refine vLoopS (α := Int) (fun (x19 : Int) => (⟨[(5, .ptr 5 0), (8, .ptr 8 0), (54, .ro false (.pairs l_0.f.g.bars)), (55, .int (l_0.f.g.bars.length : Int)), (56, .int x19)], [], [(5, some [.int l_0.f.g.n, .ro false (.pairs l_0.f.g.bars), .ro false (.pairs l_0.f.places)]), (8, some [.int (0 : Int), .nil, .ro false (.pairs p_1)])]⟩ : PS)) (I_IsPose_l1 N l_0 p_1 k) h (En.of ⟨rfl, rfl, rfl, rfl, rfl, trivial⟩ trivial ⟨rfl, rfl, trivial⟩) (fun _ => rfl) ?_
          rintro n x19 h
          rw [I_IsPose_l1] at h
          show VC _ _ _ (⟨[(5, .ptr 5 0), (8, .ptr 8 0), (54, .ro false (.pairs l_0.f.g.bars)), (55, .int (l_0.f.g.bars.length : Int)), (56, .int x19)], [], [(5, some [.int l_0.f.g.n, .ro false (.pairs l_0.f.g.bars), .ro false (.pairs l_0.f.places)]), (8, some [.int (0 : Int), .nil, .ro false (.pairs p_1)])]⟩ : PS)
          refine vSeq ?_
          refine vRegion ?_
          refine oVal tt rfl rfl rfl rfl rfl trivial ?_
          refine vNil ?_
          change VC _ _ _ _
          refine vSeq ?_
          refine vCond rfl (fun hb4 => ?_) (fun hb4 => ?_)
          · replace h := cnd_t hb4 h
            refine vSkip ?_
            change VC _ _ _ _
            refine vSeq ?_
            refine vBlock ?_
            refine vSeq ?_
            refine vRegion ?_
            obtain ⟨hg5, h⟩ := grd_inv h
            refine oVal tt rfl rfl rfl rfl rfl hg5 ?_
            refine oVal tt rfl rfl rfl rfl rfl trivial ?_
            refine oAlloc tt rfl rfl rfl rfl rfl rfl rfl rfl rfl ?_
            refine oStore tt rfl rfl rfl rfl rfl rfl rfl rfl rfl rfl rfl ⟨trivial, trivial, trivial⟩ ?_
            refine vNil ?_
            change VC _ _ _ _
            refine vSeq ?_
            refine vRegionD (by kernel_rfl) (by kernel_rfl) ?_
            iterate 5 refine cVal tt rfl (wNone rfl) rfl rfl rfl trivial ?_
            obtain ⟨v22, hc6, h⟩ := bind_inv h
            refine cCall (M_Framework_square_w N l_0.f ((l_0.f.g.bars.getD ((x19).toNat) (0, 0)).1) ((l_0.f.g.bars.getD ((x19).toNat) (0, 0)).2) v22 hc6) rfl (wNone rfl) rfl rfl rfl rfl rfl rfl ⟨⟨rfl, rfl, rfl, trivial⟩, rfl, rfl, trivial⟩ ?_
            iterate 5 refine cVal tt rfl (wNone rfl) rfl rfl rfl trivial ?_
            obtain ⟨v23, hc7, h⟩ := bind_inv h
            refine cCall (M_Framework_square_w N (⟨⟨(0 : Int), ([] : List (Int × Int))⟩, p_1⟩ : Frm) ((l_0.f.g.bars.getD ((x19).toNat) (0, 0)).1) ((l_0.f.g.bars.getD ((x19).toNat) (0, 0)).2) v23 hc7) rfl (wNone rfl) rfl rfl rfl rfl rfl rfl ⟨⟨rfl, rfl, rfl, trivial⟩, rfl, rfl, trivial⟩ ?_
            refine cVal tt rfl (wNone rfl) rfl rfl rfl trivial ?_
            refine cNil ?_
            change VC _ _ _ _
            refine vCond rfl (fun hb8 => ?_) (fun hb8 => ?_)
            · replace h := cnd_t hb8 h
              refine vSeq ?_
              refine vRegion ?_
              refine oVal tt rfl rfl rfl rfl rfl trivial ?_
              refine vNil ?_
              change VC _ _ _ _
              refine vRet ?_
              change ∃ _, _
              cases h
              exact ⟨[], _, rfl, trivial, rfl, (.eq rfl), rfl⟩
            · replace h := cnd_f hb8 h
              refine vSkip ?_
              change VC _ _ _ _
              refine vRegion ?_
              obtain ⟨hg9, h⟩ := grd_inv h
              refine oVal tt rfl rfl rfl rfl rfl hg9 ?_
              refine oVal tt rfl rfl rfl rfl rfl trivial ?_
              refine vNil ?_
              change ∃ _, _
              exact ⟨(x19 + (1 : Int)), (En.of ⟨rfl, rfl, rfl, rfl, rfl, trivial⟩ trivial ⟨rfl, rfl, trivial⟩), h⟩
          · replace h := cnd_f hb4 h
            refine vExit ?_
            change ∃ _, _
            exact ⟨(), (En.of trivial trivial trivial), h⟩
      · intro k h
        refine vBlock ?_
        refine vLoopS (α := Int) (fun (x27 : Int) => (⟨[(1, .ro false (.pairs p_1)), (2, .ptr 2 0), (5, .ptr 5 0), (24, .ro false (.pairs p_1)), (25, .int (p_1.length : Int)), (26, .int x27)], [], [(2, some [.int l_0.f.g.n, .ro false (.pairs l_0.f.g.bars), .ro false (.pairs l_0.f.places), .ro false (.ints l_0.ground)]), (5, some [.int l_0.f.g.n, .ro false (.pairs l_0.f.g.bars), .ro false (.pairs l_0.f.places)])]⟩ : PS)) (I_IsPose_l2 N l_0 p_1 k) h (En.of ⟨rfl, rfl, rfl, rfl, rfl, rfl, trivial⟩ trivial ⟨rfl, rfl, trivial⟩) (fun _ => rfl) ?_
        rintro n x27 h
        rw [I_IsPose_l2] at h
        show VC _ _ _ (⟨[(1, .ro false (.pairs p_1)), (2, .ptr 2 0), (5, .ptr 5 0), (24, .ro false (.pairs p_1)), (25, .int (p_1.length : Int)), (26, .int x27)], [], [(2, some [.int l_0.f.g.n, .ro false (.pairs l_0.f.g.bars), .ro false (.pairs l_0.f.places), .ro false (.ints l_0.ground)]), (5, some [.int l_0.f.g.n, .ro false (.pairs l_0.f.g.bars), .ro false (.pairs l_0.f.places)])]⟩ : PS)
        refine vSeq ?_
        refine vRegion ?_
        refine oVal tt rfl rfl rfl rfl rfl trivial ?_
        refine vNil ?_
        change VC _ _ _ _
        refine vSeq ?_
        refine vCond rfl (fun hb10 => ?_) (fun hb10 => ?_)
        · replace h := cnd_t hb10 h
          refine vSkip ?_
          change VC _ _ _ _
          refine vSeq ?_
          refine vBlock ?_
          refine vSeq ?_
          refine vRegion ?_
          refine oVal tt rfl rfl rfl rfl rfl trivial ?_
          obtain ⟨hg11, h⟩ := grd_inv h
          refine oVal tt rfl rfl rfl rfl rfl hg11 ?_
          refine oVal tt rfl rfl rfl rfl rfl trivial ?_
          refine oAlloc tt rfl rfl rfl rfl rfl rfl rfl rfl rfl ?_
          refine oVal tt rfl rfl rfl rfl rfl trivial ?_
          refine oStore tt rfl rfl rfl rfl rfl rfl rfl rfl rfl rfl rfl ⟨trivial, trivial, trivial⟩ ?_
          refine vNil ?_
          change VC _ _ _ _
          refine vSeq ?_
          refine vRegionD (by kernel_rfl) (by kernel_rfl) ?_
          refine cVal tt rfl (wNone rfl) rfl rfl rfl trivial ?_
          obtain ⟨v30, hc12, h⟩ := bind_inv h
          refine cCall (I_isPlace_w N (p_1.getD ((x27).toNat) (0, 0)) v30 hc12) rfl (wNone rfl) rfl rfl rfl rfl rfl rfl ⟨⟨rfl, rfl, trivial⟩, trivial⟩ ?_
          iterate 2 refine cVal tt rfl (wNone rfl) rfl rfl rfl trivial ?_
          refine cSplit rfl rfl rfl (fun hb13 => ?_) (fun hb13 => ?_)
          · replace h := cnd_t hb13 h
            iterate 5 refine cNoF rfl rfl rfl rfl hb13 rfl rfl ?_
            iterate 7 refine cNoU rfl rfl rfl rfl rfl ?_
            refine cNoF rfl rfl rfl rfl hb13 rfl rfl ?_
            refine cPickT rfl (wNone rfl) rfl rfl rfl hb13 rfl ?_
            refine cNil ?_
            change VC _ _ _ _
            refine vCondT rfl rfl ?_
            refine vSeq ?_
            refine vRegion ?_
            refine oVal tt rfl rfl rfl rfl rfl trivial ?_
            refine vNil ?_
            change VC _ _ _ _
            refine vRet ?_
            change ∃ _, _
            cases h
            exact ⟨[], _, rfl, trivial, rfl, (.eq rfl), rfl⟩
          · replace h := cnd_f hb13 h
            iterate 3 refine cVal tt rfl (wSome rfl rfl rfl rfl hb13) rfl rfl rfl trivial ?_
            obtain ⟨v31, hc14, h⟩ := bind_inv h
            refine cCall (G_Contains_int_w N l_0.ground x27 v31 hc14) rfl (wSome rfl rfl rfl rfl hb13) rfl rfl rfl rfl rfl rfl ⟨rfl, rfl, trivial⟩ ?_
            refine cVal tt rfl (wSome rfl rfl rfl rfl hb13) rfl rfl rfl trivial ?_
            refine cSplit rfl rfl rfl (fun hb15 => ?_) (fun hb15 => ?_)
            · replace h := cnd_t hb15 h
              iterate 4 refine cVal tt rfl (wSome rfl rfl rfl rfl hb15) rfl rfl rfl trivial ?_
              obtain ⟨hg16, h⟩ := grd_inv h
              refine cVal tt rfl (wSome rfl rfl rfl rfl hb15) rfl rfl rfl hg16 ?_
              refine cVal tt rfl (wSome rfl rfl rfl rfl hb15) rfl rfl rfl trivial ?_
              refine cPure (wSome rfl rfl rfl rfl hb15) (pNeP eqP_impl_Place rfl rfl rfl) rfl rfl ?_
              refine cPickT rfl (wSome rfl rfl rfl rfl hb13) rfl rfl rfl hb15 rfl ?_
              refine cPickF rfl (wNone rfl) rfl rfl rfl hb13 rfl ?_
              refine cNil ?_
              change VC _ _ _ _
              refine vCond rfl (fun hb17 => ?_) (fun hb17 => ?_)
              · replace h := cnd_t hb17 h
                refine vSeq ?_
                refine vRegion ?_
                refine oVal tt rfl rfl rfl rfl rfl trivial ?_
                refine vNil ?_
                change VC _ _ _ _
                refine vRet ?_
                change ∃ _, _
                cases h
                exact ⟨[], _, rfl, trivial, rfl, (.eq rfl), rfl⟩
              · replace h := cnd_f hb17 h
                refine vSkip ?_
                change VC _ _ _ _
                refine vRegion ?_
                obtain ⟨hg18, h⟩ := grd_inv h
                refine oVal tt rfl rfl rfl rfl rfl hg18 ?_
                refine oVal tt rfl rfl rfl rfl rfl trivial ?_
                refine vNil ?_
                change ∃ _, _
                exact ⟨(x27 + (1 : Int)), (En.of ⟨rfl, rfl, rfl, rfl, rfl, rfl, trivial⟩ trivial ⟨rfl, rfl, trivial⟩), h⟩
            · replace h := cnd_f hb15 h
              iterate 7 refine cNoT rfl rfl rfl rfl hb15 rfl rfl ?_
              refine cPickF rfl (wSome rfl rfl rfl rfl hb13) rfl rfl rfl hb15 rfl ?_
              refine cPickF rfl (wNone rfl) rfl rfl rfl hb13 rfl ?_
              refine cNil ?_
              change VC _ _ _ _
              refine vCondF rfl rfl ?_
              refine vSkip ?_
              change VC _ _ _ _
              refine vRegion ?_
              obtain ⟨hg19, h⟩ := grd_inv h
              refine oVal tt rfl rfl rfl rfl rfl hg19 ?_
              refine oVal tt rfl rfl rfl rfl rfl trivial ?_
              refine vNil ?_
              change ∃ _, _
              exact ⟨(x27 + (1 : Int)), (En.of ⟨rfl, rfl, rfl, rfl, rfl, rfl, trivial⟩ trivial ⟨rfl, rfl, trivial⟩), h⟩
        · replace h := cnd_f hb10 h
          refine vExit ?_
          change ∃ _, _
          exact ⟨(), (En.of ⟨rfl, rfl, trivial⟩ trivial ⟨rfl, trivial⟩), h⟩
end Go.Proofs.Ytlmlfbjcpajinaa
