/- Plain texts of functions, and that the program computes them (printed by gen.py). -/
import Derived.Test.YtlmlfbjcpajinaaShb
import Derived.Test.YtlmlfbjcpajinaaG4
namespace Go.Proofs.Ytlmlfbjcpajinaa
open Go.RowKit
set_option linter.unusedVariables false
set_option linter.unusedSimpArgs false
def S_l2Has_l1 (N : Nat) (l_0 : List Int) (x_1 : Int) (k : Unit → Option (Bool)) : Nat → Int → Option (Bool)
  | 0, _ => none
  | n + 1, i3 =>
    cnd (decide (i3 < (l_0.length : Int))) (
      grd (0 ≤ i3 ∧ i3 < (l_0.length : Int)) <|
      cnd ((l_0.getD ((i3).toNat) 0) == x_1) (
        some true) (
        grd (Rg64 (i3 + (1 : Int))) <|
        S_l2Has_l1 N l_0 x_1 k n (i3 + (1 : Int)))) (
      k ())
def S_l2Has (N : Nat) (l_0 : List Int) (x_1 : Int) : Option (Bool) :=
  S_l2Has_l1 N l_0 x_1 (fun (_ : Unit) =>
        some false) N (0 : Int)
set_option maxRecDepth 20000 in
set_option maxHeartbeats 1600000 in
theorem S_l2Has_w (N : Nat) (l_0 : List Int) (x_1 : Int) (r : Bool) (h : S_l2Has N l_0 x_1 = some r) : PCall Try.prog 81 [.ro false (.ints l_0), .int x_1] [] (.bool r) := by
  unfold S_l2Has at h
  refine pcall_intro (TT := TT) tt Try.func81 rfl rfl Try.ntmps81 (congrArg Array.toList Try.results81) rfl rfl fun w0 => ?_
  refine vSeq ?_
  refine vRegion ?_
  refine oVal tt rfl rfl rfl rfl rfl trivial ?_
  refine vNil ?_
  change VC _ _ _ _
  iterate 2 refine vSeq ?_
  refine vRegion ?_
  refine oVal tt rfl rfl rfl rfl rfl trivial ?_
  refine vNil ?_
  change VC _ _ _ _
  refine vJoin (F := fun k => S_l2Has_l1 N l_0 x_1 k) h (α := Unit) (J := fun (_ : Unit) => (⟨[], [], []⟩ : PS)) ?_ ?_
  · rintro ⟨⟩ h
    show VC _ _ _ (⟨[], [], []⟩ : PS)
    refine vSeq ?_
    refine vRegion ?_
    refine oVal tt rfl rfl rfl rfl rfl trivial ?_
    refine vNil ?_
    change VC _ _ _ _
    refine vRet ?_
    change ∃ _, _
    cases h
    exact ⟨[], _, rfl, trivial, rfl, (.eq rfl), rfl⟩
  · intro k h
    refine vBlock ?_
    refine vLoopS (α := Int) (fun (i3 : Int) => (⟨[(0, .ro false (.ints l_0)), (1, .int x_1), (5, .int i3)], [], []⟩ : PS)) (S_l2Has_l1 N l_0 x_1 k) h (En.of ⟨rfl, rfl, rfl, trivial⟩ trivial trivial) (fun _ => rfl) ?_
    rintro n i3 h
    rw [S_l2Has_l1] at h
    show VC _ _ _ (⟨[(0, .ro false (.ints l_0)), (1, .int x_1), (5, .int i3)], [], []⟩ : PS)
    iterate 2 refine vSeq ?_
    refine vRegion ?_
    iterate 4 refine oVal tt rfl rfl rfl rfl rfl trivial ?_
    refine vNil ?_
    change VC _ _ _ _
    refine vCond rfl (fun hb1 => ?_) (fun hb1 => ?_)
    · replace h := cnd_t hb1 h
      refine vSkip ?_
      change VC _ _ _ _
      refine vSeq ?_
      refine vBlock ?_
      refine vSeq ?_
      refine vRegion ?_
      iterate 2 refine oVal tt rfl rfl rfl rfl rfl trivial ?_
      obtain ⟨hg2, h⟩ := grd_inv h
      refine oVal tt rfl rfl rfl rfl rfl hg2 ?_
      iterate 3 refine oVal tt rfl rfl rfl rfl rfl trivial ?_
      refine vNil ?_
      change VC _ _ _ _
      refine vCond rfl (fun hb3 => ?_) (fun hb3 => ?_)
      · replace h := cnd_t hb3 h
        refine vSeq ?_
        refine vRegion ?_
        refine oVal tt rfl rfl rfl rfl rfl trivial ?_
        refine vNil ?_
        change VC _ _ _ _
        refine vRet ?_
        change ∃ _, _
        cases h
        exact ⟨[], _, rfl, trivial, rfl, (.eq rfl), rfl⟩
      · replace h := cnd_f hb3 h
        refine vSkip ?_
        change VC _ _ _ _
        refine vRegion ?_
        refine oVal tt rfl rfl rfl rfl rfl trivial ?_
        obtain ⟨hg4, h⟩ := grd_inv h
        refine oVal tt rfl rfl rfl rfl rfl hg4 ?_
        refine oVal tt rfl rfl rfl rfl rfl trivial ?_
        refine vNil ?_
        change ∃ _, _
        exact ⟨(i3 + (1 : Int)), (En.of ⟨rfl, rfl, rfl, trivial⟩ trivial trivial), h⟩
    · replace h := cnd_f hb1 h
      refine vExit ?_
      change ∃ _, _
      exact ⟨(), (En.of trivial trivial trivial), h⟩
def S_l4Other (N : Nat) (b_0 : Int × Int) (v_1 : Int) : Option (Int) :=
  grd (Rg64 (b_0.1 + b_0.2)) <|
  grd (Rg64 ((b_0.1 + b_0.2) - v_1)) <|
  some ((b_0.1 + b_0.2) - v_1)
set_option maxRecDepth 20000 in
set_option maxHeartbeats 1600000 in
theorem S_l4Other_w (N : Nat) (b_0 : Int × Int) (v_1 : Int) (r : Int) (h : S_l4Other N b_0 v_1 = some r) : PCall Try.prog 124 [.agg [.int b_0.1, .int b_0.2], .int v_1] [] (.int r) := by
  unfold S_l4Other at h
  refine pcall_intro (TT := TT) tt Try.func124 rfl rfl Try.ntmps124 (congrArg Array.toList Try.results124) rfl rfl fun w0 => ?_
  refine vSeq ?_
  refine vRegion ?_
  refine oBox rfl rfl rfl rfl rfl rfl rfl rfl rfl ?_
  refine oVal tt rfl rfl rfl rfl rfl trivial ?_
  refine vNil ?_
  change VC _ _ _ _
  refine vSeq ?_
  refine vRegion ?_
  iterate 4 refine oVal tt rfl rfl rfl rfl rfl trivial ?_
  obtain ⟨hg1, h⟩ := grd_inv h
  refine oVal tt rfl rfl rfl rfl rfl hg1 ?_
  refine oVal tt rfl rfl rfl rfl rfl trivial ?_
  obtain ⟨hg2, h⟩ := grd_inv h
  refine oVal tt rfl rfl rfl rfl rfl hg2 ?_
  refine oVal tt rfl rfl rfl rfl rfl trivial ?_
  refine vNil ?_
  change VC _ _ _ _
  refine vRet ?_
  change ∃ _, _
  cases h
  exact ⟨[], _, rfl, trivial, rfl, (.eq rfl), rfl⟩
def S_l7Near_l1 (N : Nat) (g_0 : Grf) (v_1 : Int) (k : (List Int) → Option (List Int)) : Nat → ((List Int) × Int) → Option (List Int)
  | 0, _ => none
  | n + 1, (l17, i18) =>
    cnd (decide (i18 < (g_0.bars.length : Int))) (
      grd (0 ≤ i18 ∧ i18 < (g_0.bars.length : Int)) <|
      cnd (((g_0.bars.getD ((i18).toNat) (0, 0)).1) == v_1) (
        (S_l4Other N (g_0.bars.getD ((i18).toNat) (0, 0)) v_1).bind fun v21 =>
        grd (l17.length + 1 ≤ 4294967296) <|
        grd (Rg64 (i18 + (1 : Int))) <|
        S_l7Near_l1 N g_0 v_1 k n ((l17 ++ ([v21] : List Int)), (i18 + (1 : Int)))) (
        cnd (((g_0.bars.getD ((i18).toNat) (0, 0)).2) == v_1) (
          (S_l4Other N (g_0.bars.getD ((i18).toNat) (0, 0)) v_1).bind fun v22 =>
          grd (l17.length + 1 ≤ 4294967296) <|
          grd (Rg64 (i18 + (1 : Int))) <|
          S_l7Near_l1 N g_0 v_1 k n ((l17 ++ ([v22] : List Int)), (i18 + (1 : Int)))) (
          grd (Rg64 (i18 + (1 : Int))) <|
          S_l7Near_l1 N g_0 v_1 k n (l17, (i18 + (1 : Int)))))) (
      k l17)
def S_l7Near (N : Nat) (g_0 : Grf) (v_1 : Int) : Option (List Int) :=
  S_l7Near_l1 N g_0 v_1 (fun (l11 : List Int) =>
        some l11) N (([] : List Int), (0 : Int))
set_option maxRecDepth 20000 in
set_option maxHeartbeats 1600000 in
theorem S_l7Near_w (N : Nat) (g_0 : Grf) (v_1 : Int) (r : List Int) (h : S_l7Near N g_0 v_1 = some r) : PCall Try.prog 122 [gD g_0, .int v_1] [(3, .ints r)] (.row 0 0 r.length) := by
  unfold S_l7Near at h
  refine pcall_intro (TT := TT) tt Try.func122 rfl rfl Try.ntmps122 (congrArg Array.toList Try.results122) rfl rfl fun w0 => ?_
  refine vSeq ?_
  refine vRegion ?_
  refine oBox rfl rfl rfl rfl rfl rfl rfl rfl rfl ?_
  refine oVal tt rfl rfl rfl rfl rfl trivial ?_
  refine vNil ?_
  change VC _ _ _ _
  refine vSeq ?_
  refine vRegion ?_
  refine oEmpty tt (wNone rfl) rfl rfl rfl rfl ?_
  refine oVal tt rfl rfl rfl rfl rfl trivial ?_
  refine vNil ?_
  change VC _ _ _ _
  iterate 2 refine vSeq ?_
  refine vRegion ?_
  refine oVal tt rfl rfl rfl rfl rfl trivial ?_
  refine vNil ?_
  change VC _ _ _ _
  refine vJoin (F := fun k => S_l7Near_l1 N g_0 v_1 k) h (α := List Int) (J := fun (l11 : List Int) => (⟨[(5, .row 42 0 l11.length)], [(42, some (3, .ints l11))], []⟩ : PS)) ?_ ?_
  · rintro l11 h
    show VC _ _ _ (⟨[(5, .row 42 0 l11.length)], [(42, some (3, .ints l11))], []⟩ : PS)
    refine vSeq ?_
    refine vRegion ?_
    iterate 2 refine oVal tt rfl rfl rfl rfl rfl trivial ?_
    refine vNil ?_
    change VC _ _ _ _
    refine vRet ?_
    change ∃ _, _
    cases h
    exact ⟨[42], _, rfl, ⟨rfl, trivial⟩, rfl, (.eq rfl), rfl⟩
  · intro k h
    refine vBlock ?_
    refine vNilT 5 42 3 (.ints []) rfl rfl rfl rfl ?_
    refine vLoopS (α := (List Int) × Int) (fun | (l17, i18) => (⟨[(1, .int v_1), (2, .ptr 2 0), (5, .row 42 0 l17.length), (6, .int i18)], [(42, some (3, .ints l17))], [(2, some [.int g_0.n, .ro false (.pairs g_0.bars)])]⟩ : PS)) (S_l7Near_l1 N g_0 v_1 k) h (En.of ⟨rfl, rfl, rfl, rfl, trivial⟩ ⟨rfl, trivial⟩ ⟨rfl, trivial⟩) (fun _ => rfl) ?_
    rintro n ⟨l17, i18⟩ h
    rw [S_l7Near_l1] at h
    show VC _ _ _ (⟨[(1, .int v_1), (2, .ptr 2 0), (5, .row 42 0 l17.length), (6, .int i18)], [(42, some (3, .ints l17))], [(2, some [.int g_0.n, .ro false (.pairs g_0.bars)])]⟩ : PS)
    iterate 2 refine vSeq ?_
    refine vRegion ?_
    iterate 5 refine oVal tt rfl rfl rfl rfl rfl trivial ?_
    refine vNil ?_
    change VC _ _ _ _
    refine vCond rfl (fun hb1 => ?_) (fun hb1 => ?_)
    · replace h := cnd_t hb1 h
      refine vSkip ?_
      change VC _ _ _ _
      refine vSeq ?_
      refine vBlock ?_
      refine vSeq ?_
      refine vRegion ?_
      iterate 3 refine oVal tt rfl rfl rfl rfl rfl trivial ?_
      obtain ⟨hg2, h⟩ := grd_inv h
      refine oVal tt rfl rfl rfl rfl rfl hg2 ?_
      iterate 5 refine oVal tt rfl rfl rfl rfl rfl trivial ?_
      refine oSplit rfl rfl rfl (fun hb3 => ?_) (fun hb3 => ?_)
      · replace h := cnd_t hb3 h
        iterate 8 refine oNoF rfl rfl rfl rfl hb3 rfl rfl ?_
        refine oPick rfl rfl rfl rfl rfl hb3 rfl ?_
        refine vNil ?_
        change VC _ _ _ _
        refine vCondT rfl rfl ?_
        refine vRegion ?_
        iterate 4 refine oVal tt rfl rfl rfl rfl rfl trivial ?_
        refine oVal tt rfl rfl rfl rfl rfl hg2 ?_
        iterate 2 refine oVal tt rfl rfl rfl rfl rfl trivial ?_
        obtain ⟨v21, hc4, h⟩ := bind_inv h
        refine oCall (S_l4Other_w N (g_0.bars.getD ((i18).toNat) (0, 0)) v_1 v21 hc4) rfl rfl rfl rfl rfl rfl rfl rfl ⟨⟨rfl, rfl, trivial⟩, rfl, trivial⟩ ?_
        refine oBuild tt rfl rfl rfl rfl rfl rfl rfl rfl rfl rfl rfl ?_
        obtain ⟨hg5, h⟩ := grd_inv h
        refine oAppend tt rfl rfl rfl rfl rfl rfl rfl rfl rfl rfl rfl rfl rfl rfl rfl rfl (Nat.le_of_eq (Nat.zero_add _)) hg5 ?_
        refine oVal tt rfl rfl rfl rfl rfl trivial ?_
        refine vNil ?_
        change VC _ _ _ _
        refine vRegion ?_
        refine oVal tt rfl rfl rfl rfl rfl trivial ?_
        obtain ⟨hg6, h⟩ := grd_inv h
        refine oVal tt rfl rfl rfl rfl rfl hg6 ?_
        refine oVal tt rfl rfl rfl rfl rfl trivial ?_
        refine vNil ?_
        change ∃ _, _
        exact ⟨((l17 ++ ([v21] : List Int)), (i18 + (1 : Int))), (En.of ⟨rfl, rfl, rfl, rfl, trivial⟩ ⟨rfl, trivial⟩ ⟨rfl, trivial⟩), h⟩
      · replace h := cnd_f hb3 h
        iterate 3 refine oValG tt rfl rfl rfl rfl rfl hb3 rfl rfl rfl trivial ?_
        refine oValG tt rfl rfl rfl rfl rfl hb3 rfl rfl rfl hg2 ?_
        iterate 4 refine oValG tt rfl rfl rfl rfl rfl hb3 rfl rfl rfl trivial ?_
        refine oPickF rfl rfl rfl rfl rfl hb3 rfl ?_
        refine vNil ?_
        change VC _ _ _ _
        refine vCond rfl (fun hb7 => ?_) (fun hb7 => ?_)
        · replace h := cnd_t hb7 h
          refine vRegion ?_
          iterate 4 refine oVal tt rfl rfl rfl rfl rfl trivial ?_
          refine oVal tt rfl rfl rfl rfl rfl hg2 ?_
          iterate 2 refine oVal tt rfl rfl rfl rfl rfl trivial ?_
          obtain ⟨v22, hc8, h⟩ := bind_inv h
          refine oCall (S_l4Other_w N (g_0.bars.getD ((i18).toNat) (0, 0)) v_1 v22 hc8) rfl rfl rfl rfl rfl rfl rfl rfl ⟨⟨rfl, rfl, trivial⟩, rfl, trivial⟩ ?_
          refine oBuild tt rfl rfl rfl rfl rfl rfl rfl rfl rfl rfl rfl ?_
          obtain ⟨hg9, h⟩ := grd_inv h
          refine oAppend tt rfl rfl rfl rfl rfl rfl rfl rfl rfl rfl rfl rfl rfl rfl rfl rfl (Nat.le_of_eq (Nat.zero_add _)) hg9 ?_
          refine oVal tt rfl rfl rfl rfl rfl trivial ?_
          refine vNil ?_
          change VC _ _ _ _
          refine vRegion ?_
          refine oVal tt rfl rfl rfl rfl rfl trivial ?_
          obtain ⟨hg10, h⟩ := grd_inv h
          refine oVal tt rfl rfl rfl rfl rfl hg10 ?_
          refine oVal tt rfl rfl rfl rfl rfl trivial ?_
          refine vNil ?_
          change ∃ _, _
          exact ⟨((l17 ++ ([v22] : List Int)), (i18 + (1 : Int))), (En.of ⟨rfl, rfl, rfl, rfl, trivial⟩ ⟨rfl, trivial⟩ ⟨rfl, trivial⟩), h⟩
        · replace h := cnd_f hb7 h
          refine vSkip ?_
          change VC _ _ _ _
          refine vRegion ?_
          refine oVal tt rfl rfl rfl rfl rfl trivial ?_
          obtain ⟨hg11, h⟩ := grd_inv h
          refine oVal tt rfl rfl rfl rfl rfl hg11 ?_
          refine oVal tt rfl rfl rfl rfl rfl trivial ?_
          refine vNil ?_
          change ∃ _, _
          exact ⟨(l17, (i18 + (1 : Int))), (En.of ⟨rfl, rfl, rfl, rfl, trivial⟩ ⟨rfl, trivial⟩ ⟨rfl, trivial⟩), h⟩
    · replace h := cnd_f hb1 h
      refine vExit ?_
      change ∃ _, _
      exact ⟨l17, (En.of ⟨rfl, trivial⟩ ⟨rfl, trivial⟩ trivial), h⟩
def S_l23Known_l1 (N : Nat) (known_2 : List Int) (v1 : List Int) (k : Int → Option (Int)) : Nat → (Int × Int) → Option (Int)
  | 0, _ => none
  | n + 1, (n10, i11) =>
    cnd (decide (i11 < (v1.length : Int))) (
      grd (0 ≤ i11 ∧ i11 < (v1.length : Int)) <|
      (S_l2Has N known_2 (v1.getD ((i11).toNat) 0)).bind fun v13 =>
      cnd v13 (
        grd (Rg64 (n10 + (1 : Int))) <|
        grd (Rg64 (i11 + (1 : Int))) <|
        S_l23Known_l1 N known_2 v1 k n ((n10 + (1 : Int)), (i11 + (1 : Int)))) (
        grd (Rg64 (i11 + (1 : Int))) <|
        S_l23Known_l1 N known_2 v1 k n (n10, (i11 + (1 : Int))))) (
      k n10)
def S_l23Known (N : Nat) (g_0 : Grf) (v_1 : Int) (known_2 : List Int) : Option (Int) :=
  (S_l7Near N g_0 v_1).bind fun v1 =>
  S_l23Known_l1 N known_2 v1 (fun (n7 : Int) =>
        some n7) N ((0 : Int), (0 : Int))
set_option maxRecDepth 20000 in
set_option maxHeartbeats 1600000 in
theorem S_l23Known_w (N : Nat) (g_0 : Grf) (v_1 : Int) (known_2 : List Int) (r : Int) (h : S_l23Known N g_0 v_1 known_2 = some r) : PCall Try.prog 82 [gD g_0, .int v_1, .ro false (.ints known_2)] [] (.int r) := by
  unfold S_l23Known at h
  refine pcall_intro (TT := TT) tt Try.func82 rfl rfl Try.ntmps82 (congrArg Array.toList Try.results82) rfl rfl fun w0 => ?_
  refine vSeq ?_
  refine vRegion ?_
  refine oBox rfl rfl rfl rfl rfl rfl rfl rfl rfl ?_
  refine oVal tt rfl rfl rfl rfl rfl trivial ?_
  refine vNil ?_
  change VC _ _ _ _
  refine vSeq ?_
  refine vRegion ?_
  refine oVal tt rfl rfl rfl rfl rfl trivial ?_
  refine vNil ?_
  change VC _ _ _ _
  refine vSeq ?_
  refine vRegion ?_
  iterate 2 refine oVal tt rfl rfl rfl rfl rfl trivial ?_
  obtain ⟨v1, hc1, h⟩ := bind_inv h
  refine oCall (S_l7Near_w N g_0 v_1 v1 hc1) rfl rfl rfl rfl rfl rfl rfl rfl ⟨⟨rfl, rfl, trivial⟩, rfl, trivial⟩ ?_
  refine oVal tt rfl rfl rfl rfl rfl trivial ?_
  refine vNil ?_
  change VC _ _ _ _
  iterate 2 refine vSeq ?_
  refine vRegion ?_
  refine oVal tt rfl rfl rfl rfl rfl trivial ?_
  refine vNil ?_
  change VC _ _ _ _
  refine vJoin (F := fun k => S_l23Known_l1 N known_2 v1 k) h (α := Int) (J := fun (n7 : Int) => (⟨[(7, .int n7)], [], []⟩ : PS)) ?_ ?_
  · rintro n7 h
    show VC _ _ _ (⟨[(7, .int n7)], [], []⟩ : PS)
    refine vSeq ?_
    refine vRegion ?_
    iterate 2 refine oVal tt rfl rfl rfl rfl rfl trivial ?_
    refine vNil ?_
    change VC _ _ _ _
    refine vRet ?_
    change ∃ _, _
    cases h
    exact ⟨[], _, rfl, trivial, rfl, (.eq rfl), rfl⟩
  · intro k h
    refine vBlock ?_
    refine vLoopS (α := Int × Int) (fun | (n10, i11) => (⟨[(2, .ro false (.ints known_2)), (7, .int n10), (8, .row 1120 0 v1.length), (9, .int i11)], [(1120, some (3, .ints v1))], []⟩ : PS)) (S_l23Known_l1 N known_2 v1 k) h (En.of ⟨rfl, rfl, rfl, rfl, trivial⟩ ⟨rfl, trivial⟩ trivial) (fun _ => rfl) ?_
    rintro n ⟨n10, i11⟩ h
    rw [S_l23Known_l1] at h
    show VC _ _ _ (⟨[(2, .ro false (.ints known_2)), (7, .int n10), (8, .row 1120 0 v1.length), (9, .int i11)], [(1120, some (3, .ints v1))], []⟩ : PS)
    iterate 2 refine vSeq ?_
    refine vRegion ?_
    iterate 4 refine oVal tt rfl rfl rfl rfl rfl trivial ?_
    refine vNil ?_
    change VC _ _ _ _
    refine vCond rfl (fun hb2 => ?_) (fun hb2 => ?_)
    · replace h := cnd_t hb2 h
      refine vSkip ?_
      change VC _ _ _ _
      refine vSeq ?_
      refine vBlock ?_
      refine vSeq ?_
      refine vRegion ?_
      iterate 3 refine oVal tt rfl rfl rfl rfl rfl trivial ?_
      obtain ⟨hg3, h⟩ := grd_inv h
      iterate 2 refine oVal tt rfl rfl rfl rfl rfl hg3 ?_
      obtain ⟨v13, hc4, h⟩ := bind_inv h
      refine oCall (S_l2Has_w N known_2 (v1.getD ((i11).toNat) 0) v13 hc4) rfl rfl rfl rfl rfl rfl rfl rfl ⟨rfl, rfl, trivial⟩ ?_
      refine vNil ?_
      change VC _ _ _ _
      refine vCond rfl (fun hb5 => ?_) (fun hb5 => ?_)
      · replace h := cnd_t hb5 h
        refine vRegion ?_
        refine oVal tt rfl rfl rfl rfl rfl trivial ?_
        obtain ⟨hg6, h⟩ := grd_inv h
        refine oVal tt rfl rfl rfl rfl rfl hg6 ?_
        refine oVal tt rfl rfl rfl rfl rfl trivial ?_
        refine vNil ?_
        change VC _ _ _ _
        refine vRegion ?_
        refine oVal tt rfl rfl rfl rfl rfl trivial ?_
        obtain ⟨hg7, h⟩ := grd_inv h
        refine oVal tt rfl rfl rfl rfl rfl hg7 ?_
        refine oVal tt rfl rfl rfl rfl rfl trivial ?_
        refine vNil ?_
        change ∃ _, _
        exact ⟨((n10 + (1 : Int)), (i11 + (1 : Int))), (En.of ⟨rfl, rfl, rfl, rfl, trivial⟩ ⟨rfl, trivial⟩ trivial), h⟩
      · replace h := cnd_f hb5 h
        refine vSkip ?_
        change VC _ _ _ _
        refine vRegion ?_
        refine oVal tt rfl rfl rfl rfl rfl trivial ?_
        obtain ⟨hg8, h⟩ := grd_inv h
        refine oVal tt rfl rfl rfl rfl rfl hg8 ?_
        refine oVal tt rfl rfl rfl rfl rfl trivial ?_
        refine vNil ?_
        change ∃ _, _
        exact ⟨(n10, (i11 + (1 : Int))), (En.of ⟨rfl, rfl, rfl, rfl, trivial⟩ ⟨rfl, trivial⟩ trivial), h⟩
    · replace h := cnd_f hb2 h
      refine vExit ?_
      change ∃ _, _
      exact ⟨n10, (En.of ⟨rfl, trivial⟩ trivial trivial), h⟩
def S_TrilaterationOrder_l2 (N : Nat) (g_0 : Grf) (l116 : List Int) (l117 : List Int) (k : ((List Int) × (List Int)) → Option (List Int)) : Nat → Int → Option (List Int)
  | 0, _ => none
  | n + 1, v150 =>
    cnd (decide (v150 < g_0.n)) (
      (S_l2Has N l116 v150).bind fun v153 =>
      cnd (!v153) (
        (S_l23Known N g_0 v150 l116).bind fun v154 =>
        cnd (decide (v154 ≥ (3 : Int))) (
          grd (l116.length + 1 ≤ 4294967296) <|
          grd (l117.length + 1 ≤ 4294967296) <|
          k ((l116 ++ ([v150] : List Int)), (l117 ++ ([v150] : List Int)))) (
          grd (Rg64 (v150 + (1 : Int))) <|
          S_TrilaterationOrder_l2 N g_0 l116 l117 k n (v150 + (1 : Int)))) (
        grd (Rg64 (v150 + (1 : Int))) <|
        S_TrilaterationOrder_l2 N g_0 l116 l117 k n (v150 + (1 : Int)))) (
      k (l116, l117))
def S_TrilaterationOrder_l1 (N : Nat) (g_0 : Grf) (anchors_1 : List Int) (k : (List Int) → Option (List Int)) : Nat → ((List Int) × (List Int) × Int) → Option (List Int)
  | 0, _ => none
  | n + 1, (l116, l117, n118) =>
    cnd (decide (n118 < g_0.n)) (
      (S_l23Anchors N g_0 anchors_1).bind fun v137 =>
      cnd v137 (
        S_TrilaterationOrder_l2 N g_0 l116 l117 (fun (x : (List Int) × (List Int)) =>
            match x with
            | (l145, l146) =>
              grd (Rg64 (n118 + (1 : Int))) <|
              S_TrilaterationOrder_l1 N g_0 anchors_1 k n (l145, l146, (n118 + (1 : Int)))) N (0 : Int)) (
        k l117)) (
      k l117)
def S_TrilaterationOrder (N : Nat) (g_0 : Grf) (anchors_1 : List Int) : Option (List Int) :=
  grd (anchors_1.length ≤ 4294967296) <|
  S_TrilaterationOrder_l1 N g_0 anchors_1 (fun (l77 : List Int) =>
        some l77) N ((([] : List Int) ++ anchors_1), ([] : List Int), (0 : Int))
set_option maxRecDepth 20000 in
set_option maxHeartbeats 1600000 in
theorem S_TrilaterationOrder_w (N : Nat) (g_0 : Grf) (anchors_1 : List Int) (r : List Int) (h : S_TrilaterationOrder N g_0 anchors_1 = some r) : PCall Try.prog 33 [gD g_0, .ro false (.ints anchors_1)] [(3, .ints r)] (.row 0 0 r.length) := by
  unfold S_TrilaterationOrder at h
  refine pcall_intro (TT := TT) tt Try.func33 rfl rfl Try.ntmps33 (congrArg Array.toList Try.results33) rfl rfl fun w0 => ?_
  refine vSeq ?_
  refine vRegion ?_
  refine oBox rfl rfl rfl rfl rfl rfl rfl rfl rfl ?_
  refine oVal tt rfl rfl rfl rfl rfl trivial ?_
  refine vNil ?_
  change VC _ _ _ _
  refine vSeq ?_
  refine vRegion ?_
  refine oEmpty tt (wNone rfl) rfl rfl rfl rfl ?_
  refine oVal tt rfl rfl rfl rfl rfl trivial ?_
  obtain ⟨hg1, h⟩ := grd_inv h
  refine oAppNil tt (wNone rfl) rfl rfl rfl rfl rfl rfl rfl (fun _ => rfl) rfl rfl rfl rfl rfl hg1 ?_
  refine oVal tt rfl rfl rfl rfl rfl trivial ?_
  refine vNil ?_
  change VC _ _ _ _
  refine vSeq ?_
  refine vRegion ?_
  refine oEmpty tt (wNone rfl) rfl rfl rfl rfl ?_
  refine oVal tt rfl rfl rfl rfl rfl trivial ?_
  refine vNil ?_
  change VC _ _ _ _
  iterate 2 refine vSeq ?_
  refine vRegion ?_
  refine oVal tt rfl rfl rfl rfl rfl trivial ?_
  refine vNil ?_
  change VC _ _ _ _
  refine vJoin (F := fun k => S_TrilaterationOrder_l1 N g_0 anchors_1 k) h (α := List Int) (J := fun (l77 : List Int) => (⟨[(6, .row 48 0 l77.length)], [(48, some (3, .ints l77))], []⟩ : PS)) ?_ ?_
  · rintro l77 h
    show VC _ _ _ (⟨[(6, .row 48 0 l77.length)], [(48, some (3, .ints l77))], []⟩ : PS)
    refine vSeq ?_
    refine vRegion ?_
    iterate 2 refine oVal tt rfl rfl rfl rfl rfl trivial ?_
    refine vNil ?_
    change VC _ _ _ _
    refine vRet ?_
    change ∃ _, _
    cases h
    exact ⟨[48], _, rfl, ⟨rfl, trivial⟩, rfl, (.eq rfl), rfl⟩
  · intro k h
    refine vBlock ?_
    refine vNilT 6 48 3 (.ints []) rfl rfl rfl rfl ?_
    refine vLoopS (α := (List Int) × (List Int) × Int) (fun | (l116, l117, n118) => (⟨[(1, .ro false (.ints anchors_1)), (2, .ptr 2 0), (5, .row 11 0 l116.length), (6, .row 48 0 l117.length), (7, .int n118)], [(11, some (3, .ints l116)), (48, some (3, .ints l117))], [(2, some [.int g_0.n, .ro false (.pairs g_0.bars)])]⟩ : PS)) (S_TrilaterationOrder_l1 N g_0 anchors_1 k) h (En.of ⟨rfl, rfl, rfl, rfl, rfl, trivial⟩ ⟨rfl, rfl, trivial⟩ ⟨rfl, trivial⟩) (fun _ => rfl) ?_
    rintro n ⟨l116, l117, n118⟩ h
    rw [S_TrilaterationOrder_l1] at h
    show VC _ _ _ (⟨[(1, .ro false (.ints anchors_1)), (2, .ptr 2 0), (5, .row 11 0 l116.length), (6, .row 48 0 l117.length), (7, .int n118)], [(11, some (3, .ints l116)), (48, some (3, .ints l117))], [(2, some [.int g_0.n, .ro false (.pairs g_0.bars)])]⟩ : PS)
    iterate 2 refine vSeq ?_
    refine vRegion ?_
    iterate 5 refine oVal tt rfl rfl rfl rfl rfl trivial ?_
    refine oSplit rfl rfl rfl (fun hb2 => ?_) (fun hb2 => ?_)
    · replace h := cnd_t hb2 h
      iterate 2 refine oValG tt rfl rfl rfl rfl rfl hb2 rfl rfl rfl trivial ?_
      obtain ⟨v137, hc3, h⟩ := bind_inv h
      refine oCallG (S_l23Anchors_w N g_0 anchors_1 v137 hc3) rfl rfl rfl rfl hb2 rfl rfl rfl rfl rfl rfl rfl ⟨⟨rfl, rfl, trivial⟩, rfl, trivial⟩ ?_
      refine oPick rfl rfl rfl rfl rfl hb2 rfl ?_
      refine vNil ?_
      change VC _ _ _ _
      refine vCond rfl (fun hb4 => ?_) (fun hb4 => ?_)
      · replace h := cnd_t hb4 h
        refine vSkip ?_
        change VC _ _ _ _
        refine vSeq ?_
        refine vBlock ?_
        refine vSeq ?_
        refine vRegion ?_
        refine oVal tt rfl rfl rfl rfl rfl trivial ?_
        refine vNil ?_
        change VC _ _ _ _
        refine vJoin (F := fun k => S_TrilaterationOrder_l2 N g_0 l116 l117 k) h (α := (List Int) × (List Int)) (J := fun | (l145, l146) => (⟨[(1, .ro false (.ints anchors_1)), (2, .ptr 2 0), (5, .row 11 0 l145.length), (6, .row 48 0 l146.length), (7, .int n118)], [(11, some (3, .ints l145)), (48, some (3, .ints l146))], [(2, some [.int g_0.n, .ro false (.pairs g_0.bars)])]⟩ : PS)) ?_ ?_
        · rintro ⟨l145, l146⟩ h
          show VC _ _ _ (⟨[(1, .ro false (.ints anchors_1)), (2, .ptr 2 0), (5, .row 11 0 l145.length), (6, .row 48 0 l146.length), (7, .int n118)], [(11, some (3, .ints l145)), (48, some (3, .ints l146))], [(2, some [.int g_0.n, .ro false (.pairs g_0.bars)])]⟩ : PS)
          refine vRegion ?_
          refine oVal tt rfl rfl rfl rfl rfl trivial ?_
          obtain ⟨hg5, h⟩ := grd_inv h
          refine oVal tt rfl rfl rfl rfl rfl hg5 ?_
          refine oVal tt rfl rfl rfl rfl rfl trivial ?_
          refine vNil ?_
          change ∃ _, _
          exact ⟨(l145, l146, (n118 + (1 : Int))), (En.of ⟨rfl, rfl, rfl, rfl, rfl, trivial⟩ ⟨rfl, rfl, trivial⟩ ⟨rfl, trivial⟩), h⟩
        · intro k h
          refine vBlock ?_
          refine vLoopS (α := Int) (fun (v150 : Int) => (⟨[(1, .ro false (.ints anchors_1)), (2, .ptr 2 0), (5, .row 11 0 l116.length), (6, .row 48 0 l117.length), (7, .int n118), (8, .int v150)], [(11, some (3, .ints l116)), (48, some (3, .ints l117))], [(2, some [.int g_0.n, .ro false (.pairs g_0.bars)])]⟩ : PS)) (S_TrilaterationOrder_l2 N g_0 l116 l117 k) h (En.of ⟨rfl, rfl, rfl, rfl, rfl, rfl, trivial⟩ ⟨rfl, rfl, trivial⟩ ⟨rfl, trivial⟩) (fun _ => rfl) ?_
          rintro n v150 h
          rw [S_TrilaterationOrder_l2] at h
          show VC _ _ _ (⟨[(1, .ro false (.ints anchors_1)), (2, .ptr 2 0), (5, .row 11 0 l116.length), (6, .row 48 0 l117.length), (7, .int n118), (8, .int v150)], [(11, some (3, .ints l116)), (48, some (3, .ints l117))], [(2, some [.int g_0.n, .ro false (.pairs g_0.bars)])]⟩ : PS)
          iterate 2 refine vSeq ?_
          refine vRegion ?_
          iterate 4 refine oVal tt rfl rfl rfl rfl rfl trivial ?_
          refine vNil ?_
          change VC _ _ _ _
          refine vCond rfl (fun hb6 => ?_) (fun hb6 => ?_)
          · replace h := cnd_t hb6 h
            refine vSkip ?_
            change VC _ _ _ _
            refine vSeq ?_
            refine vBlock ?_
            refine vSeq ?_
            refine vRegion ?_
            iterate 2 refine oVal tt rfl rfl rfl rfl rfl trivial ?_
            obtain ⟨v153, hc7, h⟩ := bind_inv h
            refine oCall (S_l2Has_w N l116 v150 v153 hc7) rfl rfl rfl rfl rfl rfl rfl rfl ⟨(.inl ⟨rfl, rfl⟩), rfl, trivial⟩ ?_
            iterate 2 refine oVal tt rfl rfl rfl rfl rfl trivial ?_
            refine oSplit rfl rfl rfl (fun hb8 => ?_) (fun hb8 => ?_)
            · replace h := cnd_t hb8 h
              iterate 3 refine oValG tt rfl rfl rfl rfl rfl hb8 rfl rfl rfl trivial ?_
              obtain ⟨v154, hc9, h⟩ := bind_inv h
              refine oCallG (S_l23Known_w N g_0 v150 l116 v154 hc9) rfl rfl rfl rfl hb8 rfl rfl rfl rfl rfl rfl rfl ⟨⟨rfl, rfl, trivial⟩, rfl, (.inl ⟨rfl, rfl⟩), trivial⟩ ?_
              refine oValG tt rfl rfl rfl rfl rfl hb8 rfl rfl rfl trivial ?_
              refine oPick rfl rfl rfl rfl rfl hb8 rfl ?_
              refine vNil ?_
              change VC _ _ _ _
              refine vCond rfl (fun hb10 => ?_) (fun hb10 => ?_)
              · replace h := cnd_t hb10 h
                refine vSeq ?_
                refine vRegion ?_
                iterate 2 refine oVal tt rfl rfl rfl rfl rfl trivial ?_
                refine oBuild tt rfl rfl rfl rfl rfl rfl rfl rfl rfl rfl rfl ?_
                obtain ⟨hg11, h⟩ := grd_inv h
                refine oAppend tt rfl rfl rfl rfl rfl rfl rfl rfl rfl rfl rfl rfl rfl rfl rfl rfl (Nat.le_of_eq (Nat.zero_add _)) hg11 ?_
                refine oVal tt rfl rfl rfl rfl rfl trivial ?_
                refine vNil ?_
                change VC _ _ _ _
                refine vSeq ?_
                refine vRegion ?_
                iterate 2 refine oVal tt rfl rfl rfl rfl rfl trivial ?_
                refine oBuild tt rfl rfl rfl rfl rfl rfl rfl rfl rfl rfl rfl ?_
                obtain ⟨hg12, h⟩ := grd_inv h
                refine oAppend tt rfl rfl rfl rfl rfl rfl rfl rfl rfl rfl rfl rfl rfl rfl rfl rfl (Nat.le_of_eq (Nat.zero_add _)) hg12 ?_
                refine oVal tt rfl rfl rfl rfl rfl trivial ?_
                refine vNil ?_
                change VC _ _ _ _
                refine vExit ?_
                change ∃ _, _
                exact ⟨((l116 ++ ([v150] : List Int)), (l117 ++ ([v150] : List Int))), (En.of ⟨rfl, rfl, rfl, rfl, rfl, trivial⟩ ⟨rfl, rfl, trivial⟩ ⟨rfl, trivial⟩), h⟩
              · replace h := cnd_f hb10 h
                refine vSkip ?_
                change VC _ _ _ _
                refine vRegion ?_
                refine oVal tt rfl rfl rfl rfl rfl trivial ?_
                obtain ⟨hg13, h⟩ := grd_inv h
                refine oVal tt rfl rfl rfl rfl rfl hg13 ?_
                refine oVal tt rfl rfl rfl rfl rfl trivial ?_
                refine vNil ?_
                change ∃ _, _
                exact ⟨(v150 + (1 : Int)), (En.of ⟨rfl, rfl, rfl, rfl, rfl, rfl, trivial⟩ ⟨rfl, rfl, trivial⟩ ⟨rfl, trivial⟩), h⟩
            · replace h := cnd_f hb8 h
              iterate 5 refine oNoT rfl rfl rfl rfl hb8 rfl rfl ?_
              refine oPickF rfl rfl rfl rfl rfl hb8 rfl ?_
              refine vNil ?_
              change VC _ _ _ _
              refine vCondF rfl rfl ?_
              refine vSkip ?_
              change VC _ _ _ _
              refine vRegion ?_
              refine oVal tt rfl rfl rfl rfl rfl trivial ?_
              obtain ⟨hg14, h⟩ := grd_inv h
              refine oVal tt rfl rfl rfl rfl rfl hg14 ?_
              refine oVal tt rfl rfl rfl rfl rfl trivial ?_
              refine vNil ?_
              change ∃ _, _
              exact ⟨(v150 + (1 : Int)), (En.of ⟨rfl, rfl, rfl, rfl, rfl, rfl, trivial⟩ ⟨rfl, rfl, trivial⟩ ⟨rfl, trivial⟩), h⟩
          · replace h := cnd_f hb6 h
            refine vExit ?_
            change ∃ _, _
            exact ⟨(l116, l117), (En.of ⟨rfl, rfl, rfl, rfl, rfl, trivial⟩ ⟨rfl, rfl, trivial⟩ ⟨rfl, trivial⟩), h⟩
      · replace h := cnd_f hb4 h
        refine vExit ?_
        change ∃ _, _
        exact ⟨l117, (En.of ⟨rfl, trivial⟩ ⟨rfl, trivial⟩ trivial), h⟩
    · replace h := cnd_f hb2 h
      iterate 3 refine oNoT rfl rfl rfl rfl hb2 rfl rfl ?_
      refine oPickF rfl rfl rfl rfl rfl hb2 rfl ?_
      refine vNil ?_
      change VC _ _ _ _
      refine vCondF rfl rfl ?_
      refine vExit ?_
      change ∃ _, _
      exact ⟨l117, (En.of ⟨rfl, trivial⟩ ⟨rfl, trivial⟩ trivial), h⟩
def S_IsTrilateration (N : Nat) (g_0 : Grf) (anchors_1 : List Int) : Option (Bool) :=
  (S_l23Anchors N g_0 anchors_1).bind fun v1 =>
  cnd v1 (
    (S_TrilaterationOrder N g_0 anchors_1).bind fun v2 =>
    grd (Rg64 ((v2.length : Int) + (anchors_1.length : Int))) <|
    some (((v2.length : Int) + (anchors_1.length : Int)) == g_0.n)) (
    some false)
set_option maxRecDepth 20000 in
set_option maxHeartbeats 1600000 in
theorem S_IsTrilateration_w (N : Nat) (g_0 : Grf) (anchors_1 : List Int) (r : Bool) (h : S_IsTrilateration N g_0 anchors_1 = some r) : PCall Try.prog 29 [gD g_0, .ro false (.ints anchors_1)] [] (.bool r) := by
  unfold S_IsTrilateration at h
  refine pcall_intro (TT := TT) tt Try.func29 rfl rfl Try.ntmps29 (congrArg Array.toList Try.results29) rfl rfl fun w0 => ?_
  refine vSeq ?_
  refine vRegion ?_
  refine oBox rfl rfl rfl rfl rfl rfl rfl rfl rfl ?_
  refine oVal tt rfl rfl rfl rfl rfl trivial ?_
  refine vNil ?_
  change VC _ _ _ _
  refine vSeq ?_
  refine vRegionN 13 [6] [0, 0, 3, 7, 15, 15, 63, 127, 15, 271, 1023, 15, 2063, 8191, 16383, 32767] (by kernel_rfl) (by kernel_rfl) (by kernel_rfl) (by kernel_rfl) (by kernel_rfl) rfl (by rfl) ?_
  iterate 2 refine nVal tt rfl (wNone rfl) rfl rfl rfl rfl rfl trivial ?_
  obtain ⟨v1, hc1, h⟩ := bind_inv h
  refine nCall (S_l23Anchors_w N g_0 anchors_1 v1 hc1) rfl (wNone rfl) rfl rfl rfl rfl rfl rfl rfl rfl ⟨⟨rfl, rfl, trivial⟩, rfl, trivial⟩ ?_
  refine nVal tt rfl (wNone rfl) rfl rfl rfl rfl rfl trivial ?_
  refine nSplit rfl rfl rfl (fun hb2 => ?_) (fun hb2 => ?_)
  · replace h := cnd_t hb2 h
    iterate 2 refine nVal tt rfl (wSome rfl rfl rfl rfl hb2) rfl rfl rfl rfl rfl trivial ?_
    obtain ⟨v2, hc3, h⟩ := bind_inv h
    refine nCallR (S_TrilaterationOrder_w N g_0 anchors_1 v2 hc3) rfl (wSome rfl rfl rfl rfl hb2) rfl rfl rfl rfl rfl rfl (by first | rfl | kernel_rfl | (simp [nrL, nm, gdst, nmT, rowB]; done)) rfl (by first | rfl | kernel_rfl | (simp [chkE, nrL, nm, gdst, nmT, rowB, hid, ment, mentA, mentS]; done) | (simp [chkE, nrL, nm, gdst, nmT, rowB, hid, ment, mentA, mentS]; decide)) ⟨⟨rfl, rfl, trivial⟩, rfl, trivial⟩ ?_
    iterate 3 refine nVal tt rfl (wSome rfl rfl rfl rfl hb2) rfl rfl rfl rfl rfl trivial ?_
    obtain ⟨hg4, h⟩ := grd_inv h
    refine nVal tt rfl (wSome rfl rfl rfl rfl hb2) rfl rfl rfl rfl rfl hg4 ?_
    iterate 2 refine nVal tt rfl (wSome rfl rfl rfl rfl hb2) rfl rfl rfl rfl rfl trivial ?_
    refine nNil ?_
    change VO _ _ _ _ _
    refine oValG tt rfl rfl rfl rfl rfl hb2 rfl rfl rfl trivial ?_
    refine oPick rfl rfl rfl rfl rfl hb2 rfl ?_
    refine oVal tt rfl rfl rfl rfl rfl trivial ?_
    refine vNil ?_
    change VC _ _ _ _
    refine vRet ?_
    change ∃ _, _
    cases h
    exact ⟨[], _, rfl, trivial, rfl, (.eq rfl), rfl⟩
  · replace h := cnd_f hb2 h
    iterate 9 refine nNoT rfl rfl rfl rfl hb2 rfl rfl ?_
    refine nNil ?_
    change VO _ _ _ _ _
    refine oNoT rfl rfl rfl rfl hb2 rfl rfl ?_
    refine oPickF rfl rfl rfl rfl rfl hb2 rfl ?_
    refine oVal tt rfl rfl rfl rfl rfl trivial ?_
    refine vNil ?_
    change VC _ _ _ _
    refine vRet ?_
    change ∃ _, _
    cases h
    exact ⟨[], _, rfl, trivial, rfl, (.eq rfl), rfl⟩
end Go.Proofs.Ytlmlfbjcpajinaa
