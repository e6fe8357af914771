/- Plain texts of functions, and that the program computes them (printed by gen.py). -/
import Derived.Test.YtkpmijmlbpdknaaShb
import Derived.Test.YtkpmijmlbpdknaaG4
namespace Go.Proofs.Ytkpmijmlbpdknaa
open Go.RowKit
set_option linter.unusedVariables false
set_option linter.unusedSimpArgs false
def S_l2Has_l1 (N : Nat) (l_0 : List Int) (x_1 : Int) (k : Unit → Option (Bool)) : Nat → Int → Option (Bool)
  | 0, _ => none
  | n + 1, i3 =>
    cnd (decide (i3 < (l_0.length : Int))) (
      grd (0 ≤ i3 ∧ i3 < (l_0.length : Int)) <|
      cnd ((l_0.getD ((i3).toNat) 0) == x_1) (
        some true) (
        grd (Rg64 (i3 + (1 : Int))) <|
        S_l2Has_l1 N l_0 x_1 k n (i3 + (1 : Int)))) (
      k ())
def S_l2Has (N : Nat) (l_0 : List Int) (x_1 : Int) : Option (Bool) :=
  S_l2Has_l1 N l_0 x_1 (fun (_ : Unit) =>
        some false) N (0 : Int)
set_option maxRecDepth 20000 in
set_option maxHeartbeats 1600000 in
theorem S_l2Has_w (N : Nat) (l_0 : List Int) (x_1 : Int) (r : Bool) (h : S_l2Has N l_0 x_1 = some r) : PCall Try.prog 75 [.ro false (.ints l_0), .int x_1] [] (.bool r) := by
  unfold S_l2Has at h
  refine pcall_intro (TT := TT) tt Try.func75 rfl rfl Try.ntmps75 (congrArg Array.toList Try.results75) rfl rfl fun w0 => ?_
  refine vSeq ?_
  refine vRegion ?_
  refine oVal tt rfl rfl rfl rfl rfl trivial ?_
  refine vNil ?_
  change VC _ _ _ _
  iterate 2 refine vSeq ?_
  refine vRegion ?_
  refine oVal tt rfl rfl rfl rfl rfl trivial ?_
  refine vNil ?_
  change VC _ _ _ _
  refine vJoin (F := fun k => S_l2Has_l1 N l_0 x_1 k) h (α := Unit) (J := fun (_ : Unit) => (⟨[], [], []⟩ : PS)) ?_ ?_
  · rintro ⟨⟩ h
    show VC _ _ _ (⟨[], [], []⟩ : PS)
    refine vSeq ?_
    refine vRegion ?_
    refine oVal tt rfl rfl rfl rfl rfl trivial ?_
    refine vNil ?_
    change VC _ _ _ _
    refine vRet ?_
    change ∃ _, _
    cases h
    exact ⟨[], _, rfl, trivial, rfl, (.eq rfl), rfl⟩
  · intro k h
    refine vBlock ?_
    refine vLoopS (α := Int) (fun (i3 : Int) => (⟨[(0, .ro false (.ints l_0)), (1, .int x_1), (5, .int i3)], [], []⟩ : PS)) (S_l2Has_l1 N l_0 x_1 k) h (En.of ⟨rfl, rfl, rfl, trivial⟩ trivial trivial) (fun _ => rfl) ?_
    rintro n i3 h
    rw [S_l2Has_l1] at h
    show VC _ _ _ (⟨[(0, .ro false (.ints l_0)), (1, .int x_1), (5, .int i3)], [], []⟩ : PS)
    iterate 2 refine vSeq ?_
    refine vRegion ?_
    iterate 4 refine oVal tt rfl rfl rfl rfl rfl trivial ?_
    refine vNil ?_
    change VC _ _ _ _
    refine vCond rfl (fun hb1 => ?_) (fun hb1 => ?_)
    · replace h := cnd_t hb1 h
      refine vSkip ?_
      change VC _ _ _ _
      refine vSeq ?_
      refine vBlock ?_
      refine vSeq ?_
      refine vRegion ?_
      iterate 2 refine oVal tt rfl rfl rfl rfl rfl trivial ?_
      obtain ⟨hg2, h⟩ := grd_inv h
      refine oVal tt rfl rfl rfl rfl rfl hg2 ?_
      iterate 3 refine oVal tt rfl rfl rfl rfl rfl trivial ?_
      refine vNil ?_
      change VC _ _ _ _
      refine vCond rfl (fun hb3 => ?_) (fun hb3 => ?_)
      · replace h := cnd_t hb3 h
        refine vSeq ?_
        refine vRegion ?_
        refine oVal tt rfl rfl rfl rfl rfl trivial ?_
        refine vNil ?_
        change VC _ _ _ _
        refine vRet ?_
        change ∃ _, _
        cases h
        exact ⟨[], _, rfl, trivial, rfl, (.eq rfl), rfl⟩
      · replace h := cnd_f hb3 h
        refine vSkip ?_
        change VC _ _ _ _
        refine vRegion ?_
        refine oVal tt rfl rfl rfl rfl rfl trivial ?_
        obtain ⟨hg4, h⟩ := grd_inv h
        refine oVal tt rfl rfl rfl rfl rfl hg4 ?_
        refine oVal tt rfl rfl rfl rfl rfl trivial ?_
        refine vNil ?_
        change ∃ _, _
        exact ⟨(i3 + (1 : Int)), (En.of ⟨rfl, rfl, rfl, trivial⟩ trivial trivial), h⟩
    · replace h := cnd_f hb1 h
      refine vExit ?_
      change ∃ _, _
      exact ⟨(), (En.of trivial trivial trivial), h⟩
def S_l4Other (N : Nat) (b_0 : Int × Int) (v_1 : Int) : Option (Int) :=
  grd (Rg64 (b_0.1 + b_0.2)) <|
  grd (Rg64 ((b_0.1 + b_0.2) - v_1)) <|
  some ((b_0.1 + b_0.2) - v_1)
set_option maxRecDepth 20000 in
set_option maxHeartbeats 1600000 in
theorem S_l4Other_w (N : Nat) (b_0 : Int × Int) (v_1 : Int) (r : Int) (h : S_l4Other N b_0 v_1 = some r) : PCall Try.prog 120 [.agg [.int b_0.1, .int b_0.2], .int v_1] [] (.int r) := by
  unfold S_l4Other at h
  refine pcall_intro (TT := TT) tt Try.func120 rfl rfl Try.ntmps120 (congrArg Array.toList Try.results120) rfl rfl fun w0 => ?_
  refine vSeq ?_
  refine vRegion ?_
  refine oBox rfl rfl rfl rfl rfl rfl rfl rfl rfl ?_
  refine oVal tt rfl rfl rfl rfl rfl trivial ?_
  refine vNil ?_
  change VC _ _ _ _
  refine vSeq ?_
  refine vRegion ?_
  iterate 4 refine oVal tt rfl rfl rfl rfl rfl trivial ?_
  obtain ⟨hg1, h⟩ := grd_inv h
  refine oVal tt rfl rfl rfl rfl rfl hg1 ?_
  refine oVal tt rfl rfl rfl rfl rfl trivial ?_
  obtain ⟨hg2, h⟩ := grd_inv h
  refine oVal tt rfl rfl rfl rfl rfl hg2 ?_
  refine oVal tt rfl rfl rfl rfl rfl trivial ?_
  refine vNil ?_
  change VC _ _ _ _
  refine vRet ?_
  change ∃ _, _
  cases h
  exact ⟨[], _, rfl, trivial, rfl, (.eq rfl), rfl⟩
end Go.Proofs.Ytkpmijmlbpdknaa
