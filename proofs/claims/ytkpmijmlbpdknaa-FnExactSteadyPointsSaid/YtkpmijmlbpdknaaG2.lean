/- Plain texts of functions, and that the program computes them (printed by gen.py). -/
import Derived.Test.YtkpmijmlbpdknaaShb
import Derived.Test.YtkpmijmlbpdknaaG1
namespace Go.Proofs.Ytkpmijmlbpdknaa
open Go.RowKit
set_option linter.unusedVariables false
set_option linter.unusedSimpArgs false
def I_copyInts (N : Nat) (l_0 : List Int) : Option (List Int) :=
  grd (l_0.length ≤ 4294967296) <|
  some (([] : List Int) ++ l_0)
set_option maxRecDepth 20000 in
set_option maxHeartbeats 1600000 in
theorem I_copyInts_w (N : Nat) (l_0 : List Int) (r : List Int) (h : I_copyInts N l_0 = some r) : PCall Try.prog 109 [.ro false (.ints l_0)] [(3, .ints r)] (.row 0 0 r.length) := by
  unfold I_copyInts at h
  refine pcall_intro (TT := TT) tt Try.func109 rfl rfl Try.ntmps109 (congrArg Array.toList Try.results109) rfl rfl fun w0 => ?_
  refine vSeq ?_
  refine vRegion ?_
  refine oVal tt rfl rfl rfl rfl rfl trivial ?_
  refine vNil ?_
  change VC _ _ _ _
  refine vSeq ?_
  refine vRegion ?_
  refine oEmpty tt (wNone rfl) rfl rfl rfl rfl ?_
  refine oVal tt rfl rfl rfl rfl rfl trivial ?_
  obtain ⟨hg1, h⟩ := grd_inv h
  refine oAppNil tt (wNone rfl) rfl rfl rfl rfl rfl rfl rfl (fun _ => rfl) rfl rfl rfl rfl rfl hg1 ?_
  refine oVal tt rfl rfl rfl rfl rfl trivial ?_
  refine vNil ?_
  change VC _ _ _ _
  refine vRet ?_
  change ∃ _, _
  cases h
  exact ⟨[5], _, rfl, ⟨rfl, trivial⟩, rfl, (.eq rfl), rfl⟩
def L_eqIntS_l1 (N : Nat) (a_0 : List Int) (b_1 : List Int) (k : Unit → Option (Bool)) : Nat → Int → Option (Bool)
  | 0, _ => none
  | n + 1, i3 =>
    cnd (decide (i3 < (a_0.length : Int))) (
      grd (0 ≤ i3 ∧ i3 < (a_0.length : Int)) <|
      grd (0 ≤ i3 ∧ i3 < (b_1.length : Int)) <|
      cnd ((a_0.getD ((i3).toNat) 0) != (b_1.getD ((i3).toNat) 0)) (
        some false) (
        grd (Rg64 (i3 + (1 : Int))) <|
        L_eqIntS_l1 N a_0 b_1 k n (i3 + (1 : Int)))) (
      k ())
def L_eqIntS (N : Nat) (a_0 : List Int) (b_1 : List Int) : Option (Bool) :=
  cnd ((a_0.length : Int) != (b_1.length : Int)) (
    some false) (
    L_eqIntS_l1 N a_0 b_1 (fun (_ : Unit) =>
          some true) N (0 : Int))
set_option maxRecDepth 20000 in
set_option maxHeartbeats 1600000 in
theorem L_eqIntS_w (N : Nat) (a_0 : List Int) (b_1 : List Int) (r : Bool) (h : L_eqIntS N a_0 b_1 = some r) : PCall Try.prog 26 [.ro false (.ints a_0), .ro false (.ints b_1)] [] (.bool r) := by
  unfold L_eqIntS at h
  refine pcall_intro (TT := TT) tt Try.func26 rfl rfl Try.ntmps26 (congrArg Array.toList Try.results26) rfl rfl fun w0 => ?_
  refine vSeq ?_
  refine vRegion ?_
  refine oVal tt rfl rfl rfl rfl rfl trivial ?_
  refine vNil ?_
  change VC _ _ _ _
  iterate 2 refine vSeq ?_
  refine vRegion ?_
  iterate 5 refine oVal tt rfl rfl rfl rfl rfl trivial ?_
  refine vNil ?_
  change VC _ _ _ _
  refine vCond rfl (fun hb1 => ?_) (fun hb1 => ?_)
  · replace h := cnd_t hb1 h
    refine vSeq ?_
    refine vRegion ?_
    refine oVal tt rfl rfl rfl rfl rfl trivial ?_
    refine vNil ?_
    change VC _ _ _ _
    refine vRet ?_
    change ∃ _, _
    cases h
    exact ⟨[], _, rfl, trivial, rfl, (.eq rfl), rfl⟩
  · replace h := cnd_f hb1 h
    refine vSkip ?_
    change VC _ _ _ _
    iterate 2 refine vSeq ?_
    refine vRegion ?_
    refine oVal tt rfl rfl rfl rfl rfl trivial ?_
    refine vNil ?_
    change VC _ _ _ _
    refine vJoin (F := fun k => L_eqIntS_l1 N a_0 b_1 k) h (α := Unit) (J := fun (_ : Unit) => (⟨[], [], []⟩ : PS)) ?_ ?_
    · rintro ⟨⟩ h
      show VC _ _ _ (⟨[], [], []⟩ : PS)
      refine vSeq ?_
      refine vRegion ?_
      refine oVal tt rfl rfl rfl rfl rfl trivial ?_
      refine vNil ?_
      change VC _ _ _ _
      refine vRet ?_
      change ∃ _, _
      cases h
      exact ⟨[], _, rfl, trivial, rfl, (.eq rfl), rfl⟩
    · intro k h
      refine vBlock ?_
      refine vLoopS (α := Int) (fun (i3 : Int) => (⟨[(0, .ro false (.ints a_0)), (1, .ro false (.ints b_1)), (5, .int i3)], [], []⟩ : PS)) (L_eqIntS_l1 N a_0 b_1 k) h (En.of ⟨rfl, rfl, rfl, trivial⟩ trivial trivial) (fun _ => rfl) ?_
      rintro n i3 h
      rw [L_eqIntS_l1] at h
      show VC _ _ _ (⟨[(0, .ro false (.ints a_0)), (1, .ro false (.ints b_1)), (5, .int i3)], [], []⟩ : PS)
      iterate 2 refine vSeq ?_
      refine vRegion ?_
      iterate 4 refine oVal tt rfl rfl rfl rfl rfl trivial ?_
      refine vNil ?_
      change VC _ _ _ _
      refine vCond rfl (fun hb2 => ?_) (fun hb2 => ?_)
      · replace h := cnd_t hb2 h
        refine vSkip ?_
        change VC _ _ _ _
        refine vSeq ?_
        refine vBlock ?_
        refine vSeq ?_
        refine vRegionD (by kernel_rfl) (by kernel_rfl) ?_
        iterate 2 refine cVal tt rfl (wNone rfl) rfl rfl rfl trivial ?_
        obtain ⟨hg3, h⟩ := grd_inv h
        refine cVal tt rfl (wNone rfl) rfl rfl rfl hg3 ?_
        iterate 3 refine cVal tt rfl (wNone rfl) rfl rfl rfl trivial ?_
        obtain ⟨hg4, h⟩ := grd_inv h
        refine cVal tt rfl (wNone rfl) rfl rfl rfl hg4 ?_
        iterate 2 refine cVal tt rfl (wNone rfl) rfl rfl rfl trivial ?_
        refine cNil ?_
        change VC _ _ _ _
        refine vCond rfl (fun hb5 => ?_) (fun hb5 => ?_)
        · replace h := cnd_t hb5 h
          refine vSeq ?_
          refine vRegion ?_
          refine oVal tt rfl rfl rfl rfl rfl trivial ?_
          refine vNil ?_
          change VC _ _ _ _
          refine vRet ?_
          change ∃ _, _
          cases h
          exact ⟨[], _, rfl, trivial, rfl, (.eq rfl), rfl⟩
        · replace h := cnd_f hb5 h
          refine vSkip ?_
          change VC _ _ _ _
          refine vRegion ?_
          refine oVal tt rfl rfl rfl rfl rfl trivial ?_
          obtain ⟨hg6, h⟩ := grd_inv h
          refine oVal tt rfl rfl rfl rfl rfl hg6 ?_
          refine oVal tt rfl rfl rfl rfl rfl trivial ?_
          refine vNil ?_
          change ∃ _, _
          exact ⟨(i3 + (1 : Int)), (En.of ⟨rfl, rfl, rfl, trivial⟩ trivial trivial), h⟩
      · replace h := cnd_f hb2 h
        refine vExit ?_
        change ∃ _, _
        exact ⟨(), (En.of trivial trivial trivial), h⟩
def L_szIntS (N : Nat) (a_0 : List Int) (left_1 : Int) : Option (Int) :=
  grd (Rg64 (left_1 - (a_0.length : Int))) <|
  cnd (decide ((left_1 - (a_0.length : Int)) < (0 : Int))) (
    some (-1 : Int)) (
    some (left_1 - (a_0.length : Int)))
set_option maxRecDepth 20000 in
set_option maxHeartbeats 1600000 in
theorem L_szIntS_w (N : Nat) (a_0 : List Int) (left_1 : Int) (r : Int) (h : L_szIntS N a_0 left_1 = some r) : PCall Try.prog 52 [.ro false (.ints a_0), .int left_1] [] (.int r) := by
  unfold L_szIntS at h
  refine pcall_intro (TT := TT) tt Try.func52 rfl rfl Try.ntmps52 (congrArg Array.toList Try.results52) rfl rfl fun w0 => ?_
  refine vSeq ?_
  refine vRegion ?_
  refine oVal tt rfl rfl rfl rfl rfl trivial ?_
  refine vNil ?_
  change VC _ _ _ _
  refine vSeq ?_
  refine vRegion ?_
  iterate 3 refine oVal tt rfl rfl rfl rfl rfl trivial ?_
  obtain ⟨hg1, h⟩ := grd_inv h
  refine oVal tt rfl rfl rfl rfl rfl hg1 ?_
  refine oVal tt rfl rfl rfl rfl rfl trivial ?_
  refine vNil ?_
  change VC _ _ _ _
  iterate 2 refine vSeq ?_
  refine vRegion ?_
  iterate 2 refine oVal tt rfl rfl rfl rfl rfl trivial ?_
  refine vNil ?_
  change VC _ _ _ _
  refine vCond rfl (fun hb2 => ?_) (fun hb2 => ?_)
  · replace h := cnd_t hb2 h
    refine vSeq ?_
    refine vRegion ?_
    refine oVal tt rfl rfl rfl rfl rfl trivial ?_
    refine vNil ?_
    change VC _ _ _ _
    refine vRet ?_
    change ∃ _, _
    cases h
    exact ⟨[], _, rfl, trivial, rfl, (.eq rfl), rfl⟩
  · replace h := cnd_f hb2 h
    refine vSkip ?_
    change VC _ _ _ _
    refine vSeq ?_
    refine vRegion ?_
    iterate 2 refine oVal tt rfl rfl rfl rfl rfl trivial ?_
    refine vNil ?_
    change VC _ _ _ _
    refine vRet ?_
    change ∃ _, _
    cases h
    exact ⟨[], _, rfl, trivial, rfl, (.eq rfl), rfl⟩
end Go.Proofs.Ytkpmijmlbpdknaa
