/- Plain texts of functions, and that the program computes them (printed by gen.py). -/
import Derived.Test.YtkpmijmlbpdknaaShb
namespace Go.Proofs.Ytkpmijmlbpdknaa
open Go.RowKit
set_option linter.unusedVariables false
set_option linter.unusedSimpArgs false
def S_l1In (N : Nat) (x_0 : Int) (low_1 : Int) (high_2 : Int) : Option (Bool) :=
  cnd (decide (x_0 ≥ low_1)) (
    some (decide (x_0 ≤ high_2))) (
    some false)
set_option maxRecDepth 20000 in
set_option maxHeartbeats 1600000 in
theorem S_l1In_w (N : Nat) (x_0 : Int) (low_1 : Int) (high_2 : Int) (r : Bool) (h : S_l1In N x_0 low_1 high_2 = some r) : PCall Try.prog 119 [.int x_0, .int low_1, .int high_2] [] (.bool r) := by
  unfold S_l1In at h
  refine pcall_intro (TT := TT) tt Try.func119 rfl rfl Try.ntmps119 (congrArg Array.toList Try.results119) rfl rfl fun w0 => ?_
  refine vSeq ?_
  refine vRegion ?_
  refine oVal tt rfl rfl rfl rfl rfl trivial ?_
  refine vNil ?_
  change VC _ _ _ _
  refine vSeq ?_
  refine vRegion ?_
  iterate 4 refine oVal tt rfl rfl rfl rfl rfl trivial ?_
  refine oSplit rfl rfl rfl (fun hb1 => ?_) (fun hb1 => ?_)
  · replace h := cnd_t hb1 h
    iterate 3 refine oValG tt rfl rfl rfl rfl rfl hb1 rfl rfl rfl trivial ?_
    refine oPick rfl rfl rfl rfl rfl hb1 rfl ?_
    refine oVal tt rfl rfl rfl rfl rfl trivial ?_
    refine vNil ?_
    change VC _ _ _ _
    refine vRet ?_
    change ∃ _, _
    cases h
    exact ⟨[], _, rfl, trivial, rfl, (.eq rfl), rfl⟩
  · replace h := cnd_f hb1 h
    iterate 3 refine oNoT rfl rfl rfl rfl hb1 rfl rfl ?_
    refine oPickF rfl rfl rfl rfl rfl hb1 rfl ?_
    refine oVal tt rfl rfl rfl rfl rfl trivial ?_
    refine vNil ?_
    change VC _ _ _ _
    refine vRet ?_
    change ∃ _, _
    cases h
    exact ⟨[], _, rfl, trivial, rfl, (.eq rfl), rfl⟩
def L_toIntS_l1 (N : Nat) (a_0 : List Int) (k : (List Int) → Option (List Int)) : Nat → ((List Int) × Int) → Option (List Int)
  | 0, _ => none
  | n + 1, (l5, i6) =>
    cnd (decide (i6 < (a_0.length : Int))) (
      grd (0 ≤ i6 ∧ i6 < (a_0.length : Int)) <|
      grd (0 ≤ i6 ∧ i6 < ((List.replicate (((a_0.length : Int)).toNat) (0 : Int)).length : Int)) <|
      grd (0 ≤ i6 ∧ i6 < (l5.length : Int)) <|
      grd (Rg64 (i6 + (1 : Int))) <|
      L_toIntS_l1 N a_0 k n ((l5.set ((i6).toNat) (a_0.getD ((i6).toNat) 0)), (i6 + (1 : Int)))) (
      k l5)
def L_toIntS (N : Nat) (a_0 : List Int) : Option (List Int) :=
  grd (0 ≤ (a_0.length : Int) ∧ (a_0.length : Int) ≤ 4294967296) <|
  L_toIntS_l1 N a_0 (fun (l3 : List Int) =>
        grd ((List.replicate (((a_0.length : Int)).toNat) (0 : Int)).length = l3.length) <|
        some l3) N ((List.replicate (((a_0.length : Int)).toNat) (0 : Int)), (0 : Int))
set_option maxRecDepth 20000 in
set_option maxHeartbeats 1600000 in
theorem L_toIntS_w (N : Nat) (a_0 : List Int) (r : List Int) (h : L_toIntS N a_0 = some r) : PCall Try.prog 55 [.ro false (.ints a_0)] [(3, .ints r)] (.row 0 0 r.length) := by
  unfold L_toIntS at h
  refine pcall_intro (TT := TT) tt Try.func55 rfl rfl Try.ntmps55 (congrArg Array.toList Try.results55) rfl rfl fun w0 => ?_
  refine vSeq ?_
  refine vRegion ?_
  refine oVal tt rfl rfl rfl rfl rfl trivial ?_
  refine vNil ?_
  change VC _ _ _ _
  refine vSeq ?_
  refine vRegion ?_
  iterate 2 refine oVal tt rfl rfl rfl rfl rfl trivial ?_
  obtain ⟨hg1, h⟩ := grd_inv h
  refine oMake tt rfl rfl rfl rfl rfl rfl rfl rfl rfl rfl rfl hg1 ?_
  refine oVal tt rfl rfl rfl rfl rfl trivial ?_
  refine vNil ?_
  change VC _ _ _ _
  iterate 2 refine vSeq ?_
  refine vRegion ?_
  refine oVal tt rfl rfl rfl rfl rfl trivial ?_
  refine vNil ?_
  change VC _ _ _ _
  refine vJoin (F := fun k => L_toIntS_l1 N a_0 k) h (α := List Int) (J := fun (l3 : List Int) => (⟨[(3, .row 7 0 ((List.replicate (((a_0.length : Int)).toNat) (0 : Int)).length))], [(7, some (3, .ints l3))], []⟩ : PS)) ?_ ?_
  · rintro l3 h
    show VC _ _ _ (⟨[(3, .row 7 0 ((List.replicate (((a_0.length : Int)).toNat) (0 : Int)).length))], [(7, some (3, .ints l3))], []⟩ : PS)
    refine vSeq ?_
    refine vRegion ?_
    iterate 2 refine oVal tt rfl rfl rfl rfl rfl trivial ?_
    refine vNil ?_
    change VC _ _ _ _
    obtain ⟨hg2, h⟩ := grd_inv h
    refine vRet ?_
    change ∃ _, _
    cases h
    exact ⟨[7], _, rfl, ⟨rfl, trivial⟩, rfl, (.eq (by simp only [hg2]; rfl)), rfl⟩
  · intro k h
    refine vBlock ?_
    refine vLoopS (α := (List Int) × Int) (fun | (l5, i6) => (⟨[(0, .ro false (.ints a_0)), (3, .row 7 0 ((List.replicate (((a_0.length : Int)).toNat) (0 : Int)).length)), (4, .int i6)], [(7, some (3, .ints l5))], []⟩ : PS)) (L_toIntS_l1 N a_0 k) h (En.of ⟨rfl, rfl, rfl, trivial⟩ ⟨rfl, trivial⟩ trivial) (fun _ => rfl) ?_
    rintro n ⟨l5, i6⟩ h
    rw [L_toIntS_l1] at h
    show VC _ _ _ (⟨[(0, .ro false (.ints a_0)), (3, .row 7 0 ((List.replicate (((a_0.length : Int)).toNat) (0 : Int)).length)), (4, .int i6)], [(7, some (3, .ints l5))], []⟩ : PS)
    iterate 2 refine vSeq ?_
    refine vRegion ?_
    iterate 4 refine oVal tt rfl rfl rfl rfl rfl trivial ?_
    refine vNil ?_
    change VC _ _ _ _
    refine vCond rfl (fun hb3 => ?_) (fun hb3 => ?_)
    · replace h := cnd_t hb3 h
      refine vSkip ?_
      change VC _ _ _ _
      refine vSeq ?_
      refine vBlock ?_
      refine vRegion ?_
      iterate 4 refine oVal tt rfl rfl rfl rfl rfl trivial ?_
      obtain ⟨hg4, h⟩ := grd_inv h
      refine oVal tt rfl rfl rfl rfl rfl hg4 ?_
      refine oVal tt rfl rfl rfl rfl rfl trivial ?_
      obtain ⟨hg5, h⟩ := grd_inv h
      refine oVal tt rfl rfl rfl rfl rfl hg5 ?_
      obtain ⟨hg6, h⟩ := grd_inv h
      refine oStore tt rfl rfl rfl rfl rfl rfl rfl rfl rfl rfl ⟨_, _, rfl, hg6.1, hg6.2⟩ ⟨hg6, trivial⟩ ?_
      refine vNil ?_
      change VC _ _ _ _
      refine vRegion ?_
      refine oVal tt rfl rfl rfl rfl rfl trivial ?_
      obtain ⟨hg7, h⟩ := grd_inv h
      refine oVal tt rfl rfl rfl rfl rfl hg7 ?_
      refine oVal tt rfl rfl rfl rfl rfl trivial ?_
      refine vNil ?_
      change ∃ _, _
      exact ⟨((l5.set ((i6).toNat) (a_0.getD ((i6).toNat) 0)), (i6 + (1 : Int))), (En.of ⟨rfl, rfl, rfl, trivial⟩ ⟨rfl, trivial⟩ trivial), h⟩
    · replace h := cnd_f hb3 h
      refine vExit ?_
      change ∃ _, _
      exact ⟨l5, (En.of ⟨rfl, trivial⟩ ⟨rfl, trivial⟩ trivial), h⟩
def I_within (N : Nat) (x_0 : Int) (lo_1 : Int) (hi_2 : Int) : Option (Bool) :=
  cnd (decide (x_0 ≥ lo_1)) (
    some (decide (x_0 ≤ hi_2))) (
    some false)
set_option maxRecDepth 20000 in
set_option maxHeartbeats 1600000 in
theorem I_within_w (N : Nat) (x_0 : Int) (lo_1 : Int) (hi_2 : Int) (r : Bool) (h : I_within N x_0 lo_1 hi_2 = some r) : PCall Try.prog 65 [.int x_0, .int lo_1, .int hi_2] [] (.bool r) := by
  unfold I_within at h
  refine pcall_intro (TT := TT) tt Try.func65 rfl rfl Try.ntmps65 (congrArg Array.toList Try.results65) rfl rfl fun w0 => ?_
  refine vSeq ?_
  refine vRegion ?_
  refine oVal tt rfl rfl rfl rfl rfl trivial ?_
  refine vNil ?_
  change VC _ _ _ _
  refine vSeq ?_
  refine vRegion ?_
  iterate 4 refine oVal tt rfl rfl rfl rfl rfl trivial ?_
  refine oSplit rfl rfl rfl (fun hb1 => ?_) (fun hb1 => ?_)
  · replace h := cnd_t hb1 h
    iterate 3 refine oValG tt rfl rfl rfl rfl rfl hb1 rfl rfl rfl trivial ?_
    refine oPick rfl rfl rfl rfl rfl hb1 rfl ?_
    refine oVal tt rfl rfl rfl rfl rfl trivial ?_
    refine vNil ?_
    change VC _ _ _ _
    refine vRet ?_
    change ∃ _, _
    cases h
    exact ⟨[], _, rfl, trivial, rfl, (.eq rfl), rfl⟩
  · replace h := cnd_f hb1 h
    iterate 3 refine oNoT rfl rfl rfl rfl hb1 rfl rfl ?_
    refine oPickF rfl rfl rfl rfl rfl hb1 rfl ?_
    refine oVal tt rfl rfl rfl rfl rfl trivial ?_
    refine vNil ?_
    change VC _ _ _ _
    refine vRet ?_
    change ∃ _, _
    cases h
    exact ⟨[], _, rfl, trivial, rfl, (.eq rfl), rfl⟩
end Go.Proofs.Ytkpmijmlbpdknaa
