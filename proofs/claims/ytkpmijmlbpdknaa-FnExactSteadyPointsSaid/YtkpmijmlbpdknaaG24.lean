/- Plain texts of functions, and that the program computes them (printed by gen.py). -/
import Derived.Test.YtkpmijmlbpdknaaShb
namespace Go.Proofs.Ytkpmijmlbpdknaa
open Go.RowKit
set_option linter.unusedVariables false
set_option linter.unusedSimpArgs false
def L_markIntS_l1 (N : Nat) (a_0 : List Int) (k : ((List Int) × Int) → Option (Int × (List Int))) : Nat → ((List Int) × Int × Int) → Option (Int × (List Int))
  | 0, _ => none
  | n + 1, (l7, k8, i9) =>
    cnd (decide (i9 < (a_0.length : Int))) (
      grd (0 ≤ i9 ∧ i9 < (a_0.length : Int)) <|
      grd (0 ≤ i9 ∧ i9 < (l7.length : Int)) <|
      grd (Rg64 (k8 + (1 : Int))) <|
      grd (Rg64 (i9 + (1 : Int))) <|
      L_markIntS_l1 N a_0 k n ((l7.set ((i9).toNat) k8), (k8 + (1 : Int)), (i9 + (1 : Int)))) (
      k (l7, k8))
def L_markIntS (N : Nat) (a_0 : List Int) (k_1 : Int) : Option (Int × (List Int)) :=
  L_markIntS_l1 N a_0 (fun (x : (List Int) × Int) =>
      match x with
      | (l4, k5) =>
        some (k5, l4)) N (a_0, k_1, (0 : Int))
set_option maxRecDepth 20000 in
set_option maxHeartbeats 1600000 in
theorem L_markIntS_w (N : Nat) (a_0 : List Int) (k_1 : Int) (r : Int × (List Int)) (h : L_markIntS N a_0 k_1 = some r) : MCall Try.prog 28 [.row 1000000 0 a_0.length, .int k_1] [1000000] [] [(3, .ints a_0)] [(3, .ints r.2)] [] [] (.int r.1) := by
  unfold L_markIntS at h
  refine mcall_intro (TT := TT) tt Try.func28 rfl rfl Try.ntmps28 (congrArg Array.toList Try.results28) rfl rfl rfl rfl rfl fun w0 O0 => ?_
  refine vSeq ?_
  refine vRegion ?_
  refine oVal tt rfl rfl rfl rfl rfl trivial ?_
  refine vNil ?_
  change VC _ _ _ _
  iterate 2 refine vSeq ?_
  refine vRegion ?_
  refine oVal tt rfl rfl rfl rfl rfl trivial ?_
  refine vNil ?_
  change VC _ _ _ _
  refine vJoin (F := fun k => L_markIntS_l1 N a_0 k) h (α := (List Int) × Int) (J := fun | (l4, k5) => (⟨[(1, .int k5)], [(1000000, some (3, .ints l4))], []⟩ : PS)) ?_ ?_
  · rintro ⟨l4, k5⟩ h
    show VC _ _ _ (⟨[(1, .int k5)], [(1000000, some (3, .ints l4))], []⟩ : PS)
    refine vSeq ?_
    refine vRegion ?_
    iterate 2 refine oVal tt rfl rfl rfl rfl rfl trivial ?_
    refine vNil ?_
    change VC _ _ _ _
    refine vRet ?_
    change ∃ _, _
    cases h
    exact ⟨[1000000], rfl, ⟨rfl, trivial⟩, trivial, rfl⟩
  · intro k h
    refine vBlock ?_
    refine vLoopS (α := (List Int) × Int × Int) (fun | (l7, k8, i9) => (⟨[(0, .row 1000000 0 a_0.length), (1, .int k8), (5, .int i9)], [(1000000, some (3, .ints l7))], []⟩ : PS)) (L_markIntS_l1 N a_0 k) h (En.of ⟨rfl, rfl, rfl, trivial⟩ ⟨rfl, trivial⟩ trivial) (fun _ => rfl) ?_
    rintro n ⟨l7, k8, i9⟩ h
    rw [L_markIntS_l1] at h
    show VC _ _ _ (⟨[(0, .row 1000000 0 a_0.length), (1, .int k8), (5, .int i9)], [(1000000, some (3, .ints l7))], []⟩ : PS)
    iterate 2 refine vSeq ?_
    refine vRegion ?_
    iterate 4 refine oVal tt rfl rfl rfl rfl rfl trivial ?_
    refine vNil ?_
    change VC _ _ _ _
    refine vCond rfl (fun hb1 => ?_) (fun hb1 => ?_)
    · replace h := cnd_t hb1 h
      refine vSkip ?_
      change VC _ _ _ _
      refine vSeq ?_
      refine vBlock ?_
      refine vSeq ?_
      refine vRegion ?_
      iterate 3 refine oVal tt rfl rfl rfl rfl rfl trivial ?_
      obtain ⟨hg2, h⟩ := grd_inv h
      refine oVal tt rfl rfl rfl rfl rfl hg2 ?_
      obtain ⟨hg3, h⟩ := grd_inv h
      refine oStore tt rfl rfl rfl rfl rfl rfl rfl rfl rfl rfl ⟨_, _, rfl, hg3.1, hg3.2⟩ ⟨hg3, trivial⟩ ?_
      refine vNil ?_
      change VC _ _ _ _
      refine vRegion ?_
      refine oVal tt rfl rfl rfl rfl rfl trivial ?_
      obtain ⟨hg4, h⟩ := grd_inv h
      refine oVal tt rfl rfl rfl rfl rfl hg4 ?_
      refine oVal tt rfl rfl rfl rfl rfl trivial ?_
      refine vNil ?_
      change VC _ _ _ _
      refine vRegion ?_
      refine oVal tt rfl rfl rfl rfl rfl trivial ?_
      obtain ⟨hg5, h⟩ := grd_inv h
      refine oVal tt rfl rfl rfl rfl rfl hg5 ?_
      refine oVal tt rfl rfl rfl rfl rfl trivial ?_
      refine vNil ?_
      change ∃ _, _
      exact ⟨((l7.set ((i9).toNat) k8), (k8 + (1 : Int)), (i9 + (1 : Int))), (En.of ⟨rfl, rfl, rfl, trivial⟩ ⟨rfl, trivial⟩ trivial), h⟩
    · replace h := cnd_f hb1 h
      refine vExit ?_
      change ∃ _, _
      exact ⟨(l7, k8), (En.of ⟨rfl, trivial⟩ ⟨rfl, trivial⟩ trivial), h⟩
def L_markBarS_l1 (N : Nat) (a_0 : List (Int × Int)) (k : ((List (Int × Int)) × Int) → Option (Int × (List (Int × Int)))) : Nat → ((List (Int × Int)) × Int × Int) → Option (Int × (List (Int × Int)))
  | 0, _ => none
  | n + 1, (l7, k8, i9) =>
    cnd (decide (i9 < (a_0.length : Int))) (
      grd (0 ≤ i9 ∧ i9 < (a_0.length : Int)) <|
      grd (0 ≤ i9 ∧ i9 < (l7.length : Int)) <|
      grd (Rg64 (k8 + (1 : Int))) <|
      grd (0 ≤ i9 ∧ i9 < ((l7.set ((i9).toNat) (k8, (l7.getD ((i9).toNat) (0, 0)).2)).length : Int)) <|
      grd (Rg64 ((k8 + (1 : Int)) + (1 : Int))) <|
      grd (Rg64 (i9 + (1 : Int))) <|
      L_markBarS_l1 N a_0 k n (((l7.set ((i9).toNat) (k8, (l7.getD ((i9).toNat) (0, 0)).2)).set ((i9).toNat) (((l7.set ((i9).toNat) (k8, (l7.getD ((i9).toNat) (0, 0)).2)).getD ((i9).toNat) (0, 0)).1, (k8 + (1 : Int)))), ((k8 + (1 : Int)) + (1 : Int)), (i9 + (1 : Int)))) (
      k (l7, k8))
def L_markBarS (N : Nat) (a_0 : List (Int × Int)) (k_1 : Int) : Option (Int × (List (Int × Int))) :=
  L_markBarS_l1 N a_0 (fun (x : (List (Int × Int)) × Int) =>
      match x with
      | (l4, k5) =>
        some (k5, l4)) N (a_0, k_1, (0 : Int))
set_option maxRecDepth 20000 in
set_option maxHeartbeats 1600000 in
theorem L_markBarS_w (N : Nat) (a_0 : List (Int × Int)) (k_1 : Int) (r : Int × (List (Int × Int))) (h : L_markBarS N a_0 k_1 = some r) : MCall Try.prog 104 [.row 1000000 0 a_0.length, .int k_1] [1000000] [] [(71, .pairs a_0)] [(71, .pairs r.2)] [] [] (.int r.1) := by
  unfold L_markBarS at h
  refine mcall_intro (TT := TT) tt Try.func104 rfl rfl Try.ntmps104 (congrArg Array.toList Try.results104) rfl rfl rfl rfl rfl fun w0 O0 => ?_
  refine vSeq ?_
  refine vRegion ?_
  refine oVal tt rfl rfl rfl rfl rfl trivial ?_
  refine vNil ?_
  change VC _ _ _ _
  iterate 2 refine vSeq ?_
  refine vRegion ?_
  refine oVal tt rfl rfl rfl rfl rfl trivial ?_
  refine vNil ?_
  change VC _ _ _ _
  refine vJoin (F := fun k => L_markBarS_l1 N a_0 k) h (α := (List (Int × Int)) × Int) (J := fun | (l4, k5) => (⟨[(1, .int k5)], [(1000000, some (71, .pairs l4))], []⟩ : PS)) ?_ ?_
  · rintro ⟨l4, k5⟩ h
    show VC _ _ _ (⟨[(1, .int k5)], [(1000000, some (71, .pairs l4))], []⟩ : PS)
    refine vSeq ?_
    refine vRegion ?_
    iterate 2 refine oVal tt rfl rfl rfl rfl rfl trivial ?_
    refine vNil ?_
    change VC _ _ _ _
    refine vRet ?_
    change ∃ _, _
    cases h
    exact ⟨[1000000], rfl, ⟨rfl, trivial⟩, trivial, rfl⟩
  · intro k h
    refine vBlock ?_
    refine vLoopS (α := (List (Int × Int)) × Int × Int) (fun | (l7, k8, i9) => (⟨[(0, .row 1000000 0 a_0.length), (1, .int k8), (5, .int i9)], [(1000000, some (71, .pairs l7))], []⟩ : PS)) (L_markBarS_l1 N a_0 k) h (En.of ⟨rfl, rfl, rfl, trivial⟩ ⟨rfl, trivial⟩ trivial) (fun _ => rfl) ?_
    rintro n ⟨l7, k8, i9⟩ h
    rw [L_markBarS_l1] at h
    show VC _ _ _ (⟨[(0, .row 1000000 0 a_0.length), (1, .int k8), (5, .int i9)], [(1000000, some (71, .pairs l7))], []⟩ : PS)
    iterate 2 refine vSeq ?_
    refine vRegion ?_
    iterate 4 refine oVal tt rfl rfl rfl rfl rfl trivial ?_
    refine vNil ?_
    change VC _ _ _ _
    refine vCond rfl (fun hb1 => ?_) (fun hb1 => ?_)
    · replace h := cnd_t hb1 h
      refine vSkip ?_
      change VC _ _ _ _
      refine vSeq ?_
      refine vBlock ?_
      refine vSeq ?_
      refine vRegion ?_
      iterate 3 refine oVal tt rfl rfl rfl rfl rfl trivial ?_
      obtain ⟨hg2, h⟩ := grd_inv h
      refine oVal tt rfl rfl rfl rfl rfl hg2 ?_
      obtain ⟨hg3, h⟩ := grd_inv h
      refine oVal tt rfl rfl rfl rfl rfl hg3 ?_
      refine oStore tt rfl rfl rfl rfl rfl rfl rfl rfl rfl rfl ⟨_, _, rfl, hg3.1, hg3.2⟩ ⟨hg3, trivial⟩ ?_
      refine vNil ?_
      change VC _ _ _ _
      refine vSeq ?_
      refine vRegion ?_
      refine oVal tt rfl rfl rfl rfl rfl trivial ?_
      obtain ⟨hg4, h⟩ := grd_inv h
      refine oVal tt rfl rfl rfl rfl rfl hg4 ?_
      refine oVal tt rfl rfl rfl rfl rfl trivial ?_
      refine vNil ?_
      change VC _ _ _ _
      refine vSeq ?_
      refine vRegion ?_
      iterate 3 refine oVal tt rfl rfl rfl rfl rfl trivial ?_
      refine oVal tt rfl rfl rfl rfl rfl hg2 ?_
      obtain ⟨hg5, h⟩ := grd_inv h
      refine oVal tt rfl rfl rfl rfl rfl hg5 ?_
      refine oStore tt rfl rfl rfl rfl rfl rfl rfl rfl rfl rfl ⟨_, _, rfl, hg5.1, hg5.2⟩ ⟨hg5, trivial⟩ ?_
      refine vNil ?_
      change VC _ _ _ _
      refine vRegion ?_
      refine oVal tt rfl rfl rfl rfl rfl trivial ?_
      obtain ⟨hg6, h⟩ := grd_inv h
      refine oVal tt rfl rfl rfl rfl rfl hg6 ?_
      refine oVal tt rfl rfl rfl rfl rfl trivial ?_
      refine vNil ?_
      change VC _ _ _ _
      refine vRegion ?_
      refine oVal tt rfl rfl rfl rfl rfl trivial ?_
      obtain ⟨hg7, h⟩ := grd_inv h
      refine oVal tt rfl rfl rfl rfl rfl hg7 ?_
      refine oVal tt rfl rfl rfl rfl rfl trivial ?_
      refine vNil ?_
      change ∃ _, _
      exact ⟨(((l7.set ((i9).toNat) (k8, (l7.getD ((i9).toNat) (0, 0)).2)).set ((i9).toNat) (((l7.set ((i9).toNat) (k8, (l7.getD ((i9).toNat) (0, 0)).2)).getD ((i9).toNat) (0, 0)).1, (k8 + (1 : Int)))), ((k8 + (1 : Int)) + (1 : Int)), (i9 + (1 : Int))), (En.of ⟨rfl, rfl, rfl, trivial⟩ ⟨rfl, trivial⟩ trivial), h⟩
    · replace h := cnd_f hb1 h
      refine vExit ?_
      change ∃ _, _
      exact ⟨(l7, k8), (En.of ⟨rfl, trivial⟩ ⟨rfl, trivial⟩ trivial), h⟩
def L_markGraph (N : Nat) (a_0 : Grf) (k_1 : Int) : Option (Int × (List (Int × Int))) :=
  (L_markBarS N a_0.bars k_1).bind fun v1 =>
  some (v1.1, v1.2)
set_option maxRecDepth 20000 in
set_option maxHeartbeats 1600000 in
theorem L_markGraph_w (N : Nat) (a_0 : Grf) (k_1 : Int) (r : Int × (List (Int × Int))) (h : L_markGraph N a_0 k_1 = some r) : MCall Try.prog 72 [.agg [.int a_0.n, .row 1000001 0 a_0.bars.length], .int k_1] [1000001] [] [(71, .pairs a_0.bars)] [(71, .pairs r.2)] [] [] (.int r.1) := by
  unfold L_markGraph at h
  refine mcall_intro (TT := TT) tt Try.func72 rfl rfl Try.ntmps72 (congrArg Array.toList Try.results72) rfl rfl rfl rfl rfl fun w0 O0 => ?_
  refine vSeq ?_
  refine vRegion ?_
  refine oBox rfl rfl rfl rfl rfl rfl rfl rfl rfl ?_
  refine oVal tt rfl rfl rfl rfl rfl trivial ?_
  refine vNil ?_
  change VC _ _ _ _
  refine vSeq ?_
  refine vRegion ?_
  iterate 3 refine oVal tt rfl rfl rfl rfl rfl trivial ?_
  obtain ⟨v1, hc1, h⟩ := bind_inv h
  refine oMCall (L_markBarS_w N a_0.bars k_1 v1 hc1) [1000001] [] [1000001] rfl rfl rfl rfl rfl rfl ⟨rfl, trivial⟩ trivial ⟨⟨rfl, rfl⟩, ⟨rfl, rfl⟩, trivial⟩ ?_
  refine oVal tt rfl rfl rfl rfl rfl trivial ?_
  refine vNil ?_
  change VC _ _ _ _
  refine vSeq ?_
  refine vRegion ?_
  iterate 2 refine oVal tt rfl rfl rfl rfl rfl trivial ?_
  refine vNil ?_
  change VC _ _ _ _
  refine vRet ?_
  change ∃ _, _
  cases h
  exact ⟨[1000001], rfl, ⟨rfl, trivial⟩, trivial, rfl⟩
end Go.Proofs.Ytkpmijmlbpdknaa
