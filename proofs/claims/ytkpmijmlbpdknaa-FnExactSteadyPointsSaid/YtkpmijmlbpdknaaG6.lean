/- Plain texts of functions, and that the program computes them (printed by gen.py). -/
import Derived.Test.YtkpmijmlbpdknaaShb
import Derived.Test.YtkpmijmlbpdknaaG1
namespace Go.Proofs.Ytkpmijmlbpdknaa
open Go.RowKit
set_option linter.unusedVariables false
set_option linter.unusedSimpArgs false
def L_toBar (N : Nat) (a_0 : Int × Int) : Option (Int × Int) :=
  some (a_0.1, a_0.2)
set_option maxRecDepth 20000 in
set_option maxHeartbeats 1600000 in
theorem L_toBar_w (N : Nat) (a_0 : Int × Int) (r : Int × Int) (h : L_toBar N a_0 = some r) : PCall Try.prog 112 [.agg [.int a_0.1, .int a_0.2]] [] (.agg [.int r.1, .int r.2]) := by
  unfold L_toBar at h
  refine pcall_intro (TT := TT) tt Try.func112 rfl rfl Try.ntmps112 (congrArg Array.toList Try.results112) rfl rfl fun w0 => ?_
  refine vSeq ?_
  refine vRegion ?_
  refine oBox rfl rfl rfl rfl rfl rfl rfl rfl rfl ?_
  refine oAlloc tt rfl rfl rfl rfl rfl rfl rfl rfl rfl ?_
  refine vNil ?_
  change VC _ _ _ _
  refine vSeq ?_
  refine vRegion ?_
  refine oAlloc tt rfl rfl rfl rfl rfl rfl rfl rfl rfl ?_
  refine vNil ?_
  change VC _ _ _ _
  refine vSeq ?_
  refine vRegion ?_
  iterate 3 refine oVal tt rfl rfl rfl rfl rfl trivial ?_
  refine oStore tt rfl rfl rfl rfl rfl rfl rfl rfl rfl rfl rfl ⟨trivial, trivial⟩ ?_
  refine vNil ?_
  change VC _ _ _ _
  refine vSeq ?_
  refine vRegion ?_
  iterate 3 refine oVal tt rfl rfl rfl rfl rfl trivial ?_
  refine oStore tt rfl rfl rfl rfl rfl rfl rfl rfl rfl rfl rfl ⟨trivial, trivial⟩ ?_
  refine vNil ?_
  change VC _ _ _ _
  refine vSeq ?_
  refine vRegion ?_
  refine oVal tt rfl rfl rfl rfl rfl trivial ?_
  refine oStore tt rfl rfl rfl rfl rfl rfl rfl rfl rfl rfl rfl ⟨trivial, trivial, trivial⟩ ?_
  refine vNil ?_
  change VC _ _ _ _
  refine vRet ?_
  change ∃ _, _
  cases h
  exact ⟨[], _, rfl, trivial, rfl, (.eq rfl), rfl⟩
def L_toBarS_l1 (N : Nat) (a_0 : List (Int × Int)) (k : (List (Int × Int)) → Option (List (Int × Int))) : Nat → ((List (Int × Int)) × Int) → Option (List (Int × Int))
  | 0, _ => none
  | n + 1, (l9, i10) =>
    cnd (decide (i10 < (a_0.length : Int))) (
      grd (0 ≤ i10 ∧ i10 < (a_0.length : Int)) <|
      (L_toBar N (a_0.getD ((i10).toNat) (0, 0))).bind fun v12 =>
      grd (0 ≤ i10 ∧ i10 < ((List.replicate (((a_0.length : Int)).toNat) ((0, 0) : Int × Int)).length : Int)) <|
      grd (0 ≤ i10 ∧ i10 < (l9.length : Int)) <|
      grd (Rg64 (i10 + (1 : Int))) <|
      L_toBarS_l1 N a_0 k n (((l9.set ((i10).toNat) (v12.1, (l9.getD ((i10).toNat) (0, 0)).2)).set ((i10).toNat) (((l9.set ((i10).toNat) (v12.1, (l9.getD ((i10).toNat) (0, 0)).2)).getD ((i10).toNat) (0, 0)).1, v12.2)), (i10 + (1 : Int)))) (
      k l9)
def L_toBarS (N : Nat) (a_0 : List (Int × Int)) : Option (List (Int × Int)) :=
  grd (0 ≤ (a_0.length : Int) ∧ (a_0.length : Int) ≤ 4294967296) <|
  L_toBarS_l1 N a_0 (fun (l6 : List (Int × Int)) =>
        grd ((List.replicate (((a_0.length : Int)).toNat) ((0, 0) : Int × Int)).length = l6.length) <|
        some l6) N ((List.replicate (((a_0.length : Int)).toNat) ((0, 0) : Int × Int)), (0 : Int))
set_option maxRecDepth 20000 in
set_option maxHeartbeats 1600000 in
theorem L_toBarS_w (N : Nat) (a_0 : List (Int × Int)) (r : List (Int × Int)) (h : L_toBarS N a_0 = some r) : PCall Try.prog 90 [.ro false (.pairs a_0)] [(71, .pairs r)] (.row 0 0 r.length) := by
  unfold L_toBarS at h
  refine pcall_intro (TT := TT) tt Try.func90 rfl rfl Try.ntmps90 (congrArg Array.toList Try.results90) rfl rfl fun w0 => ?_
  refine vSeq ?_
  refine vRegion ?_
  refine oVal tt rfl rfl rfl rfl rfl trivial ?_
  refine vNil ?_
  change VC _ _ _ _
  refine vSeq ?_
  refine vRegion ?_
  iterate 2 refine oVal tt rfl rfl rfl rfl rfl trivial ?_
  obtain ⟨hg1, h⟩ := grd_inv h
  refine oMake tt rfl rfl rfl rfl rfl rfl rfl rfl rfl rfl rfl hg1 ?_
  refine oVal tt rfl rfl rfl rfl rfl trivial ?_
  refine vNil ?_
  change VC _ _ _ _
  iterate 2 refine vSeq ?_
  refine vRegion ?_
  refine oVal tt rfl rfl rfl rfl rfl trivial ?_
  refine vNil ?_
  change VC _ _ _ _
  refine vJoin (F := fun k => L_toBarS_l1 N a_0 k) h (α := List (Int × Int)) (J := fun (l6 : List (Int × Int)) => (⟨[(3, .row 7 0 ((List.replicate (((a_0.length : Int)).toNat) ((0, 0) : Int × Int)).length))], [(7, some (71, .pairs l6))], []⟩ : PS)) ?_ ?_
  · rintro l6 h
    show VC _ _ _ (⟨[(3, .row 7 0 ((List.replicate (((a_0.length : Int)).toNat) ((0, 0) : Int × Int)).length))], [(7, some (71, .pairs l6))], []⟩ : PS)
    refine vSeq ?_
    refine vRegion ?_
    iterate 2 refine oVal tt rfl rfl rfl rfl rfl trivial ?_
    refine vNil ?_
    change VC _ _ _ _
    obtain ⟨hg2, h⟩ := grd_inv h
    refine vRet ?_
    change ∃ _, _
    cases h
    exact ⟨[7], _, rfl, ⟨rfl, trivial⟩, rfl, (.eq (by simp only [hg2]; rfl)), rfl⟩
  · intro k h
    refine vBlock ?_
    refine vLoopS (α := (List (Int × Int)) × Int) (fun | (l9, i10) => (⟨[(0, .ro false (.pairs a_0)), (3, .row 7 0 ((List.replicate (((a_0.length : Int)).toNat) ((0, 0) : Int × Int)).length)), (4, .int i10)], [(7, some (71, .pairs l9))], []⟩ : PS)) (L_toBarS_l1 N a_0 k) h (En.of ⟨rfl, rfl, rfl, trivial⟩ ⟨rfl, trivial⟩ trivial) (fun _ => rfl) ?_
    rintro n ⟨l9, i10⟩ h
    rw [L_toBarS_l1] at h
    show VC _ _ _ (⟨[(0, .ro false (.pairs a_0)), (3, .row 7 0 ((List.replicate (((a_0.length : Int)).toNat) ((0, 0) : Int × Int)).length)), (4, .int i10)], [(7, some (71, .pairs l9))], []⟩ : PS)
    iterate 2 refine vSeq ?_
    refine vRegion ?_
    iterate 4 refine oVal tt rfl rfl rfl rfl rfl trivial ?_
    refine vNil ?_
    change VC _ _ _ _
    refine vCond rfl (fun hb3 => ?_) (fun hb3 => ?_)
    · replace h := cnd_t hb3 h
      refine vSkip ?_
      change VC _ _ _ _
      refine vSeq ?_
      refine vBlock ?_
      refine vRegion ?_
      iterate 4 refine oVal tt rfl rfl rfl rfl rfl trivial ?_
      obtain ⟨hg4, h⟩ := grd_inv h
      refine oVal tt rfl rfl rfl rfl rfl hg4 ?_
      refine oVal tt rfl rfl rfl rfl rfl trivial ?_
      obtain ⟨v12, hc5, h⟩ := bind_inv h
      refine oCall (L_toBar_w N (a_0.getD ((i10).toNat) (0, 0)) v12 hc5) rfl rfl rfl rfl rfl rfl rfl rfl ⟨⟨rfl, rfl, trivial⟩, trivial⟩ ?_
      obtain ⟨hg6, h⟩ := grd_inv h
      refine oVal tt rfl rfl rfl rfl rfl hg6 ?_
      obtain ⟨hg7, h⟩ := grd_inv h
      refine oStore tt rfl rfl rfl rfl rfl rfl rfl rfl rfl rfl ⟨_, _, rfl, hg7.1, hg7.2⟩ ⟨hg7, (by simpa [Sq.len] using hg7), trivial⟩ ?_
      refine vNil ?_
      change VC _ _ _ _
      refine vRegion ?_
      refine oVal tt rfl rfl rfl rfl rfl trivial ?_
      obtain ⟨hg8, h⟩ := grd_inv h
      refine oVal tt rfl rfl rfl rfl rfl hg8 ?_
      refine oVal tt rfl rfl rfl rfl rfl trivial ?_
      refine vNil ?_
      change ∃ _, _
      exact ⟨(((l9.set ((i10).toNat) (v12.1, (l9.getD ((i10).toNat) (0, 0)).2)).set ((i10).toNat) (((l9.set ((i10).toNat) (v12.1, (l9.getD ((i10).toNat) (0, 0)).2)).getD ((i10).toNat) (0, 0)).1, v12.2)), (i10 + (1 : Int))), (En.of ⟨rfl, rfl, rfl, trivial⟩ ⟨rfl, trivial⟩ trivial), h⟩
    · replace h := cnd_f hb3 h
      refine vExit ?_
      change ∃ _, _
      exact ⟨l9, (En.of ⟨rfl, trivial⟩ ⟨rfl, trivial⟩ trivial), h⟩
def L_toGraph (N : Nat) (a_0 : Grf) : Option (Grf) :=
  (L_toBarS N a_0.bars).bind fun v1 =>
  some (⟨a_0.n, v1⟩ : Grf)
set_option maxRecDepth 20000 in
set_option maxHeartbeats 1600000 in
theorem L_toGraph_w (N : Nat) (a_0 : Grf) (r : Grf) (h : L_toGraph N a_0 = some r) : PCall Try.prog 54 [gD a_0] [(71, .pairs r.bars)] (.agg [.int r.n, .row 0 0 r.bars.length]) := by
  unfold L_toGraph at h
  refine pcall_intro (TT := TT) tt Try.func54 rfl rfl Try.ntmps54 (congrArg Array.toList Try.results54) rfl rfl fun w0 => ?_
  refine vSeq ?_
  refine vRegion ?_
  refine oBox rfl rfl rfl rfl rfl rfl rfl rfl rfl ?_
  refine oAlloc tt rfl rfl rfl rfl rfl rfl rfl rfl rfl ?_
  refine vNil ?_
  change VC _ _ _ _
  refine vSeq ?_
  refine vRegion ?_
  refine oAlloc tt rfl rfl rfl rfl rfl rfl rfl rfl rfl ?_
  refine vNil ?_
  change VC _ _ _ _
  refine vSeq ?_
  refine vRegion ?_
  iterate 3 refine oVal tt rfl rfl rfl rfl rfl trivial ?_
  refine oStore tt rfl rfl rfl rfl rfl rfl rfl rfl rfl rfl rfl ⟨trivial, trivial⟩ ?_
  refine vNil ?_
  change VC _ _ _ _
  refine vSeq ?_
  refine vRegion ?_
  iterate 2 refine oVal tt rfl rfl rfl rfl rfl trivial ?_
  obtain ⟨v1, hc1, h⟩ := bind_inv h
  refine oCall (L_toBarS_w N a_0.bars v1 hc1) rfl rfl rfl rfl rfl rfl rfl rfl ⟨rfl, trivial⟩ ?_
  refine oVal tt rfl rfl rfl rfl rfl trivial ?_
  refine oStore tt rfl rfl rfl rfl rfl rfl rfl rfl rfl rfl rfl ⟨trivial, trivial⟩ ?_
  refine vNil ?_
  change VC _ _ _ _
  refine vSeq ?_
  refine vRegion ?_
  refine oVal tt rfl rfl rfl rfl rfl trivial ?_
  refine oStore tt rfl rfl rfl rfl rfl rfl rfl rfl rfl rfl rfl ⟨trivial, trivial, trivial⟩ ?_
  refine vNil ?_
  change VC _ _ _ _
  refine vRet ?_
  change ∃ _, _
  cases h
  exact ⟨[1090], _, rfl, ⟨rfl, trivial⟩, rfl, (.eq rfl), rfl⟩
def M_Graph_has (N : Nat) (g_0 : Grf) (v_1 : Int) : Option (Bool) :=
  (I_within N v_1 (0 : Int) (w64 (g_0.n - (1 : Int)))).bind fun v1 =>
  some v1
set_option maxRecDepth 20000 in
set_option maxHeartbeats 1600000 in
theorem M_Graph_has_w (N : Nat) (g_0 : Grf) (v_1 : Int) (r : Bool) (h : M_Graph_has N g_0 v_1 = some r) : PCall Try.prog 100 [gD g_0, .int v_1] [] (.bool r) := by
  unfold M_Graph_has at h
  refine pcall_intro (TT := TT) tt Try.func100 rfl rfl Try.ntmps100 (congrArg Array.toList Try.results100) rfl rfl fun w0 => ?_
  refine vSeq ?_
  refine vRegion ?_
  refine oBox rfl rfl rfl rfl rfl rfl rfl rfl rfl ?_
  refine oVal tt rfl rfl rfl rfl rfl trivial ?_
  refine vNil ?_
  change VC _ _ _ _
  refine vSeq ?_
  refine vRegion ?_
  iterate 3 refine oVal tt rfl rfl rfl rfl rfl trivial ?_
  refine oPure (wNone rfl) (pSubW rfl rfl rfl) rfl rfl ?_
  obtain ⟨v1, hc1, h⟩ := bind_inv h
  refine oCall (I_within_w N v_1 (0 : Int) (w64 (g_0.n - (1 : Int))) v1 hc1) rfl rfl rfl rfl rfl rfl rfl rfl ⟨rfl, rfl, rfl, trivial⟩ ?_
  refine oVal tt rfl rfl rfl rfl rfl trivial ?_
  refine vNil ?_
  change VC _ _ _ _
  refine vRet ?_
  change ∃ _, _
  cases h
  exact ⟨[], _, rfl, trivial, rfl, (.eq rfl), rfl⟩
def I_compareInts (N : Nat) (a_0 : Int) (b_1 : Int) : Option (Int) :=
  cnd (decide (a_0 < b_1)) (
    some (-1 : Int)) (
    cnd (decide (a_0 > b_1)) (
      some (1 : Int)) (
      some (0 : Int)))
set_option maxRecDepth 20000 in
set_option maxHeartbeats 1600000 in
theorem I_compareInts_w (N : Nat) (a_0 : Int) (b_1 : Int) (r : Int) (h : I_compareInts N a_0 b_1 = some r) : PCall Try.prog 127 [.int a_0, .int b_1] [] (.int r) := by
  unfold I_compareInts at h
  refine pcall_intro (TT := TT) tt Try.func127 rfl rfl Try.ntmps127 (congrArg Array.toList Try.results127) rfl rfl fun w0 => ?_
  refine vSeq ?_
  refine vRegion ?_
  refine oVal tt rfl rfl rfl rfl rfl trivial ?_
  refine vNil ?_
  change VC _ _ _ _
  refine vSeq ?_
  refine vBlock ?_
  refine vSeq ?_
  refine vRegion ?_
  iterate 4 refine oVal tt rfl rfl rfl rfl rfl trivial ?_
  refine vNil ?_
  change VC _ _ _ _
  refine vCond rfl (fun hb1 => ?_) (fun hb1 => ?_)
  · replace h := cnd_t hb1 h
    refine vSeq ?_
    refine vRegion ?_
    refine oVal tt rfl rfl rfl rfl rfl trivial ?_
    refine vNil ?_
    change VC _ _ _ _
    refine vRet ?_
    change ∃ _, _
    cases h
    exact ⟨[], _, rfl, trivial, rfl, (.eq rfl), rfl⟩
  · replace h := cnd_f hb1 h
    refine vSeq ?_
    refine vRegion ?_
    iterate 4 refine oVal tt rfl rfl rfl rfl rfl trivial ?_
    refine vNil ?_
    change VC _ _ _ _
    refine vCond rfl (fun hb2 => ?_) (fun hb2 => ?_)
    · replace h := cnd_t hb2 h
      refine vSeq ?_
      refine vRegion ?_
      refine oVal tt rfl rfl rfl rfl rfl trivial ?_
      refine vNil ?_
      change VC _ _ _ _
      refine vRet ?_
      change ∃ _, _
      cases h
      exact ⟨[], _, rfl, trivial, rfl, (.eq rfl), rfl⟩
    · replace h := cnd_f hb2 h
      refine vSkip ?_
      change VC _ _ _ _
      refine vSeq ?_
      refine vRegion ?_
      refine oVal tt rfl rfl rfl rfl rfl trivial ?_
      refine vNil ?_
      change VC _ _ _ _
      refine vRet ?_
      change ∃ _, _
      cases h
      exact ⟨[], _, rfl, trivial, rfl, (.eq rfl), rfl⟩
def I_compareBars (N : Nat) (x_0 : Int × Int) (y_1 : Int × Int) : Option (Int) :=
  (I_compareInts N x_0.1 y_1.1).bind fun v1 =>
  cnd (v1 != (0 : Int)) (
    some v1) (
    (I_compareInts N x_0.2 y_1.2).bind fun v2 =>
    some v2)
set_option maxRecDepth 20000 in
set_option maxHeartbeats 1600000 in
theorem I_compareBars_w (N : Nat) (x_0 : Int × Int) (y_1 : Int × Int) (r : Int) (h : I_compareBars N x_0 y_1 = some r) : PCall Try.prog 117 [.agg [.int x_0.1, .int x_0.2], .agg [.int y_1.1, .int y_1.2]] [] (.int r) := by
  unfold I_compareBars at h
  refine pcall_intro (TT := TT) tt Try.func117 rfl rfl Try.ntmps117 (congrArg Array.toList Try.results117) rfl rfl fun w0 => ?_
  refine vSeq ?_
  refine vRegion ?_
  iterate 2 refine oBox rfl rfl rfl rfl rfl rfl rfl rfl rfl ?_
  refine oVal tt rfl rfl rfl rfl rfl trivial ?_
  refine vNil ?_
  change VC _ _ _ _
  iterate 2 refine vSeq ?_
  refine vRegion ?_
  iterate 4 refine oVal tt rfl rfl rfl rfl rfl trivial ?_
  obtain ⟨v1, hc1, h⟩ := bind_inv h
  refine oCall (I_compareInts_w N x_0.1 y_1.1 v1 hc1) rfl rfl rfl rfl rfl rfl rfl rfl ⟨rfl, rfl, trivial⟩ ?_
  refine oVal tt rfl rfl rfl rfl rfl trivial ?_
  refine vNil ?_
  change VC _ _ _ _
  refine vSeq ?_
  refine vRegion ?_
  iterate 2 refine oVal tt rfl rfl rfl rfl rfl trivial ?_
  refine vNil ?_
  change VC _ _ _ _
  refine vCond rfl (fun hb2 => ?_) (fun hb2 => ?_)
  · replace h := cnd_t hb2 h
    refine vSeq ?_
    refine vRegion ?_
    iterate 2 refine oVal tt rfl rfl rfl rfl rfl trivial ?_
    refine vNil ?_
    change VC _ _ _ _
    refine vRet ?_
    change ∃ _, _
    cases h
    exact ⟨[], _, rfl, trivial, rfl, (.eq rfl), rfl⟩
  · replace h := cnd_f hb2 h
    refine vSkip ?_
    change VC _ _ _ _
    refine vSeq ?_
    refine vRegion ?_
    iterate 4 refine oVal tt rfl rfl rfl rfl rfl trivial ?_
    obtain ⟨v2, hc3, h⟩ := bind_inv h
    refine oCall (I_compareInts_w N x_0.2 y_1.2 v2 hc3) rfl rfl rfl rfl rfl rfl rfl rfl ⟨rfl, rfl, trivial⟩ ?_
    refine oVal tt rfl rfl rfl rfl rfl trivial ?_
    refine vNil ?_
    change VC _ _ _ _
    refine vRet ?_
    change ∃ _, _
    cases h
    exact ⟨[], _, rfl, trivial, rfl, (.eq rfl), rfl⟩
end Go.Proofs.Ytkpmijmlbpdknaa
