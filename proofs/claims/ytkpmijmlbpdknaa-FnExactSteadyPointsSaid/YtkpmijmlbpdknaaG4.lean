/- Plain texts of functions, and that the program computes them (printed by gen.py). -/
import Derived.Test.YtkpmijmlbpdknaaShb
import Derived.Test.YtkpmijmlbpdknaaG1
namespace Go.Proofs.Ytkpmijmlbpdknaa
open Go.RowKit
set_option linter.unusedVariables false
set_option linter.unusedSimpArgs false
def L_szBarS (N : Nat) (a_0 : List (Int × Int)) (left_1 : Int) : Option (Int) :=
  grd (Rg64 (left_1 - (a_0.length : Int))) <|
  cnd (decide ((left_1 - (a_0.length : Int)) < (0 : Int))) (
    some (-1 : Int)) (
    some (left_1 - (a_0.length : Int)))
set_option maxRecDepth 20000 in
set_option maxHeartbeats 1600000 in
theorem L_szBarS_w (N : Nat) (a_0 : List (Int × Int)) (left_1 : Int) (r : Int) (h : L_szBarS N a_0 left_1 = some r) : PCall Try.prog 88 [.ro false (.pairs a_0), .int left_1] [] (.int r) := by
  unfold L_szBarS at h
  refine pcall_intro (TT := TT) tt Try.func88 rfl rfl Try.ntmps88 (congrArg Array.toList Try.results88) rfl rfl fun w0 => ?_
  refine vSeq ?_
  refine vRegion ?_
  refine oVal tt rfl rfl rfl rfl rfl trivial ?_
  refine vNil ?_
  change VC _ _ _ _
  refine vSeq ?_
  refine vRegion ?_
  iterate 3 refine oVal tt rfl rfl rfl rfl rfl trivial ?_
  obtain ⟨hg1, h⟩ := grd_inv h
  refine oVal tt rfl rfl rfl rfl rfl hg1 ?_
  refine oVal tt rfl rfl rfl rfl rfl trivial ?_
  refine vNil ?_
  change VC _ _ _ _
  iterate 2 refine vSeq ?_
  refine vRegion ?_
  iterate 2 refine oVal tt rfl rfl rfl rfl rfl trivial ?_
  refine vNil ?_
  change VC _ _ _ _
  refine vCond rfl (fun hb2 => ?_) (fun hb2 => ?_)
  · replace h := cnd_t hb2 h
    refine vSeq ?_
    refine vRegion ?_
    refine oVal tt rfl rfl rfl rfl rfl trivial ?_
    refine vNil ?_
    change VC _ _ _ _
    refine vRet ?_
    change ∃ _, _
    cases h
    exact ⟨[], _, rfl, trivial, rfl, (.eq rfl), rfl⟩
  · replace h := cnd_f hb2 h
    refine vSkip ?_
    change VC _ _ _ _
    refine vSeq ?_
    refine vRegion ?_
    iterate 2 refine oVal tt rfl rfl rfl rfl rfl trivial ?_
    refine vNil ?_
    change VC _ _ _ _
    refine vRet ?_
    change ∃ _, _
    cases h
    exact ⟨[], _, rfl, trivial, rfl, (.eq rfl), rfl⟩
def L_szGraph (N : Nat) (a_0 : Grf) (left_1 : Int) : Option (Int) :=
  (L_szBarS N a_0.bars left_1).bind fun v1 =>
  cnd (decide (v1 < (0 : Int))) (
    some (-1 : Int)) (
    some v1)
set_option maxRecDepth 20000 in
set_option maxHeartbeats 1600000 in
theorem L_szGraph_w (N : Nat) (a_0 : Grf) (left_1 : Int) (r : Int) (h : L_szGraph N a_0 left_1 = some r) : PCall Try.prog 51 [gD a_0, .int left_1] [] (.int r) := by
  unfold L_szGraph at h
  refine pcall_intro (TT := TT) tt Try.func51 rfl rfl Try.ntmps51 (congrArg Array.toList Try.results51) rfl rfl fun w0 => ?_
  refine vSeq ?_
  refine vRegion ?_
  refine oBox rfl rfl rfl rfl rfl rfl rfl rfl rfl ?_
  refine oVal tt rfl rfl rfl rfl rfl trivial ?_
  refine vNil ?_
  change VC _ _ _ _
  refine vSeq ?_
  refine vRegion ?_
  iterate 3 refine oVal tt rfl rfl rfl rfl rfl trivial ?_
  obtain ⟨v1, hc1, h⟩ := bind_inv h
  refine oCall (L_szBarS_w N a_0.bars left_1 v1 hc1) rfl rfl rfl rfl rfl rfl rfl rfl ⟨rfl, rfl, trivial⟩ ?_
  refine oVal tt rfl rfl rfl rfl rfl trivial ?_
  refine vNil ?_
  change VC _ _ _ _
  iterate 2 refine vSeq ?_
  refine vRegion ?_
  iterate 2 refine oVal tt rfl rfl rfl rfl rfl trivial ?_
  refine vNil ?_
  change VC _ _ _ _
  refine vCond rfl (fun hb2 => ?_) (fun hb2 => ?_)
  · replace h := cnd_t hb2 h
    refine vSeq ?_
    refine vRegion ?_
    refine oVal tt rfl rfl rfl rfl rfl trivial ?_
    refine vNil ?_
    change VC _ _ _ _
    refine vRet ?_
    change ∃ _, _
    cases h
    exact ⟨[], _, rfl, trivial, rfl, (.eq rfl), rfl⟩
  · replace h := cnd_f hb2 h
    refine vSkip ?_
    change VC _ _ _ _
    refine vSeq ?_
    refine vRegion ?_
    iterate 2 refine oVal tt rfl rfl rfl rfl rfl trivial ?_
    refine vNil ?_
    change VC _ _ _ _
    refine vRet ?_
    change ∃ _, _
    cases h
    exact ⟨[], _, rfl, trivial, rfl, (.eq rfl), rfl⟩
def S_l2After (N : Nat) (a_0 : Int × Int) (b_1 : Int × Int) : Option (Bool) :=
  cnd (decide (a_0.1 < b_1.1)) (
    some true) (
    cnd (a_0.1 == b_1.1) (
      some (decide (a_0.2 ≤ b_1.2))) (
      some false))
set_option maxRecDepth 20000 in
set_option maxHeartbeats 1600000 in
theorem S_l2After_w (N : Nat) (a_0 : Int × Int) (b_1 : Int × Int) (r : Bool) (h : S_l2After N a_0 b_1 = some r) : PCall Try.prog 118 [.agg [.int a_0.1, .int a_0.2], .agg [.int b_1.1, .int b_1.2]] [] (.bool r) := by
  unfold S_l2After at h
  refine pcall_intro (TT := TT) tt Try.func118 rfl rfl Try.ntmps118 (congrArg Array.toList Try.results118) rfl rfl fun w0 => ?_
  refine vSeq ?_
  refine vRegion ?_
  iterate 2 refine oBox rfl rfl rfl rfl rfl rfl rfl rfl rfl ?_
  refine oVal tt rfl rfl rfl rfl rfl trivial ?_
  refine vNil ?_
  change VC _ _ _ _
  refine vSeq ?_
  refine vRegion ?_
  iterate 6 refine oVal tt rfl rfl rfl rfl rfl trivial ?_
  refine oSplit rfl rfl rfl (fun hb1 => ?_) (fun hb1 => ?_)
  · replace h := cnd_t hb1 h
    iterate 6 refine oNoF rfl rfl rfl rfl hb1 rfl rfl ?_
    iterate 5 refine oNoU rfl rfl rfl rfl rfl ?_
    refine oNoF rfl rfl rfl rfl hb1 rfl rfl ?_
    refine oPick rfl rfl rfl rfl rfl hb1 rfl ?_
    refine oVal tt rfl rfl rfl rfl rfl trivial ?_
    refine vNil ?_
    change VC _ _ _ _
    refine vRet ?_
    change ∃ _, _
    cases h
    exact ⟨[], _, rfl, trivial, rfl, (.eq rfl), rfl⟩
  · replace h := cnd_f hb1 h
    iterate 6 refine oValG tt rfl rfl rfl rfl rfl hb1 rfl rfl rfl trivial ?_
    refine oSplit rfl rfl rfl (fun hb2 => ?_) (fun hb2 => ?_)
    · replace h := cnd_t hb2 h
      iterate 5 refine oValG tt rfl rfl rfl rfl rfl hb2 rfl rfl rfl trivial ?_
      refine oPickGT rfl rfl rfl rfl hb1 rfl rfl rfl rfl hb2 rfl ?_
      refine oPickF rfl rfl rfl rfl rfl hb1 rfl ?_
      refine oVal tt rfl rfl rfl rfl rfl trivial ?_
      refine vNil ?_
      change VC _ _ _ _
      refine vRet ?_
      change ∃ _, _
      cases h
      exact ⟨[], _, rfl, trivial, rfl, (.eq rfl), rfl⟩
    · replace h := cnd_f hb2 h
      iterate 5 refine oNoT rfl rfl rfl rfl hb2 rfl rfl ?_
      refine oPickGF rfl rfl rfl rfl hb1 rfl rfl rfl rfl hb2 rfl ?_
      refine oPickF rfl rfl rfl rfl rfl hb1 rfl ?_
      refine oVal tt rfl rfl rfl rfl rfl trivial ?_
      refine vNil ?_
      change VC _ _ _ _
      refine vRet ?_
      change ∃ _, _
      cases h
      exact ⟨[], _, rfl, trivial, rfl, (.eq rfl), rfl⟩
def S_IsGraph_l1 (N : Nat) (g_0 : Grf) (k : Unit → Option (Bool)) : Nat → Int → Option (Bool)
  | 0, _ => none
  | n + 1, i8 =>
    cnd (decide (i8 < (g_0.bars.length : Int))) (
      grd (0 ≤ i8 ∧ i8 < (g_0.bars.length : Int)) <|
      cnd (decide (((g_0.bars.getD ((i8).toNat) (0, 0)).1) < (0 : Int))) (
        some false) (
        cnd (decide (((g_0.bars.getD ((i8).toNat) (0, 0)).1) ≥ ((g_0.bars.getD ((i8).toNat) (0, 0)).2))) (
          some false) (
          cnd (decide (((g_0.bars.getD ((i8).toNat) (0, 0)).2) ≥ g_0.n)) (
            some false) (
            cnd (decide (i8 > (0 : Int))) (
              grd (Rg64 (i8 - (1 : Int))) <|
              grd (0 ≤ (i8 - (1 : Int)) ∧ (i8 - (1 : Int)) < (g_0.bars.length : Int)) <|
              (S_l2After N (g_0.bars.getD (((i8 - (1 : Int))).toNat) (0, 0)) (g_0.bars.getD ((i8).toNat) (0, 0))).bind fun v10 =>
              cnd (!v10) (
                some false) (
                grd (Rg64 (i8 + (1 : Int))) <|
                S_IsGraph_l1 N g_0 k n (i8 + (1 : Int)))) (
              grd (Rg64 (i8 + (1 : Int))) <|
              S_IsGraph_l1 N g_0 k n (i8 + (1 : Int))))))) (
      k ())
def S_IsGraph (N : Nat) (g_0 : Grf) : Option (Bool) :=
  (S_l1In N g_0.n (1 : Int) (8 : Int)).bind fun v1 =>
  cnd (!v1) (
    some false) (
    cnd (decide ((g_0.bars.length : Int) > (24 : Int))) (
      some false) (
      S_IsGraph_l1 N g_0 (fun (_ : Unit) =>
            some true) N (0 : Int)))
set_option maxRecDepth 20000 in
set_option maxHeartbeats 1600000 in
theorem S_IsGraph_w (N : Nat) (g_0 : Grf) (r : Bool) (h : S_IsGraph N g_0 = some r) : PCall Try.prog 103 [gD g_0] [] (.bool r) := by
  unfold S_IsGraph at h
  refine pcall_intro (TT := TT) tt Try.func103 rfl rfl Try.ntmps103 (congrArg Array.toList Try.results103) rfl rfl fun w0 => ?_
  refine vSeq ?_
  refine vRegion ?_
  refine oBox rfl rfl rfl rfl rfl rfl rfl rfl rfl ?_
  refine oVal tt rfl rfl rfl rfl rfl trivial ?_
  refine vNil ?_
  change VC _ _ _ _
  iterate 2 refine vSeq ?_
  refine vRegion ?_
  iterate 2 refine oVal tt rfl rfl rfl rfl rfl trivial ?_
  obtain ⟨v1, hc1, h⟩ := bind_inv h
  refine oCall (S_l1In_w N g_0.n (1 : Int) (8 : Int) v1 hc1) rfl rfl rfl rfl rfl rfl rfl rfl ⟨rfl, rfl, rfl, trivial⟩ ?_
  iterate 2 refine oVal tt rfl rfl rfl rfl rfl trivial ?_
  refine oSplit rfl rfl rfl (fun hb2 => ?_) (fun hb2 => ?_)
  · replace h := cnd_t hb2 h
    iterate 4 refine oNoF rfl rfl rfl rfl hb2 rfl rfl ?_
    refine oPick rfl rfl rfl rfl rfl hb2 rfl ?_
    refine vNil ?_
    change VC _ _ _ _
    refine vCondT rfl rfl ?_
    refine vSeq ?_
    refine vRegion ?_
    refine oVal tt rfl rfl rfl rfl rfl trivial ?_
    refine vNil ?_
    change VC _ _ _ _
    refine vRet ?_
    change ∃ _, _
    cases h
    exact ⟨[], _, rfl, trivial, rfl, (.eq rfl), rfl⟩
  · replace h := cnd_f hb2 h
    iterate 4 refine oValG tt rfl rfl rfl rfl rfl hb2 rfl rfl rfl trivial ?_
    refine oPickF rfl rfl rfl rfl rfl hb2 rfl ?_
    refine vNil ?_
    change VC _ _ _ _
    refine vCond rfl (fun hb3 => ?_) (fun hb3 => ?_)
    · replace h := cnd_t hb3 h
      refine vSeq ?_
      refine vRegion ?_
      refine oVal tt rfl rfl rfl rfl rfl trivial ?_
      refine vNil ?_
      change VC _ _ _ _
      refine vRet ?_
      change ∃ _, _
      cases h
      exact ⟨[], _, rfl, trivial, rfl, (.eq rfl), rfl⟩
    · replace h := cnd_f hb3 h
      refine vSkip ?_
      change VC _ _ _ _
      iterate 2 refine vSeq ?_
      refine vRegion ?_
      refine oVal tt rfl rfl rfl rfl rfl trivial ?_
      refine vNil ?_
      change VC _ _ _ _
      refine vJoin (F := fun k => S_IsGraph_l1 N g_0 k) h (α := Unit) (J := fun (_ : Unit) => (⟨[], [], []⟩ : PS)) ?_ ?_
      · rintro ⟨⟩ h
        show VC _ _ _ (⟨[], [], []⟩ : PS)
        refine vSeq ?_
        refine vRegion ?_
        refine oVal tt rfl rfl rfl rfl rfl trivial ?_
        refine vNil ?_
        change VC _ _ _ _
        refine vRet ?_
        change ∃ _, _
        cases h
        exact ⟨[], _, rfl, trivial, rfl, (.eq rfl), rfl⟩
      · intro k h
        refine vBlock ?_
        refine vLoopS (α := Int) (fun (i8 : Int) => (⟨[(1, .ptr 1 0), (3, .int i8)], [], [(1, some [.int g_0.n, .ro false (.pairs g_0.bars)])]⟩ : PS)) (S_IsGraph_l1 N g_0 k) h (En.of ⟨rfl, rfl, trivial⟩ trivial ⟨rfl, trivial⟩) (fun _ => rfl) ?_
        rintro n i8 h
        rw [S_IsGraph_l1] at h
        show VC _ _ _ (⟨[(1, .ptr 1 0), (3, .int i8)], [], [(1, some [.int g_0.n, .ro false (.pairs g_0.bars)])]⟩ : PS)
        iterate 2 refine vSeq ?_
        refine vRegion ?_
        iterate 5 refine oVal tt rfl rfl rfl rfl rfl trivial ?_
        refine vNil ?_
        change VC _ _ _ _
        refine vCond rfl (fun hb4 => ?_) (fun hb4 => ?_)
        · replace h := cnd_t hb4 h
          refine vSkip ?_
          change VC _ _ _ _
          refine vSeq ?_
          refine vBlock ?_
          refine vSeq ?_
          refine vRegion ?_
          iterate 3 refine oVal tt rfl rfl rfl rfl rfl trivial ?_
          obtain ⟨hg5, h⟩ := grd_inv h
          refine oVal tt rfl rfl rfl rfl rfl hg5 ?_
          refine oVal tt rfl rfl rfl rfl rfl trivial ?_
          refine oAlloc tt rfl rfl rfl rfl rfl rfl rfl rfl rfl ?_
          refine oStore tt rfl rfl rfl rfl rfl rfl rfl rfl rfl rfl rfl ⟨trivial, trivial, trivial⟩ ?_
          refine vNil ?_
          change VC _ _ _ _
          refine vSeq ?_
          refine vRegionD (by kernel_rfl) (by kernel_rfl) ?_
          iterate 4 refine cVal tt rfl (wNone rfl) rfl rfl rfl trivial ?_
          refine cSplit rfl rfl rfl (fun hb6 => ?_) (fun hb6 => ?_)
          · replace h := cnd_t hb6 h
            iterate 5 refine cNoF rfl rfl rfl rfl hb6 rfl rfl ?_
            refine cPickT rfl (wNone rfl) rfl rfl rfl hb6 rfl ?_
            refine cVal tt rfl (wNone rfl) rfl rfl rfl trivial ?_
            iterate 5 refine cNoF rfl rfl rfl rfl rfl rfl rfl ?_
            refine cPickT rfl (wNone rfl) rfl rfl rfl rfl rfl ?_
            refine cVal tt rfl (wNone rfl) rfl rfl rfl trivial ?_
            iterate 3 refine cNoF rfl rfl rfl rfl rfl rfl rfl ?_
            iterate 9 refine cNoU rfl rfl rfl rfl rfl ?_
            refine cNoF rfl rfl rfl rfl rfl rfl rfl ?_
            refine cPickT rfl (wNone rfl) rfl rfl rfl rfl rfl ?_
            refine cNil ?_
            change VC _ _ _ _
            refine vCondT rfl rfl ?_
            refine vSeq ?_
            refine vRegion ?_
            refine oVal tt rfl rfl rfl rfl rfl trivial ?_
            refine vNil ?_
            change VC _ _ _ _
            refine vRet ?_
            change ∃ _, _
            cases h
            exact ⟨[], _, rfl, trivial, rfl, (.eq rfl), rfl⟩
          · replace h := cnd_f hb6 h
            iterate 5 refine cVal tt rfl (wSome rfl rfl rfl rfl hb6) rfl rfl rfl trivial ?_
            refine cPickF rfl (wNone rfl) rfl rfl rfl hb6 rfl ?_
            refine cVal tt rfl (wNone rfl) rfl rfl rfl trivial ?_
            refine cSplit rfl rfl rfl (fun hb7 => ?_) (fun hb7 => ?_)
            · replace h := cnd_t hb7 h
              iterate 5 refine cNoF rfl rfl rfl rfl hb7 rfl rfl ?_
              refine cPickT rfl (wNone rfl) rfl rfl rfl hb7 rfl ?_
              refine cVal tt rfl (wNone rfl) rfl rfl rfl trivial ?_
              iterate 3 refine cNoF rfl rfl rfl rfl rfl rfl rfl ?_
              iterate 9 refine cNoU rfl rfl rfl rfl rfl ?_
              refine cNoF rfl rfl rfl rfl rfl rfl rfl ?_
              refine cPickT rfl (wNone rfl) rfl rfl rfl rfl rfl ?_
              refine cNil ?_
              change VC _ _ _ _
              refine vCondT rfl rfl ?_
              refine vSeq ?_
              refine vRegion ?_
              refine oVal tt rfl rfl rfl rfl rfl trivial ?_
              refine vNil ?_
              change VC _ _ _ _
              refine vRet ?_
              change ∃ _, _
              cases h
              exact ⟨[], _, rfl, trivial, rfl, (.eq rfl), rfl⟩
            · replace h := cnd_f hb7 h
              iterate 5 refine cVal tt rfl (wSome rfl rfl rfl rfl hb7) rfl rfl rfl trivial ?_
              refine cPickF rfl (wNone rfl) rfl rfl rfl hb7 rfl ?_
              refine cVal tt rfl (wNone rfl) rfl rfl rfl trivial ?_
              refine cSplit rfl rfl rfl (fun hb8 => ?_) (fun hb8 => ?_)
              · replace h := cnd_t hb8 h
                iterate 3 refine cNoF rfl rfl rfl rfl hb8 rfl rfl ?_
                iterate 9 refine cNoU rfl rfl rfl rfl rfl ?_
                refine cNoF rfl rfl rfl rfl hb8 rfl rfl ?_
                refine cPickT rfl (wNone rfl) rfl rfl rfl hb8 rfl ?_
                refine cNil ?_
                change VC _ _ _ _
                refine vCondT rfl rfl ?_
                refine vSeq ?_
                refine vRegion ?_
                refine oVal tt rfl rfl rfl rfl rfl trivial ?_
                refine vNil ?_
                change VC _ _ _ _
                refine vRet ?_
                change ∃ _, _
                cases h
                exact ⟨[], _, rfl, trivial, rfl, (.eq rfl), rfl⟩
              · replace h := cnd_f hb8 h
                iterate 3 refine cVal tt rfl (wSome rfl rfl rfl rfl hb8) rfl rfl rfl trivial ?_
                refine cSplit rfl rfl rfl (fun hb9 => ?_) (fun hb9 => ?_)
                · replace h := cnd_t hb9 h
                  iterate 3 refine cVal tt rfl (wSome rfl rfl rfl rfl hb9) rfl rfl rfl trivial ?_
                  obtain ⟨hg10, h⟩ := grd_inv h
                  refine cVal tt rfl (wSome rfl rfl rfl rfl hb9) rfl rfl rfl hg10 ?_
                  obtain ⟨hg11, h⟩ := grd_inv h
                  refine cVal tt rfl (wSome rfl rfl rfl rfl hb9) rfl rfl rfl hg11 ?_
                  iterate 2 refine cVal tt rfl (wSome rfl rfl rfl rfl hb9) rfl rfl rfl trivial ?_
                  obtain ⟨v10, hc12, h⟩ := bind_inv h
                  refine cCall (S_l2After_w N (g_0.bars.getD (((i8 - (1 : Int))).toNat) (0, 0)) (g_0.bars.getD ((i8).toNat) (0, 0)) v10 hc12) rfl (wSome rfl rfl rfl rfl hb9) rfl rfl rfl rfl rfl rfl ⟨⟨rfl, rfl, trivial⟩, ⟨rfl, rfl, trivial⟩, trivial⟩ ?_
                  refine cVal tt rfl (wSome rfl rfl rfl rfl hb9) rfl rfl rfl trivial ?_
                  refine cPickT rfl (wSome rfl rfl rfl rfl hb8) rfl rfl rfl hb9 rfl ?_
                  refine cPickF rfl (wNone rfl) rfl rfl rfl hb8 rfl ?_
                  refine cNil ?_
                  change VC _ _ _ _
                  refine vCond rfl (fun hb13 => ?_) (fun hb13 => ?_)
                  · replace h := cnd_t hb13 h
                    refine vSeq ?_
                    refine vRegion ?_
                    refine oVal tt rfl rfl rfl rfl rfl trivial ?_
                    refine vNil ?_
                    change VC _ _ _ _
                    refine vRet ?_
                    change ∃ _, _
                    cases h
                    exact ⟨[], _, rfl, trivial, rfl, (.eq rfl), rfl⟩
                  · replace h := cnd_f hb13 h
                    refine vSkip ?_
                    change VC _ _ _ _
                    refine vRegion ?_
                    refine oVal tt rfl rfl rfl rfl rfl trivial ?_
                    obtain ⟨hg14, h⟩ := grd_inv h
                    refine oVal tt rfl rfl rfl rfl rfl hg14 ?_
                    refine oVal tt rfl rfl rfl rfl rfl trivial ?_
                    refine vNil ?_
                    change ∃ _, _
                    exact ⟨(i8 + (1 : Int)), (En.of ⟨rfl, rfl, trivial⟩ trivial ⟨rfl, trivial⟩), h⟩
                · replace h := cnd_f hb9 h
                  iterate 9 refine cNoT rfl rfl rfl rfl hb9 rfl rfl ?_
                  refine cPickF rfl (wSome rfl rfl rfl rfl hb8) rfl rfl rfl hb9 rfl ?_
                  refine cPickF rfl (wNone rfl) rfl rfl rfl hb8 rfl ?_
                  refine cNil ?_
                  change VC _ _ _ _
                  refine vCondF rfl rfl ?_
                  refine vSkip ?_
                  change VC _ _ _ _
                  refine vRegion ?_
                  refine oVal tt rfl rfl rfl rfl rfl trivial ?_
                  obtain ⟨hg15, h⟩ := grd_inv h
                  refine oVal tt rfl rfl rfl rfl rfl hg15 ?_
                  refine oVal tt rfl rfl rfl rfl rfl trivial ?_
                  refine vNil ?_
                  change ∃ _, _
                  exact ⟨(i8 + (1 : Int)), (En.of ⟨rfl, rfl, trivial⟩ trivial ⟨rfl, trivial⟩), h⟩
        · replace h := cnd_f hb4 h
          refine vExit ?_
          change ∃ _, _
          exact ⟨(), (En.of trivial trivial trivial), h⟩
def S_l17Simple_l1 (N : Nat) (g_0 : Grf) (k : Unit → Option (Bool)) : Nat → Int → Option (Bool)
  | 0, _ => none
  | n + 1, i4 =>
    cnd (decide (i4 < (g_0.bars.length : Int))) (
      grd (Rg64 (i4 - (1 : Int))) <|
      grd (0 ≤ (i4 - (1 : Int)) ∧ (i4 - (1 : Int)) < (g_0.bars.length : Int)) <|
      grd (0 ≤ i4 ∧ i4 < (g_0.bars.length : Int)) <|
      cnd (((g_0.bars.getD (((i4 - (1 : Int))).toNat) (0, 0)).1 == (g_0.bars.getD ((i4).toNat) (0, 0)).1) && ((g_0.bars.getD (((i4 - (1 : Int))).toNat) (0, 0)).2 == (g_0.bars.getD ((i4).toNat) (0, 0)).2)) (
        some false) (
        grd (Rg64 (i4 + (1 : Int))) <|
        S_l17Simple_l1 N g_0 k n (i4 + (1 : Int)))) (
      k ())
def S_l17Simple (N : Nat) (g_0 : Grf) : Option (Bool) :=
  S_l17Simple_l1 N g_0 (fun (_ : Unit) =>
        (S_IsGraph N g_0).bind fun v2 =>
        some v2) N (1 : Int)
set_option maxRecDepth 20000 in
set_option maxHeartbeats 1600000 in
theorem S_l17Simple_w (N : Nat) (g_0 : Grf) (r : Bool) (h : S_l17Simple N g_0 = some r) : PCall Try.prog 96 [gD g_0] [] (.bool r) := by
  unfold S_l17Simple at h
  refine pcall_intro (TT := TT) tt Try.func96 rfl rfl Try.ntmps96 (congrArg Array.toList Try.results96) rfl rfl fun w0 => ?_
  refine vSeq ?_
  refine vRegion ?_
  refine oBox rfl rfl rfl rfl rfl rfl rfl rfl rfl ?_
  refine oVal tt rfl rfl rfl rfl rfl trivial ?_
  refine vNil ?_
  change VC _ _ _ _
  iterate 2 refine vSeq ?_
  refine vRegion ?_
  refine oVal tt rfl rfl rfl rfl rfl trivial ?_
  refine vNil ?_
  change VC _ _ _ _
  refine vJoin (F := fun k => S_l17Simple_l1 N g_0 k) h (α := Unit) (J := fun (_ : Unit) => (⟨[(1, .ptr 1 0)], [], [(1, some [.int g_0.n, .ro false (.pairs g_0.bars)])]⟩ : PS)) ?_ ?_
  · rintro ⟨⟩ h
    show VC _ _ _ (⟨[(1, .ptr 1 0)], [], [(1, some [.int g_0.n, .ro false (.pairs g_0.bars)])]⟩ : PS)
    refine vSeq ?_
    refine vRegion ?_
    refine oVal tt rfl rfl rfl rfl rfl trivial ?_
    obtain ⟨v2, hc1, h⟩ := bind_inv h
    refine oCall (S_IsGraph_w N g_0 v2 hc1) rfl rfl rfl rfl rfl rfl rfl rfl ⟨⟨rfl, rfl, trivial⟩, trivial⟩ ?_
    refine oVal tt rfl rfl rfl rfl rfl trivial ?_
    refine vNil ?_
    change VC _ _ _ _
    refine vRet ?_
    change ∃ _, _
    cases h
    exact ⟨[], _, rfl, trivial, rfl, (.eq rfl), rfl⟩
  · intro k h
    refine vBlock ?_
    refine vLoopS (α := Int) (fun (i4 : Int) => (⟨[(1, .ptr 1 0), (3, .int i4)], [], [(1, some [.int g_0.n, .ro false (.pairs g_0.bars)])]⟩ : PS)) (S_l17Simple_l1 N g_0 k) h (En.of ⟨rfl, rfl, trivial⟩ trivial ⟨rfl, trivial⟩) (fun _ => rfl) ?_
    rintro n i4 h
    rw [S_l17Simple_l1] at h
    show VC _ _ _ (⟨[(1, .ptr 1 0), (3, .int i4)], [], [(1, some [.int g_0.n, .ro false (.pairs g_0.bars)])]⟩ : PS)
    iterate 2 refine vSeq ?_
    refine vRegion ?_
    iterate 5 refine oVal tt rfl rfl rfl rfl rfl trivial ?_
    refine vNil ?_
    change VC _ _ _ _
    refine vCond rfl (fun hb2 => ?_) (fun hb2 => ?_)
    · replace h := cnd_t hb2 h
      refine vSkip ?_
      change VC _ _ _ _
      refine vSeq ?_
      refine vBlock ?_
      refine vSeq ?_
      refine vRegionD (by kernel_rfl) (by kernel_rfl) ?_
      iterate 3 refine cVal tt rfl (wNone rfl) rfl rfl rfl trivial ?_
      obtain ⟨hg3, h⟩ := grd_inv h
      refine cVal tt rfl (wNone rfl) rfl rfl rfl hg3 ?_
      obtain ⟨hg4, h⟩ := grd_inv h
      refine cVal tt rfl (wNone rfl) rfl rfl rfl hg4 ?_
      iterate 4 refine cVal tt rfl (wNone rfl) rfl rfl rfl trivial ?_
      obtain ⟨hg5, h⟩ := grd_inv h
      refine cVal tt rfl (wNone rfl) rfl rfl rfl hg5 ?_
      refine cVal tt rfl (wNone rfl) rfl rfl rfl trivial ?_
      refine cPure (wNone rfl) (pEqP eqP_impl_Bar rfl rfl rfl) rfl rfl ?_
      refine cNil ?_
      change VC _ _ _ _
      refine vCond rfl (fun hb6 => ?_) (fun hb6 => ?_)
      · replace h := cnd_t hb6 h
        refine vSeq ?_
        refine vRegion ?_
        refine oVal tt rfl rfl rfl rfl rfl trivial ?_
        refine vNil ?_
        change VC _ _ _ _
        refine vRet ?_
        change ∃ _, _
        cases h
        exact ⟨[], _, rfl, trivial, rfl, (.eq rfl), rfl⟩
      · replace h := cnd_f hb6 h
        refine vSkip ?_
        change VC _ _ _ _
        refine vRegion ?_
        refine oVal tt rfl rfl rfl rfl rfl trivial ?_
        obtain ⟨hg7, h⟩ := grd_inv h
        refine oVal tt rfl rfl rfl rfl rfl hg7 ?_
        refine oVal tt rfl rfl rfl rfl rfl trivial ?_
        refine vNil ?_
        change ∃ _, _
        exact ⟨(i4 + (1 : Int)), (En.of ⟨rfl, rfl, trivial⟩ trivial ⟨rfl, trivial⟩), h⟩
    · replace h := cnd_f hb2 h
      refine vExit ?_
      change ∃ _, _
      exact ⟨(), (En.of ⟨rfl, trivial⟩ trivial ⟨rfl, trivial⟩), h⟩
end Go.Proofs.Ytkpmijmlbpdknaa
