/- Plain texts of functions, and that the program computes them (printed by gen.py). -/
import Derived.Test.YtlmlfbjcpajinaaShb
import Derived.Test.YtlmlfbjcpajinaaG1
import Derived.Test.YtlmlfbjcpajinaaG2
import Derived.Test.YtlmlfbjcpajinaaG4
namespace Go.Proofs.Ytlmlfbjcpajinaa
open Go.RowKit
set_option linter.unusedVariables false
set_option linter.unusedSimpArgs false
def L_szPlaceS (N : Nat) (a_0 : List (Int × Int)) (left_1 : Int) : Option (Int) :=
  grd (Rg64 (left_1 - (a_0.length : Int))) <|
  cnd (decide ((left_1 - (a_0.length : Int)) < (0 : Int))) (
    some (-1 : Int)) (
    some (left_1 - (a_0.length : Int)))
set_option maxRecDepth 20000 in
set_option maxHeartbeats 1600000 in
theorem L_szPlaceS_w (N : Nat) (a_0 : List (Int × Int)) (left_1 : Int) (r : Int) (h : L_szPlaceS N a_0 left_1 = some r) : PCall Try.prog 55 [.ro false (.pairs a_0), .int left_1] [] (.int r) := by
  unfold L_szPlaceS at h
  refine pcall_intro (TT := TT) tt Try.func55 rfl rfl Try.ntmps55 (congrArg Array.toList Try.results55) rfl rfl fun w0 => ?_
  refine vSeq ?_
  refine vRegion ?_
  refine oVal tt rfl rfl rfl rfl rfl trivial ?_
  refine vNil ?_
  change VC _ _ _ _
  refine vSeq ?_
  refine vRegion ?_
  iterate 3 refine oVal tt rfl rfl rfl rfl rfl trivial ?_
  obtain ⟨hg1, h⟩ := grd_inv h
  refine oVal tt rfl rfl rfl rfl rfl hg1 ?_
  refine oVal tt rfl rfl rfl rfl rfl trivial ?_
  refine vNil ?_
  change VC _ _ _ _
  iterate 2 refine vSeq ?_
  refine vRegion ?_
  iterate 2 refine oVal tt rfl rfl rfl rfl rfl trivial ?_
  refine vNil ?_
  change VC _ _ _ _
  refine vCond rfl (fun hb2 => ?_) (fun hb2 => ?_)
  · replace h := cnd_t hb2 h
    refine vSeq ?_
    refine vRegion ?_
    refine oVal tt rfl rfl rfl rfl rfl trivial ?_
    refine vNil ?_
    change VC _ _ _ _
    refine vRet ?_
    change ∃ _, _
    cases h
    exact ⟨[], _, rfl, trivial, rfl, (.eq rfl), rfl⟩
  · replace h := cnd_f hb2 h
    refine vSkip ?_
    change VC _ _ _ _
    refine vSeq ?_
    refine vRegion ?_
    iterate 2 refine oVal tt rfl rfl rfl rfl rfl trivial ?_
    refine vNil ?_
    change VC _ _ _ _
    refine vRet ?_
    change ∃ _, _
    cases h
    exact ⟨[], _, rfl, trivial, rfl, (.eq rfl), rfl⟩
def L_szFramework (N : Nat) (a_0 : Frm) (left_1 : Int) : Option (Int) :=
  (L_szGraph N a_0.g left_1).bind fun v1 =>
  cnd (decide (v1 < (0 : Int))) (
    some (-1 : Int)) (
    (L_szPlaceS N a_0.places v1).bind fun v2 =>
    cnd (decide (v2 < (0 : Int))) (
      some (-1 : Int)) (
      some v2))
set_option maxRecDepth 20000 in
set_option maxHeartbeats 1600000 in
theorem L_szFramework_w (N : Nat) (a_0 : Frm) (left_1 : Int) (r : Int) (h : L_szFramework N a_0 left_1 = some r) : PCall Try.prog 86 [fD a_0, .int left_1] [] (.int r) := by
  unfold L_szFramework at h
  refine pcall_intro (TT := TT) tt Try.func86 rfl rfl Try.ntmps86 (congrArg Array.toList Try.results86) rfl rfl fun w0 => ?_
  refine vSeq ?_
  refine vRegion ?_
  refine oBox rfl rfl rfl rfl rfl rfl rfl rfl rfl ?_
  refine oVal tt rfl rfl rfl rfl rfl trivial ?_
  refine vNil ?_
  change VC _ _ _ _
  refine vSeq ?_
  refine vRegion ?_
  iterate 3 refine oVal tt rfl rfl rfl rfl rfl trivial ?_
  obtain ⟨v1, hc1, h⟩ := bind_inv h
  refine oCall (L_szGraph_w N a_0.g left_1 v1 hc1) rfl rfl rfl rfl rfl rfl rfl rfl ⟨⟨rfl, rfl, trivial⟩, rfl, trivial⟩ ?_
  refine oVal tt rfl rfl rfl rfl rfl trivial ?_
  refine vNil ?_
  change VC _ _ _ _
  iterate 2 refine vSeq ?_
  refine vRegion ?_
  iterate 2 refine oVal tt rfl rfl rfl rfl rfl trivial ?_
  refine vNil ?_
  change VC _ _ _ _
  refine vCond rfl (fun hb2 => ?_) (fun hb2 => ?_)
  · replace h := cnd_t hb2 h
    refine vSeq ?_
    refine vRegion ?_
    refine oVal tt rfl rfl rfl rfl rfl trivial ?_
    refine vNil ?_
    change VC _ _ _ _
    refine vRet ?_
    change ∃ _, _
    cases h
    exact ⟨[], _, rfl, trivial, rfl, (.eq rfl), rfl⟩
  · replace h := cnd_f hb2 h
    refine vSkip ?_
    change VC _ _ _ _
    refine vSeq ?_
    refine vRegion ?_
    iterate 3 refine oVal tt rfl rfl rfl rfl rfl trivial ?_
    obtain ⟨v2, hc3, h⟩ := bind_inv h
    refine oCall (L_szPlaceS_w N a_0.places v1 v2 hc3) rfl rfl rfl rfl rfl rfl rfl rfl ⟨rfl, rfl, trivial⟩ ?_
    refine oVal tt rfl rfl rfl rfl rfl trivial ?_
    refine vNil ?_
    change VC _ _ _ _
    iterate 2 refine vSeq ?_
    refine vRegion ?_
    iterate 2 refine oVal tt rfl rfl rfl rfl rfl trivial ?_
    refine vNil ?_
    change VC _ _ _ _
    refine vCond rfl (fun hb4 => ?_) (fun hb4 => ?_)
    · replace h := cnd_t hb4 h
      refine vSeq ?_
      refine vRegion ?_
      refine oVal tt rfl rfl rfl rfl rfl trivial ?_
      refine vNil ?_
      change VC _ _ _ _
      refine vRet ?_
      change ∃ _, _
      cases h
      exact ⟨[], _, rfl, trivial, rfl, (.eq rfl), rfl⟩
    · replace h := cnd_f hb4 h
      refine vSkip ?_
      change VC _ _ _ _
      refine vSeq ?_
      refine vRegion ?_
      iterate 2 refine oVal tt rfl rfl rfl rfl rfl trivial ?_
      refine vNil ?_
      change VC _ _ _ _
      refine vRet ?_
      change ∃ _, _
      cases h
      exact ⟨[], _, rfl, trivial, rfl, (.eq rfl), rfl⟩
def L_szLinkage (N : Nat) (a_0 : Lnk) (left_1 : Int) : Option (Int) :=
  (L_szFramework N a_0.f left_1).bind fun v1 =>
  cnd (decide (v1 < (0 : Int))) (
    some (-1 : Int)) (
    (L_szIntS N a_0.ground v1).bind fun v2 =>
    cnd (decide (v2 < (0 : Int))) (
      some (-1 : Int)) (
      some v2))
set_option maxRecDepth 20000 in
set_option maxHeartbeats 1600000 in
theorem L_szLinkage_w (N : Nat) (a_0 : Lnk) (left_1 : Int) (r : Int) (h : L_szLinkage N a_0 left_1 = some r) : PCall Try.prog 36 [lD a_0, .int left_1] [] (.int r) := by
  unfold L_szLinkage at h
  refine pcall_intro (TT := TT) tt Try.func36 rfl rfl Try.ntmps36 (congrArg Array.toList Try.results36) rfl rfl fun w0 => ?_
  refine vSeq ?_
  refine vRegion ?_
  refine oBox rfl rfl rfl rfl rfl rfl rfl rfl rfl ?_
  refine oVal tt rfl rfl rfl rfl rfl trivial ?_
  refine vNil ?_
  change VC _ _ _ _
  refine vSeq ?_
  refine vRegion ?_
  iterate 3 refine oVal tt rfl rfl rfl rfl rfl trivial ?_
  obtain ⟨v1, hc1, h⟩ := bind_inv h
  refine oCall (L_szFramework_w N a_0.f left_1 v1 hc1) rfl rfl rfl rfl rfl rfl rfl rfl ⟨⟨rfl, rfl, rfl, trivial⟩, rfl, trivial⟩ ?_
  refine oVal tt rfl rfl rfl rfl rfl trivial ?_
  refine vNil ?_
  change VC _ _ _ _
  iterate 2 refine vSeq ?_
  refine vRegion ?_
  iterate 2 refine oVal tt rfl rfl rfl rfl rfl trivial ?_
  refine vNil ?_
  change VC _ _ _ _
  refine vCond rfl (fun hb2 => ?_) (fun hb2 => ?_)
  · replace h := cnd_t hb2 h
    refine vSeq ?_
    refine vRegion ?_
    refine oVal tt rfl rfl rfl rfl rfl trivial ?_
    refine vNil ?_
    change VC _ _ _ _
    refine vRet ?_
    change ∃ _, _
    cases h
    exact ⟨[], _, rfl, trivial, rfl, (.eq rfl), rfl⟩
  · replace h := cnd_f hb2 h
    refine vSkip ?_
    change VC _ _ _ _
    refine vSeq ?_
    refine vRegion ?_
    iterate 3 refine oVal tt rfl rfl rfl rfl rfl trivial ?_
    obtain ⟨v2, hc3, h⟩ := bind_inv h
    refine oCall (L_szIntS_w N a_0.ground v1 v2 hc3) rfl rfl rfl rfl rfl rfl rfl rfl ⟨rfl, rfl, trivial⟩ ?_
    refine oVal tt rfl rfl rfl rfl rfl trivial ?_
    refine vNil ?_
    change VC _ _ _ _
    iterate 2 refine vSeq ?_
    refine vRegion ?_
    iterate 2 refine oVal tt rfl rfl rfl rfl rfl trivial ?_
    refine vNil ?_
    change VC _ _ _ _
    refine vCond rfl (fun hb4 => ?_) (fun hb4 => ?_)
    · replace h := cnd_t hb4 h
      refine vSeq ?_
      refine vRegion ?_
      refine oVal tt rfl rfl rfl rfl rfl trivial ?_
      refine vNil ?_
      change VC _ _ _ _
      refine vRet ?_
      change ∃ _, _
      cases h
      exact ⟨[], _, rfl, trivial, rfl, (.eq rfl), rfl⟩
    · replace h := cnd_f hb4 h
      refine vSkip ?_
      change VC _ _ _ _
      refine vSeq ?_
      refine vRegion ?_
      iterate 2 refine oVal tt rfl rfl rfl rfl rfl trivial ?_
      refine vNil ?_
      change VC _ _ _ _
      refine vRet ?_
      change ∃ _, _
      cases h
      exact ⟨[], _, rfl, trivial, rfl, (.eq rfl), rfl⟩
def S_IsFramework_l1 (N : Nat) (f_0 : Frm) (k : Unit → Option (Bool)) : Nat → Int → Option (Bool)
  | 0, _ => none
  | n + 1, i11 =>
    cnd (decide (i11 < (f_0.g.bars.length : Int))) (
      grd (0 ≤ i11 ∧ i11 < (f_0.g.bars.length : Int)) <|
      grd (0 ≤ ((f_0.g.bars.getD ((i11).toNat) (0, 0)).1) ∧ ((f_0.g.bars.getD ((i11).toNat) (0, 0)).1) < (f_0.places.length : Int)) <|
      grd (0 ≤ ((f_0.g.bars.getD ((i11).toNat) (0, 0)).2) ∧ ((f_0.g.bars.getD ((i11).toNat) (0, 0)).2) < (f_0.places.length : Int)) <|
      cnd (((f_0.places.getD (((f_0.g.bars.getD ((i11).toNat) (0, 0)).1).toNat) (0, 0)).1 == (f_0.places.getD (((f_0.g.bars.getD ((i11).toNat) (0, 0)).2).toNat) (0, 0)).1) && ((f_0.places.getD (((f_0.g.bars.getD ((i11).toNat) (0, 0)).1).toNat) (0, 0)).2 == (f_0.places.getD (((f_0.g.bars.getD ((i11).toNat) (0, 0)).2).toNat) (0, 0)).2)) (
        some false) (
        cnd (decide (i11 > (0 : Int))) (
          grd (Rg64 (i11 - (1 : Int))) <|
          grd (0 ≤ (i11 - (1 : Int)) ∧ (i11 - (1 : Int)) < (f_0.g.bars.length : Int)) <|
          cnd (((f_0.g.bars.getD (((i11 - (1 : Int))).toNat) (0, 0)).1 == (f_0.g.bars.getD ((i11).toNat) (0, 0)).1) && ((f_0.g.bars.getD (((i11 - (1 : Int))).toNat) (0, 0)).2 == (f_0.g.bars.getD ((i11).toNat) (0, 0)).2)) (
            some false) (
            grd (Rg64 (i11 + (1 : Int))) <|
            S_IsFramework_l1 N f_0 k n (i11 + (1 : Int)))) (
          grd (Rg64 (i11 + (1 : Int))) <|
          S_IsFramework_l1 N f_0 k n (i11 + (1 : Int))))) (
      k ())
def S_IsFramework_l2 (N : Nat) (f_0 : Frm) (k : Unit → Option (Bool)) : Nat → Int → Option (Bool)
  | 0, _ => none
  | n + 1, i15 =>
    cnd (decide (i15 < (f_0.places.length : Int))) (
      grd (0 ≤ i15 ∧ i15 < (f_0.places.length : Int)) <|
      (S_l1In N ((f_0.places.getD ((i15).toNat) (0, 0)).1) (0 : Int) (4 : Int)).bind fun v18 =>
      cnd (!v18) (
        some false) (
        (S_l1In N ((f_0.places.getD ((i15).toNat) (0, 0)).2) (0 : Int) (4 : Int)).bind fun v19 =>
        cnd (!v19) (
          some false) (
          grd (Rg64 (i15 + (1 : Int))) <|
          S_IsFramework_l2 N f_0 k n (i15 + (1 : Int))))) (
      k ())
def S_IsFramework (N : Nat) (f_0 : Frm) : Option (Bool) :=
  (S_IsGraph N f_0.g).bind fun v1 =>
  cnd (!v1) (
    some false) (
    cnd (decide (f_0.g.n > (6 : Int))) (
      some false) (
      cnd ((f_0.places.length : Int) != f_0.g.n) (
        some false) (
        cnd (decide ((f_0.g.bars.length : Int) > (15 : Int))) (
          some false) (
          S_IsFramework_l2 N f_0 (fun (_ : Unit) =>
                S_IsFramework_l1 N f_0 (fun (_ : Unit) =>
                      some true) N (0 : Int)) N (0 : Int)))))
set_option maxRecDepth 20000 in
set_option maxHeartbeats 1600000 in
theorem S_IsFramework_w (N : Nat) (f_0 : Frm) (r : Bool) (h : S_IsFramework N f_0 = some r) : PCall Try.prog 88 [fD f_0] [] (.bool r) := by
  unfold S_IsFramework at h
  refine pcall_intro (TT := TT) tt Try.func88 rfl rfl Try.ntmps88 (congrArg Array.toList Try.results88) rfl rfl fun w0 => ?_
  refine vSeq ?_
  refine vRegion ?_
  refine oBox rfl rfl rfl rfl rfl rfl rfl rfl rfl ?_
  refine oVal tt rfl rfl rfl rfl rfl trivial ?_
  refine vNil ?_
  change VC _ _ _ _
  iterate 2 refine vSeq ?_
  refine vRegion ?_
  iterate 2 refine oVal tt rfl rfl rfl rfl rfl trivial ?_
  obtain ⟨v1, hc1, h⟩ := bind_inv h
  refine oCall (S_IsGraph_w N f_0.g v1 hc1) rfl rfl rfl rfl rfl rfl rfl rfl ⟨⟨rfl, rfl, trivial⟩, trivial⟩ ?_
  iterate 2 refine oVal tt rfl rfl rfl rfl rfl trivial ?_
  refine oSplit rfl rfl rfl (fun hb2 => ?_) (fun hb2 => ?_)
  · replace h := cnd_t hb2 h
    iterate 4 refine oNoF rfl rfl rfl rfl hb2 rfl rfl ?_
    refine oPick rfl rfl rfl rfl rfl hb2 rfl ?_
    refine oVal tt rfl rfl rfl rfl rfl trivial ?_
    iterate 7 refine oNoF rfl rfl rfl rfl rfl rfl rfl ?_
    refine oPick rfl rfl rfl rfl rfl rfl rfl ?_
    refine oVal tt rfl rfl rfl rfl rfl trivial ?_
    iterate 5 refine oNoF rfl rfl rfl rfl rfl rfl rfl ?_
    refine oPick rfl rfl rfl rfl rfl rfl rfl ?_
    refine vNil ?_
    change VC _ _ _ _
    refine vCondT rfl rfl ?_
    refine vSeq ?_
    refine vRegion ?_
    refine oVal tt rfl rfl rfl rfl rfl trivial ?_
    refine vNil ?_
    change VC _ _ _ _
    refine vRet ?_
    change ∃ _, _
    cases h
    exact ⟨[], _, rfl, trivial, rfl, (.eq rfl), rfl⟩
  · replace h := cnd_f hb2 h
    iterate 4 refine oValG tt rfl rfl rfl rfl rfl hb2 rfl rfl rfl trivial ?_
    refine oPickF rfl rfl rfl rfl rfl hb2 rfl ?_
    refine oVal tt rfl rfl rfl rfl rfl trivial ?_
    refine oSplit rfl rfl rfl (fun hb3 => ?_) (fun hb3 => ?_)
    · replace h := cnd_t hb3 h
      iterate 7 refine oNoF rfl rfl rfl rfl hb3 rfl rfl ?_
      refine oPick rfl rfl rfl rfl rfl hb3 rfl ?_
      refine oVal tt rfl rfl rfl rfl rfl trivial ?_
      iterate 5 refine oNoF rfl rfl rfl rfl rfl rfl rfl ?_
      refine oPick rfl rfl rfl rfl rfl rfl rfl ?_
      refine vNil ?_
      change VC _ _ _ _
      refine vCondT rfl rfl ?_
      refine vSeq ?_
      refine vRegion ?_
      refine oVal tt rfl rfl rfl rfl rfl trivial ?_
      refine vNil ?_
      change VC _ _ _ _
      refine vRet ?_
      change ∃ _, _
      cases h
      exact ⟨[], _, rfl, trivial, rfl, (.eq rfl), rfl⟩
    · replace h := cnd_f hb3 h
      iterate 7 refine oValG tt rfl rfl rfl rfl rfl hb3 rfl rfl rfl trivial ?_
      refine oPickF rfl rfl rfl rfl rfl hb3 rfl ?_
      refine oVal tt rfl rfl rfl rfl rfl trivial ?_
      refine oSplit rfl rfl rfl (fun hb4 => ?_) (fun hb4 => ?_)
      · replace h := cnd_t hb4 h
        iterate 5 refine oNoF rfl rfl rfl rfl hb4 rfl rfl ?_
        refine oPick rfl rfl rfl rfl rfl hb4 rfl ?_
        refine vNil ?_
        change VC _ _ _ _
        refine vCondT rfl rfl ?_
        refine vSeq ?_
        refine vRegion ?_
        refine oVal tt rfl rfl rfl rfl rfl trivial ?_
        refine vNil ?_
        change VC _ _ _ _
        refine vRet ?_
        change ∃ _, _
        cases h
        exact ⟨[], _, rfl, trivial, rfl, (.eq rfl), rfl⟩
      · replace h := cnd_f hb4 h
        iterate 5 refine oValG tt rfl rfl rfl rfl rfl hb4 rfl rfl rfl trivial ?_
        refine oPickF rfl rfl rfl rfl rfl hb4 rfl ?_
        refine vNil ?_
        change VC _ _ _ _
        refine vCond rfl (fun hb5 => ?_) (fun hb5 => ?_)
        · replace h := cnd_t hb5 h
          refine vSeq ?_
          refine vRegion ?_
          refine oVal tt rfl rfl rfl rfl rfl trivial ?_
          refine vNil ?_
          change VC _ _ _ _
          refine vRet ?_
          change ∃ _, _
          cases h
          exact ⟨[], _, rfl, trivial, rfl, (.eq rfl), rfl⟩
        · replace h := cnd_f hb5 h
          refine vSkip ?_
          change VC _ _ _ _
          iterate 2 refine vSeq ?_
          refine vRegion ?_
          refine oVal tt rfl rfl rfl rfl rfl trivial ?_
          refine vNil ?_
          change VC _ _ _ _
          refine vJoin (F := fun k => S_IsFramework_l2 N f_0 k) h (α := Unit) (J := fun (_ : Unit) => (⟨[(1, .ptr 1 0)], [], [(1, some [.int f_0.g.n, .ro false (.pairs f_0.g.bars), .ro false (.pairs f_0.places)])]⟩ : PS)) ?_ ?_
          · rintro ⟨⟩ h
            show VC _ _ _ (⟨[(1, .ptr 1 0)], [], [(1, some [.int f_0.g.n, .ro false (.pairs f_0.g.bars), .ro false (.pairs f_0.places)])]⟩ : PS)
            iterate 2 refine vSeq ?_
            refine vRegion ?_
            refine oVal tt rfl rfl rfl rfl rfl trivial ?_
            refine vNil ?_
            change VC _ _ _ _
            refine vJoin (F := fun k => S_IsFramework_l1 N f_0 k) h (α := Unit) (J := fun (_ : Unit) => (⟨[], [], []⟩ : PS)) ?_ ?_
            · rintro ⟨⟩ h
              show VC _ _ _ (⟨[], [], []⟩ : PS)
              refine vSeq ?_
              refine vRegion ?_
              refine oVal tt rfl rfl rfl rfl rfl trivial ?_
              refine vNil ?_
              change VC _ _ _ _
              refine vRet ?_
              change ∃ _, _
              cases h
              exact ⟨[], _, rfl, trivial, rfl, (.eq rfl), rfl⟩
            · intro k h
              refine vBlock ?_
              refine vLoopS (α := Int) (fun (i11 : Int) => (⟨[(1, .ptr 1 0), (4, .int i11)], [], [(1, some [.int f_0.g.n, .ro false (.pairs f_0.g.bars), .ro false (.pairs f_0.places)])]⟩ : PS)) (S_IsFramework_l1 N f_0 k) h (En.of ⟨rfl, rfl, trivial⟩ trivial ⟨rfl, trivial⟩) (fun _ => rfl) ?_
              rintro n i11 h
              rw [S_IsFramework_l1] at h
              show VC _ _ _ (⟨[(1, .ptr 1 0), (4, .int i11)], [], [(1, some [.int f_0.g.n, .ro false (.pairs f_0.g.bars), .ro false (.pairs f_0.places)])]⟩ : PS)
              iterate 2 refine vSeq ?_
              refine vRegion ?_
              iterate 6 refine oVal tt rfl rfl rfl rfl rfl trivial ?_
              refine vNil ?_
              change VC _ _ _ _
              refine vCond rfl (fun hb6 => ?_) (fun hb6 => ?_)
              · replace h := cnd_t hb6 h
                refine vSkip ?_
                change VC _ _ _ _
                refine vSeq ?_
                refine vBlock ?_
                refine vSeq ?_
                refine vRegion ?_
                iterate 4 refine oVal tt rfl rfl rfl rfl rfl trivial ?_
                obtain ⟨hg7, h⟩ := grd_inv h
                refine oVal tt rfl rfl rfl rfl rfl hg7 ?_
                refine oVal tt rfl rfl rfl rfl rfl trivial ?_
                refine oAlloc tt rfl rfl rfl rfl rfl rfl rfl rfl rfl ?_
                refine oStore tt rfl rfl rfl rfl rfl rfl rfl rfl rfl rfl rfl ⟨trivial, trivial, trivial⟩ ?_
                refine vNil ?_
                change VC _ _ _ _
                refine vSeq ?_
                refine vRegionD (by kernel_rfl) (by kernel_rfl) ?_
                iterate 4 refine cVal tt rfl (wNone rfl) rfl rfl rfl trivial ?_
                obtain ⟨hg8, h⟩ := grd_inv h
                refine cVal tt rfl (wNone rfl) rfl rfl rfl hg8 ?_
                iterate 5 refine cVal tt rfl (wNone rfl) rfl rfl rfl trivial ?_
                obtain ⟨hg9, h⟩ := grd_inv h
                refine cVal tt rfl (wNone rfl) rfl rfl rfl hg9 ?_
                refine cVal tt rfl (wNone rfl) rfl rfl rfl trivial ?_
                refine cPure (wNone rfl) (pEqP eqP_impl_Place rfl rfl rfl) rfl rfl ?_
                refine cVal tt rfl (wNone rfl) rfl rfl rfl trivial ?_
                refine cSplit rfl rfl rfl (fun hb10 => ?_) (fun hb10 => ?_)
                · replace h := cnd_t hb10 h
                  iterate 3 refine cNoF rfl rfl rfl rfl hb10 rfl rfl ?_
                  iterate 9 refine cNoU rfl rfl rfl rfl rfl ?_
                  refine cNoF rfl rfl rfl rfl hb10 rfl rfl ?_
                  refine cPickT rfl (wNone rfl) rfl rfl rfl hb10 rfl ?_
                  refine cNil ?_
                  change VC _ _ _ _
                  refine vCondT rfl rfl ?_
                  refine vSeq ?_
                  refine vRegion ?_
                  refine oVal tt rfl rfl rfl rfl rfl trivial ?_
                  refine vNil ?_
                  change VC _ _ _ _
                  refine vRet ?_
                  change ∃ _, _
                  cases h
                  exact ⟨[], _, rfl, trivial, rfl, (.eq rfl), rfl⟩
                · replace h := cnd_f hb10 h
                  iterate 3 refine cVal tt rfl (wSome rfl rfl rfl rfl hb10) rfl rfl rfl trivial ?_
                  refine cSplit rfl rfl rfl (fun hb11 => ?_) (fun hb11 => ?_)
                  · replace h := cnd_t hb11 h
                    iterate 4 refine cVal tt rfl (wSome rfl rfl rfl rfl hb11) rfl rfl rfl trivial ?_
                    obtain ⟨hg12, h⟩ := grd_inv h
                    refine cVal tt rfl (wSome rfl rfl rfl rfl hb11) rfl rfl rfl hg12 ?_
                    obtain ⟨hg13, h⟩ := grd_inv h
                    refine cVal tt rfl (wSome rfl rfl rfl rfl hb11) rfl rfl rfl hg13 ?_
                    iterate 2 refine cVal tt rfl (wSome rfl rfl rfl rfl hb11) rfl rfl rfl trivial ?_
                    refine cPure (wSome rfl rfl rfl rfl hb11) (pEqP eqP_impl_Bar rfl rfl rfl) rfl rfl ?_
                    refine cPickT rfl (wSome rfl rfl rfl rfl hb10) rfl rfl rfl hb11 rfl ?_
                    refine cPickF rfl (wNone rfl) rfl rfl rfl hb10 rfl ?_
                    refine cNil ?_
                    change VC _ _ _ _
                    refine vCond rfl (fun hb14 => ?_) (fun hb14 => ?_)
                    · replace h := cnd_t hb14 h
                      refine vSeq ?_
                      refine vRegion ?_
                      refine oVal tt rfl rfl rfl rfl rfl trivial ?_
                      refine vNil ?_
                      change VC _ _ _ _
                      refine vRet ?_
                      change ∃ _, _
                      cases h
                      exact ⟨[], _, rfl, trivial, rfl, (.eq rfl), rfl⟩
                    · replace h := cnd_f hb14 h
                      refine vSkip ?_
                      change VC _ _ _ _
                      refine vRegion ?_
                      refine oVal tt rfl rfl rfl rfl rfl trivial ?_
                      obtain ⟨hg15, h⟩ := grd_inv h
                      refine oVal tt rfl rfl rfl rfl rfl hg15 ?_
                      refine oVal tt rfl rfl rfl rfl rfl trivial ?_
                      refine vNil ?_
                      change ∃ _, _
                      exact ⟨(i11 + (1 : Int)), (En.of ⟨rfl, rfl, trivial⟩ trivial ⟨rfl, trivial⟩), h⟩
                  · replace h := cnd_f hb11 h
                    iterate 9 refine cNoT rfl rfl rfl rfl hb11 rfl rfl ?_
                    refine cPickF rfl (wSome rfl rfl rfl rfl hb10) rfl rfl rfl hb11 rfl ?_
                    refine cPickF rfl (wNone rfl) rfl rfl rfl hb10 rfl ?_
                    refine cNil ?_
                    change VC _ _ _ _
                    refine vCondF rfl rfl ?_
                    refine vSkip ?_
                    change VC _ _ _ _
                    refine vRegion ?_
                    refine oVal tt rfl rfl rfl rfl rfl trivial ?_
                    obtain ⟨hg16, h⟩ := grd_inv h
                    refine oVal tt rfl rfl rfl rfl rfl hg16 ?_
                    refine oVal tt rfl rfl rfl rfl rfl trivial ?_
                    refine vNil ?_
                    change ∃ _, _
                    exact ⟨(i11 + (1 : Int)), (En.of ⟨rfl, rfl, trivial⟩ trivial ⟨rfl, trivial⟩), h⟩
              · replace h := cnd_f hb6 h
                refine vExit ?_
                change ∃ _, _
                exact ⟨(), (En.of trivial trivial trivial), h⟩
          · intro k h
            refine vBlock ?_
            refine vLoopS (α := Int) (fun (i15 : Int) => (⟨[(1, .ptr 1 0), (3, .int i15)], [], [(1, some [.int f_0.g.n, .ro false (.pairs f_0.g.bars), .ro false (.pairs f_0.places)])]⟩ : PS)) (S_IsFramework_l2 N f_0 k) h (En.of ⟨rfl, rfl, trivial⟩ trivial ⟨rfl, trivial⟩) (fun _ => rfl) ?_
            rintro n i15 h
            rw [S_IsFramework_l2] at h
            show VC _ _ _ (⟨[(1, .ptr 1 0), (3, .int i15)], [], [(1, some [.int f_0.g.n, .ro false (.pairs f_0.g.bars), .ro false (.pairs f_0.places)])]⟩ : PS)
            iterate 2 refine vSeq ?_
            refine vRegion ?_
            iterate 5 refine oVal tt rfl rfl rfl rfl rfl trivial ?_
            refine vNil ?_
            change VC _ _ _ _
            refine vCond rfl (fun hb17 => ?_) (fun hb17 => ?_)
            · replace h := cnd_t hb17 h
              refine vSkip ?_
              change VC _ _ _ _
              refine vSeq ?_
              refine vBlock ?_
              refine vSeq ?_
              refine vRegion ?_
              iterate 3 refine oVal tt rfl rfl rfl rfl rfl trivial ?_
              obtain ⟨hg18, h⟩ := grd_inv h
              refine oVal tt rfl rfl rfl rfl rfl hg18 ?_
              iterate 2 refine oVal tt rfl rfl rfl rfl rfl trivial ?_
              obtain ⟨v18, hc19, h⟩ := bind_inv h
              refine oCall (S_l1In_w N ((f_0.places.getD ((i15).toNat) (0, 0)).1) (0 : Int) (4 : Int) v18 hc19) rfl rfl rfl rfl rfl rfl rfl rfl ⟨rfl, rfl, rfl, trivial⟩ ?_
              iterate 2 refine oVal tt rfl rfl rfl rfl rfl trivial ?_
              refine oSplit rfl rfl rfl (fun hb20 => ?_) (fun hb20 => ?_)
              · replace h := cnd_t hb20 h
                iterate 8 refine oNoF rfl rfl rfl rfl hb20 rfl rfl ?_
                refine oPick rfl rfl rfl rfl rfl hb20 rfl ?_
                refine vNil ?_
                change VC _ _ _ _
                refine vCondT rfl rfl ?_
                refine vSeq ?_
                refine vRegion ?_
                refine oVal tt rfl rfl rfl rfl rfl trivial ?_
                refine vNil ?_
                change VC _ _ _ _
                refine vRet ?_
                change ∃ _, _
                cases h
                exact ⟨[], _, rfl, trivial, rfl, (.eq rfl), rfl⟩
              · replace h := cnd_f hb20 h
                iterate 3 refine oValG tt rfl rfl rfl rfl rfl hb20 rfl rfl rfl trivial ?_
                refine oValG tt rfl rfl rfl rfl rfl hb20 rfl rfl rfl hg18 ?_
                iterate 2 refine oValG tt rfl rfl rfl rfl rfl hb20 rfl rfl rfl trivial ?_
                obtain ⟨v19, hc21, h⟩ := bind_inv h
                refine oCallG (S_l1In_w N ((f_0.places.getD ((i15).toNat) (0, 0)).2) (0 : Int) (4 : Int) v19 hc21) rfl rfl rfl rfl hb20 rfl rfl rfl rfl rfl rfl rfl ⟨rfl, rfl, rfl, trivial⟩ ?_
                refine oValG tt rfl rfl rfl rfl rfl hb20 rfl rfl rfl trivial ?_
                refine oPickF rfl rfl rfl rfl rfl hb20 rfl ?_
                refine vNil ?_
                change VC _ _ _ _
                refine vCond rfl (fun hb22 => ?_) (fun hb22 => ?_)
                · replace h := cnd_t hb22 h
                  refine vSeq ?_
                  refine vRegion ?_
                  refine oVal tt rfl rfl rfl rfl rfl trivial ?_
                  refine vNil ?_
                  change VC _ _ _ _
                  refine vRet ?_
                  change ∃ _, _
                  cases h
                  exact ⟨[], _, rfl, trivial, rfl, (.eq rfl), rfl⟩
                · replace h := cnd_f hb22 h
                  refine vSkip ?_
                  change VC _ _ _ _
                  refine vRegion ?_
                  refine oVal tt rfl rfl rfl rfl rfl trivial ?_
                  obtain ⟨hg23, h⟩ := grd_inv h
                  refine oVal tt rfl rfl rfl rfl rfl hg23 ?_
                  refine oVal tt rfl rfl rfl rfl rfl trivial ?_
                  refine vNil ?_
                  change ∃ _, _
                  exact ⟨(i15 + (1 : Int)), (En.of ⟨rfl, rfl, trivial⟩ trivial ⟨rfl, trivial⟩), h⟩
            · replace h := cnd_f hb17 h
              refine vExit ?_
              change ∃ _, _
              exact ⟨(), (En.of ⟨rfl, trivial⟩ trivial ⟨rfl, trivial⟩), h⟩
def S_IsLinkage_l1 (N : Nat) (l_0 : Lnk) (k : Unit → Option (Bool)) : Nat → Int → Option (Bool)
  | 0, _ => none
  | n + 1, i5 =>
    cnd (decide (i5 < (l_0.ground.length : Int))) (
      grd (0 ≤ i5 ∧ i5 < (l_0.ground.length : Int)) <|
      cnd (decide ((l_0.ground.getD ((i5).toNat) 0) < (0 : Int))) (
        some false) (
        cnd (decide ((l_0.ground.getD ((i5).toNat) 0) ≥ (l_0.f.places.length : Int))) (
          some false) (
          cnd (decide (i5 > (0 : Int))) (
            grd (Rg64 (i5 - (1 : Int))) <|
            grd (0 ≤ (i5 - (1 : Int)) ∧ (i5 - (1 : Int)) < (l_0.ground.length : Int)) <|
            cnd (decide ((l_0.ground.getD (((i5 - (1 : Int))).toNat) 0) ≥ (l_0.ground.getD ((i5).toNat) 0))) (
              some false) (
              grd (Rg64 (i5 + (1 : Int))) <|
              S_IsLinkage_l1 N l_0 k n (i5 + (1 : Int)))) (
            grd (Rg64 (i5 + (1 : Int))) <|
            S_IsLinkage_l1 N l_0 k n (i5 + (1 : Int)))))) (
      k ())
def S_IsLinkage (N : Nat) (l_0 : Lnk) : Option (Bool) :=
  grd (Rg64 ((l_0.f.places.length : Int) - (l_0.ground.length : Int))) <|
  S_IsLinkage_l1 N l_0 (fun (_ : Unit) =>
        (S_IsFramework N l_0.f).bind fun v2 =>
        cnd v2 (
          (S_l1In N ((l_0.f.places.length : Int) - (l_0.ground.length : Int)) (0 : Int) (2 : Int)).bind fun v3 =>
          cnd v3 (
            some (decide ((l_0.ground.length : Int) > (0 : Int)))) (
            some false)) (
          some false)) N (0 : Int)
set_option maxRecDepth 20000 in
set_option maxHeartbeats 1600000 in
theorem S_IsLinkage_w (N : Nat) (l_0 : Lnk) (r : Bool) (h : S_IsLinkage N l_0 = some r) : PCall Try.prog 37 [lD l_0] [] (.bool r) := by
  unfold S_IsLinkage at h
  refine pcall_intro (TT := TT) tt Try.func37 rfl rfl Try.ntmps37 (congrArg Array.toList Try.results37) rfl rfl fun w0 => ?_
  refine vSeq ?_
  refine vRegion ?_
  refine oBox rfl rfl rfl rfl rfl rfl rfl rfl rfl ?_
  refine oVal tt rfl rfl rfl rfl rfl trivial ?_
  refine vNil ?_
  change VC _ _ _ _
  refine vSeq ?_
  refine vRegion ?_
  iterate 7 refine oVal tt rfl rfl rfl rfl rfl trivial ?_
  obtain ⟨hg1, h⟩ := grd_inv h
  refine oVal tt rfl rfl rfl rfl rfl hg1 ?_
  refine oVal tt rfl rfl rfl rfl rfl trivial ?_
  refine vNil ?_
  change VC _ _ _ _
  iterate 2 refine vSeq ?_
  refine vRegion ?_
  refine oVal tt rfl rfl rfl rfl rfl trivial ?_
  refine vNil ?_
  change VC _ _ _ _
  refine vJoin (F := fun k => S_IsLinkage_l1 N l_0 k) h (α := Unit) (J := fun (_ : Unit) => (⟨[(1, .ptr 1 0), (3, .int ((l_0.f.places.length : Int) - (l_0.ground.length : Int)))], [], [(1, some [.int l_0.f.g.n, .ro false (.pairs l_0.f.g.bars), .ro false (.pairs l_0.f.places), .ro false (.ints l_0.ground)])]⟩ : PS)) ?_ ?_
  · rintro ⟨⟩ h
    show VC _ _ _ (⟨[(1, .ptr 1 0), (3, .int ((l_0.f.places.length : Int) - (l_0.ground.length : Int)))], [], [(1, some [.int l_0.f.g.n, .ro false (.pairs l_0.f.g.bars), .ro false (.pairs l_0.f.places), .ro false (.ints l_0.ground)])]⟩ : PS)
    refine vSeq ?_
    refine vRegion ?_
    iterate 2 refine oVal tt rfl rfl rfl rfl rfl trivial ?_
    obtain ⟨v2, hc2, h⟩ := bind_inv h
    refine oCall (S_IsFramework_w N l_0.f v2 hc2) rfl rfl rfl rfl rfl rfl rfl rfl ⟨⟨rfl, rfl, rfl, trivial⟩, trivial⟩ ?_
    refine oVal tt rfl rfl rfl rfl rfl trivial ?_
    refine oSplit rfl rfl rfl (fun hb3 => ?_) (fun hb3 => ?_)
    · replace h := cnd_t hb3 h
      refine oValG tt rfl rfl rfl rfl rfl hb3 rfl rfl rfl trivial ?_
      obtain ⟨v3, hc4, h⟩ := bind_inv h
      refine oCallG (S_l1In_w N ((l_0.f.places.length : Int) - (l_0.ground.length : Int)) (0 : Int) (2 : Int) v3 hc4) rfl rfl rfl rfl hb3 rfl rfl rfl rfl rfl rfl rfl ⟨rfl, rfl, rfl, trivial⟩ ?_
      refine oPick rfl rfl rfl rfl rfl hb3 rfl ?_
      refine oVal tt rfl rfl rfl rfl rfl trivial ?_
      refine oSplit rfl rfl rfl (fun hb5 => ?_) (fun hb5 => ?_)
      · replace h := cnd_t hb5 h
        iterate 4 refine oValG tt rfl rfl rfl rfl rfl hb5 rfl rfl rfl trivial ?_
        refine oPick rfl rfl rfl rfl rfl hb5 rfl ?_
        refine oVal tt rfl rfl rfl rfl rfl trivial ?_
        refine vNil ?_
        change VC _ _ _ _
        refine vRet ?_
        change ∃ _, _
        cases h
        exact ⟨[], _, rfl, trivial, rfl, (.eq rfl), rfl⟩
      · replace h := cnd_f hb5 h
        iterate 4 refine oNoT rfl rfl rfl rfl hb5 rfl rfl ?_
        refine oPickF rfl rfl rfl rfl rfl hb5 rfl ?_
        refine oVal tt rfl rfl rfl rfl rfl trivial ?_
        refine vNil ?_
        change VC _ _ _ _
        refine vRet ?_
        change ∃ _, _
        cases h
        exact ⟨[], _, rfl, trivial, rfl, (.eq rfl), rfl⟩
    · replace h := cnd_f hb3 h
      iterate 2 refine oNoT rfl rfl rfl rfl hb3 rfl rfl ?_
      refine oPickF rfl rfl rfl rfl rfl hb3 rfl ?_
      refine oVal tt rfl rfl rfl rfl rfl trivial ?_
      iterate 4 refine oNoT rfl rfl rfl rfl rfl rfl rfl ?_
      refine oPickF rfl rfl rfl rfl rfl rfl rfl ?_
      refine oVal tt rfl rfl rfl rfl rfl trivial ?_
      refine vNil ?_
      change VC _ _ _ _
      refine vRet ?_
      change ∃ _, _
      cases h
      exact ⟨[], _, rfl, trivial, rfl, (.eq rfl), rfl⟩
  · intro k h
    refine vBlock ?_
    refine vLoopS (α := Int) (fun (i5 : Int) => (⟨[(1, .ptr 1 0), (3, .int ((l_0.f.places.length : Int) - (l_0.ground.length : Int))), (4, .int i5)], [], [(1, some [.int l_0.f.g.n, .ro false (.pairs l_0.f.g.bars), .ro false (.pairs l_0.f.places), .ro false (.ints l_0.ground)])]⟩ : PS)) (S_IsLinkage_l1 N l_0 k) h (En.of ⟨rfl, rfl, rfl, trivial⟩ trivial ⟨rfl, trivial⟩) (fun _ => rfl) ?_
    rintro n i5 h
    rw [S_IsLinkage_l1] at h
    show VC _ _ _ (⟨[(1, .ptr 1 0), (3, .int ((l_0.f.places.length : Int) - (l_0.ground.length : Int))), (4, .int i5)], [], [(1, some [.int l_0.f.g.n, .ro false (.pairs l_0.f.g.bars), .ro false (.pairs l_0.f.places), .ro false (.ints l_0.ground)])]⟩ : PS)
    iterate 2 refine vSeq ?_
    refine vRegion ?_
    iterate 5 refine oVal tt rfl rfl rfl rfl rfl trivial ?_
    refine vNil ?_
    change VC _ _ _ _
    refine vCond rfl (fun hb6 => ?_) (fun hb6 => ?_)
    · replace h := cnd_t hb6 h
      refine vSkip ?_
      change VC _ _ _ _
      refine vSeq ?_
      refine vBlock ?_
      refine vSeq ?_
      refine vRegionD (by kernel_rfl) (by kernel_rfl) ?_
      iterate 3 refine cVal tt rfl (wNone rfl) rfl rfl rfl trivial ?_
      obtain ⟨hg7, h⟩ := grd_inv h
      refine cVal tt rfl (wNone rfl) rfl rfl rfl hg7 ?_
      iterate 3 refine cVal tt rfl (wNone rfl) rfl rfl rfl trivial ?_
      refine cSplit rfl rfl rfl (fun hb8 => ?_) (fun hb8 => ?_)
      · replace h := cnd_t hb8 h
        iterate 10 refine cNoF rfl rfl rfl rfl hb8 rfl rfl ?_
        refine cPickT rfl (wNone rfl) rfl rfl rfl hb8 rfl ?_
        refine cVal tt rfl (wNone rfl) rfl rfl rfl trivial ?_
        iterate 3 refine cNoF rfl rfl rfl rfl rfl rfl rfl ?_
        iterate 12 refine cNoU rfl rfl rfl rfl rfl ?_
        refine cNoF rfl rfl rfl rfl rfl rfl rfl ?_
        refine cPickT rfl (wNone rfl) rfl rfl rfl rfl rfl ?_
        refine cNil ?_
        change VC _ _ _ _
        refine vCondT rfl rfl ?_
        refine vSeq ?_
        refine vRegion ?_
        refine oVal tt rfl rfl rfl rfl rfl trivial ?_
        refine vNil ?_
        change VC _ _ _ _
        refine vRet ?_
        change ∃ _, _
        cases h
        exact ⟨[], _, rfl, trivial, rfl, (.eq rfl), rfl⟩
      · replace h := cnd_f hb8 h
        iterate 3 refine cVal tt rfl (wSome rfl rfl rfl rfl hb8) rfl rfl rfl trivial ?_
        refine cVal tt rfl (wSome rfl rfl rfl rfl hb8) rfl rfl rfl hg7 ?_
        iterate 6 refine cVal tt rfl (wSome rfl rfl rfl rfl hb8) rfl rfl rfl trivial ?_
        refine cPickF rfl (wNone rfl) rfl rfl rfl hb8 rfl ?_
        refine cVal tt rfl (wNone rfl) rfl rfl rfl trivial ?_
        refine cSplit rfl rfl rfl (fun hb9 => ?_) (fun hb9 => ?_)
        · replace h := cnd_t hb9 h
          iterate 3 refine cNoF rfl rfl rfl rfl hb9 rfl rfl ?_
          iterate 12 refine cNoU rfl rfl rfl rfl rfl ?_
          refine cNoF rfl rfl rfl rfl hb9 rfl rfl ?_
          refine cPickT rfl (wNone rfl) rfl rfl rfl hb9 rfl ?_
          refine cNil ?_
          change VC _ _ _ _
          refine vCondT rfl rfl ?_
          refine vSeq ?_
          refine vRegion ?_
          refine oVal tt rfl rfl rfl rfl rfl trivial ?_
          refine vNil ?_
          change VC _ _ _ _
          refine vRet ?_
          change ∃ _, _
          cases h
          exact ⟨[], _, rfl, trivial, rfl, (.eq rfl), rfl⟩
        · replace h := cnd_f hb9 h
          iterate 3 refine cVal tt rfl (wSome rfl rfl rfl rfl hb9) rfl rfl rfl trivial ?_
          refine cSplit rfl rfl rfl (fun hb10 => ?_) (fun hb10 => ?_)
          · replace h := cnd_t hb10 h
            iterate 3 refine cVal tt rfl (wSome rfl rfl rfl rfl hb10) rfl rfl rfl trivial ?_
            obtain ⟨hg11, h⟩ := grd_inv h
            refine cVal tt rfl (wSome rfl rfl rfl rfl hb10) rfl rfl rfl hg11 ?_
            obtain ⟨hg12, h⟩ := grd_inv h
            refine cVal tt rfl (wSome rfl rfl rfl rfl hb10) rfl rfl rfl hg12 ?_
            iterate 4 refine cVal tt rfl (wSome rfl rfl rfl rfl hb10) rfl rfl rfl trivial ?_
            refine cVal tt rfl (wSome rfl rfl rfl rfl hb10) rfl rfl rfl hg7 ?_
            iterate 2 refine cVal tt rfl (wSome rfl rfl rfl rfl hb10) rfl rfl rfl trivial ?_
            refine cPickT rfl (wSome rfl rfl rfl rfl hb9) rfl rfl rfl hb10 rfl ?_
            refine cPickF rfl (wNone rfl) rfl rfl rfl hb9 rfl ?_
            refine cNil ?_
            change VC _ _ _ _
            refine vCond rfl (fun hb13 => ?_) (fun hb13 => ?_)
            · replace h := cnd_t hb13 h
              refine vSeq ?_
              refine vRegion ?_
              refine oVal tt rfl rfl rfl rfl rfl trivial ?_
              refine vNil ?_
              change VC _ _ _ _
              refine vRet ?_
              change ∃ _, _
              cases h
              exact ⟨[], _, rfl, trivial, rfl, (.eq rfl), rfl⟩
            · replace h := cnd_f hb13 h
              refine vSkip ?_
              change VC _ _ _ _
              refine vRegion ?_
              refine oVal tt rfl rfl rfl rfl rfl trivial ?_
              obtain ⟨hg14, h⟩ := grd_inv h
              refine oVal tt rfl rfl rfl rfl rfl hg14 ?_
              refine oVal tt rfl rfl rfl rfl rfl trivial ?_
              refine vNil ?_
              change ∃ _, _
              exact ⟨(i5 + (1 : Int)), (En.of ⟨rfl, rfl, rfl, trivial⟩ trivial ⟨rfl, trivial⟩), h⟩
          · replace h := cnd_f hb10 h
            iterate 12 refine cNoT rfl rfl rfl rfl hb10 rfl rfl ?_
            refine cPickF rfl (wSome rfl rfl rfl rfl hb9) rfl rfl rfl hb10 rfl ?_
            refine cPickF rfl (wNone rfl) rfl rfl rfl hb9 rfl ?_
            refine cNil ?_
            change VC _ _ _ _
            refine vCondF rfl rfl ?_
            refine vSkip ?_
            change VC _ _ _ _
            refine vRegion ?_
            refine oVal tt rfl rfl rfl rfl rfl trivial ?_
            obtain ⟨hg15, h⟩ := grd_inv h
            refine oVal tt rfl rfl rfl rfl rfl hg15 ?_
            refine oVal tt rfl rfl rfl rfl rfl trivial ?_
            refine vNil ?_
            change ∃ _, _
            exact ⟨(i5 + (1 : Int)), (En.of ⟨rfl, rfl, rfl, trivial⟩ trivial ⟨rfl, trivial⟩), h⟩
    · replace h := cnd_f hb6 h
      refine vExit ?_
      change ∃ _, _
      exact ⟨(), (En.of ⟨rfl, rfl, trivial⟩ trivial ⟨rfl, trivial⟩), h⟩
def L_toPlace (N : Nat) (a_0 : Int × Int) : Option (Int × Int) :=
  some (a_0.1, a_0.2)
set_option maxRecDepth 20000 in
set_option maxHeartbeats 1600000 in
theorem L_toPlace_w (N : Nat) (a_0 : Int × Int) (r : Int × Int) (h : L_toPlace N a_0 = some r) : PCall Try.prog 106 [.agg [.int a_0.1, .int a_0.2]] [] (.agg [.int r.1, .int r.2]) := by
  unfold L_toPlace at h
  refine pcall_intro (TT := TT) tt Try.func106 rfl rfl Try.ntmps106 (congrArg Array.toList Try.results106) rfl rfl fun w0 => ?_
  refine vSeq ?_
  refine vRegion ?_
  refine oBox rfl rfl rfl rfl rfl rfl rfl rfl rfl ?_
  refine oAlloc tt rfl rfl rfl rfl rfl rfl rfl rfl rfl ?_
  refine vNil ?_
  change VC _ _ _ _
  refine vSeq ?_
  refine vRegion ?_
  refine oAlloc tt rfl rfl rfl rfl rfl rfl rfl rfl rfl ?_
  refine vNil ?_
  change VC _ _ _ _
  refine vSeq ?_
  refine vRegion ?_
  iterate 3 refine oVal tt rfl rfl rfl rfl rfl trivial ?_
  refine oStore tt rfl rfl rfl rfl rfl rfl rfl rfl rfl rfl rfl ⟨trivial, trivial⟩ ?_
  refine vNil ?_
  change VC _ _ _ _
  refine vSeq ?_
  refine vRegion ?_
  iterate 3 refine oVal tt rfl rfl rfl rfl rfl trivial ?_
  refine oStore tt rfl rfl rfl rfl rfl rfl rfl rfl rfl rfl rfl ⟨trivial, trivial⟩ ?_
  refine vNil ?_
  change VC _ _ _ _
  refine vSeq ?_
  refine vRegion ?_
  refine oVal tt rfl rfl rfl rfl rfl trivial ?_
  refine oStore tt rfl rfl rfl rfl rfl rfl rfl rfl rfl rfl rfl ⟨trivial, trivial, trivial⟩ ?_
  refine vNil ?_
  change VC _ _ _ _
  refine vRet ?_
  change ∃ _, _
  cases h
  exact ⟨[], _, rfl, trivial, rfl, (.eq rfl), rfl⟩
end Go.Proofs.Ytlmlfbjcpajinaa
