/- Plain texts of functions, and that the program computes them (printed by gen.py). -/
import Derived.Test.YtkpmijmlbpdknaaShb
import Derived.Test.YtkpmijmlbpdknaaG1
import Derived.Test.YtkpmijmlbpdknaaG2
import Derived.Test.YtkpmijmlbpdknaaG4
import Derived.Test.YtkpmijmlbpdknaaG5
import Derived.Test.YtkpmijmlbpdknaaG6
namespace Go.Proofs.Ytkpmijmlbpdknaa
open Go.RowKit
set_option linter.unusedVariables false
set_option linter.unusedSimpArgs false
def L_szPinned (N : Nat) (a_0 : Pin) (left_1 : Int) : Option (Int) :=
  (L_szGraph N a_0.g left_1).bind fun v1 =>
  cnd (decide (v1 < (0 : Int))) (
    some (-1 : Int)) (
    (L_szIntS N a_0.ground v1).bind fun v2 =>
    cnd (decide (v2 < (0 : Int))) (
      some (-1 : Int)) (
      some v2))
set_option maxRecDepth 20000 in
set_option maxHeartbeats 1600000 in
theorem L_szPinned_w (N : Nat) (a_0 : Pin) (left_1 : Int) (r : Int) (h : L_szPinned N a_0 left_1 = some r) : PCall Try.prog 15 [pD a_0, .int left_1] [] (.int r) := by
  unfold L_szPinned at h
  refine pcall_intro (TT := TT) tt Try.func15 rfl rfl Try.ntmps15 (congrArg Array.toList Try.results15) rfl rfl fun w0 => ?_
  refine vSeq ?_
  refine vRegion ?_
  refine oBox rfl rfl rfl rfl rfl rfl rfl rfl rfl ?_
  refine oVal tt rfl rfl rfl rfl rfl trivial ?_
  refine vNil ?_
  change VC _ _ _ _
  refine vSeq ?_
  refine vRegion ?_
  iterate 3 refine oVal tt rfl rfl rfl rfl rfl trivial ?_
  obtain ⟨v1, hc1, h⟩ := bind_inv h
  refine oCall (L_szGraph_w N a_0.g left_1 v1 hc1) rfl rfl rfl rfl rfl rfl rfl rfl ⟨⟨rfl, rfl, trivial⟩, rfl, trivial⟩ ?_
  refine oVal tt rfl rfl rfl rfl rfl trivial ?_
  refine vNil ?_
  change VC _ _ _ _
  iterate 2 refine vSeq ?_
  refine vRegion ?_
  iterate 2 refine oVal tt rfl rfl rfl rfl rfl trivial ?_
  refine vNil ?_
  change VC _ _ _ _
  refine vCond rfl (fun hb2 => ?_) (fun hb2 => ?_)
  · replace h := cnd_t hb2 h
    refine vSeq ?_
    refine vRegion ?_
    refine oVal tt rfl rfl rfl rfl rfl trivial ?_
    refine vNil ?_
    change VC _ _ _ _
    refine vRet ?_
    change ∃ _, _
    cases h
    exact ⟨[], _, rfl, trivial, rfl, (.eq rfl), rfl⟩
  · replace h := cnd_f hb2 h
    refine vSkip ?_
    change VC _ _ _ _
    refine vSeq ?_
    refine vRegion ?_
    iterate 3 refine oVal tt rfl rfl rfl rfl rfl trivial ?_
    obtain ⟨v2, hc3, h⟩ := bind_inv h
    refine oCall (L_szIntS_w N a_0.ground v1 v2 hc3) rfl rfl rfl rfl rfl rfl rfl rfl ⟨rfl, rfl, trivial⟩ ?_
    refine oVal tt rfl rfl rfl rfl rfl trivial ?_
    refine vNil ?_
    change VC _ _ _ _
    iterate 2 refine vSeq ?_
    refine vRegion ?_
    iterate 2 refine oVal tt rfl rfl rfl rfl rfl trivial ?_
    refine vNil ?_
    change VC _ _ _ _
    refine vCond rfl (fun hb4 => ?_) (fun hb4 => ?_)
    · replace h := cnd_t hb4 h
      refine vSeq ?_
      refine vRegion ?_
      refine oVal tt rfl rfl rfl rfl rfl trivial ?_
      refine vNil ?_
      change VC _ _ _ _
      refine vRet ?_
      change ∃ _, _
      cases h
      exact ⟨[], _, rfl, trivial, rfl, (.eq rfl), rfl⟩
    · replace h := cnd_f hb4 h
      refine vSkip ?_
      change VC _ _ _ _
      refine vSeq ?_
      refine vRegion ?_
      iterate 2 refine oVal tt rfl rfl rfl rfl rfl trivial ?_
      refine vNil ?_
      change VC _ _ _ _
      refine vRet ?_
      change ∃ _, _
      cases h
      exact ⟨[], _, rfl, trivial, rfl, (.eq rfl), rfl⟩
def S_IsPinned_l1 (N : Nat) (p_0 : Pin) (k : Unit → Option (Bool)) : Nat → Int → Option (Bool)
  | 0, _ => none
  | n + 1, i13 =>
    cnd (decide (i13 < (p_0.g.bars.length : Int))) (
      grd (0 ≤ i13 ∧ i13 < (p_0.g.bars.length : Int)) <|
      (S_l2Has N p_0.ground ((p_0.g.bars.getD ((i13).toNat) (0, 0)).1)).bind fun v16 =>
      cnd v16 (
        (S_l2Has N p_0.ground ((p_0.g.bars.getD ((i13).toNat) (0, 0)).2)).bind fun v17 =>
        cnd v17 (
          some false) (
          grd (Rg64 (i13 + (1 : Int))) <|
          S_IsPinned_l1 N p_0 k n (i13 + (1 : Int)))) (
        grd (Rg64 (i13 + (1 : Int))) <|
        S_IsPinned_l1 N p_0 k n (i13 + (1 : Int)))) (
      k ())
def S_IsPinned_l2 (N : Nat) (p_0 : Pin) (k : Unit → Option (Bool)) : Nat → Int → Option (Bool)
  | 0, _ => none
  | n + 1, i19 =>
    cnd (decide (i19 < (p_0.ground.length : Int))) (
      grd (0 ≤ i19 ∧ i19 < (p_0.ground.length : Int)) <|
      cnd (decide ((p_0.ground.getD ((i19).toNat) 0) < (0 : Int))) (
        some false) (
        cnd (decide ((p_0.ground.getD ((i19).toNat) 0) ≥ p_0.g.n)) (
          some false) (
          cnd (decide (i19 > (0 : Int))) (
            grd (Rg64 (i19 - (1 : Int))) <|
            grd (0 ≤ (i19 - (1 : Int)) ∧ (i19 - (1 : Int)) < (p_0.ground.length : Int)) <|
            cnd (decide ((p_0.ground.getD (((i19 - (1 : Int))).toNat) 0) ≥ (p_0.ground.getD ((i19).toNat) 0))) (
              some false) (
              grd (Rg64 (i19 + (1 : Int))) <|
              S_IsPinned_l2 N p_0 k n (i19 + (1 : Int)))) (
            grd (Rg64 (i19 + (1 : Int))) <|
            S_IsPinned_l2 N p_0 k n (i19 + (1 : Int)))))) (
      k ())
def S_IsPinned (N : Nat) (p_0 : Pin) : Option (Bool) :=
  S_IsPinned_l2 N p_0 (fun (_ : Unit) =>
        S_IsPinned_l1 N p_0 (fun (_ : Unit) =>
              (S_l17Simple N p_0.g).bind fun v9 =>
              cnd v9 (
                cnd (decide ((p_0.ground.length : Int) ≥ (2 : Int))) (
                  cnd (decide ((p_0.g.bars.length : Int) ≤ (15 : Int))) (
                    grd (Rg64 ((2 : Int) * (p_0.ground.length : Int))) <|
                    grd (Rg64 ((p_0.g.bars.length : Int) + ((2 : Int) * (p_0.ground.length : Int)))) <|
                    grd (Rg64 (((p_0.g.bars.length : Int) + ((2 : Int) * (p_0.ground.length : Int))) - (3 : Int))) <|
                    some (decide ((((p_0.g.bars.length : Int) + ((2 : Int) * (p_0.ground.length : Int))) - (3 : Int)) ≤ (24 : Int)))) (
                    some false)) (
                  some false)) (
                some false)) N (0 : Int)) N (0 : Int)
set_option maxRecDepth 20000 in
set_option maxHeartbeats 1600000 in
theorem S_IsPinned_w (N : Nat) (p_0 : Pin) (r : Bool) (h : S_IsPinned N p_0 = some r) : PCall Try.prog 62 [pD p_0] [] (.bool r) := by
  unfold S_IsPinned at h
  refine pcall_intro (TT := TT) tt Try.func62 rfl rfl Try.ntmps62 (congrArg Array.toList Try.results62) rfl rfl fun w0 => ?_
  refine vSeq ?_
  refine vRegion ?_
  refine oBox rfl rfl rfl rfl rfl rfl rfl rfl rfl ?_
  refine oVal tt rfl rfl rfl rfl rfl trivial ?_
  refine vNil ?_
  change VC _ _ _ _
  iterate 2 refine vSeq ?_
  refine vRegion ?_
  refine oVal tt rfl rfl rfl rfl rfl trivial ?_
  refine vNil ?_
  change VC _ _ _ _
  refine vJoin (F := fun k => S_IsPinned_l2 N p_0 k) h (α := Unit) (J := fun (_ : Unit) => (⟨[(1, .ptr 1 0)], [], [(1, some [.int p_0.g.n, .ro false (.pairs p_0.g.bars), .ro false (.ints p_0.ground)])]⟩ : PS)) ?_ ?_
  · rintro ⟨⟩ h
    show VC _ _ _ (⟨[(1, .ptr 1 0)], [], [(1, some [.int p_0.g.n, .ro false (.pairs p_0.g.bars), .ro false (.ints p_0.ground)])]⟩ : PS)
    iterate 2 refine vSeq ?_
    refine vRegion ?_
    refine oVal tt rfl rfl rfl rfl rfl trivial ?_
    refine vNil ?_
    change VC _ _ _ _
    refine vJoin (F := fun k => S_IsPinned_l1 N p_0 k) h (α := Unit) (J := fun (_ : Unit) => (⟨[(1, .ptr 1 0)], [], [(1, some [.int p_0.g.n, .ro false (.pairs p_0.g.bars), .ro false (.ints p_0.ground)])]⟩ : PS)) ?_ ?_
    · rintro ⟨⟩ h
      show VC _ _ _ (⟨[(1, .ptr 1 0)], [], [(1, some [.int p_0.g.n, .ro false (.pairs p_0.g.bars), .ro false (.ints p_0.ground)])]⟩ : PS)
      refine vSeq ?_
      refine vRegion ?_
      iterate 2 refine oVal tt rfl rfl rfl rfl rfl trivial ?_
      obtain ⟨v9, hc1, h⟩ := bind_inv h
      refine oCall (S_l17Simple_w N p_0.g v9 hc1) rfl rfl rfl rfl rfl rfl rfl rfl ⟨⟨rfl, rfl, trivial⟩, trivial⟩ ?_
      refine oVal tt rfl rfl rfl rfl rfl trivial ?_
      refine oSplit rfl rfl rfl (fun hb2 => ?_) (fun hb2 => ?_)
      · replace h := cnd_t hb2 h
        iterate 4 refine oValG tt rfl rfl rfl rfl rfl hb2 rfl rfl rfl trivial ?_
        refine oPick rfl rfl rfl rfl rfl hb2 rfl ?_
        refine oVal tt rfl rfl rfl rfl rfl trivial ?_
        refine oSplit rfl rfl rfl (fun hb3 => ?_) (fun hb3 => ?_)
        · replace h := cnd_t hb3 h
          iterate 5 refine oValG tt rfl rfl rfl rfl rfl hb3 rfl rfl rfl trivial ?_
          refine oPick rfl rfl rfl rfl rfl hb3 rfl ?_
          refine oVal tt rfl rfl rfl rfl rfl trivial ?_
          refine oSplit rfl rfl rfl (fun hb4 => ?_) (fun hb4 => ?_)
          · replace h := cnd_t hb4 h
            iterate 7 refine oValG tt rfl rfl rfl rfl rfl hb4 rfl rfl rfl trivial ?_
            obtain ⟨hg5, h⟩ := grd_inv h
            refine oValG tt rfl rfl rfl rfl rfl hb4 rfl rfl rfl hg5 ?_
            obtain ⟨hg6, h⟩ := grd_inv h
            refine oValG tt rfl rfl rfl rfl rfl hb4 rfl rfl rfl hg6 ?_
            obtain ⟨hg7, h⟩ := grd_inv h
            refine oValG tt rfl rfl rfl rfl rfl hb4 rfl rfl rfl hg7 ?_
            refine oValG tt rfl rfl rfl rfl rfl hb4 rfl rfl rfl trivial ?_
            refine oPick rfl rfl rfl rfl rfl hb4 rfl ?_
            refine oVal tt rfl rfl rfl rfl rfl trivial ?_
            refine vNil ?_
            change VC _ _ _ _
            refine vRet ?_
            change ∃ _, _
            cases h
            exact ⟨[], _, rfl, trivial, rfl, (.eq rfl), rfl⟩
          · replace h := cnd_f hb4 h
            iterate 11 refine oNoT rfl rfl rfl rfl hb4 rfl rfl ?_
            refine oPickF rfl rfl rfl rfl rfl hb4 rfl ?_
            refine oVal tt rfl rfl rfl rfl rfl trivial ?_
            refine vNil ?_
            change VC _ _ _ _
            refine vRet ?_
            change ∃ _, _
            cases h
            exact ⟨[], _, rfl, trivial, rfl, (.eq rfl), rfl⟩
        · replace h := cnd_f hb3 h
          iterate 5 refine oNoT rfl rfl rfl rfl hb3 rfl rfl ?_
          refine oPickF rfl rfl rfl rfl rfl hb3 rfl ?_
          refine oVal tt rfl rfl rfl rfl rfl trivial ?_
          iterate 11 refine oNoT rfl rfl rfl rfl rfl rfl rfl ?_
          refine oPickF rfl rfl rfl rfl rfl rfl rfl ?_
          refine oVal tt rfl rfl rfl rfl rfl trivial ?_
          refine vNil ?_
          change VC _ _ _ _
          refine vRet ?_
          change ∃ _, _
          cases h
          exact ⟨[], _, rfl, trivial, rfl, (.eq rfl), rfl⟩
      · replace h := cnd_f hb2 h
        iterate 4 refine oNoT rfl rfl rfl rfl hb2 rfl rfl ?_
        refine oPickF rfl rfl rfl rfl rfl hb2 rfl ?_
        refine oVal tt rfl rfl rfl rfl rfl trivial ?_
        iterate 5 refine oNoT rfl rfl rfl rfl rfl rfl rfl ?_
        refine oPickF rfl rfl rfl rfl rfl rfl rfl ?_
        refine oVal tt rfl rfl rfl rfl rfl trivial ?_
        iterate 11 refine oNoT rfl rfl rfl rfl rfl rfl rfl ?_
        refine oPickF rfl rfl rfl rfl rfl rfl rfl ?_
        refine oVal tt rfl rfl rfl rfl rfl trivial ?_
        refine vNil ?_
        change VC _ _ _ _
        refine vRet ?_
        change ∃ _, _
        cases h
        exact ⟨[], _, rfl, trivial, rfl, (.eq rfl), rfl⟩
    · intro k h
      refine vBlock ?_
      refine vLoopS (α := Int) (fun (i13 : Int) => (⟨[(1, .ptr 1 0), (4, .int i13)], [], [(1, some [.int p_0.g.n, .ro false (.pairs p_0.g.bars), .ro false (.ints p_0.ground)])]⟩ : PS)) (S_IsPinned_l1 N p_0 k) h (En.of ⟨rfl, rfl, trivial⟩ trivial ⟨rfl, trivial⟩) (fun _ => rfl) ?_
      rintro n i13 h
      rw [S_IsPinned_l1] at h
      show VC _ _ _ (⟨[(1, .ptr 1 0), (4, .int i13)], [], [(1, some [.int p_0.g.n, .ro false (.pairs p_0.g.bars), .ro false (.ints p_0.ground)])]⟩ : PS)
      iterate 2 refine vSeq ?_
      refine vRegion ?_
      iterate 6 refine oVal tt rfl rfl rfl rfl rfl trivial ?_
      refine vNil ?_
      change VC _ _ _ _
      refine vCond rfl (fun hb8 => ?_) (fun hb8 => ?_)
      · replace h := cnd_t hb8 h
        refine vSkip ?_
        change VC _ _ _ _
        refine vSeq ?_
        refine vBlock ?_
        refine vSeq ?_
        refine vRegionD (by kernel_rfl) (by kernel_rfl) ?_
        iterate 6 refine cVal tt rfl (wNone rfl) rfl rfl rfl trivial ?_
        obtain ⟨hg9, h⟩ := grd_inv h
        refine cVal tt rfl (wNone rfl) rfl rfl rfl hg9 ?_
        iterate 2 refine cVal tt rfl (wNone rfl) rfl rfl rfl trivial ?_
        obtain ⟨v16, hc10, h⟩ := bind_inv h
        refine cCall (S_l2Has_w N p_0.ground ((p_0.g.bars.getD ((i13).toNat) (0, 0)).1) v16 hc10) rfl (wNone rfl) rfl rfl rfl rfl rfl rfl ⟨rfl, rfl, trivial⟩ ?_
        refine cVal tt rfl (wNone rfl) rfl rfl rfl trivial ?_
        refine cSplit rfl rfl rfl (fun hb11 => ?_) (fun hb11 => ?_)
        · replace h := cnd_t hb11 h
          iterate 6 refine cVal tt rfl (wSome rfl rfl rfl rfl hb11) rfl rfl rfl trivial ?_
          refine cVal tt rfl (wSome rfl rfl rfl rfl hb11) rfl rfl rfl hg9 ?_
          iterate 2 refine cVal tt rfl (wSome rfl rfl rfl rfl hb11) rfl rfl rfl trivial ?_
          obtain ⟨v17, hc12, h⟩ := bind_inv h
          refine cCall (S_l2Has_w N p_0.ground ((p_0.g.bars.getD ((i13).toNat) (0, 0)).2) v17 hc12) rfl (wSome rfl rfl rfl rfl hb11) rfl rfl rfl rfl rfl rfl ⟨rfl, rfl, trivial⟩ ?_
          refine cPickT rfl (wNone rfl) rfl rfl rfl hb11 rfl ?_
          refine cNil ?_
          change VC _ _ _ _
          refine vCond rfl (fun hb13 => ?_) (fun hb13 => ?_)
          · replace h := cnd_t hb13 h
            refine vSeq ?_
            refine vRegion ?_
            refine oVal tt rfl rfl rfl rfl rfl trivial ?_
            refine vNil ?_
            change VC _ _ _ _
            refine vRet ?_
            change ∃ _, _
            cases h
            exact ⟨[], _, rfl, trivial, rfl, (.eq rfl), rfl⟩
          · replace h := cnd_f hb13 h
            refine vSkip ?_
            change VC _ _ _ _
            refine vRegion ?_
            refine oVal tt rfl rfl rfl rfl rfl trivial ?_
            obtain ⟨hg14, h⟩ := grd_inv h
            refine oVal tt rfl rfl rfl rfl rfl hg14 ?_
            refine oVal tt rfl rfl rfl rfl rfl trivial ?_
            refine vNil ?_
            change ∃ _, _
            exact ⟨(i13 + (1 : Int)), (En.of ⟨rfl, rfl, trivial⟩ trivial ⟨rfl, trivial⟩), h⟩
        · replace h := cnd_f hb11 h
          iterate 10 refine cNoT rfl rfl rfl rfl hb11 rfl rfl ?_
          refine cPickF rfl (wNone rfl) rfl rfl rfl hb11 rfl ?_
          refine cNil ?_
          change VC _ _ _ _
          refine vCondF rfl rfl ?_
          refine vSkip ?_
          change VC _ _ _ _
          refine vRegion ?_
          refine oVal tt rfl rfl rfl rfl rfl trivial ?_
          obtain ⟨hg15, h⟩ := grd_inv h
          refine oVal tt rfl rfl rfl rfl rfl hg15 ?_
          refine oVal tt rfl rfl rfl rfl rfl trivial ?_
          refine vNil ?_
          change ∃ _, _
          exact ⟨(i13 + (1 : Int)), (En.of ⟨rfl, rfl, trivial⟩ trivial ⟨rfl, trivial⟩), h⟩
      · replace h := cnd_f hb8 h
        refine vExit ?_
        change ∃ _, _
        exact ⟨(), (En.of ⟨rfl, trivial⟩ trivial ⟨rfl, trivial⟩), h⟩
  · intro k h
    refine vBlock ?_
    refine vLoopS (α := Int) (fun (i19 : Int) => (⟨[(1, .ptr 1 0), (3, .int i19)], [], [(1, some [.int p_0.g.n, .ro false (.pairs p_0.g.bars), .ro false (.ints p_0.ground)])]⟩ : PS)) (S_IsPinned_l2 N p_0 k) h (En.of ⟨rfl, rfl, trivial⟩ trivial ⟨rfl, trivial⟩) (fun _ => rfl) ?_
    rintro n i19 h
    rw [S_IsPinned_l2] at h
    show VC _ _ _ (⟨[(1, .ptr 1 0), (3, .int i19)], [], [(1, some [.int p_0.g.n, .ro false (.pairs p_0.g.bars), .ro false (.ints p_0.ground)])]⟩ : PS)
    iterate 2 refine vSeq ?_
    refine vRegion ?_
    iterate 5 refine oVal tt rfl rfl rfl rfl rfl trivial ?_
    refine vNil ?_
    change VC _ _ _ _
    refine vCond rfl (fun hb16 => ?_) (fun hb16 => ?_)
    · replace h := cnd_t hb16 h
      refine vSkip ?_
      change VC _ _ _ _
      refine vSeq ?_
      refine vBlock ?_
      refine vSeq ?_
      refine vRegionD (by kernel_rfl) (by kernel_rfl) ?_
      iterate 3 refine cVal tt rfl (wNone rfl) rfl rfl rfl trivial ?_
      obtain ⟨hg17, h⟩ := grd_inv h
      refine cVal tt rfl (wNone rfl) rfl rfl rfl hg17 ?_
      iterate 3 refine cVal tt rfl (wNone rfl) rfl rfl rfl trivial ?_
      refine cSplit rfl rfl rfl (fun hb18 => ?_) (fun hb18 => ?_)
      · replace h := cnd_t hb18 h
        iterate 9 refine cNoF rfl rfl rfl rfl hb18 rfl rfl ?_
        refine cPickT rfl (wNone rfl) rfl rfl rfl hb18 rfl ?_
        refine cVal tt rfl (wNone rfl) rfl rfl rfl trivial ?_
        iterate 3 refine cNoF rfl rfl rfl rfl rfl rfl rfl ?_
        iterate 12 refine cNoU rfl rfl rfl rfl rfl ?_
        refine cNoF rfl rfl rfl rfl rfl rfl rfl ?_
        refine cPickT rfl (wNone rfl) rfl rfl rfl rfl rfl ?_
        refine cNil ?_
        change VC _ _ _ _
        refine vCondT rfl rfl ?_
        refine vSeq ?_
        refine vRegion ?_
        refine oVal tt rfl rfl rfl rfl rfl trivial ?_
        refine vNil ?_
        change VC _ _ _ _
        refine vRet ?_
        change ∃ _, _
        cases h
        exact ⟨[], _, rfl, trivial, rfl, (.eq rfl), rfl⟩
      · replace h := cnd_f hb18 h
        iterate 3 refine cVal tt rfl (wSome rfl rfl rfl rfl hb18) rfl rfl rfl trivial ?_
        refine cVal tt rfl (wSome rfl rfl rfl rfl hb18) rfl rfl rfl hg17 ?_
        iterate 5 refine cVal tt rfl (wSome rfl rfl rfl rfl hb18) rfl rfl rfl trivial ?_
        refine cPickF rfl (wNone rfl) rfl rfl rfl hb18 rfl ?_
        refine cVal tt rfl (wNone rfl) rfl rfl rfl trivial ?_
        refine cSplit rfl rfl rfl (fun hb19 => ?_) (fun hb19 => ?_)
        · replace h := cnd_t hb19 h
          iterate 3 refine cNoF rfl rfl rfl rfl hb19 rfl rfl ?_
          iterate 12 refine cNoU rfl rfl rfl rfl rfl ?_
          refine cNoF rfl rfl rfl rfl hb19 rfl rfl ?_
          refine cPickT rfl (wNone rfl) rfl rfl rfl hb19 rfl ?_
          refine cNil ?_
          change VC _ _ _ _
          refine vCondT rfl rfl ?_
          refine vSeq ?_
          refine vRegion ?_
          refine oVal tt rfl rfl rfl rfl rfl trivial ?_
          refine vNil ?_
          change VC _ _ _ _
          refine vRet ?_
          change ∃ _, _
          cases h
          exact ⟨[], _, rfl, trivial, rfl, (.eq rfl), rfl⟩
        · replace h := cnd_f hb19 h
          iterate 3 refine cVal tt rfl (wSome rfl rfl rfl rfl hb19) rfl rfl rfl trivial ?_
          refine cSplit rfl rfl rfl (fun hb20 => ?_) (fun hb20 => ?_)
          · replace h := cnd_t hb20 h
            iterate 3 refine cVal tt rfl (wSome rfl rfl rfl rfl hb20) rfl rfl rfl trivial ?_
            obtain ⟨hg21, h⟩ := grd_inv h
            refine cVal tt rfl (wSome rfl rfl rfl rfl hb20) rfl rfl rfl hg21 ?_
            obtain ⟨hg22, h⟩ := grd_inv h
            refine cVal tt rfl (wSome rfl rfl rfl rfl hb20) rfl rfl rfl hg22 ?_
            iterate 4 refine cVal tt rfl (wSome rfl rfl rfl rfl hb20) rfl rfl rfl trivial ?_
            refine cVal tt rfl (wSome rfl rfl rfl rfl hb20) rfl rfl rfl hg17 ?_
            iterate 2 refine cVal tt rfl (wSome rfl rfl rfl rfl hb20) rfl rfl rfl trivial ?_
            refine cPickT rfl (wSome rfl rfl rfl rfl hb19) rfl rfl rfl hb20 rfl ?_
            refine cPickF rfl (wNone rfl) rfl rfl rfl hb19 rfl ?_
            refine cNil ?_
            change VC _ _ _ _
            refine vCond rfl (fun hb23 => ?_) (fun hb23 => ?_)
            · replace h := cnd_t hb23 h
              refine vSeq ?_
              refine vRegion ?_
              refine oVal tt rfl rfl rfl rfl rfl trivial ?_
              refine vNil ?_
              change VC _ _ _ _
              refine vRet ?_
              change ∃ _, _
              cases h
              exact ⟨[], _, rfl, trivial, rfl, (.eq rfl), rfl⟩
            · replace h := cnd_f hb23 h
              refine vSkip ?_
              change VC _ _ _ _
              refine vRegion ?_
              refine oVal tt rfl rfl rfl rfl rfl trivial ?_
              obtain ⟨hg24, h⟩ := grd_inv h
              refine oVal tt rfl rfl rfl rfl rfl hg24 ?_
              refine oVal tt rfl rfl rfl rfl rfl trivial ?_
              refine vNil ?_
              change ∃ _, _
              exact ⟨(i19 + (1 : Int)), (En.of ⟨rfl, rfl, trivial⟩ trivial ⟨rfl, trivial⟩), h⟩
          · replace h := cnd_f hb20 h
            iterate 12 refine cNoT rfl rfl rfl rfl hb20 rfl rfl ?_
            refine cPickF rfl (wSome rfl rfl rfl rfl hb19) rfl rfl rfl hb20 rfl ?_
            refine cPickF rfl (wNone rfl) rfl rfl rfl hb19 rfl ?_
            refine cNil ?_
            change VC _ _ _ _
            refine vCondF rfl rfl ?_
            refine vSkip ?_
            change VC _ _ _ _
            refine vRegion ?_
            refine oVal tt rfl rfl rfl rfl rfl trivial ?_
            obtain ⟨hg25, h⟩ := grd_inv h
            refine oVal tt rfl rfl rfl rfl rfl hg25 ?_
            refine oVal tt rfl rfl rfl rfl rfl trivial ?_
            refine vNil ?_
            change ∃ _, _
            exact ⟨(i19 + (1 : Int)), (En.of ⟨rfl, rfl, trivial⟩ trivial ⟨rfl, trivial⟩), h⟩
    · replace h := cnd_f hb16 h
      refine vExit ?_
      change ∃ _, _
      exact ⟨(), (En.of ⟨rfl, trivial⟩ trivial ⟨rfl, trivial⟩), h⟩
def S_InnerPoints_l1 (N : Nat) (p_0 : Pin) (k : (List Int) → Option (List Int)) : Nat → ((List Int) × Int) → Option (List Int)
  | 0, _ => none
  | n + 1, (l17, i18) =>
    cnd (decide (i18 < p_0.g.n)) (
      (S_IsPinned N p_0).bind fun v21 =>
      cnd v21 (
        (S_l2Has N p_0.ground i18).bind fun v22 =>
        cnd (!v22) (
          grd (l17.length + 1 ≤ 4294967296) <|
          grd (Rg64 (i18 + (1 : Int))) <|
          S_InnerPoints_l1 N p_0 k n ((l17 ++ ([i18] : List Int)), (i18 + (1 : Int)))) (
          grd (Rg64 (i18 + (1 : Int))) <|
          S_InnerPoints_l1 N p_0 k n (l17, (i18 + (1 : Int))))) (
        k l17)) (
      k l17)
def S_InnerPoints (N : Nat) (p_0 : Pin) : Option (List Int) :=
  S_InnerPoints_l1 N p_0 (fun (l11 : List Int) =>
        some l11) N (([] : List Int), (0 : Int))
set_option maxRecDepth 20000 in
set_option maxHeartbeats 1600000 in
theorem S_InnerPoints_w (N : Nat) (p_0 : Pin) (r : List Int) (h : S_InnerPoints N p_0 = some r) : PCall Try.prog 89 [pD p_0] [(3, .ints r)] (.row 0 0 r.length) := by
  unfold S_InnerPoints at h
  refine pcall_intro (TT := TT) tt Try.func89 rfl rfl Try.ntmps89 (congrArg Array.toList Try.results89) rfl rfl fun w0 => ?_
  refine vSeq ?_
  refine vRegion ?_
  refine oBox rfl rfl rfl rfl rfl rfl rfl rfl rfl ?_
  refine oVal tt rfl rfl rfl rfl rfl trivial ?_
  refine vNil ?_
  change VC _ _ _ _
  refine vSeq ?_
  refine vRegion ?_
  refine oEmpty tt (wNone rfl) rfl rfl rfl rfl ?_
  refine oVal tt rfl rfl rfl rfl rfl trivial ?_
  refine vNil ?_
  change VC _ _ _ _
  iterate 2 refine vSeq ?_
  refine vRegion ?_
  refine oVal tt rfl rfl rfl rfl rfl trivial ?_
  refine vNil ?_
  change VC _ _ _ _
  refine vJoin (F := fun k => S_InnerPoints_l1 N p_0 k) h (α := List Int) (J := fun (l11 : List Int) => (⟨[(3, .row 25 0 l11.length)], [(25, some (3, .ints l11))], []⟩ : PS)) ?_ ?_
  · rintro l11 h
    show VC _ _ _ (⟨[(3, .row 25 0 l11.length)], [(25, some (3, .ints l11))], []⟩ : PS)
    refine vSeq ?_
    refine vRegion ?_
    iterate 2 refine oVal tt rfl rfl rfl rfl rfl trivial ?_
    refine vNil ?_
    change VC _ _ _ _
    refine vRet ?_
    change ∃ _, _
    cases h
    exact ⟨[25], _, rfl, ⟨rfl, trivial⟩, rfl, (.eq rfl), rfl⟩
  · intro k h
    refine vBlock ?_
    refine vNilT 3 25 3 (.ints []) rfl rfl rfl rfl ?_
    refine vLoopS (α := (List Int) × Int) (fun | (l17, i18) => (⟨[(1, .ptr 1 0), (3, .row 25 0 l17.length), (4, .int i18)], [(25, some (3, .ints l17))], [(1, some [.int p_0.g.n, .ro false (.pairs p_0.g.bars), .ro false (.ints p_0.ground)])]⟩ : PS)) (S_InnerPoints_l1 N p_0 k) h (En.of ⟨rfl, rfl, rfl, trivial⟩ ⟨rfl, trivial⟩ ⟨rfl, trivial⟩) (fun _ => rfl) ?_
    rintro n ⟨l17, i18⟩ h
    rw [S_InnerPoints_l1] at h
    show VC _ _ _ (⟨[(1, .ptr 1 0), (3, .row 25 0 l17.length), (4, .int i18)], [(25, some (3, .ints l17))], [(1, some [.int p_0.g.n, .ro false (.pairs p_0.g.bars), .ro false (.ints p_0.ground)])]⟩ : PS)
    iterate 2 refine vSeq ?_
    refine vRegion ?_
    iterate 6 refine oVal tt rfl rfl rfl rfl rfl trivial ?_
    refine oSplit rfl rfl rfl (fun hb1 => ?_) (fun hb1 => ?_)
    · replace h := cnd_t hb1 h
      refine oValG tt rfl rfl rfl rfl rfl hb1 rfl rfl rfl trivial ?_
      obtain ⟨v21, hc2, h⟩ := bind_inv h
      refine oCallG (S_IsPinned_w N p_0 v21 hc2) rfl rfl rfl rfl hb1 rfl rfl rfl rfl rfl rfl rfl ⟨⟨rfl, rfl, rfl, trivial⟩, trivial⟩ ?_
      refine oPick rfl rfl rfl rfl rfl hb1 rfl ?_
      refine vNil ?_
      change VC _ _ _ _
      refine vCond rfl (fun hb3 => ?_) (fun hb3 => ?_)
      · replace h := cnd_t hb3 h
        refine vSkip ?_
        change VC _ _ _ _
        refine vSeq ?_
        refine vBlock ?_
        refine vSeq ?_
        refine vRegion ?_
        iterate 3 refine oVal tt rfl rfl rfl rfl rfl trivial ?_
        obtain ⟨v22, hc4, h⟩ := bind_inv h
        refine oCall (S_l2Has_w N p_0.ground i18 v22 hc4) rfl rfl rfl rfl rfl rfl rfl rfl ⟨rfl, rfl, trivial⟩ ?_
        refine oVal tt rfl rfl rfl rfl rfl trivial ?_
        refine vNil ?_
        change VC _ _ _ _
        refine vCond rfl (fun hb5 => ?_) (fun hb5 => ?_)
        · replace h := cnd_t hb5 h
          refine vRegion ?_
          iterate 2 refine oVal tt rfl rfl rfl rfl rfl trivial ?_
          refine oBuild tt rfl rfl rfl rfl rfl rfl rfl rfl rfl rfl rfl ?_
          obtain ⟨hg6, h⟩ := grd_inv h
          refine oAppend tt rfl rfl rfl rfl rfl rfl rfl rfl rfl rfl rfl rfl rfl rfl rfl rfl (Nat.le_of_eq (Nat.zero_add _)) hg6 ?_
          refine oVal tt rfl rfl rfl rfl rfl trivial ?_
          refine vNil ?_
          change VC _ _ _ _
          refine vRegion ?_
          refine oVal tt rfl rfl rfl rfl rfl trivial ?_
          obtain ⟨hg7, h⟩ := grd_inv h
          refine oVal tt rfl rfl rfl rfl rfl hg7 ?_
          refine oVal tt rfl rfl rfl rfl rfl trivial ?_
          refine vNil ?_
          change ∃ _, _
          exact ⟨((l17 ++ ([i18] : List Int)), (i18 + (1 : Int))), (En.of ⟨rfl, rfl, rfl, trivial⟩ ⟨rfl, trivial⟩ ⟨rfl, trivial⟩), h⟩
        · replace h := cnd_f hb5 h
          refine vSkip ?_
          change VC _ _ _ _
          refine vRegion ?_
          refine oVal tt rfl rfl rfl rfl rfl trivial ?_
          obtain ⟨hg8, h⟩ := grd_inv h
          refine oVal tt rfl rfl rfl rfl rfl hg8 ?_
          refine oVal tt rfl rfl rfl rfl rfl trivial ?_
          refine vNil ?_
          change ∃ _, _
          exact ⟨(l17, (i18 + (1 : Int))), (En.of ⟨rfl, rfl, rfl, trivial⟩ ⟨rfl, trivial⟩ ⟨rfl, trivial⟩), h⟩
      · replace h := cnd_f hb3 h
        refine vExit ?_
        change ∃ _, _
        exact ⟨l17, (En.of ⟨rfl, trivial⟩ ⟨rfl, trivial⟩ trivial), h⟩
    · replace h := cnd_f hb1 h
      iterate 2 refine oNoT rfl rfl rfl rfl hb1 rfl rfl ?_
      refine oPickF rfl rfl rfl rfl rfl hb1 rfl ?_
      refine vNil ?_
      change VC _ _ _ _
      refine vCondF rfl rfl ?_
      refine vExit ?_
      change ∃ _, _
      exact ⟨l17, (En.of ⟨rfl, trivial⟩ ⟨rfl, trivial⟩ trivial), h⟩
def L_toPinned (N : Nat) (a_0 : Pin) : Option (Pin) :=
  (L_toGraph N a_0.g).bind fun v1 =>
  (L_toIntS N a_0.ground).bind fun v2 =>
  some (⟨⟨v1.n, v1.bars⟩, v2⟩ : Pin)
set_option maxRecDepth 20000 in
set_option maxHeartbeats 1600000 in
theorem L_toPinned_w (N : Nat) (a_0 : Pin) (r : Pin) (h : L_toPinned N a_0 = some r) : PCall Try.prog 17 [pD a_0] [(71, .pairs r.g.bars), (3, .ints r.ground)] (.agg [.int r.g.n, .row 0 0 r.g.bars.length, .row 1 0 r.ground.length]) := by
  unfold L_toPinned at h
  refine pcall_intro (TT := TT) tt Try.func17 rfl rfl Try.ntmps17 (congrArg Array.toList Try.results17) rfl rfl fun w0 => ?_
  refine vSeq ?_
  refine vRegion ?_
  refine oBox rfl rfl rfl rfl rfl rfl rfl rfl rfl ?_
  refine oAlloc tt rfl rfl rfl rfl rfl rfl rfl rfl rfl ?_
  refine vNil ?_
  change VC _ _ _ _
  refine vSeq ?_
  refine vRegion ?_
  refine oAlloc tt rfl rfl rfl rfl rfl rfl rfl rfl rfl ?_
  refine vNil ?_
  change VC _ _ _ _
  refine vSeq ?_
  refine vRegion ?_
  iterate 2 refine oVal tt rfl rfl rfl rfl rfl trivial ?_
  obtain ⟨v1, hc1, h⟩ := bind_inv h
  refine oCall (L_toGraph_w N a_0.g v1 hc1) rfl rfl rfl rfl rfl rfl rfl rfl ⟨⟨rfl, rfl, trivial⟩, trivial⟩ ?_
  refine oVal tt rfl rfl rfl rfl rfl trivial ?_
  refine oStore tt rfl rfl rfl rfl rfl rfl rfl rfl rfl rfl rfl ⟨trivial, trivial, trivial⟩ ?_
  refine vNil ?_
  change VC _ _ _ _
  refine vSeq ?_
  refine vRegion ?_
  iterate 2 refine oVal tt rfl rfl rfl rfl rfl trivial ?_
  obtain ⟨v2, hc2, h⟩ := bind_inv h
  refine oCall (L_toIntS_w N a_0.ground v2 hc2) rfl rfl rfl rfl rfl rfl rfl rfl ⟨rfl, trivial⟩ ?_
  refine oVal tt rfl rfl rfl rfl rfl trivial ?_
  refine oStore tt rfl rfl rfl rfl rfl rfl rfl rfl rfl rfl rfl ⟨trivial, trivial⟩ ?_
  refine vNil ?_
  change VC _ _ _ _
  refine vSeq ?_
  refine vRegion ?_
  refine oVal tt rfl rfl rfl rfl rfl trivial ?_
  refine oStore tt rfl rfl rfl rfl rfl rfl rfl rfl rfl rfl rfl ⟨trivial, trivial, trivial, trivial⟩ ?_
  refine vNil ?_
  change VC _ _ _ _
  refine vRet ?_
  change ∃ _, _
  cases h
  exact ⟨[1060, 1100], _, rfl, ⟨rfl, rfl, trivial⟩, rfl, (.eq rfl), rfl⟩
def G_Index_int_l1 (N : Nat) (s_0 : List Int) (v_1 : Int) (k : Unit → Option (Int)) : Nat → Int → Option (Int)
  | 0, _ => none
  | n + 1, x3 =>
    cnd (decide (x3 < (s_0.length : Int))) (
      grd (0 ≤ x3 ∧ x3 < (s_0.length : Int)) <|
      cnd (v_1 == (s_0.getD ((x3).toNat) 0)) (
        some x3) (
        grd (Rg64 (x3 + (1 : Int))) <|
        G_Index_int_l1 N s_0 v_1 k n (x3 + (1 : Int)))) (
      k ())
def G_Index_int (N : Nat) (s_0 : List Int) (v_1 : Int) : Option (Int) :=
  G_Index_int_l1 N s_0 v_1 (fun (_ : Unit) =>
        some (-1 : Int)) N (0 : Int)
set_option maxRecDepth 20000 in
set_option maxHeartbeats 1600000 in
theorem G_Index_int_w (N : Nat) (s_0 : List Int) (v_1 : Int) (r : Int) (h : G_Index_int N s_0 v_1 = some r) : PCall Try.prog 107 [.ro false (.ints s_0), .int v_1] [] (.int r) := by
  unfold G_Index_int at h
  refine pcall_intro (TT := TT) tt Try.func107 rfl rfl Try.ntmps107 (congrArg Array.toList Try.results107) rfl rfl fun w0 => ?_
  refine vSeq ?_
  refine vRegion ?_
  refine oVal tt rfl rfl rfl rfl rfl trivial ?_
  refine vNil ?_
  change VC _ _ _ _
  iterate 2 refine vSeq ?_
  refine vRegion ?_
  iterate 3 refine oVal tt rfl rfl rfl rfl rfl trivial ?_
  refine vNil ?_
  change VC _ _ _ _
  refine vJoin (F := fun k => G_Index_int_l1 N s_0 v_1 k) h (α := Unit) (J := fun (_ : Unit) => (⟨[], [], []⟩ : PS)) ?_ ?_
  · rintro ⟨⟩ h
    show VC _ _ _ (⟨[], [], []⟩ : PS)
    refine vSeq ?_
    refine vRegion ?_
    refine oVal tt rfl rfl rfl rfl rfl trivial ?_
    refine vNil ?_
    change VC _ _ _ _
    refine vRet ?_
    change ∃ _, _
    cases h
    exact ⟨[], _, rfl, trivial, rfl, (.eq rfl), rfl⟩
  · intro k h
    refine vBlock ?_
    refine vLoopS (α := Int) (fun (x3 : Int) => (⟨[(0, .ro false (.ints s_0)), (1, .int v_1), (7, .int (s_0.length : Int)), (8, .int x3)], [], []⟩ : PS)) (G_Index_int_l1 N s_0 v_1 k) h (En.of ⟨rfl, rfl, rfl, rfl, trivial⟩ trivial trivial) (fun _ => rfl) ?_
    rintro n x3 h
    rw [G_Index_int_l1] at h
    show VC _ _ _ (⟨[(0, .ro false (.ints s_0)), (1, .int v_1), (7, .int (s_0.length : Int)), (8, .int x3)], [], []⟩ : PS)
    refine vSeq ?_
    refine vRegion ?_
    refine oVal tt rfl rfl rfl rfl rfl trivial ?_
    refine vNil ?_
    change VC _ _ _ _
    refine vSeq ?_
    refine vCond rfl (fun hb1 => ?_) (fun hb1 => ?_)
    · replace h := cnd_t hb1 h
      refine vSkip ?_
      change VC _ _ _ _
      refine vSeq ?_
      refine vBlock ?_
      refine vSeq ?_
      refine vRegion ?_
      iterate 2 refine oVal tt rfl rfl rfl rfl rfl trivial ?_
      refine vNil ?_
      change VC _ _ _ _
      refine vSeq ?_
      refine vRegion ?_
      iterate 3 refine oVal tt rfl rfl rfl rfl rfl trivial ?_
      obtain ⟨hg2, h⟩ := grd_inv h
      refine oVal tt rfl rfl rfl rfl rfl hg2 ?_
      iterate 2 refine oVal tt rfl rfl rfl rfl rfl trivial ?_
      refine vNil ?_
      change VC _ _ _ _
      refine vCond rfl (fun hb3 => ?_) (fun hb3 => ?_)
      · replace h := cnd_t hb3 h
        refine vSeq ?_
        refine vRegion ?_
        iterate 2 refine oVal tt rfl rfl rfl rfl rfl trivial ?_
        refine vNil ?_
        change VC _ _ _ _
        refine vRet ?_
        change ∃ _, _
        cases h
        exact ⟨[], _, rfl, trivial, rfl, (.eq rfl), rfl⟩
      · replace h := cnd_f hb3 h
        refine vSkip ?_
        change VC _ _ _ _
        refine vRegion ?_
        obtain ⟨hg4, h⟩ := grd_inv h
        refine oVal tt rfl rfl rfl rfl rfl hg4 ?_
        refine oVal tt rfl rfl rfl rfl rfl trivial ?_
        refine vNil ?_
        change ∃ _, _
        exact ⟨(x3 + (1 : Int)), (En.of ⟨rfl, rfl, rfl, rfl, trivial⟩ trivial trivial), h⟩
    · replace h := cnd_f hb1 h
      refine vExit ?_
      change ∃ _, _
      exact ⟨(), (En.of trivial trivial trivial), h⟩
end Go.Proofs.Ytkpmijmlbpdknaa
