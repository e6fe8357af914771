/- Plain texts of functions, and that the program computes them (printed by gen.py). -/
import Derived.Test.YtlmlfbjcpajinaaShb
import Derived.Test.YtlmlfbjcpajinaaG1
import Derived.Test.YtlmlfbjcpajinaaG2
import Derived.Test.YtlmlfbjcpajinaaG4
import Derived.Test.YtlmlfbjcpajinaaG5
import Derived.Test.YtlmlfbjcpajinaaG6
namespace Go.Proofs.Ytlmlfbjcpajinaa
open Go.RowKit
set_option linter.unusedVariables false
set_option linter.unusedSimpArgs false
def L_szPinned (N : Nat) (a_0 : Pin) (left_1 : Int) : Option (Int) :=
  (L_szGraph N a_0.g left_1).bind fun v1 =>
  cnd (decide (v1 < (0 : Int))) (
    some (-1 : Int)) (
    (L_szIntS N a_0.ground v1).bind fun v2 =>
    cnd (decide (v2 < (0 : Int))) (
      some (-1 : Int)) (
      some v2))
set_option maxRecDepth 20000 in
set_option maxHeartbeats 1600000 in
theorem L_szPinned_w (N : Nat) (a_0 : Pin) (left_1 : Int) (r : Int) (h : L_szPinned N a_0 left_1 = some r) : PCall Try.prog 41 [pD a_0, .int left_1] [] (.int r) := by
  unfold L_szPinned at h
  refine pcall_intro (TT := TT) tt Try.func41 rfl rfl Try.ntmps41 (congrArg Array.toList Try.results41) rfl rfl fun w0 => ?_
  refine vSeq ?_
  refine vRegion ?_
  refine oBox rfl rfl rfl rfl rfl rfl rfl rfl rfl ?_
  refine oVal tt rfl rfl rfl rfl rfl trivial ?_
  refine vNil ?_
  change VC _ _ _ _
  refine vSeq ?_
  refine vRegion ?_
  iterate 3 refine oVal tt rfl rfl rfl rfl rfl trivial ?_
  obtain ⟨v1, hc1, h⟩ := bind_inv h
  refine oCall (L_szGraph_w N a_0.g left_1 v1 hc1) rfl rfl rfl rfl rfl rfl rfl rfl ⟨⟨rfl, rfl, trivial⟩, rfl, trivial⟩ ?_
  refine oVal tt rfl rfl rfl rfl rfl trivial ?_
  refine vNil ?_
  change VC _ _ _ _
  iterate 2 refine vSeq ?_
  refine vRegion ?_
  iterate 2 refine oVal tt rfl rfl rfl rfl rfl trivial ?_
  refine vNil ?_
  change VC _ _ _ _
  refine vCond rfl (fun hb2 => ?_) (fun hb2 => ?_)
  · replace h := cnd_t hb2 h
    refine vSeq ?_
    refine vRegion ?_
    refine oVal tt rfl rfl rfl rfl rfl trivial ?_
    refine vNil ?_
    change VC _ _ _ _
    refine vRet ?_
    change ∃ _, _
    cases h
    exact ⟨[], _, rfl, trivial, rfl, (.eq rfl), rfl⟩
  · replace h := cnd_f hb2 h
    refine vSkip ?_
    change VC _ _ _ _
    refine vSeq ?_
    refine vRegion ?_
    iterate 3 refine oVal tt rfl rfl rfl rfl rfl trivial ?_
    obtain ⟨v2, hc3, h⟩ := bind_inv h
    refine oCall (L_szIntS_w N a_0.ground v1 v2 hc3) rfl rfl rfl rfl rfl rfl rfl rfl ⟨rfl, rfl, trivial⟩ ?_
    refine oVal tt rfl rfl rfl rfl rfl trivial ?_
    refine vNil ?_
    change VC _ _ _ _
    iterate 2 refine vSeq ?_
    refine vRegion ?_
    iterate 2 refine oVal tt rfl rfl rfl rfl rfl trivial ?_
    refine vNil ?_
    change VC _ _ _ _
    refine vCond rfl (fun hb4 => ?_) (fun hb4 => ?_)
    · replace h := cnd_t hb4 h
      refine vSeq ?_
      refine vRegion ?_
      refine oVal tt rfl rfl rfl rfl rfl trivial ?_
      refine vNil ?_
      change VC _ _ _ _
      refine vRet ?_
      change ∃ _, _
      cases h
      exact ⟨[], _, rfl, trivial, rfl, (.eq rfl), rfl⟩
    · replace h := cnd_f hb4 h
      refine vSkip ?_
      change VC _ _ _ _
      refine vSeq ?_
      refine vRegion ?_
      iterate 2 refine oVal tt rfl rfl rfl rfl rfl trivial ?_
      refine vNil ?_
      change VC _ _ _ _
      refine vRet ?_
      change ∃ _, _
      cases h
      exact ⟨[], _, rfl, trivial, rfl, (.eq rfl), rfl⟩
def S_IsPinned_l1 (N : Nat) (p_0 : Pin) (k : Unit → Option (Bool)) : Nat → Int → Option (Bool)
  | 0, _ => none
  | n + 1, i13 =>
    cnd (decide (i13 < (p_0.g.bars.length : Int))) (
      grd (0 ≤ i13 ∧ i13 < (p_0.g.bars.length : Int)) <|
      (S_l2Has N p_0.ground ((p_0.g.bars.getD ((i13).toNat) (0, 0)).1)).bind fun v16 =>
      cnd v16 (
        (S_l2Has N p_0.ground ((p_0.g.bars.getD ((i13).toNat) (0, 0)).2)).bind fun v17 =>
        cnd v17 (
          some false) (
          grd (Rg64 (i13 + (1 : Int))) <|
          S_IsPinned_l1 N p_0 k n (i13 + (1 : Int)))) (
        grd (Rg64 (i13 + (1 : Int))) <|
        S_IsPinned_l1 N p_0 k n (i13 + (1 : Int)))) (
      k ())
def S_IsPinned_l2 (N : Nat) (p_0 : Pin) (k : Unit → Option (Bool)) : Nat → Int → Option (Bool)
  | 0, _ => none
  | n + 1, i19 =>
    cnd (decide (i19 < (p_0.ground.length : Int))) (
      grd (0 ≤ i19 ∧ i19 < (p_0.ground.length : Int)) <|
      cnd (decide ((p_0.ground.getD ((i19).toNat) 0) < (0 : Int))) (
        some false) (
        cnd (decide ((p_0.ground.getD ((i19).toNat) 0) ≥ p_0.g.n)) (
          some false) (
          cnd (decide (i19 > (0 : Int))) (
            grd (Rg64 (i19 - (1 : Int))) <|
            grd (0 ≤ (i19 - (1 : Int)) ∧ (i19 - (1 : Int)) < (p_0.ground.length : Int)) <|
            cnd (decide ((p_0.ground.getD (((i19 - (1 : Int))).toNat) 0) ≥ (p_0.ground.getD ((i19).toNat) 0))) (
              some false) (
              grd (Rg64 (i19 + (1 : Int))) <|
              S_IsPinned_l2 N p_0 k n (i19 + (1 : Int)))) (
            grd (Rg64 (i19 + (1 : Int))) <|
            S_IsPinned_l2 N p_0 k n (i19 + (1 : Int)))))) (
      k ())
def S_IsPinned (N : Nat) (p_0 : Pin) : Option (Bool) :=
  S_IsPinned_l2 N p_0 (fun (_ : Unit) =>
        S_IsPinned_l1 N p_0 (fun (_ : Unit) =>
              (S_l17Simple N p_0.g).bind fun v9 =>
              cnd v9 (
                cnd (decide ((p_0.ground.length : Int) ≥ (2 : Int))) (
                  cnd (decide ((p_0.g.bars.length : Int) ≤ (15 : Int))) (
                    grd (Rg64 ((2 : Int) * (p_0.ground.length : Int))) <|
                    grd (Rg64 ((p_0.g.bars.length : Int) + ((2 : Int) * (p_0.ground.length : Int)))) <|
                    grd (Rg64 (((p_0.g.bars.length : Int) + ((2 : Int) * (p_0.ground.length : Int))) - (3 : Int))) <|
                    some (decide ((((p_0.g.bars.length : Int) + ((2 : Int) * (p_0.ground.length : Int))) - (3 : Int)) ≤ (24 : Int)))) (
                    some false)) (
                  some false)) (
                some false)) N (0 : Int)) N (0 : Int)
set_option maxRecDepth 20000 in
set_option maxHeartbeats 1600000 in
theorem S_IsPinned_w (N : Nat) (p_0 : Pin) (r : Bool) (h : S_IsPinned N p_0 = some r) : PCall Try.prog 94 [pD p_0] [] (.bool r) := by
  unfold S_IsPinned at h
  refine pcall_intro (TT := TT) tt Try.func94 rfl rfl Try.ntmps94 (congrArg Array.toList Try.results94) rfl rfl fun w0 => ?_
  refine vSeq ?_
  refine vRegion ?_
  refine oBox rfl rfl rfl rfl rfl rfl rfl rfl rfl ?_
  refine oVal tt rfl rfl rfl rfl rfl trivial ?_
  refine vNil ?_
  change VC _ _ _ _
  iterate 2 refine vSeq ?_
  refine vRegion ?_
  refine oVal tt rfl rfl rfl rfl rfl trivial ?_
  refine vNil ?_
  change VC _ _ _ _
  refine vJoin (F := fun k => S_IsPinned_l2 N p_0 k) h (α := Unit) (J := fun (_ : Unit) => (⟨[(1, .ptr 1 0)], [], [(1, some [.int p_0.g.n, .ro false (.pairs p_0.g.bars), .ro false (.ints p_0.ground)])]⟩ : PS)) ?_ ?_
  · rintro ⟨⟩ h
    show VC _ _ _ (⟨[(1, .ptr 1 0)], [], [(1, some [.int p_0.g.n, .ro false (.pairs p_0.g.bars), .ro false (.ints p_0.ground)])]⟩ : PS)
    iterate 2 refine vSeq ?_
    refine vRegion ?_
    refine oVal tt rfl rfl rfl rfl rfl trivial ?_
    refine vNil ?_
    change VC _ _ _ _
    refine vJoin (F := fun k => S_IsPinned_l1 N p_0 k) h (α := Unit) (J := fun (_ : Unit) => (⟨[(1, .ptr 1 0)], [], [(1, some [.int p_0.g.n, .ro false (.pairs p_0.g.bars), .ro false (.ints p_0.ground)])]⟩ : PS)) ?_ ?_
    · rintro ⟨⟩ h
      show VC _ _ _ (⟨[(1, .ptr 1 0)], [], [(1, some [.int p_0.g.n, .ro false (.pairs p_0.g.bars), .ro false (.ints p_0.ground)])]⟩ : PS)
      refine vSeq ?_
      refine vRegion ?_
      iterate 2 refine oVal tt rfl rfl rfl rfl rfl trivial ?_
      obtain ⟨v9, hc1, h⟩ := bind_inv h
      refine oCall (S_l17Simple_w N p_0.g v9 hc1) rfl rfl rfl rfl rfl rfl rfl rfl ⟨⟨rfl, rfl, trivial⟩, trivial⟩ ?_
      refine oVal tt rfl rfl rfl rfl rfl trivial ?_
      refine oSplit rfl rfl rfl (fun hb2 => ?_) (fun hb2 => ?_)
      · replace h := cnd_t hb2 h
        iterate 4 refine oValG tt rfl rfl rfl rfl rfl hb2 rfl rfl rfl trivial ?_
        refine oPick rfl rfl rfl rfl rfl hb2 rfl ?_
        refine oVal tt rfl rfl rfl rfl rfl trivial ?_
        refine oSplit rfl rfl rfl (fun hb3 => ?_) (fun hb3 => ?_)
        · replace h := cnd_t hb3 h
          iterate 5 refine oValG tt rfl rfl rfl rfl rfl hb3 rfl rfl rfl trivial ?_
          refine oPick rfl rfl rfl rfl rfl hb3 rfl ?_
          refine oVal tt rfl rfl rfl rfl rfl trivial ?_
          refine oSplit rfl rfl rfl (fun hb4 => ?_) (fun hb4 => ?_)
          · replace h := cnd_t hb4 h
            iterate 7 refine oValG tt rfl rfl rfl rfl rfl hb4 rfl rfl rfl trivial ?_
            obtain ⟨hg5, h⟩ := grd_inv h
            refine oValG tt rfl rfl rfl rfl rfl hb4 rfl rfl rfl hg5 ?_
            obtain ⟨hg6, h⟩ := grd_inv h
            refine oValG tt rfl rfl rfl rfl rfl hb4 rfl rfl rfl hg6 ?_
            obtain ⟨hg7, h⟩ := grd_inv h
            refine oValG tt rfl rfl rfl rfl rfl hb4 rfl rfl rfl hg7 ?_
            refine oValG tt rfl rfl rfl rfl rfl hb4 rfl rfl rfl trivial ?_
            refine oPick rfl rfl rfl rfl rfl hb4 rfl ?_
            refine oVal tt rfl rfl rfl rfl rfl trivial ?_
            refine vNil ?_
            change VC _ _ _ _
            refine vRet ?_
            change ∃ _, _
            cases h
            exact ⟨[], _, rfl, trivial, rfl, (.eq rfl), rfl⟩
          · replace h := cnd_f hb4 h
            iterate 11 refine oNoT rfl rfl rfl rfl hb4 rfl rfl ?_
            refine oPickF rfl rfl rfl rfl rfl hb4 rfl ?_
            refine oVal tt rfl rfl rfl rfl rfl trivial ?_
            refine vNil ?_
            change VC _ _ _ _
            refine vRet ?_
            change ∃ _, _
            cases h
            exact ⟨[], _, rfl, trivial, rfl, (.eq rfl), rfl⟩
        · replace h := cnd_f hb3 h
          iterate 5 refine oNoT rfl rfl rfl rfl hb3 rfl rfl ?_
          refine oPickF rfl rfl rfl rfl rfl hb3 rfl ?_
          refine oVal tt rfl rfl rfl rfl rfl trivial ?_
          iterate 11 refine oNoT rfl rfl rfl rfl rfl rfl rfl ?_
          refine oPickF rfl rfl rfl rfl rfl rfl rfl ?_
          refine oVal tt rfl rfl rfl rfl rfl trivial ?_
          refine vNil ?_
          change VC _ _ _ _
          refine vRet ?_
          change ∃ _, _
          cases h
          exact ⟨[], _, rfl, trivial, rfl, (.eq rfl), rfl⟩
      · replace h := cnd_f hb2 h
        iterate 4 refine oNoT rfl rfl rfl rfl hb2 rfl rfl ?_
        refine oPickF rfl rfl rfl rfl rfl hb2 rfl ?_
        refine oVal tt rfl rfl rfl rfl rfl trivial ?_
        iterate 5 refine oNoT rfl rfl rfl rfl rfl rfl rfl ?_
        refine oPickF rfl rfl rfl rfl rfl rfl rfl ?_
        refine oVal tt rfl rfl rfl rfl rfl trivial ?_
        iterate 11 refine oNoT rfl rfl rfl rfl rfl rfl rfl ?_
        refine oPickF rfl rfl rfl rfl rfl rfl rfl ?_
        refine oVal tt rfl rfl rfl rfl rfl trivial ?_
        refine vNil ?_
        change VC _ _ _ _
        refine vRet ?_
        change ∃ _, _
        cases h
        exact ⟨[], _, rfl, trivial, rfl, (.eq rfl), rfl⟩
    · intro k h
      refine vBlock ?_
      refine vLoopS (α := Int) (fun (i13 : Int) => (⟨[(1, .ptr 1 0), (4, .int i13)], [], [(1, some [.int p_0.g.n, .ro false (.pairs p_0.g.bars), .ro false (.ints p_0.ground)])]⟩ : PS)) (S_IsPinned_l1 N p_0 k) h (En.of ⟨rfl, rfl, trivial⟩ trivial ⟨rfl, trivial⟩) (fun _ => rfl) ?_
      rintro n i13 h
      rw [S_IsPinned_l1] at h
      show VC _ _ _ (⟨[(1, .ptr 1 0), (4, .int i13)], [], [(1, some [.int p_0.g.n, .ro false (.pairs p_0.g.bars), .ro false (.ints p_0.ground)])]⟩ : PS)
      iterate 2 refine vSeq ?_
      refine vRegion ?_
      iterate 6 refine oVal tt rfl rfl rfl rfl rfl trivial ?_
      refine vNil ?_
      change VC _ _ _ _
      refine vCond rfl (fun hb8 => ?_) (fun hb8 => ?_)
      · replace h := cnd_t hb8 h
        refine vSkip ?_
        change VC _ _ _ _
        refine vSeq ?_
        refine vBlock ?_
        refine vSeq ?_
        refine vRegionD (by kernel_rfl) (by kernel_rfl) ?_
        iterate 6 refine cVal tt rfl (wNone rfl) rfl rfl rfl trivial ?_
        obtain ⟨hg9, h⟩ := grd_inv h
        refine cVal tt rfl (wNone rfl) rfl rfl rfl hg9 ?_
        iterate 2 refine cVal tt rfl (wNone rfl) rfl rfl rfl trivial ?_
        obtain ⟨v16, hc10, h⟩ := bind_inv h
        refine cCall (S_l2Has_w N p_0.ground ((p_0.g.bars.getD ((i13).toNat) (0, 0)).1) v16 hc10) rfl (wNone rfl) rfl rfl rfl rfl rfl rfl ⟨rfl, rfl, trivial⟩ ?_
        refine cVal tt rfl (wNone rfl) rfl rfl rfl trivial ?_
        refine cSplit rfl rfl rfl (fun hb11 => ?_) (fun hb11 => ?_)
        · replace h := cnd_t hb11 h
          iterate 6 refine cVal tt rfl (wSome rfl rfl rfl rfl hb11) rfl rfl rfl trivial ?_
          refine cVal tt rfl (wSome rfl rfl rfl rfl hb11) rfl rfl rfl hg9 ?_
          iterate 2 refine cVal tt rfl (wSome rfl rfl rfl rfl hb11) rfl rfl rfl trivial ?_
          obtain ⟨v17, hc12, h⟩ := bind_inv h
          refine cCall (S_l2Has_w N p_0.ground ((p_0.g.bars.getD ((i13).toNat) (0, 0)).2) v17 hc12) rfl (wSome rfl rfl rfl rfl hb11) rfl rfl rfl rfl rfl rfl ⟨rfl, rfl, trivial⟩ ?_
          refine cPickT rfl (wNone rfl) rfl rfl rfl hb11 rfl ?_
          refine cNil ?_
          change VC _ _ _ _
          refine vCond rfl (fun hb13 => ?_) (fun hb13 => ?_)
          · replace h := cnd_t hb13 h
            refine vSeq ?_
            refine vRegion ?_
            refine oVal tt rfl rfl rfl rfl rfl trivial ?_
            refine vNil ?_
            change VC _ _ _ _
            refine vRet ?_
            change ∃ _, _
            cases h
            exact ⟨[], _, rfl, trivial, rfl, (.eq rfl), rfl⟩
          · replace h := cnd_f hb13 h
            refine vSkip ?_
            change VC _ _ _ _
            refine vRegion ?_
            refine oVal tt rfl rfl rfl rfl rfl trivial ?_
            obtain ⟨hg14, h⟩ := grd_inv h
            refine oVal tt rfl rfl rfl rfl rfl hg14 ?_
            refine oVal tt rfl rfl rfl rfl rfl trivial ?_
            refine vNil ?_
            change ∃ _, _
            exact ⟨(i13 + (1 : Int)), (En.of ⟨rfl, rfl, trivial⟩ trivial ⟨rfl, trivial⟩), h⟩
        · replace h := cnd_f hb11 h
          iterate 10 refine cNoT rfl rfl rfl rfl hb11 rfl rfl ?_
          refine cPickF rfl (wNone rfl) rfl rfl rfl hb11 rfl ?_
          refine cNil ?_
          change VC _ _ _ _
          refine vCondF rfl rfl ?_
          refine vSkip ?_
          change VC _ _ _ _
          refine vRegion ?_
          refine oVal tt rfl rfl rfl rfl rfl trivial ?_
          obtain ⟨hg15, h⟩ := grd_inv h
          refine oVal tt rfl rfl rfl rfl rfl hg15 ?_
          refine oVal tt rfl rfl rfl rfl rfl trivial ?_
          refine vNil ?_
          change ∃ _, _
          exact ⟨(i13 + (1 : Int)), (En.of ⟨rfl, rfl, trivial⟩ trivial ⟨rfl, trivial⟩), h⟩
      · replace h := cnd_f hb8 h
        refine vExit ?_
        change ∃ _, _
        exact ⟨(), (En.of ⟨rfl, trivial⟩ trivial ⟨rfl, trivial⟩), h⟩
  · intro k h
    refine vBlock ?_
    refine vLoopS (α := Int) (fun (i19 : Int) => (⟨[(1, .ptr 1 0), (3, .int i19)], [], [(1, some [.int p_0.g.n, .ro false (.pairs p_0.g.bars), .ro false (.ints p_0.ground)])]⟩ : PS)) (S_IsPinned_l2 N p_0 k) h (En.of ⟨rfl, rfl, trivial⟩ trivial ⟨rfl, trivial⟩) (fun _ => rfl) ?_
    rintro n i19 h
    rw [S_IsPinned_l2] at h
    show VC _ _ _ (⟨[(1, .ptr 1 0), (3, .int i19)], [], [(1, some [.int p_0.g.n, .ro false (.pairs p_0.g.bars), .ro false (.ints p_0.ground)])]⟩ : PS)
    iterate 2 refine vSeq ?_
    refine vRegion ?_
    iterate 5 refine oVal tt rfl rfl rfl rfl rfl trivial ?_
    refine vNil ?_
    change VC _ _ _ _
    refine vCond rfl (fun hb16 => ?_) (fun hb16 => ?_)
    · replace h := cnd_t hb16 h
      refine vSkip ?_
      change VC _ _ _ _
      refine vSeq ?_
      refine vBlock ?_
      refine vSeq ?_
      refine vRegionD (by kernel_rfl) (by kernel_rfl) ?_
      iterate 3 refine cVal tt rfl (wNone rfl) rfl rfl rfl trivial ?_
      obtain ⟨hg17, h⟩ := grd_inv h
      refine cVal tt rfl (wNone rfl) rfl rfl rfl hg17 ?_
      iterate 3 refine cVal tt rfl (wNone rfl) rfl rfl rfl trivial ?_
      refine cSplit rfl rfl rfl (fun hb18 => ?_) (fun hb18 => ?_)
      · replace h := cnd_t hb18 h
        iterate 9 refine cNoF rfl rfl rfl rfl hb18 rfl rfl ?_
        refine cPickT rfl (wNone rfl) rfl rfl rfl hb18 rfl ?_
        refine cVal tt rfl (wNone rfl) rfl rfl rfl trivial ?_
        iterate 3 refine cNoF rfl rfl rfl rfl rfl rfl rfl ?_
        iterate 12 refine cNoU rfl rfl rfl rfl rfl ?_
        refine cNoF rfl rfl rfl rfl rfl rfl rfl ?_
        refine cPickT rfl (wNone rfl) rfl rfl rfl rfl rfl ?_
        refine cNil ?_
        change VC _ _ _ _
        refine vCondT rfl rfl ?_
        refine vSeq ?_
        refine vRegion ?_
        refine oVal tt rfl rfl rfl rfl rfl trivial ?_
        refine vNil ?_
        change VC _ _ _ _
        refine vRet ?_
        change ∃ _, _
        cases h
        exact ⟨[], _, rfl, trivial, rfl, (.eq rfl), rfl⟩
      · replace h := cnd_f hb18 h
        iterate 3 refine cVal tt rfl (wSome rfl rfl rfl rfl hb18) rfl rfl rfl trivial ?_
        refine cVal tt rfl (wSome rfl rfl rfl rfl hb18) rfl rfl rfl hg17 ?_
        iterate 5 refine cVal tt rfl (wSome rfl rfl rfl rfl hb18) rfl rfl rfl trivial ?_
        refine cPickF rfl (wNone rfl) rfl rfl rfl hb18 rfl ?_
        refine cVal tt rfl (wNone rfl) rfl rfl rfl trivial ?_
        refine cSplit rfl rfl rfl (fun hb19 => ?_) (fun hb19 => ?_)
        · replace h := cnd_t hb19 h
          iterate 3 refine cNoF rfl rfl rfl rfl hb19 rfl rfl ?_
          iterate 12 refine cNoU rfl rfl rfl rfl rfl ?_
          refine cNoF rfl rfl rfl rfl hb19 rfl rfl ?_
          refine cPickT rfl (wNone rfl) rfl rfl rfl hb19 rfl ?_
          refine cNil ?_
          change VC _ _ _ _
          refine vCondT rfl rfl ?_
          refine vSeq ?_
          refine vRegion ?_
          refine oVal tt rfl rfl rfl rfl rfl trivial ?_
          refine vNil ?_
          change VC _ _ _ _
          refine vRet ?_
          change ∃ _, _
          cases h
          exact ⟨[], _, rfl, trivial, rfl, (.eq rfl), rfl⟩
        · replace h := cnd_f hb19 h
          iterate 3 refine cVal tt rfl (wSome rfl rfl rfl rfl hb19) rfl rfl rfl trivial ?_
          refine cSplit rfl rfl rfl (fun hb20 => ?_) (fun hb20 => ?_)
          · replace h := cnd_t hb20 h
            iterate 3 refine cVal tt rfl (wSome rfl rfl rfl rfl hb20) rfl rfl rfl trivial ?_
            obtain ⟨hg21, h⟩ := grd_inv h
            refine cVal tt rfl (wSome rfl rfl rfl rfl hb20) rfl rfl rfl hg21 ?_
            obtain ⟨hg22, h⟩ := grd_inv h
            refine cVal tt rfl (wSome rfl rfl rfl rfl hb20) rfl rfl rfl hg22 ?_
            iterate 4 refine cVal tt rfl (wSome rfl rfl rfl rfl hb20) rfl rfl rfl trivial ?_
            refine cVal tt rfl (wSome rfl rfl rfl rfl hb20) rfl rfl rfl hg17 ?_
            iterate 2 refine cVal tt rfl (wSome rfl rfl rfl rfl hb20) rfl rfl rfl trivial ?_
            refine cPickT rfl (wSome rfl rfl rfl rfl hb19) rfl rfl rfl hb20 rfl ?_
            refine cPickF rfl (wNone rfl) rfl rfl rfl hb19 rfl ?_
            refine cNil ?_
            change VC _ _ _ _
            refine vCond rfl (fun hb23 => ?_) (fun hb23 => ?_)
            · replace h := cnd_t hb23 h
              refine vSeq ?_
              refine vRegion ?_
              refine oVal tt rfl rfl rfl rfl rfl trivial ?_
              refine vNil ?_
              change VC _ _ _ _
              refine vRet ?_
              change ∃ _, _
              cases h
              exact ⟨[], _, rfl, trivial, rfl, (.eq rfl), rfl⟩
            · replace h := cnd_f hb23 h
              refine vSkip ?_
              change VC _ _ _ _
              refine vRegion ?_
              refine oVal tt rfl rfl rfl rfl rfl trivial ?_
              obtain ⟨hg24, h⟩ := grd_inv h
              refine oVal tt rfl rfl rfl rfl rfl hg24 ?_
              refine oVal tt rfl rfl rfl rfl rfl trivial ?_
              refine vNil ?_
              change ∃ _, _
              exact ⟨(i19 + (1 : Int)), (En.of ⟨rfl, rfl, trivial⟩ trivial ⟨rfl, trivial⟩), h⟩
          · replace h := cnd_f hb20 h
            iterate 12 refine cNoT rfl rfl rfl rfl hb20 rfl rfl ?_
            refine cPickF rfl (wSome rfl rfl rfl rfl hb19) rfl rfl rfl hb20 rfl ?_
            refine cPickF rfl (wNone rfl) rfl rfl rfl hb19 rfl ?_
            refine cNil ?_
            change VC _ _ _ _
            refine vCondF rfl rfl ?_
            refine vSkip ?_
            change VC _ _ _ _
            refine vRegion ?_
            refine oVal tt rfl rfl rfl rfl rfl trivial ?_
            obtain ⟨hg25, h⟩ := grd_inv h
            refine oVal tt rfl rfl rfl rfl rfl hg25 ?_
            refine oVal tt rfl rfl rfl rfl rfl trivial ?_
            refine vNil ?_
            change ∃ _, _
            exact ⟨(i19 + (1 : Int)), (En.of ⟨rfl, rfl, trivial⟩ trivial ⟨rfl, trivial⟩), h⟩
    · replace h := cnd_f hb16 h
      refine vExit ?_
      change ∃ _, _
      exact ⟨(), (En.of ⟨rfl, trivial⟩ trivial ⟨rfl, trivial⟩), h⟩
def S_InnerPoints_l1 (N : Nat) (p_0 : Pin) (k : (List Int) → Option (List Int)) : Nat → ((List Int) × Int) → Option (List Int)
  | 0, _ => none
  | n + 1, (l17, i18) =>
    cnd (decide (i18 < p_0.g.n)) (
      (S_IsPinned N p_0).bind fun v21 =>
      cnd v21 (
        (S_l2Has N p_0.ground i18).bind fun v22 =>
        cnd (!v22) (
          grd (l17.length + 1 ≤ 4294967296) <|
          grd (Rg64 (i18 + (1 : Int))) <|
          S_InnerPoints_l1 N p_0 k n ((l17 ++ ([i18] : List Int)), (i18 + (1 : Int)))) (
          grd (Rg64 (i18 + (1 : Int))) <|
          S_InnerPoints_l1 N p_0 k n (l17, (i18 + (1 : Int))))) (
        k l17)) (
      k l17)
def S_InnerPoints (N : Nat) (p_0 : Pin) : Option (List Int) :=
  S_InnerPoints_l1 N p_0 (fun (l11 : List Int) =>
        some l11) N (([] : List Int), (0 : Int))
set_option maxRecDepth 20000 in
set_option maxHeartbeats 1600000 in
theorem S_InnerPoints_w (N : Nat) (p_0 : Pin) (r : List Int) (h : S_InnerPoints N p_0 = some r) : PCall Try.prog 95 [pD p_0] [(3, .ints r)] (.row 0 0 r.length) := by
  unfold S_InnerPoints at h
  refine pcall_intro (TT := TT) tt Try.func95 rfl rfl Try.ntmps95 (congrArg Array.toList Try.results95) rfl rfl fun w0 => ?_
  refine vSeq ?_
  refine vRegion ?_
  refine oBox rfl rfl rfl rfl rfl rfl rfl rfl rfl ?_
  refine oVal tt rfl rfl rfl rfl rfl trivial ?_
  refine vNil ?_
  change VC _ _ _ _
  refine vSeq ?_
  refine vRegion ?_
  refine oEmpty tt (wNone rfl) rfl rfl rfl rfl ?_
  refine oVal tt rfl rfl rfl rfl rfl trivial ?_
  refine vNil ?_
  change VC _ _ _ _
  iterate 2 refine vSeq ?_
  refine vRegion ?_
  refine oVal tt rfl rfl rfl rfl rfl trivial ?_
  refine vNil ?_
  change VC _ _ _ _
  refine vJoin (F := fun k => S_InnerPoints_l1 N p_0 k) h (α := List Int) (J := fun (l11 : List Int) => (⟨[(3, .row 25 0 l11.length)], [(25, some (3, .ints l11))], []⟩ : PS)) ?_ ?_
  · rintro l11 h
    show VC _ _ _ (⟨[(3, .row 25 0 l11.length)], [(25, some (3, .ints l11))], []⟩ : PS)
    refine vSeq ?_
    refine vRegion ?_
    iterate 2 refine oVal tt rfl rfl rfl rfl rfl trivial ?_
    refine vNil ?_
    change VC _ _ _ _
    refine vRet ?_
    change ∃ _, _
    cases h
    exact ⟨[25], _, rfl, ⟨rfl, trivial⟩, rfl, (.eq rfl), rfl⟩
  · intro k h
    refine vBlock ?_
    refine vNilT 3 25 3 (.ints []) rfl rfl rfl rfl ?_
    refine vLoopS (α := (List Int) × Int) (fun | (l17, i18) => (⟨[(1, .ptr 1 0), (3, .row 25 0 l17.length), (4, .int i18)], [(25, some (3, .ints l17))], [(1, some [.int p_0.g.n, .ro false (.pairs p_0.g.bars), .ro false (.ints p_0.ground)])]⟩ : PS)) (S_InnerPoints_l1 N p_0 k) h (En.of ⟨rfl, rfl, rfl, trivial⟩ ⟨rfl, trivial⟩ ⟨rfl, trivial⟩) (fun _ => rfl) ?_
    rintro n ⟨l17, i18⟩ h
    rw [S_InnerPoints_l1] at h
    show VC _ _ _ (⟨[(1, .ptr 1 0), (3, .row 25 0 l17.length), (4, .int i18)], [(25, some (3, .ints l17))], [(1, some [.int p_0.g.n, .ro false (.pairs p_0.g.bars), .ro false (.ints p_0.ground)])]⟩ : PS)
    iterate 2 refine vSeq ?_
    refine vRegion ?_
    iterate 6 refine oVal tt rfl rfl rfl rfl rfl trivial ?_
    refine oSplit rfl rfl rfl (fun hb1 => ?_) (fun hb1 => ?_)
    · replace h := cnd_t hb1 h
      refine oValG tt rfl rfl rfl rfl rfl hb1 rfl rfl rfl trivial ?_
      obtain ⟨v21, hc2, h⟩ := bind_inv h
      refine oCallG (S_IsPinned_w N p_0 v21 hc2) rfl rfl rfl rfl hb1 rfl rfl rfl rfl rfl rfl rfl ⟨⟨rfl, rfl, rfl, trivial⟩, trivial⟩ ?_
      refine oPick rfl rfl rfl rfl rfl hb1 rfl ?_
      refine vNil ?_
      change VC _ _ _ _
      refine vCond rfl (fun hb3 => ?_) (fun hb3 => ?_)
      · replace h := cnd_t hb3 h
        refine vSkip ?_
        change VC _ _ _ _
        refine vSeq ?_
        refine vBlock ?_
        refine vSeq ?_
        refine vRegion ?_
        iterate 3 refine oVal tt rfl rfl rfl rfl rfl trivial ?_
        obtain ⟨v22, hc4, h⟩ := bind_inv h
        refine oCall (S_l2Has_w N p_0.ground i18 v22 hc4) rfl rfl rfl rfl rfl rfl rfl rfl ⟨rfl, rfl, trivial⟩ ?_
        refine oVal tt rfl rfl rfl rfl rfl trivial ?_
        refine vNil ?_
        change VC _ _ _ _
        refine vCond rfl (fun hb5 => ?_) (fun hb5 => ?_)
        · replace h := cnd_t hb5 h
          refine vRegion ?_
          iterate 2 refine oVal tt rfl rfl rfl rfl rfl trivial ?_
          refine oBuild tt rfl rfl rfl rfl rfl rfl rfl rfl rfl rfl rfl ?_
          obtain ⟨hg6, h⟩ := grd_inv h
          refine oAppend tt rfl rfl rfl rfl rfl rfl rfl rfl rfl rfl rfl rfl rfl rfl rfl rfl (Nat.le_of_eq (Nat.zero_add _)) hg6 ?_
          refine oVal tt rfl rfl rfl rfl rfl trivial ?_
          refine vNil ?_
          change VC _ _ _ _
          refine vRegion ?_
          refine oVal tt rfl rfl rfl rfl rfl trivial ?_
          obtain ⟨hg7, h⟩ := grd_inv h
          refine oVal tt rfl rfl rfl rfl rfl hg7 ?_
          refine oVal tt rfl rfl rfl rfl rfl trivial ?_
          refine vNil ?_
          change ∃ _, _
          exact ⟨((l17 ++ ([i18] : List Int)), (i18 + (1 : Int))), (En.of ⟨rfl, rfl, rfl, trivial⟩ ⟨rfl, trivial⟩ ⟨rfl, trivial⟩), h⟩
        · replace h := cnd_f hb5 h
          refine vSkip ?_
          change VC _ _ _ _
          refine vRegion ?_
          refine oVal tt rfl rfl rfl rfl rfl trivial ?_
          obtain ⟨hg8, h⟩ := grd_inv h
          refine oVal tt rfl rfl rfl rfl rfl hg8 ?_
          refine oVal tt rfl rfl rfl rfl rfl trivial ?_
          refine vNil ?_
          change ∃ _, _
          exact ⟨(l17, (i18 + (1 : Int))), (En.of ⟨rfl, rfl, rfl, trivial⟩ ⟨rfl, trivial⟩ ⟨rfl, trivial⟩), h⟩
      · replace h := cnd_f hb3 h
        refine vExit ?_
        change ∃ _, _
        exact ⟨l17, (En.of ⟨rfl, trivial⟩ ⟨rfl, trivial⟩ trivial), h⟩
    · replace h := cnd_f hb1 h
      iterate 2 refine oNoT rfl rfl rfl rfl hb1 rfl rfl ?_
      refine oPickF rfl rfl rfl rfl rfl hb1 rfl ?_
      refine vNil ?_
      change VC _ _ _ _
      refine vCondF rfl rfl ?_
      refine vExit ?_
      change ∃ _, _
      exact ⟨l17, (En.of ⟨rfl, trivial⟩ ⟨rfl, trivial⟩ trivial), h⟩
def S_AreOwners_l1 (N : Nat) (p_0 : Pin) (l10 : List Int) (v11 : List Int) (k : Unit → Option (Bool)) : Nat → Int → Option (Bool)
  | 0, _ => none
  | n + 1, i14 =>
    cnd (decide (i14 < (v11.length : Int))) (
      grd (0 ≤ i14 ∧ i14 < (v11.length : Int)) <|
      grd (0 ≤ (v11.getD ((i14).toNat) 0) ∧ (v11.getD ((i14).toNat) 0) < ((List.replicate ((p_0.g.n).toNat) (0 : Int)).length : Int)) <|
      grd (0 ≤ (v11.getD ((i14).toNat) 0) ∧ (v11.getD ((i14).toNat) 0) < (l10.length : Int)) <|
      cnd ((l10.getD (((v11.getD ((i14).toNat) 0)).toNat) 0) != (2 : Int)) (
        some false) (
        grd (Rg64 (i14 + (1 : Int))) <|
        S_AreOwners_l1 N p_0 l10 v11 k n (i14 + (1 : Int)))) (
      k ())
def S_AreOwners_l2 (N : Nat) (p_0 : Pin) (l_1 : List Int) (k : (List Int) → Option (Bool)) : Nat → ((List Int) × Int) → Option (Bool)
  | 0, _ => none
  | n + 1, (l18, i19) =>
    cnd (decide (i19 < (l_1.length : Int))) (
      grd (0 ≤ i19 ∧ i19 < (l_1.length : Int)) <|
      grd (0 ≤ i19 ∧ i19 < (p_0.g.bars.length : Int)) <|
      cnd ((l_1.getD ((i19).toNat) 0) != ((p_0.g.bars.getD ((i19).toNat) (0, 0)).1)) (
        cnd ((l_1.getD ((i19).toNat) 0) != ((p_0.g.bars.getD ((i19).toNat) (0, 0)).2)) (
          some false) (
          (S_l2Has N p_0.ground (l_1.getD ((i19).toNat) 0)).bind fun v22 =>
          cnd v22 (
            some false) (
            grd (0 ≤ (l_1.getD ((i19).toNat) 0) ∧ (l_1.getD ((i19).toNat) 0) < ((List.replicate ((p_0.g.n).toNat) (0 : Int)).length : Int)) <|
            grd (0 ≤ (l_1.getD ((i19).toNat) 0) ∧ (l_1.getD ((i19).toNat) 0) < (l18.length : Int)) <|
            grd (Rg64 ((l18.getD (((l_1.getD ((i19).toNat) 0)).toNat) 0) + (1 : Int))) <|
            grd (Rg64 (i19 + (1 : Int))) <|
            S_AreOwners_l2 N p_0 l_1 k n ((l18.set (((l_1.getD ((i19).toNat) 0)).toNat) ((l18.getD (((l_1.getD ((i19).toNat) 0)).toNat) 0) + (1 : Int))), (i19 + (1 : Int)))))) (
        (S_l2Has N p_0.ground (l_1.getD ((i19).toNat) 0)).bind fun v23 =>
        cnd v23 (
          some false) (
          grd (0 ≤ (l_1.getD ((i19).toNat) 0) ∧ (l_1.getD ((i19).toNat) 0) < ((List.replicate ((p_0.g.n).toNat) (0 : Int)).length : Int)) <|
          grd (0 ≤ (l_1.getD ((i19).toNat) 0) ∧ (l_1.getD ((i19).toNat) 0) < (l18.length : Int)) <|
          grd (Rg64 ((l18.getD (((l_1.getD ((i19).toNat) 0)).toNat) 0) + (1 : Int))) <|
          grd (Rg64 (i19 + (1 : Int))) <|
          S_AreOwners_l2 N p_0 l_1 k n ((l18.set (((l_1.getD ((i19).toNat) 0)).toNat) ((l18.getD (((l_1.getD ((i19).toNat) 0)).toNat) 0) + (1 : Int))), (i19 + (1 : Int)))))) (
      k l18)
def S_AreOwners (N : Nat) (p_0 : Pin) (l_1 : List Int) : Option (Bool) :=
  (S_IsPinned N p_0).bind fun v1 =>
  cnd (!v1) (
    some false) (
    cnd ((l_1.length : Int) != (p_0.g.bars.length : Int)) (
      some false) (
      grd (0 ≤ p_0.g.n ∧ p_0.g.n ≤ 4294967296) <|
      S_AreOwners_l2 N p_0 l_1 (fun (l10 : List Int) =>
            (S_InnerPoints N p_0).bind fun v11 =>
            S_AreOwners_l1 N p_0 l10 v11 (fun (_ : Unit) =>
                  some true) N (0 : Int)) N ((List.replicate ((p_0.g.n).toNat) (0 : Int)), (0 : Int))))
set_option maxRecDepth 20000 in
set_option maxHeartbeats 1600000 in
theorem S_AreOwners_w (N : Nat) (p_0 : Pin) (l_1 : List Int) (r : Bool) (h : S_AreOwners N p_0 l_1 = some r) : PCall Try.prog 42 [pD p_0, .ro false (.ints l_1)] [] (.bool r) := by
  unfold S_AreOwners at h
  refine pcall_intro (TT := TT) tt Try.func42 rfl rfl Try.ntmps42 (congrArg Array.toList Try.results42) rfl rfl fun w0 => ?_
  refine vSeq ?_
  refine vRegion ?_
  refine oBox rfl rfl rfl rfl rfl rfl rfl rfl rfl ?_
  refine oVal tt rfl rfl rfl rfl rfl trivial ?_
  refine vNil ?_
  change VC _ _ _ _
  iterate 2 refine vSeq ?_
  refine vRegion ?_
  refine oVal tt rfl rfl rfl rfl rfl trivial ?_
  obtain ⟨v1, hc1, h⟩ := bind_inv h
  refine oCall (S_IsPinned_w N p_0 v1 hc1) rfl rfl rfl rfl rfl rfl rfl rfl ⟨⟨rfl, rfl, rfl, trivial⟩, trivial⟩ ?_
  iterate 2 refine oVal tt rfl rfl rfl rfl rfl trivial ?_
  refine oSplit rfl rfl rfl (fun hb2 => ?_) (fun hb2 => ?_)
  · replace h := cnd_t hb2 h
    iterate 7 refine oNoF rfl rfl rfl rfl hb2 rfl rfl ?_
    refine oPick rfl rfl rfl rfl rfl hb2 rfl ?_
    refine vNil ?_
    change VC _ _ _ _
    refine vCondT rfl rfl ?_
    refine vSeq ?_
    refine vRegion ?_
    refine oVal tt rfl rfl rfl rfl rfl trivial ?_
    refine vNil ?_
    change VC _ _ _ _
    refine vRet ?_
    change ∃ _, _
    cases h
    exact ⟨[], _, rfl, trivial, rfl, (.eq rfl), rfl⟩
  · replace h := cnd_f hb2 h
    iterate 7 refine oValG tt rfl rfl rfl rfl rfl hb2 rfl rfl rfl trivial ?_
    refine oPickF rfl rfl rfl rfl rfl hb2 rfl ?_
    refine vNil ?_
    change VC _ _ _ _
    refine vCond rfl (fun hb3 => ?_) (fun hb3 => ?_)
    · replace h := cnd_t hb3 h
      refine vSeq ?_
      refine vRegion ?_
      refine oVal tt rfl rfl rfl rfl rfl trivial ?_
      refine vNil ?_
      change VC _ _ _ _
      refine vRet ?_
      change ∃ _, _
      cases h
      exact ⟨[], _, rfl, trivial, rfl, (.eq rfl), rfl⟩
    · replace h := cnd_f hb3 h
      refine vSkip ?_
      change VC _ _ _ _
      refine vSeq ?_
      refine vRegion ?_
      iterate 3 refine oVal tt rfl rfl rfl rfl rfl trivial ?_
      obtain ⟨hg4, h⟩ := grd_inv h
      refine oMake tt rfl rfl rfl rfl rfl rfl rfl rfl rfl rfl rfl hg4 ?_
      refine oVal tt rfl rfl rfl rfl rfl trivial ?_
      refine vNil ?_
      change VC _ _ _ _
      iterate 2 refine vSeq ?_
      refine vRegion ?_
      refine oVal tt rfl rfl rfl rfl rfl trivial ?_
      refine vNil ?_
      change VC _ _ _ _
      refine vJoin (F := fun k => S_AreOwners_l2 N p_0 l_1 k) h (α := List Int) (J := fun (l10 : List Int) => (⟨[(2, .ptr 2 0), (5, .row 24 0 ((List.replicate ((p_0.g.n).toNat) (0 : Int)).length))], [(24, some (3, .ints l10))], [(2, some [.int p_0.g.n, .ro false (.pairs p_0.g.bars), .ro false (.ints p_0.ground)])]⟩ : PS)) ?_ ?_
      · rintro l10 h
        show VC _ _ _ (⟨[(2, .ptr 2 0), (5, .row 24 0 ((List.replicate ((p_0.g.n).toNat) (0 : Int)).length))], [(24, some (3, .ints l10))], [(2, some [.int p_0.g.n, .ro false (.pairs p_0.g.bars), .ro false (.ints p_0.ground)])]⟩ : PS)
        refine vSeq ?_
        refine vRegion ?_
        refine oVal tt rfl rfl rfl rfl rfl trivial ?_
        obtain ⟨v11, hc5, h⟩ := bind_inv h
        refine oCall (S_InnerPoints_w N p_0 v11 hc5) rfl rfl rfl rfl rfl rfl rfl rfl ⟨⟨rfl, rfl, rfl, trivial⟩, trivial⟩ ?_
        refine oVal tt rfl rfl rfl rfl rfl trivial ?_
        refine vNil ?_
        change VC _ _ _ _
        iterate 2 refine vSeq ?_
        refine vRegion ?_
        refine oVal tt rfl rfl rfl rfl rfl trivial ?_
        refine vNil ?_
        change VC _ _ _ _
        refine vJoin (F := fun k => S_AreOwners_l1 N p_0 l10 v11 k) h (α := Unit) (J := fun (_ : Unit) => (⟨[], [], []⟩ : PS)) ?_ ?_
        · rintro ⟨⟩ h
          show VC _ _ _ (⟨[], [], []⟩ : PS)
          refine vSeq ?_
          refine vRegion ?_
          refine oVal tt rfl rfl rfl rfl rfl trivial ?_
          refine vNil ?_
          change VC _ _ _ _
          refine vRet ?_
          change ∃ _, _
          cases h
          exact ⟨[], _, rfl, trivial, rfl, (.eq rfl), rfl⟩
        · intro k h
          refine vBlock ?_
          refine vLoopS (α := Int) (fun (i14 : Int) => (⟨[(5, .row 24 0 ((List.replicate ((p_0.g.n).toNat) (0 : Int)).length)), (7, .row 1810 0 v11.length), (8, .int i14)], [(24, some (3, .ints l10)), (1810, some (3, .ints v11))], []⟩ : PS)) (S_AreOwners_l1 N p_0 l10 v11 k) h (En.of ⟨rfl, rfl, rfl, trivial⟩ ⟨rfl, rfl, trivial⟩ trivial) (fun _ => rfl) ?_
          rintro n i14 h
          rw [S_AreOwners_l1] at h
          show VC _ _ _ (⟨[(5, .row 24 0 ((List.replicate ((p_0.g.n).toNat) (0 : Int)).length)), (7, .row 1810 0 v11.length), (8, .int i14)], [(24, some (3, .ints l10)), (1810, some (3, .ints v11))], []⟩ : PS)
          iterate 2 refine vSeq ?_
          refine vRegion ?_
          iterate 4 refine oVal tt rfl rfl rfl rfl rfl trivial ?_
          refine vNil ?_
          change VC _ _ _ _
          refine vCond rfl (fun hb6 => ?_) (fun hb6 => ?_)
          · replace h := cnd_t hb6 h
            refine vSkip ?_
            change VC _ _ _ _
            refine vSeq ?_
            refine vBlock ?_
            refine vSeq ?_
            refine vRegion ?_
            iterate 3 refine oVal tt rfl rfl rfl rfl rfl trivial ?_
            obtain ⟨hg7, h⟩ := grd_inv h
            iterate 2 refine oVal tt rfl rfl rfl rfl rfl hg7 ?_
            obtain ⟨hg8, h⟩ := grd_inv h
            refine oVal tt rfl rfl rfl rfl rfl hg8 ?_
            obtain ⟨hg9, h⟩ := grd_inv h
            refine oVal tt rfl rfl rfl rfl rfl hg9 ?_
            refine oVal tt rfl rfl rfl rfl rfl trivial ?_
            refine vNil ?_
            change VC _ _ _ _
            refine vCond rfl (fun hb10 => ?_) (fun hb10 => ?_)
            · replace h := cnd_t hb10 h
              refine vSeq ?_
              refine vRegion ?_
              refine oVal tt rfl rfl rfl rfl rfl trivial ?_
              refine vNil ?_
              change VC _ _ _ _
              refine vRet ?_
              change ∃ _, _
              cases h
              exact ⟨[], _, rfl, trivial, rfl, (.eq rfl), rfl⟩
            · replace h := cnd_f hb10 h
              refine vSkip ?_
              change VC _ _ _ _
              refine vRegion ?_
              refine oVal tt rfl rfl rfl rfl rfl trivial ?_
              obtain ⟨hg11, h⟩ := grd_inv h
              refine oVal tt rfl rfl rfl rfl rfl hg11 ?_
              refine oVal tt rfl rfl rfl rfl rfl trivial ?_
              refine vNil ?_
              change ∃ _, _
              exact ⟨(i14 + (1 : Int)), (En.of ⟨rfl, rfl, rfl, trivial⟩ ⟨rfl, rfl, trivial⟩ trivial), h⟩
          · replace h := cnd_f hb6 h
            refine vExit ?_
            change ∃ _, _
            exact ⟨(), (En.of trivial trivial trivial), h⟩
      · intro k h
        refine vBlock ?_
        refine vLoopS (α := (List Int) × Int) (fun | (l18, i19) => (⟨[(1, .ro false (.ints l_1)), (2, .ptr 2 0), (5, .row 24 0 ((List.replicate ((p_0.g.n).toNat) (0 : Int)).length)), (6, .int i19)], [(24, some (3, .ints l18))], [(2, some [.int p_0.g.n, .ro false (.pairs p_0.g.bars), .ro false (.ints p_0.ground)])]⟩ : PS)) (S_AreOwners_l2 N p_0 l_1 k) h (En.of ⟨rfl, rfl, rfl, rfl, trivial⟩ ⟨rfl, trivial⟩ ⟨rfl, trivial⟩) (fun _ => rfl) ?_
        rintro n ⟨l18, i19⟩ h
        rw [S_AreOwners_l2] at h
        show VC _ _ _ (⟨[(1, .ro false (.ints l_1)), (2, .ptr 2 0), (5, .row 24 0 ((List.replicate ((p_0.g.n).toNat) (0 : Int)).length)), (6, .int i19)], [(24, some (3, .ints l18))], [(2, some [.int p_0.g.n, .ro false (.pairs p_0.g.bars), .ro false (.ints p_0.ground)])]⟩ : PS)
        iterate 2 refine vSeq ?_
        refine vRegion ?_
        iterate 4 refine oVal tt rfl rfl rfl rfl rfl trivial ?_
        refine vNil ?_
        change VC _ _ _ _
        refine vCond rfl (fun hb12 => ?_) (fun hb12 => ?_)
        · replace h := cnd_t hb12 h
          refine vSkip ?_
          change VC _ _ _ _
          refine vSeq ?_
          refine vBlock ?_
          iterate 2 refine vSeq ?_
          refine vRegionD (by kernel_rfl) (by kernel_rfl) ?_
          iterate 2 refine cVal tt rfl (wNone rfl) rfl rfl rfl trivial ?_
          obtain ⟨hg13, h⟩ := grd_inv h
          refine cVal tt rfl (wNone rfl) rfl rfl rfl hg13 ?_
          iterate 5 refine cVal tt rfl (wNone rfl) rfl rfl rfl trivial ?_
          obtain ⟨hg14, h⟩ := grd_inv h
          refine cVal tt rfl (wNone rfl) rfl rfl rfl hg14 ?_
          iterate 4 refine cVal tt rfl (wNone rfl) rfl rfl rfl trivial ?_
          refine cSplit rfl rfl rfl (fun hb15 => ?_) (fun hb15 => ?_)
          · replace h := cnd_t hb15 h
            iterate 2 refine cVal tt rfl (wSome rfl rfl rfl rfl hb15) rfl rfl rfl trivial ?_
            refine cVal tt rfl (wSome rfl rfl rfl rfl hb15) rfl rfl rfl hg13 ?_
            iterate 5 refine cVal tt rfl (wSome rfl rfl rfl rfl hb15) rfl rfl rfl trivial ?_
            refine cVal tt rfl (wSome rfl rfl rfl rfl hb15) rfl rfl rfl hg14 ?_
            iterate 3 refine cVal tt rfl (wSome rfl rfl rfl rfl hb15) rfl rfl rfl trivial ?_
            refine cPickT rfl (wNone rfl) rfl rfl rfl hb15 rfl ?_
            refine cVal tt rfl (wNone rfl) rfl rfl rfl trivial ?_
            refine cSplit rfl rfl rfl (fun hb16 => ?_) (fun hb16 => ?_)
            · replace h := cnd_t hb16 h
              iterate 7 refine cNoF rfl rfl rfl rfl hb16 rfl rfl ?_
              refine cPickT rfl (wNone rfl) rfl rfl rfl hb16 rfl ?_
              refine cNil ?_
              change VC _ _ _ _
              refine vCondT rfl rfl ?_
              refine vSeq ?_
              refine vRegion ?_
              refine oVal tt rfl rfl rfl rfl rfl trivial ?_
              refine vNil ?_
              change VC _ _ _ _
              refine vRet ?_
              change ∃ _, _
              cases h
              exact ⟨[], _, rfl, trivial, rfl, (.eq rfl), rfl⟩
            · replace h := cnd_f hb16 h
              iterate 4 refine cVal tt rfl (wSome rfl rfl rfl rfl hb16) rfl rfl rfl trivial ?_
              refine cVal tt rfl (wSome rfl rfl rfl rfl hb16) rfl rfl rfl hg13 ?_
              refine cVal tt rfl (wSome rfl rfl rfl rfl hb16) rfl rfl rfl trivial ?_
              obtain ⟨v22, hc17, h⟩ := bind_inv h
              refine cCall (S_l2Has_w N p_0.ground (l_1.getD ((i19).toNat) 0) v22 hc17) rfl (wSome rfl rfl rfl rfl hb16) rfl rfl rfl rfl rfl rfl ⟨rfl, rfl, trivial⟩ ?_
              refine cPickF rfl (wNone rfl) rfl rfl rfl hb16 rfl ?_
              refine cNil ?_
              change VC _ _ _ _
              refine vCond rfl (fun hb18 => ?_) (fun hb18 => ?_)
              · replace h := cnd_t hb18 h
                refine vSeq ?_
                refine vRegion ?_
                refine oVal tt rfl rfl rfl rfl rfl trivial ?_
                refine vNil ?_
                change VC _ _ _ _
                refine vRet ?_
                change ∃ _, _
                cases h
                exact ⟨[], _, rfl, trivial, rfl, (.eq rfl), rfl⟩
              · replace h := cnd_f hb18 h
                refine vSkip ?_
                change VC _ _ _ _
                refine vRegionN 13 [] [0, 0, 0, 6, 14, 0, 0, 0, 192, 448, 992, 2016, 4064, 8191, 16383] (by kernel_rfl) (by kernel_rfl) (by kernel_rfl) (by kernel_rfl) (by kernel_rfl) rfl (by rfl) ?_
                iterate 3 refine nVal tt rfl (wNone rfl) rfl rfl rfl rfl rfl trivial ?_
                refine nVal tt rfl (wNone rfl) rfl rfl rfl rfl rfl hg13 ?_
                iterate 4 refine nVal tt rfl (wNone rfl) rfl rfl rfl rfl rfl trivial ?_
                refine nVal tt rfl (wNone rfl) rfl rfl rfl rfl rfl hg13 ?_
                refine nVal tt rfl (wNone rfl) rfl rfl rfl rfl rfl trivial ?_
                obtain ⟨hg19, h⟩ := grd_inv h
                refine nVal tt rfl (wNone rfl) rfl rfl rfl rfl rfl hg19 ?_
                obtain ⟨hg20, h⟩ := grd_inv h
                refine nVal tt rfl (wNone rfl) rfl rfl rfl rfl rfl hg20 ?_
                obtain ⟨hg21, h⟩ := grd_inv h
                refine nVal tt rfl (wNone rfl) rfl rfl rfl rfl rfl hg21 ?_
                refine nNil ?_
                change VO _ _ _ _ _
                refine oVal tt rfl rfl rfl rfl rfl hg19 ?_
                refine oStore tt rfl rfl rfl rfl rfl rfl rfl rfl rfl rfl ⟨_, _, rfl, hg20.1, hg20.2⟩ ⟨hg20, trivial⟩ ?_
                refine vNil ?_
                change VC _ _ _ _
                refine vRegion ?_
                refine oVal tt rfl rfl rfl rfl rfl trivial ?_
                obtain ⟨hg22, h⟩ := grd_inv h
                refine oVal tt rfl rfl rfl rfl rfl hg22 ?_
                refine oVal tt rfl rfl rfl rfl rfl trivial ?_
                refine vNil ?_
                change ∃ _, _
                exact ⟨((l18.set (((l_1.getD ((i19).toNat) 0)).toNat) ((l18.getD (((l_1.getD ((i19).toNat) 0)).toNat) 0) + (1 : Int))), (i19 + (1 : Int))), (En.of ⟨rfl, rfl, rfl, rfl, trivial⟩ ⟨rfl, trivial⟩ ⟨rfl, trivial⟩), h⟩
          · replace h := cnd_f hb15 h
            iterate 12 refine cNoT rfl rfl rfl rfl hb15 rfl rfl ?_
            refine cPickF rfl (wNone rfl) rfl rfl rfl hb15 rfl ?_
            refine cVal tt rfl (wNone rfl) rfl rfl rfl trivial ?_
            iterate 4 refine cVal tt rfl (wSome rfl rfl rfl rfl rfl) rfl rfl rfl trivial ?_
            refine cVal tt rfl (wSome rfl rfl rfl rfl rfl) rfl rfl rfl hg13 ?_
            refine cVal tt rfl (wSome rfl rfl rfl rfl rfl) rfl rfl rfl trivial ?_
            obtain ⟨v23, hc23, h⟩ := bind_inv h
            refine cCall (S_l2Has_w N p_0.ground (l_1.getD ((i19).toNat) 0) v23 hc23) rfl (wSome rfl rfl rfl rfl rfl) rfl rfl rfl rfl rfl rfl ⟨rfl, rfl, trivial⟩ ?_
            refine cPickF rfl (wNone rfl) rfl rfl rfl rfl rfl ?_
            refine cNil ?_
            change VC _ _ _ _
            refine vCond rfl (fun hb24 => ?_) (fun hb24 => ?_)
            · replace h := cnd_t hb24 h
              refine vSeq ?_
              refine vRegion ?_
              refine oVal tt rfl rfl rfl rfl rfl trivial ?_
              refine vNil ?_
              change VC _ _ _ _
              refine vRet ?_
              change ∃ _, _
              cases h
              exact ⟨[], _, rfl, trivial, rfl, (.eq rfl), rfl⟩
            · replace h := cnd_f hb24 h
              refine vSkip ?_
              change VC _ _ _ _
              refine vRegionN 13 [] [0, 0, 0, 6, 14, 0, 0, 0, 192, 448, 992, 2016, 4064, 8191, 16383] (by kernel_rfl) (by kernel_rfl) (by kernel_rfl) (by kernel_rfl) (by kernel_rfl) rfl (by rfl) ?_
              iterate 3 refine nVal tt rfl (wNone rfl) rfl rfl rfl rfl rfl trivial ?_
              refine nVal tt rfl (wNone rfl) rfl rfl rfl rfl rfl hg13 ?_
              iterate 4 refine nVal tt rfl (wNone rfl) rfl rfl rfl rfl rfl trivial ?_
              refine nVal tt rfl (wNone rfl) rfl rfl rfl rfl rfl hg13 ?_
              refine nVal tt rfl (wNone rfl) rfl rfl rfl rfl rfl trivial ?_
              obtain ⟨hg25, h⟩ := grd_inv h
              refine nVal tt rfl (wNone rfl) rfl rfl rfl rfl rfl hg25 ?_
              obtain ⟨hg26, h⟩ := grd_inv h
              refine nVal tt rfl (wNone rfl) rfl rfl rfl rfl rfl hg26 ?_
              obtain ⟨hg27, h⟩ := grd_inv h
              refine nVal tt rfl (wNone rfl) rfl rfl rfl rfl rfl hg27 ?_
              refine nNil ?_
              change VO _ _ _ _ _
              refine oVal tt rfl rfl rfl rfl rfl hg25 ?_
              refine oStore tt rfl rfl rfl rfl rfl rfl rfl rfl rfl rfl ⟨_, _, rfl, hg26.1, hg26.2⟩ ⟨hg26, trivial⟩ ?_
              refine vNil ?_
              change VC _ _ _ _
              refine vRegion ?_
              refine oVal tt rfl rfl rfl rfl rfl trivial ?_
              obtain ⟨hg28, h⟩ := grd_inv h
              refine oVal tt rfl rfl rfl rfl rfl hg28 ?_
              refine oVal tt rfl rfl rfl rfl rfl trivial ?_
              refine vNil ?_
              change ∃ _, _
              exact ⟨((l18.set (((l_1.getD ((i19).toNat) 0)).toNat) ((l18.getD (((l_1.getD ((i19).toNat) 0)).toNat) 0) + (1 : Int))), (i19 + (1 : Int))), (En.of ⟨rfl, rfl, rfl, rfl, trivial⟩ ⟨rfl, trivial⟩ ⟨rfl, trivial⟩), h⟩
        · replace h := cnd_f hb12 h
          refine vExit ?_
          change ∃ _, _
          exact ⟨l18, (En.of ⟨rfl, rfl, trivial⟩ ⟨rfl, trivial⟩ ⟨rfl, trivial⟩), h⟩
def L_toPinned (N : Nat) (a_0 : Pin) : Option (Pin) :=
  (L_toGraph N a_0.g).bind fun v1 =>
  (L_toIntS N a_0.ground).bind fun v2 =>
  some (⟨⟨v1.n, v1.bars⟩, v2⟩ : Pin)
set_option maxRecDepth 20000 in
set_option maxHeartbeats 1600000 in
theorem L_toPinned_w (N : Nat) (a_0 : Pin) (r : Pin) (h : L_toPinned N a_0 = some r) : PCall Try.prog 43 [pD a_0] [(105, .pairs r.g.bars), (3, .ints r.ground)] (.agg [.int r.g.n, .row 0 0 r.g.bars.length, .row 1 0 r.ground.length]) := by
  unfold L_toPinned at h
  refine pcall_intro (TT := TT) tt Try.func43 rfl rfl Try.ntmps43 (congrArg Array.toList Try.results43) rfl rfl fun w0 => ?_
  refine vSeq ?_
  refine vRegion ?_
  refine oBox rfl rfl rfl rfl rfl rfl rfl rfl rfl ?_
  refine oAlloc tt rfl rfl rfl rfl rfl rfl rfl rfl rfl ?_
  refine vNil ?_
  change VC _ _ _ _
  refine vSeq ?_
  refine vRegion ?_
  refine oAlloc tt rfl rfl rfl rfl rfl rfl rfl rfl rfl ?_
  refine vNil ?_
  change VC _ _ _ _
  refine vSeq ?_
  refine vRegion ?_
  iterate 2 refine oVal tt rfl rfl rfl rfl rfl trivial ?_
  obtain ⟨v1, hc1, h⟩ := bind_inv h
  refine oCall (L_toGraph_w N a_0.g v1 hc1) rfl rfl rfl rfl rfl rfl rfl rfl ⟨⟨rfl, rfl, trivial⟩, trivial⟩ ?_
  refine oVal tt rfl rfl rfl rfl rfl trivial ?_
  refine oStore tt rfl rfl rfl rfl rfl rfl rfl rfl rfl rfl rfl ⟨trivial, trivial, trivial⟩ ?_
  refine vNil ?_
  change VC _ _ _ _
  refine vSeq ?_
  refine vRegion ?_
  iterate 2 refine oVal tt rfl rfl rfl rfl rfl trivial ?_
  obtain ⟨v2, hc2, h⟩ := bind_inv h
  refine oCall (L_toIntS_w N a_0.ground v2 hc2) rfl rfl rfl rfl rfl rfl rfl rfl ⟨rfl, trivial⟩ ?_
  refine oVal tt rfl rfl rfl rfl rfl trivial ?_
  refine oStore tt rfl rfl rfl rfl rfl rfl rfl rfl rfl rfl rfl ⟨trivial, trivial⟩ ?_
  refine vNil ?_
  change VC _ _ _ _
  refine vSeq ?_
  refine vRegion ?_
  refine oVal tt rfl rfl rfl rfl rfl trivial ?_
  refine oStore tt rfl rfl rfl rfl rfl rfl rfl rfl rfl rfl rfl ⟨trivial, trivial, trivial, trivial⟩ ?_
  refine vNil ?_
  change VC _ _ _ _
  refine vRet ?_
  change ∃ _, _
  cases h
  exact ⟨[1060, 1100], _, rfl, ⟨rfl, rfl, trivial⟩, rfl, (.eq rfl), rfl⟩
def G_Index_int_l1 (N : Nat) (s_0 : List Int) (v_1 : Int) (k : Unit → Option (Int)) : Nat → Int → Option (Int)
  | 0, _ => none
  | n + 1, x3 =>
    cnd (decide (x3 < (s_0.length : Int))) (
      grd (0 ≤ x3 ∧ x3 < (s_0.length : Int)) <|
      cnd (v_1 == (s_0.getD ((x3).toNat) 0)) (
        some x3) (
        grd (Rg64 (x3 + (1 : Int))) <|
        G_Index_int_l1 N s_0 v_1 k n (x3 + (1 : Int)))) (
      k ())
def G_Index_int (N : Nat) (s_0 : List Int) (v_1 : Int) : Option (Int) :=
  G_Index_int_l1 N s_0 v_1 (fun (_ : Unit) =>
        some (-1 : Int)) N (0 : Int)
set_option maxRecDepth 20000 in
set_option maxHeartbeats 1600000 in
theorem G_Index_int_w (N : Nat) (s_0 : List Int) (v_1 : Int) (r : Int) (h : G_Index_int N s_0 v_1 = some r) : PCall Try.prog 125 [.ro false (.ints s_0), .int v_1] [] (.int r) := by
  unfold G_Index_int at h
  refine pcall_intro (TT := TT) tt Try.func125 rfl rfl Try.ntmps125 (congrArg Array.toList Try.results125) rfl rfl fun w0 => ?_
  refine vSeq ?_
  refine vRegion ?_
  refine oVal tt rfl rfl rfl rfl rfl trivial ?_
  refine vNil ?_
  change VC _ _ _ _
  iterate 2 refine vSeq ?_
  refine vRegion ?_
  iterate 3 refine oVal tt rfl rfl rfl rfl rfl trivial ?_
  refine vNil ?_
  change VC _ _ _ _
  refine vJoin (F := fun k => G_Index_int_l1 N s_0 v_1 k) h (α := Unit) (J := fun (_ : Unit) => (⟨[], [], []⟩ : PS)) ?_ ?_
  · rintro ⟨⟩ h
    show VC _ _ _ (⟨[], [], []⟩ : PS)
    refine vSeq ?_
    refine vRegion ?_
    refine oVal tt rfl rfl rfl rfl rfl trivial ?_
    refine vNil ?_
    change VC _ _ _ _
    refine vRet ?_
    change ∃ _, _
    cases h
    exact ⟨[], _, rfl, trivial, rfl, (.eq rfl), rfl⟩
  · intro k h
    refine vBlock ?_
    refine vLoopS (α := Int) (fun (x3 : Int) => (⟨[(0, .ro false (.ints s_0)), (1, .int v_1), (7, .int (s_0.length : Int)), (8, .int x3)], [], []⟩ : PS)) (G_Index_int_l1 N s_0 v_1 k) h (En.of ⟨rfl, rfl, rfl, rfl, trivial⟩ trivial trivial) (fun _ => rfl) ?_
    rintro n x3 h
    rw [G_Index_int_l1] at h
    show VC _ _ _ (⟨[(0, .ro false (.ints s_0)), (1, .int v_1), (7, .int (s_0.length : Int)), (8, .int x3)], [], []⟩ : PS)
    refine vSeq ?_
    refine vRegion ?_
    refine oVal tt rfl rfl rfl rfl rfl trivial ?_
    refine vNil ?_
    change VC _ _ _ _
    refine vSeq ?_
    refine vCond rfl (fun hb1 => ?_) (fun hb1 => ?_)
    · replace h := cnd_t hb1 h
      refine vSkip ?_
      change VC _ _ _ _
      refine vSeq ?_
      refine vBlock ?_
      refine vSeq ?_
      refine vRegion ?_
      iterate 2 refine oVal tt rfl rfl rfl rfl rfl trivial ?_
      refine vNil ?_
      change VC _ _ _ _
      refine vSeq ?_
      refine vRegion ?_
      iterate 3 refine oVal tt rfl rfl rfl rfl rfl trivial ?_
      obtain ⟨hg2, h⟩ := grd_inv h
      refine oVal tt rfl rfl rfl rfl rfl hg2 ?_
      iterate 2 refine oVal tt rfl rfl rfl rfl rfl trivial ?_
      refine vNil ?_
      change VC _ _ _ _
      refine vCond rfl (fun hb3 => ?_) (fun hb3 => ?_)
      · replace h := cnd_t hb3 h
        refine vSeq ?_
        refine vRegion ?_
        iterate 2 refine oVal tt rfl rfl rfl rfl rfl trivial ?_
        refine vNil ?_
        change VC _ _ _ _
        refine vRet ?_
        change ∃ _, _
        cases h
        exact ⟨[], _, rfl, trivial, rfl, (.eq rfl), rfl⟩
      · replace h := cnd_f hb3 h
        refine vSkip ?_
        change VC _ _ _ _
        refine vRegion ?_
        obtain ⟨hg4, h⟩ := grd_inv h
        refine oVal tt rfl rfl rfl rfl rfl hg4 ?_
        refine oVal tt rfl rfl rfl rfl rfl trivial ?_
        refine vNil ?_
        change ∃ _, _
        exact ⟨(x3 + (1 : Int)), (En.of ⟨rfl, rfl, rfl, rfl, trivial⟩ trivial trivial), h⟩
    · replace h := cnd_f hb1 h
      refine vExit ?_
      change ∃ _, _
      exact ⟨(), (En.of trivial trivial trivial), h⟩
end Go.Proofs.Ytlmlfbjcpajinaa
