/- Plain texts of functions, and that the program computes them (printed by gen.py). -/
import Derived.Test.YtkpmijmlbpdknaaShb
import Derived.Test.YtkpmijmlbpdknaaG15
import Derived.Test.YtkpmijmlbpdknaaG30
import Derived.Test.YtkpmijmlbpdknaaG40
namespace Go.Proofs.Ytkpmijmlbpdknaa
open Go.RowKit
set_option linter.unusedVariables false
set_option linter.unusedSimpArgs false
def I_SteadyPoints_l2 (N : Nat) (p_0 : Pin) (v2 : List (Int × Int)) (x116 : Int) (k : Bool → Option (List Int)) : Nat → (Bool × Int) → Option (List Int)
  | 0, _ => none
  | n + 1, (steady147, x148) =>
    cnd (decide (x148 < (p_0.ground.length : Int))) (
      grd (0 ≤ x148 ∧ x148 < (p_0.ground.length : Int)) <|
      cnd steady147 (
        cnd ((p_0.ground.getD ((x148).toNat) 0) == x116) (
          grd (Rg64 (x148 + (1 : Int))) <|
          I_SteadyPoints_l2 N p_0 v2 x116 k n (true, (x148 + (1 : Int)))) (
          (I_bar N (p_0.ground.getD ((x148).toNat) 0) x116).bind fun v151 =>
          (I_raises N p_0.g.n (v2 ++ p_0.g.bars) v151).bind fun v152 =>
          grd (Rg64 (x148 + (1 : Int))) <|
          I_SteadyPoints_l2 N p_0 v2 x116 k n ((!v152), (x148 + (1 : Int))))) (
        grd (Rg64 (x148 + (1 : Int))) <|
        I_SteadyPoints_l2 N p_0 v2 x116 k n (false, (x148 + (1 : Int))))) (
      k steady147)
def I_SteadyPoints_l1 (N : Nat) (p_0 : Pin) (v2 : List (Int × Int)) (k : (List Int) → Option (List Int)) : Nat → ((List Int) × Int) → Option (List Int)
  | 0, _ => none
  | n + 1, (l115, x116) =>
    cnd (decide (x116 < p_0.g.n)) (
      I_SteadyPoints_l2 N p_0 v2 x116 (fun (steady143 : Bool) =>
            cnd steady143 (
              grd (l115.length + 1 ≤ 4294967296) <|
              grd (Rg64 (x116 + (1 : Int))) <|
              I_SteadyPoints_l1 N p_0 v2 k n ((l115 ++ ([x116] : List Int)), (x116 + (1 : Int)))) (
              grd (Rg64 (x116 + (1 : Int))) <|
              I_SteadyPoints_l1 N p_0 v2 k n (l115, (x116 + (1 : Int))))) N (true, (0 : Int))) (
      k l115)
def I_SteadyPoints (N : Nat) (p_0 : Pin) : Option (List Int) :=
  (I_IsPinned N p_0).bind fun v1 =>
  cnd (!v1) (
    some ([] : List Int)) (
    (M_Pinned_held N p_0).bind fun v2 =>
    grd (v2.length + p_0.g.bars.length ≤ 4294967296) <|
    I_SteadyPoints_l1 N p_0 v2 (fun (l77 : List Int) =>
          some l77) N (([] : List Int), (0 : Int)))
set_option maxRecDepth 20000 in
set_option maxHeartbeats 1600000 in
theorem I_SteadyPoints_w (N : Nat) (p_0 : Pin) (r : List Int) (h : I_SteadyPoints N p_0 = some r) : PCall Try.prog 25 [pD p_0] [(3, .ints r)] (.row 0 0 r.length) := by
  unfold I_SteadyPoints at h
  refine pcall_intro (TT := TT) tt Try.func25 rfl rfl Try.ntmps25 (congrArg Array.toList Try.results25) rfl rfl fun w0 => ?_
  refine vSeq ?_
  refine vRegion ?_
  refine oBox rfl rfl rfl rfl rfl rfl rfl rfl rfl ?_
  refine oVal tt rfl rfl rfl rfl rfl trivial ?_
  refine vNil ?_
  change VC _ _ _ _
  refine vSeq ?_
  refine vRegion ?_
  refine oEmpty tt (wNone rfl) rfl rfl rfl rfl ?_
  refine oVal tt rfl rfl rfl rfl rfl trivial ?_
  refine vNil ?_
  change VC _ _ _ _
  iterate 2 refine vSeq ?_
  refine vRegion ?_
  refine oVal tt rfl rfl rfl rfl rfl trivial ?_
  obtain ⟨v1, hc1, h⟩ := bind_inv h
  refine oCall (I_IsPinned_w N p_0 v1 hc1) rfl rfl rfl rfl rfl rfl rfl rfl ⟨⟨rfl, rfl, rfl, trivial⟩, trivial⟩ ?_
  refine oVal tt rfl rfl rfl rfl rfl trivial ?_
  refine vNil ?_
  change VC _ _ _ _
  refine vCond rfl (fun hb2 => ?_) (fun hb2 => ?_)
  · replace h := cnd_t hb2 h
    refine vSeq ?_
    refine vRegion ?_
    iterate 2 refine oVal tt rfl rfl rfl rfl rfl trivial ?_
    refine vNil ?_
    change VC _ _ _ _
    refine vNilT 2 9001 3 (.ints []) rfl rfl rfl rfl ?_
    refine vRet ?_
    change ∃ _, _
    cases h
    exact ⟨[9001], _, rfl, ⟨rfl, trivial⟩, rfl, (.eq rfl), rfl⟩
  · replace h := cnd_f hb2 h
    refine vSkip ?_
    change VC _ _ _ _
    refine vSeq ?_
    refine vRegionN 5 [1] [0, 1, 0, 4, 12, 31, 63] (by kernel_rfl) (by kernel_rfl) (by kernel_rfl) (by kernel_rfl) (by kernel_rfl) rfl (by rfl) ?_
    refine nVal tt rfl (wNone rfl) rfl rfl rfl rfl rfl trivial ?_
    obtain ⟨v2, hc3, h⟩ := bind_inv h
    refine nCallR (M_Pinned_held_w N p_0 v2 hc3) rfl (wNone rfl) rfl rfl rfl rfl rfl rfl (by first | rfl | kernel_rfl | (simp [nrL, nm, gdst, nmT, rowB]; done)) rfl (by first | rfl | kernel_rfl | (simp [chkE, nrL, nm, gdst, nmT, rowB, hid, ment, mentA, mentS]; done) | (simp [chkE, nrL, nm, gdst, nmT, rowB, hid, ment, mentA, mentS]; decide)) ⟨⟨rfl, rfl, rfl, trivial⟩, trivial⟩ ?_
    iterate 3 refine nVal tt rfl (wNone rfl) rfl rfl rfl rfl rfl trivial ?_
    refine nNil ?_
    change VO _ _ _ _ _
    obtain ⟨hg4, h⟩ := grd_inv h
    refine oAppend tt rfl rfl rfl rfl rfl rfl rfl rfl rfl rfl rfl rfl rfl rfl rfl rfl trivial hg4 ?_
    refine oVal tt rfl rfl rfl rfl rfl trivial ?_
    refine vNil ?_
    change VC _ _ _ _
    iterate 2 refine vSeq ?_
    refine vRegion ?_
    iterate 4 refine oVal tt rfl rfl rfl rfl rfl trivial ?_
    refine vNil ?_
    change VC _ _ _ _
    refine vJoin (F := fun k => I_SteadyPoints_l1 N p_0 v2 k) h (α := List Int) (J := fun (l77 : List Int) => (⟨[(3, .row 55 0 l77.length)], [(55, some (3, .ints l77))], []⟩ : PS)) ?_ ?_
    · rintro l77 h
      show VC _ _ _ (⟨[(3, .row 55 0 l77.length)], [(55, some (3, .ints l77))], []⟩ : PS)
      refine vSeq ?_
      refine vRegion ?_
      iterate 2 refine oVal tt rfl rfl rfl rfl rfl trivial ?_
      refine vNil ?_
      change VC _ _ _ _
      refine vRet ?_
      change ∃ _, _
      cases h
      exact ⟨[55], _, rfl, ⟨rfl, trivial⟩, rfl, (.eq rfl), rfl⟩
    · intro k h
      refine vBlock ?_
      refine vNilT 3 55 3 (.ints []) rfl rfl rfl rfl ?_
      refine vLoopS (α := (List Int) × Int) (fun | (l115, x116) => (⟨[(1, .ptr 1 0), (3, .row 55 0 l115.length), (4, .row 1150 0 ((v2 ++ p_0.g.bars).length)), (22, .int p_0.g.n), (23, .int x116)], [(55, some (3, .ints l115)), (1150, some (71, .pairs (v2 ++ p_0.g.bars)))], [(1, some [.int p_0.g.n, .ro false (.pairs p_0.g.bars), .ro false (.ints p_0.ground)])]⟩ : PS)) (I_SteadyPoints_l1 N p_0 v2 k) h (En.of ⟨rfl, rfl, rfl, rfl, rfl, trivial⟩ ⟨rfl, rfl, trivial⟩ ⟨rfl, trivial⟩) (fun _ => rfl) ?_
      rintro n ⟨l115, x116⟩ h
      rw [I_SteadyPoints_l1] at h
      show VC _ _ _ (⟨[(1, .ptr 1 0), (3, .row 55 0 l115.length), (4, .row 1150 0 ((v2 ++ p_0.g.bars).length)), (22, .int p_0.g.n), (23, .int x116)], [(55, some (3, .ints l115)), (1150, some (71, .pairs (v2 ++ p_0.g.bars)))], [(1, some [.int p_0.g.n, .ro false (.pairs p_0.g.bars), .ro false (.ints p_0.ground)])]⟩ : PS)
      refine vSeq ?_
      refine vRegion ?_
      refine oVal tt rfl rfl rfl rfl rfl trivial ?_
      refine vNil ?_
      change VC _ _ _ _
      refine vSeq ?_
      refine vCond rfl (fun hb5 => ?_) (fun hb5 => ?_)
      · replace h := cnd_t hb5 h
        refine vSkip ?_
        change VC _ _ _ _
        refine vSeq ?_
        refine vBlock ?_
        refine vSeq ?_
        refine vRegion ?_
        iterate 2 refine oVal tt rfl rfl rfl rfl rfl trivial ?_
        refine vNil ?_
        change VC _ _ _ _
        refine vSeq ?_
        refine vRegion ?_
        refine oVal tt rfl rfl rfl rfl rfl trivial ?_
        refine vNil ?_
        change VC _ _ _ _
        iterate 2 refine vSeq ?_
        refine vRegion ?_
        iterate 4 refine oVal tt rfl rfl rfl rfl rfl trivial ?_
        refine vNil ?_
        change VC _ _ _ _
        refine vJoin (F := fun k => I_SteadyPoints_l2 N p_0 v2 x116 k) h (α := Bool) (J := fun (steady143 : Bool) => (⟨[(1, .ptr 1 0), (3, .row 55 0 l115.length), (4, .row 1150 0 ((v2 ++ p_0.g.bars).length)), (5, .int x116), (6, .bool steady143), (22, .int p_0.g.n), (23, .int x116)], [(55, some (3, .ints l115)), (1150, some (71, .pairs (v2 ++ p_0.g.bars)))], [(1, some [.int p_0.g.n, .ro false (.pairs p_0.g.bars), .ro false (.ints p_0.ground)])]⟩ : PS)) ?_ ?_
        · rintro steady143 h
          show VC _ _ _ (⟨[(1, .ptr 1 0), (3, .row 55 0 l115.length), (4, .row 1150 0 ((v2 ++ p_0.g.bars).length)), (5, .int x116), (6, .bool steady143), (22, .int p_0.g.n), (23, .int x116)], [(55, some (3, .ints l115)), (1150, some (71, .pairs (v2 ++ p_0.g.bars)))], [(1, some [.int p_0.g.n, .ro false (.pairs p_0.g.bars), .ro false (.ints p_0.ground)])]⟩ : PS)
          refine vSeq ?_
          refine vRegion ?_
          refine oVal tt rfl rfl rfl rfl rfl trivial ?_
          refine vNil ?_
          change VC _ _ _ _
          refine vCond rfl (fun hb6 => ?_) (fun hb6 => ?_)
          · replace h := cnd_t hb6 h
            refine vRegion ?_
            iterate 2 refine oVal tt rfl rfl rfl rfl rfl trivial ?_
            refine oBuild tt rfl rfl rfl rfl rfl rfl rfl rfl rfl rfl rfl ?_
            obtain ⟨hg7, h⟩ := grd_inv h
            refine oAppend tt rfl rfl rfl rfl rfl rfl rfl rfl rfl rfl rfl rfl rfl rfl rfl rfl (Nat.le_of_eq (Nat.zero_add _)) hg7 ?_
            refine oVal tt rfl rfl rfl rfl rfl trivial ?_
            refine vNil ?_
            change VC _ _ _ _
            refine vRegion ?_
            obtain ⟨hg8, h⟩ := grd_inv h
            refine oVal tt rfl rfl rfl rfl rfl hg8 ?_
            refine oVal tt rfl rfl rfl rfl rfl trivial ?_
            refine vNil ?_
            change ∃ _, _
            exact ⟨((l115 ++ ([x116] : List Int)), (x116 + (1 : Int))), (En.of ⟨rfl, rfl, rfl, rfl, rfl, trivial⟩ ⟨rfl, rfl, trivial⟩ ⟨rfl, trivial⟩), h⟩
          · replace h := cnd_f hb6 h
            refine vSkip ?_
            change VC _ _ _ _
            refine vRegion ?_
            obtain ⟨hg9, h⟩ := grd_inv h
            refine oVal tt rfl rfl rfl rfl rfl hg9 ?_
            refine oVal tt rfl rfl rfl rfl rfl trivial ?_
            refine vNil ?_
            change ∃ _, _
            exact ⟨(l115, (x116 + (1 : Int))), (En.of ⟨rfl, rfl, rfl, rfl, rfl, trivial⟩ ⟨rfl, rfl, trivial⟩ ⟨rfl, trivial⟩), h⟩
        · intro k h
          refine vBlock ?_
          refine vLoopS (α := Bool × Int) (fun | (steady147, x148) => (⟨[(1, .ptr 1 0), (3, .row 55 0 l115.length), (4, .row 1150 0 ((v2 ++ p_0.g.bars).length)), (5, .int x116), (6, .bool steady147), (22, .int p_0.g.n), (23, .int x116), (27, .ro false (.ints p_0.ground)), (28, .int (p_0.ground.length : Int)), (29, .int x148)], [(55, some (3, .ints l115)), (1150, some (71, .pairs (v2 ++ p_0.g.bars)))], [(1, some [.int p_0.g.n, .ro false (.pairs p_0.g.bars), .ro false (.ints p_0.ground)])]⟩ : PS)) (I_SteadyPoints_l2 N p_0 v2 x116 k) h (En.of ⟨rfl, rfl, rfl, rfl, rfl, rfl, rfl, rfl, rfl, rfl, trivial⟩ ⟨rfl, rfl, trivial⟩ ⟨rfl, trivial⟩) (fun _ => rfl) ?_
          rintro n ⟨steady147, x148⟩ h
          rw [I_SteadyPoints_l2] at h
          show VC _ _ _ (⟨[(1, .ptr 1 0), (3, .row 55 0 l115.length), (4, .row 1150 0 ((v2 ++ p_0.g.bars).length)), (5, .int x116), (6, .bool steady147), (22, .int p_0.g.n), (23, .int x116), (27, .ro false (.ints p_0.ground)), (28, .int (p_0.ground.length : Int)), (29, .int x148)], [(55, some (3, .ints l115)), (1150, some (71, .pairs (v2 ++ p_0.g.bars)))], [(1, some [.int p_0.g.n, .ro false (.pairs p_0.g.bars), .ro false (.ints p_0.ground)])]⟩ : PS)
          refine vSeq ?_
          refine vRegion ?_
          refine oVal tt rfl rfl rfl rfl rfl trivial ?_
          refine vNil ?_
          change VC _ _ _ _
          refine vSeq ?_
          refine vCond rfl (fun hb10 => ?_) (fun hb10 => ?_)
          · replace h := cnd_t hb10 h
            refine vSkip ?_
            change VC _ _ _ _
            refine vSeq ?_
            refine vBlock ?_
            refine vSeq ?_
            refine vRegion ?_
            obtain ⟨hg11, h⟩ := grd_inv h
            refine oVal tt rfl rfl rfl rfl rfl hg11 ?_
            iterate 2 refine oVal tt rfl rfl rfl rfl rfl trivial ?_
            refine vNil ?_
            change VC _ _ _ _
            refine vRegionD (by kernel_rfl) (by kernel_rfl) ?_
            iterate 2 refine cVal tt rfl (wNone rfl) rfl rfl rfl trivial ?_
            refine cSplit rfl rfl rfl (fun hb12 => ?_) (fun hb12 => ?_)
            · replace h := cnd_t hb12 h
              iterate 4 refine cVal tt rfl (wSome rfl rfl rfl rfl hb12) rfl rfl rfl trivial ?_
              refine cSplit rfl rfl rfl (fun hb13 => ?_) (fun hb13 => ?_)
              · replace h := cnd_t hb13 h
                iterate 9 refine cNoF rfl rfl rfl rfl hb13 rfl rfl ?_
                refine cPickT rfl (wSome rfl rfl rfl rfl hb12) rfl rfl rfl hb13 rfl ?_
                refine cPickT rfl (wNone rfl) rfl rfl rfl hb12 rfl ?_
                refine cVal tt rfl (wNone rfl) rfl rfl rfl trivial ?_
                refine cNil ?_
                change VC _ _ _ _
                refine vRegion ?_
                obtain ⟨hg14, h⟩ := grd_inv h
                refine oVal tt rfl rfl rfl rfl rfl hg14 ?_
                refine oVal tt rfl rfl rfl rfl rfl trivial ?_
                refine vNil ?_
                change ∃ _, _
                exact ⟨(true, (x148 + (1 : Int))), (En.of ⟨rfl, rfl, rfl, rfl, rfl, rfl, rfl, rfl, rfl, rfl, trivial⟩ ⟨rfl, rfl, trivial⟩ ⟨rfl, trivial⟩), h⟩
              · replace h := cnd_f hb13 h
                iterate 6 refine cVal tt rfl (wSome rfl rfl rfl rfl hb13) rfl rfl rfl trivial ?_
                obtain ⟨v151, hc15, h⟩ := bind_inv h
                refine cCall (I_bar_w N (p_0.ground.getD ((x148).toNat) 0) x116 v151 hc15) rfl (wSome rfl rfl rfl rfl hb13) rfl rfl rfl rfl rfl rfl ⟨rfl, rfl, trivial⟩ ?_
                obtain ⟨v152, hc16, h⟩ := bind_inv h
                refine cCall (I_raises_w N p_0.g.n (v2 ++ p_0.g.bars) v151 v152 hc16) rfl (wSome rfl rfl rfl rfl hb13) rfl rfl rfl rfl rfl rfl ⟨rfl, (.inl ⟨rfl, rfl⟩), ⟨rfl, rfl, trivial⟩, trivial⟩ ?_
                refine cVal tt rfl (wSome rfl rfl rfl rfl hb13) rfl rfl rfl trivial ?_
                refine cPickF rfl (wSome rfl rfl rfl rfl hb12) rfl rfl rfl hb13 rfl ?_
                refine cPickT rfl (wNone rfl) rfl rfl rfl hb12 rfl ?_
                refine cVal tt rfl (wNone rfl) rfl rfl rfl trivial ?_
                refine cNil ?_
                change VC _ _ _ _
                refine vRegion ?_
                obtain ⟨hg17, h⟩ := grd_inv h
                refine oVal tt rfl rfl rfl rfl rfl hg17 ?_
                refine oVal tt rfl rfl rfl rfl rfl trivial ?_
                refine vNil ?_
                change ∃ _, _
                exact ⟨((!v152), (x148 + (1 : Int))), (En.of ⟨rfl, rfl, rfl, rfl, rfl, rfl, rfl, rfl, rfl, rfl, trivial⟩ ⟨rfl, rfl, trivial⟩ ⟨rfl, trivial⟩), h⟩
            · replace h := cnd_f hb12 h
              iterate 4 refine cNoT rfl rfl rfl rfl hb12 rfl rfl ?_
              iterate 9 refine cNoU rfl rfl rfl rfl rfl ?_
              refine cNoT rfl rfl rfl rfl hb12 rfl rfl ?_
              refine cPickF rfl (wNone rfl) rfl rfl rfl hb12 rfl ?_
              refine cVal tt rfl (wNone rfl) rfl rfl rfl trivial ?_
              refine cNil ?_
              change VC _ _ _ _
              refine vRegion ?_
              obtain ⟨hg18, h⟩ := grd_inv h
              refine oVal tt rfl rfl rfl rfl rfl hg18 ?_
              refine oVal tt rfl rfl rfl rfl rfl trivial ?_
              refine vNil ?_
              change ∃ _, _
              exact ⟨(false, (x148 + (1 : Int))), (En.of ⟨rfl, rfl, rfl, rfl, rfl, rfl, rfl, rfl, rfl, rfl, trivial⟩ ⟨rfl, rfl, trivial⟩ ⟨rfl, trivial⟩), h⟩
          · replace h := cnd_f hb10 h
            refine vExit ?_
            change ∃ _, _
            exact ⟨steady147, (En.of ⟨rfl, rfl, rfl, rfl, rfl, rfl, rfl, trivial⟩ ⟨rfl, rfl, trivial⟩ ⟨rfl, trivial⟩), h⟩
      · replace h := cnd_f hb5 h
        refine vExit ?_
        change ∃ _, _
        exact ⟨l115, (En.of ⟨rfl, trivial⟩ ⟨rfl, trivial⟩ trivial), h⟩
end Go.Proofs.Ytkpmijmlbpdknaa
