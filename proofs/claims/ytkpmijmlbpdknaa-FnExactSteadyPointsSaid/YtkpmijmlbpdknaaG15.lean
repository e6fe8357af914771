/- Plain texts of functions, and that the program computes them (printed by gen.py). -/
import Derived.Test.YtkpmijmlbpdknaaShb
import Derived.Test.YtkpmijmlbpdknaaG2
import Derived.Test.YtkpmijmlbpdknaaG6
import Derived.Test.YtkpmijmlbpdknaaG7
import Derived.Test.YtkpmijmlbpdknaaG8
import Derived.Test.YtkpmijmlbpdknaaG14
namespace Go.Proofs.Ytkpmijmlbpdknaa
open Go.RowKit
set_option linter.unusedVariables false
set_option linter.unusedSimpArgs false
def G_Contains_int (N : Nat) (s_0 : List Int) (v_1 : Int) : Option (Bool) :=
  (G_Index_int N s_0 v_1).bind fun v1 =>
  some (decide (v1 ≥ (0 : Int)))
set_option maxRecDepth 20000 in
set_option maxHeartbeats 1600000 in
theorem G_Contains_int_w (N : Nat) (s_0 : List Int) (v_1 : Int) (r : Bool) (h : G_Contains_int N s_0 v_1 = some r) : PCall Try.prog 76 [.ro false (.ints s_0), .int v_1] [] (.bool r) := by
  unfold G_Contains_int at h
  refine pcall_intro (TT := TT) tt Try.func76 rfl rfl Try.ntmps76 (congrArg Array.toList Try.results76) rfl rfl fun w0 => ?_
  refine vSeq ?_
  refine vRegion ?_
  refine oVal tt rfl rfl rfl rfl rfl trivial ?_
  refine vNil ?_
  change VC _ _ _ _
  refine vSeq ?_
  refine vRegion ?_
  iterate 2 refine oVal tt rfl rfl rfl rfl rfl trivial ?_
  obtain ⟨v1, hc1, h⟩ := bind_inv h
  refine oCall (G_Index_int_w N s_0 v_1 v1 hc1) rfl rfl rfl rfl rfl rfl rfl rfl ⟨rfl, rfl, trivial⟩ ?_
  iterate 2 refine oVal tt rfl rfl rfl rfl rfl trivial ?_
  refine vNil ?_
  change VC _ _ _ _
  refine vRet ?_
  change ∃ _, _
  cases h
  exact ⟨[], _, rfl, trivial, rfl, (.eq rfl), rfl⟩
def I_IsPinned_l1 (N : Nat) (p_0 : Pin) (k : Unit → Option (Bool)) : Nat → Int → Option (Bool)
  | 0, _ => none
  | n + 1, x17 =>
    cnd (decide (x17 < (p_0.g.bars.length : Int))) (
      grd (0 ≤ x17 ∧ x17 < (p_0.g.bars.length : Int)) <|
      (G_Contains_int N p_0.ground ((p_0.g.bars.getD ((x17).toNat) (0, 0)).1)).bind fun v20 =>
      cnd v20 (
        (G_Contains_int N p_0.ground ((p_0.g.bars.getD ((x17).toNat) (0, 0)).2)).bind fun v21 =>
        cnd v21 (
          some false) (
          grd (Rg64 (x17 + (1 : Int))) <|
          I_IsPinned_l1 N p_0 k n (x17 + (1 : Int)))) (
        grd (Rg64 (x17 + (1 : Int))) <|
        I_IsPinned_l1 N p_0 k n (x17 + (1 : Int)))) (
      k ())
def I_IsPinned_l2 (N : Nat) (p_0 : Pin) (k : Unit → Option (Bool)) : Nat → Int → Option (Bool)
  | 0, _ => none
  | n + 1, x24 =>
    cnd (decide (x24 < (p_0.ground.length : Int))) (
      grd (0 ≤ x24 ∧ x24 < (p_0.ground.length : Int)) <|
      (M_Graph_has N p_0.g (p_0.ground.getD ((x24).toNat) 0)).bind fun v26 =>
      cnd (!v26) (
        some false) (
        cnd (decide (x24 > (0 : Int))) (
          grd (Rg64 (x24 - (1 : Int))) <|
          grd (0 ≤ (x24 - (1 : Int)) ∧ (x24 - (1 : Int)) < (p_0.ground.length : Int)) <|
          cnd (decide ((p_0.ground.getD (((x24 - (1 : Int))).toNat) 0) ≥ (p_0.ground.getD ((x24).toNat) 0))) (
            some false) (
            grd (Rg64 (x24 + (1 : Int))) <|
            I_IsPinned_l2 N p_0 k n (x24 + (1 : Int)))) (
          grd (Rg64 (x24 + (1 : Int))) <|
          I_IsPinned_l2 N p_0 k n (x24 + (1 : Int))))) (
      k ())
def I_IsPinned (N : Nat) (p_0 : Pin) : Option (Bool) :=
  (I_IsGraph N p_0.g).bind fun v1 =>
  cnd (!v1) (
    some false) (
    (I_hasDoubles N p_0.g).bind fun v2 =>
    cnd v2 (
      some false) (
      cnd (decide ((p_0.ground.length : Int) < (2 : Int))) (
        some false) (
        cnd (decide ((p_0.g.bars.length : Int) > (15 : Int))) (
          some false) (
          grd (Rg64 ((2 : Int) * (p_0.ground.length : Int))) <|
          grd (Rg64 ((p_0.g.bars.length : Int) + ((2 : Int) * (p_0.ground.length : Int)))) <|
          grd (Rg64 (((p_0.g.bars.length : Int) + ((2 : Int) * (p_0.ground.length : Int))) - (3 : Int))) <|
          cnd (decide ((((p_0.g.bars.length : Int) + ((2 : Int) * (p_0.ground.length : Int))) - (3 : Int)) > (24 : Int))) (
            some false) (
            I_IsPinned_l2 N p_0 (fun (_ : Unit) =>
                  I_IsPinned_l1 N p_0 (fun (_ : Unit) =>
                        some true) N (0 : Int)) N (0 : Int))))))
set_option maxRecDepth 20000 in
set_option maxHeartbeats 1600000 in
theorem I_IsPinned_w (N : Nat) (p_0 : Pin) (r : Bool) (h : I_IsPinned N p_0 = some r) : PCall Try.prog 64 [pD p_0] [] (.bool r) := by
  unfold I_IsPinned at h
  refine pcall_intro (TT := TT) tt Try.func64 rfl rfl Try.ntmps64 (congrArg Array.toList Try.results64) rfl rfl fun w0 => ?_
  refine vSeq ?_
  refine vRegion ?_
  refine oBox rfl rfl rfl rfl rfl rfl rfl rfl rfl ?_
  refine oVal tt rfl rfl rfl rfl rfl trivial ?_
  refine vNil ?_
  change VC _ _ _ _
  refine vSeq ?_
  refine vRegion ?_
  iterate 2 refine oVal tt rfl rfl rfl rfl rfl trivial ?_
  refine oAlloc tt rfl rfl rfl rfl rfl rfl rfl rfl rfl ?_
  refine oStore tt rfl rfl rfl rfl rfl rfl rfl rfl rfl rfl rfl ⟨trivial, trivial, trivial⟩ ?_
  refine vNil ?_
  change VC _ _ _ _
  iterate 2 refine vSeq ?_
  refine vRegion ?_
  refine oVal tt rfl rfl rfl rfl rfl trivial ?_
  obtain ⟨v1, hc1, h⟩ := bind_inv h
  refine oCall (I_IsGraph_w N p_0.g v1 hc1) rfl rfl rfl rfl rfl rfl rfl rfl ⟨⟨rfl, rfl, trivial⟩, trivial⟩ ?_
  iterate 2 refine oVal tt rfl rfl rfl rfl rfl trivial ?_
  refine oSplit rfl rfl rfl (fun hb2 => ?_) (fun hb2 => ?_)
  · replace h := cnd_t hb2 h
    iterate 2 refine oNoF rfl rfl rfl rfl hb2 rfl rfl ?_
    refine oPick rfl rfl rfl rfl rfl hb2 rfl ?_
    refine oVal tt rfl rfl rfl rfl rfl trivial ?_
    iterate 4 refine oNoF rfl rfl rfl rfl rfl rfl rfl ?_
    refine oPick rfl rfl rfl rfl rfl rfl rfl ?_
    refine oVal tt rfl rfl rfl rfl rfl trivial ?_
    iterate 4 refine oNoF rfl rfl rfl rfl rfl rfl rfl ?_
    refine oPick rfl rfl rfl rfl rfl rfl rfl ?_
    refine oVal tt rfl rfl rfl rfl rfl trivial ?_
    iterate 10 refine oNoF rfl rfl rfl rfl rfl rfl rfl ?_
    refine oPick rfl rfl rfl rfl rfl rfl rfl ?_
    refine vNil ?_
    change VC _ _ _ _
    refine vCondT rfl rfl ?_
    refine vSeq ?_
    refine vRegion ?_
    refine oVal tt rfl rfl rfl rfl rfl trivial ?_
    refine vNil ?_
    change VC _ _ _ _
    refine vRet ?_
    change ∃ _, _
    cases h
    exact ⟨[], _, rfl, trivial, rfl, (.eq rfl), rfl⟩
  · replace h := cnd_f hb2 h
    refine oValG tt rfl rfl rfl rfl rfl hb2 rfl rfl rfl trivial ?_
    obtain ⟨v2, hc3, h⟩ := bind_inv h
    refine oCallG (I_hasDoubles_w N p_0.g v2 hc3) rfl rfl rfl rfl hb2 rfl rfl rfl rfl rfl rfl rfl ⟨⟨rfl, rfl, trivial⟩, trivial⟩ ?_
    refine oPickF rfl rfl rfl rfl rfl hb2 rfl ?_
    refine oVal tt rfl rfl rfl rfl rfl trivial ?_
    refine oSplit rfl rfl rfl (fun hb4 => ?_) (fun hb4 => ?_)
    · replace h := cnd_t hb4 h
      iterate 4 refine oNoF rfl rfl rfl rfl hb4 rfl rfl ?_
      refine oPick rfl rfl rfl rfl rfl hb4 rfl ?_
      refine oVal tt rfl rfl rfl rfl rfl trivial ?_
      iterate 4 refine oNoF rfl rfl rfl rfl rfl rfl rfl ?_
      refine oPick rfl rfl rfl rfl rfl rfl rfl ?_
      refine oVal tt rfl rfl rfl rfl rfl trivial ?_
      iterate 10 refine oNoF rfl rfl rfl rfl rfl rfl rfl ?_
      refine oPick rfl rfl rfl rfl rfl rfl rfl ?_
      refine vNil ?_
      change VC _ _ _ _
      refine vCondT rfl rfl ?_
      refine vSeq ?_
      refine vRegion ?_
      refine oVal tt rfl rfl rfl rfl rfl trivial ?_
      refine vNil ?_
      change VC _ _ _ _
      refine vRet ?_
      change ∃ _, _
      cases h
      exact ⟨[], _, rfl, trivial, rfl, (.eq rfl), rfl⟩
    · replace h := cnd_f hb4 h
      iterate 4 refine oValG tt rfl rfl rfl rfl rfl hb4 rfl rfl rfl trivial ?_
      refine oPickF rfl rfl rfl rfl rfl hb4 rfl ?_
      refine oVal tt rfl rfl rfl rfl rfl trivial ?_
      refine oSplit rfl rfl rfl (fun hb5 => ?_) (fun hb5 => ?_)
      · replace h := cnd_t hb5 h
        iterate 4 refine oNoF rfl rfl rfl rfl hb5 rfl rfl ?_
        refine oPick rfl rfl rfl rfl rfl hb5 rfl ?_
        refine oVal tt rfl rfl rfl rfl rfl trivial ?_
        iterate 10 refine oNoF rfl rfl rfl rfl rfl rfl rfl ?_
        refine oPick rfl rfl rfl rfl rfl rfl rfl ?_
        refine vNil ?_
        change VC _ _ _ _
        refine vCondT rfl rfl ?_
        refine vSeq ?_
        refine vRegion ?_
        refine oVal tt rfl rfl rfl rfl rfl trivial ?_
        refine vNil ?_
        change VC _ _ _ _
        refine vRet ?_
        change ∃ _, _
        cases h
        exact ⟨[], _, rfl, trivial, rfl, (.eq rfl), rfl⟩
      · replace h := cnd_f hb5 h
        iterate 4 refine oValG tt rfl rfl rfl rfl rfl hb5 rfl rfl rfl trivial ?_
        refine oPickF rfl rfl rfl rfl rfl hb5 rfl ?_
        refine oVal tt rfl rfl rfl rfl rfl trivial ?_
        refine oSplit rfl rfl rfl (fun hb6 => ?_) (fun hb6 => ?_)
        · replace h := cnd_t hb6 h
          iterate 10 refine oNoF rfl rfl rfl rfl hb6 rfl rfl ?_
          refine oPick rfl rfl rfl rfl rfl hb6 rfl ?_
          refine vNil ?_
          change VC _ _ _ _
          refine vCondT rfl rfl ?_
          refine vSeq ?_
          refine vRegion ?_
          refine oVal tt rfl rfl rfl rfl rfl trivial ?_
          refine vNil ?_
          change VC _ _ _ _
          refine vRet ?_
          change ∃ _, _
          cases h
          exact ⟨[], _, rfl, trivial, rfl, (.eq rfl), rfl⟩
        · replace h := cnd_f hb6 h
          iterate 6 refine oValG tt rfl rfl rfl rfl rfl hb6 rfl rfl rfl trivial ?_
          obtain ⟨hg7, h⟩ := grd_inv h
          refine oValG tt rfl rfl rfl rfl rfl hb6 rfl rfl rfl hg7 ?_
          obtain ⟨hg8, h⟩ := grd_inv h
          refine oValG tt rfl rfl rfl rfl rfl hb6 rfl rfl rfl hg8 ?_
          obtain ⟨hg9, h⟩ := grd_inv h
          refine oValG tt rfl rfl rfl rfl rfl hb6 rfl rfl rfl hg9 ?_
          refine oValG tt rfl rfl rfl rfl rfl hb6 rfl rfl rfl trivial ?_
          refine oPickF rfl rfl rfl rfl rfl hb6 rfl ?_
          refine vNil ?_
          change VC _ _ _ _
          refine vCond rfl (fun hb10 => ?_) (fun hb10 => ?_)
          · replace h := cnd_t hb10 h
            refine vSeq ?_
            refine vRegion ?_
            refine oVal tt rfl rfl rfl rfl rfl trivial ?_
            refine vNil ?_
            change VC _ _ _ _
            refine vRet ?_
            change ∃ _, _
            cases h
            exact ⟨[], _, rfl, trivial, rfl, (.eq rfl), rfl⟩
          · replace h := cnd_f hb10 h
            refine vSkip ?_
            change VC _ _ _ _
            iterate 2 refine vSeq ?_
            refine vRegion ?_
            iterate 4 refine oVal tt rfl rfl rfl rfl rfl trivial ?_
            refine vNil ?_
            change VC _ _ _ _
            refine vJoin (F := fun k => I_IsPinned_l2 N p_0 k) h (α := Unit) (J := fun (_ : Unit) => (⟨[(1, .ptr 1 0), (3, .ptr 3 0)], [], [(1, some [.int p_0.g.n, .ro false (.pairs p_0.g.bars), .ro false (.ints p_0.ground)]), (3, some [.int p_0.g.n, .ro false (.pairs p_0.g.bars)])]⟩ : PS)) ?_ ?_
            · rintro ⟨⟩ h
              show VC _ _ _ (⟨[(1, .ptr 1 0), (3, .ptr 3 0)], [], [(1, some [.int p_0.g.n, .ro false (.pairs p_0.g.bars), .ro false (.ints p_0.ground)]), (3, some [.int p_0.g.n, .ro false (.pairs p_0.g.bars)])]⟩ : PS)
              iterate 2 refine vSeq ?_
              refine vRegion ?_
              iterate 4 refine oVal tt rfl rfl rfl rfl rfl trivial ?_
              refine vNil ?_
              change VC _ _ _ _
              refine vJoin (F := fun k => I_IsPinned_l1 N p_0 k) h (α := Unit) (J := fun (_ : Unit) => (⟨[], [], []⟩ : PS)) ?_ ?_
              · rintro ⟨⟩ h
                show VC _ _ _ (⟨[], [], []⟩ : PS)
                refine vSeq ?_
                refine vRegion ?_
                refine oVal tt rfl rfl rfl rfl rfl trivial ?_
                refine vNil ?_
                change VC _ _ _ _
                refine vRet ?_
                change ∃ _, _
                cases h
                exact ⟨[], _, rfl, trivial, rfl, (.eq rfl), rfl⟩
              · intro k h
                refine vBlock ?_
                refine vLoopS (α := Int) (fun (x17 : Int) => (⟨[(1, .ptr 1 0), (69, .ro false (.pairs p_0.g.bars)), (70, .int (p_0.g.bars.length : Int)), (71, .int x17)], [], [(1, some [.int p_0.g.n, .ro false (.pairs p_0.g.bars), .ro false (.ints p_0.ground)])]⟩ : PS)) (I_IsPinned_l1 N p_0 k) h (En.of ⟨rfl, rfl, rfl, rfl, trivial⟩ trivial ⟨rfl, trivial⟩) (fun _ => rfl) ?_
                rintro n x17 h
                rw [I_IsPinned_l1] at h
                show VC _ _ _ (⟨[(1, .ptr 1 0), (69, .ro false (.pairs p_0.g.bars)), (70, .int (p_0.g.bars.length : Int)), (71, .int x17)], [], [(1, some [.int p_0.g.n, .ro false (.pairs p_0.g.bars), .ro false (.ints p_0.ground)])]⟩ : PS)
                refine vSeq ?_
                refine vRegion ?_
                refine oVal tt rfl rfl rfl rfl rfl trivial ?_
                refine vNil ?_
                change VC _ _ _ _
                refine vSeq ?_
                refine vCond rfl (fun hb11 => ?_) (fun hb11 => ?_)
                · replace h := cnd_t hb11 h
                  refine vSkip ?_
                  change VC _ _ _ _
                  refine vSeq ?_
                  refine vBlock ?_
                  refine vSeq ?_
                  refine vRegion ?_
                  obtain ⟨hg12, h⟩ := grd_inv h
                  refine oVal tt rfl rfl rfl rfl rfl hg12 ?_
                  refine oVal tt rfl rfl rfl rfl rfl trivial ?_
                  refine oAlloc tt rfl rfl rfl rfl rfl rfl rfl rfl rfl ?_
                  refine oStore tt rfl rfl rfl rfl rfl rfl rfl rfl rfl rfl rfl ⟨trivial, trivial, trivial⟩ ?_
                  refine vNil ?_
                  change VC _ _ _ _
                  refine vSeq ?_
                  refine vRegion ?_
                  iterate 4 refine oVal tt rfl rfl rfl rfl rfl trivial ?_
                  obtain ⟨v20, hc13, h⟩ := bind_inv h
                  refine oCall (G_Contains_int_w N p_0.ground ((p_0.g.bars.getD ((x17).toNat) (0, 0)).1) v20 hc13) rfl rfl rfl rfl rfl rfl rfl rfl ⟨rfl, rfl, trivial⟩ ?_
                  refine oVal tt rfl rfl rfl rfl rfl trivial ?_
                  refine oSplit rfl rfl rfl (fun hb14 => ?_) (fun hb14 => ?_)
                  · replace h := cnd_t hb14 h
                    iterate 4 refine oValG tt rfl rfl rfl rfl rfl hb14 rfl rfl rfl trivial ?_
                    obtain ⟨v21, hc15, h⟩ := bind_inv h
                    refine oCallG (G_Contains_int_w N p_0.ground ((p_0.g.bars.getD ((x17).toNat) (0, 0)).2) v21 hc15) rfl rfl rfl rfl hb14 rfl rfl rfl rfl rfl rfl rfl ⟨rfl, rfl, trivial⟩ ?_
                    refine oPick rfl rfl rfl rfl rfl hb14 rfl ?_
                    refine vNil ?_
                    change VC _ _ _ _
                    refine vCond rfl (fun hb16 => ?_) (fun hb16 => ?_)
                    · replace h := cnd_t hb16 h
                      refine vSeq ?_
                      refine vRegion ?_
                      refine oVal tt rfl rfl rfl rfl rfl trivial ?_
                      refine vNil ?_
                      change VC _ _ _ _
                      refine vRet ?_
                      change ∃ _, _
                      cases h
                      exact ⟨[], _, rfl, trivial, rfl, (.eq rfl), rfl⟩
                    · replace h := cnd_f hb16 h
                      refine vSkip ?_
                      change VC _ _ _ _
                      refine vRegion ?_
                      obtain ⟨hg17, h⟩ := grd_inv h
                      refine oVal tt rfl rfl rfl rfl rfl hg17 ?_
                      refine oVal tt rfl rfl rfl rfl rfl trivial ?_
                      refine vNil ?_
                      change ∃ _, _
                      exact ⟨(x17 + (1 : Int)), (En.of ⟨rfl, rfl, rfl, rfl, trivial⟩ trivial ⟨rfl, trivial⟩), h⟩
                  · replace h := cnd_f hb14 h
                    iterate 5 refine oNoT rfl rfl rfl rfl hb14 rfl rfl ?_
                    refine oPickF rfl rfl rfl rfl rfl hb14 rfl ?_
                    refine vNil ?_
                    change VC _ _ _ _
                    refine vCondF rfl rfl ?_
                    refine vSkip ?_
                    change VC _ _ _ _
                    refine vRegion ?_
                    obtain ⟨hg18, h⟩ := grd_inv h
                    refine oVal tt rfl rfl rfl rfl rfl hg18 ?_
                    refine oVal tt rfl rfl rfl rfl rfl trivial ?_
                    refine vNil ?_
                    change ∃ _, _
                    exact ⟨(x17 + (1 : Int)), (En.of ⟨rfl, rfl, rfl, rfl, trivial⟩ trivial ⟨rfl, trivial⟩), h⟩
                · replace h := cnd_f hb11 h
                  refine vExit ?_
                  change ∃ _, _
                  exact ⟨(), (En.of trivial trivial trivial), h⟩
            · intro k h
              refine vBlock ?_
              refine vLoopS (α := Int) (fun (x24 : Int) => (⟨[(1, .ptr 1 0), (3, .ptr 3 0), (42, .ro false (.ints p_0.ground)), (43, .int (p_0.ground.length : Int)), (44, .int x24)], [], [(1, some [.int p_0.g.n, .ro false (.pairs p_0.g.bars), .ro false (.ints p_0.ground)]), (3, some [.int p_0.g.n, .ro false (.pairs p_0.g.bars)])]⟩ : PS)) (I_IsPinned_l2 N p_0 k) h (En.of ⟨rfl, rfl, rfl, rfl, rfl, trivial⟩ trivial ⟨rfl, rfl, trivial⟩) (fun _ => rfl) ?_
              rintro n x24 h
              rw [I_IsPinned_l2] at h
              show VC _ _ _ (⟨[(1, .ptr 1 0), (3, .ptr 3 0), (42, .ro false (.ints p_0.ground)), (43, .int (p_0.ground.length : Int)), (44, .int x24)], [], [(1, some [.int p_0.g.n, .ro false (.pairs p_0.g.bars), .ro false (.ints p_0.ground)]), (3, some [.int p_0.g.n, .ro false (.pairs p_0.g.bars)])]⟩ : PS)
              refine vSeq ?_
              refine vRegion ?_
              refine oVal tt rfl rfl rfl rfl rfl trivial ?_
              refine vNil ?_
              change VC _ _ _ _
              refine vSeq ?_
              refine vCond rfl (fun hb19 => ?_) (fun hb19 => ?_)
              · replace h := cnd_t hb19 h
                refine vSkip ?_
                change VC _ _ _ _
                refine vSeq ?_
                refine vBlock ?_
                refine vSeq ?_
                refine vRegion ?_
                refine oVal tt rfl rfl rfl rfl rfl trivial ?_
                obtain ⟨hg20, h⟩ := grd_inv h
                refine oVal tt rfl rfl rfl rfl rfl hg20 ?_
                iterate 3 refine oVal tt rfl rfl rfl rfl rfl trivial ?_
                refine vNil ?_
                change VC _ _ _ _
                refine vSeq ?_
                refine vRegion ?_
                iterate 2 refine oVal tt rfl rfl rfl rfl rfl trivial ?_
                obtain ⟨v26, hc21, h⟩ := bind_inv h
                refine oCall (M_Graph_has_w N p_0.g (p_0.ground.getD ((x24).toNat) 0) v26 hc21) rfl rfl rfl rfl rfl rfl rfl rfl ⟨⟨rfl, rfl, trivial⟩, rfl, trivial⟩ ?_
                iterate 2 refine oVal tt rfl rfl rfl rfl rfl trivial ?_
                refine oSplit rfl rfl rfl (fun hb22 => ?_) (fun hb22 => ?_)
                · replace h := cnd_t hb22 h
                  iterate 3 refine oNoF rfl rfl rfl rfl hb22 rfl rfl ?_
                  iterate 8 refine oNoU rfl rfl rfl rfl rfl ?_
                  refine oNoF rfl rfl rfl rfl hb22 rfl rfl ?_
                  refine oPick rfl rfl rfl rfl rfl hb22 rfl ?_
                  refine vNil ?_
                  change VC _ _ _ _
                  refine vCondT rfl rfl ?_
                  refine vSeq ?_
                  refine vRegion ?_
                  refine oVal tt rfl rfl rfl rfl rfl trivial ?_
                  refine vNil ?_
                  change VC _ _ _ _
                  refine vRet ?_
                  change ∃ _, _
                  cases h
                  exact ⟨[], _, rfl, trivial, rfl, (.eq rfl), rfl⟩
                · replace h := cnd_f hb22 h
                  iterate 3 refine oValG tt rfl rfl rfl rfl rfl hb22 rfl rfl rfl trivial ?_
                  refine oSplit rfl rfl rfl (fun hb23 => ?_) (fun hb23 => ?_)
                  · replace h := cnd_t hb23 h
                    iterate 3 refine oValG tt rfl rfl rfl rfl rfl hb23 rfl rfl rfl trivial ?_
                    obtain ⟨hg24, h⟩ := grd_inv h
                    refine oValG tt rfl rfl rfl rfl rfl hb23 rfl rfl rfl hg24 ?_
                    obtain ⟨hg25, h⟩ := grd_inv h
                    refine oValG tt rfl rfl rfl rfl rfl hb23 rfl rfl rfl hg25 ?_
                    iterate 3 refine oValG tt rfl rfl rfl rfl rfl hb23 rfl rfl rfl trivial ?_
                    refine oPickGT rfl rfl rfl rfl hb22 rfl rfl rfl rfl hb23 rfl ?_
                    refine oPickF rfl rfl rfl rfl rfl hb22 rfl ?_
                    refine vNil ?_
                    change VC _ _ _ _
                    refine vCond rfl (fun hb26 => ?_) (fun hb26 => ?_)
                    · replace h := cnd_t hb26 h
                      refine vSeq ?_
                      refine vRegion ?_
                      refine oVal tt rfl rfl rfl rfl rfl trivial ?_
                      refine vNil ?_
                      change VC _ _ _ _
                      refine vRet ?_
                      change ∃ _, _
                      cases h
                      exact ⟨[], _, rfl, trivial, rfl, (.eq rfl), rfl⟩
                    · replace h := cnd_f hb26 h
                      refine vSkip ?_
                      change VC _ _ _ _
                      refine vRegion ?_
                      obtain ⟨hg27, h⟩ := grd_inv h
                      refine oVal tt rfl rfl rfl rfl rfl hg27 ?_
                      refine oVal tt rfl rfl rfl rfl rfl trivial ?_
                      refine vNil ?_
                      change ∃ _, _
                      exact ⟨(x24 + (1 : Int)), (En.of ⟨rfl, rfl, rfl, rfl, rfl, trivial⟩ trivial ⟨rfl, rfl, trivial⟩), h⟩
                  · replace h := cnd_f hb23 h
                    iterate 8 refine oNoT rfl rfl rfl rfl hb23 rfl rfl ?_
                    refine oPickGF rfl rfl rfl rfl hb22 rfl rfl rfl rfl hb23 rfl ?_
                    refine oPickF rfl rfl rfl rfl rfl hb22 rfl ?_
                    refine vNil ?_
                    change VC _ _ _ _
                    refine vCondF rfl rfl ?_
                    refine vSkip ?_
                    change VC _ _ _ _
                    refine vRegion ?_
                    obtain ⟨hg28, h⟩ := grd_inv h
                    refine oVal tt rfl rfl rfl rfl rfl hg28 ?_
                    refine oVal tt rfl rfl rfl rfl rfl trivial ?_
                    refine vNil ?_
                    change ∃ _, _
                    exact ⟨(x24 + (1 : Int)), (En.of ⟨rfl, rfl, rfl, rfl, rfl, trivial⟩ trivial ⟨rfl, rfl, trivial⟩), h⟩
              · replace h := cnd_f hb19 h
                refine vExit ?_
                change ∃ _, _
                exact ⟨(), (En.of ⟨rfl, rfl, trivial⟩ trivial ⟨rfl, rfl, trivial⟩), h⟩
def M_Pinned_isInner (N : Nat) (p_0 : Pin) (v_1 : Int) : Option (Bool) :=
  (M_Graph_has N p_0.g v_1).bind fun v1 =>
  cnd v1 (
    (G_Contains_int N p_0.ground v_1).bind fun v2 =>
    some (!v2)) (
    some false)
set_option maxRecDepth 20000 in
set_option maxHeartbeats 1600000 in
theorem M_Pinned_isInner_w (N : Nat) (p_0 : Pin) (v_1 : Int) (r : Bool) (h : M_Pinned_isInner N p_0 v_1 = some r) : PCall Try.prog 82 [pD p_0, .int v_1] [] (.bool r) := by
  unfold M_Pinned_isInner at h
  refine pcall_intro (TT := TT) tt Try.func82 rfl rfl Try.ntmps82 (congrArg Array.toList Try.results82) rfl rfl fun w0 => ?_
  refine vSeq ?_
  refine vRegion ?_
  refine oBox rfl rfl rfl rfl rfl rfl rfl rfl rfl ?_
  refine oVal tt rfl rfl rfl rfl rfl trivial ?_
  refine vNil ?_
  change VC _ _ _ _
  refine vSeq ?_
  refine vRegion ?_
  iterate 3 refine oVal tt rfl rfl rfl rfl rfl trivial ?_
  obtain ⟨v1, hc1, h⟩ := bind_inv h
  refine oCall (M_Graph_has_w N p_0.g v_1 v1 hc1) rfl rfl rfl rfl rfl rfl rfl rfl ⟨⟨rfl, rfl, trivial⟩, rfl, trivial⟩ ?_
  refine oVal tt rfl rfl rfl rfl rfl trivial ?_
  refine oSplit rfl rfl rfl (fun hb2 => ?_) (fun hb2 => ?_)
  · replace h := cnd_t hb2 h
    iterate 3 refine oValG tt rfl rfl rfl rfl rfl hb2 rfl rfl rfl trivial ?_
    obtain ⟨v2, hc3, h⟩ := bind_inv h
    refine oCallG (G_Contains_int_w N p_0.ground v_1 v2 hc3) rfl rfl rfl rfl hb2 rfl rfl rfl rfl rfl rfl rfl ⟨rfl, rfl, trivial⟩ ?_
    refine oValG tt rfl rfl rfl rfl rfl hb2 rfl rfl rfl trivial ?_
    refine oPick rfl rfl rfl rfl rfl hb2 rfl ?_
    refine oVal tt rfl rfl rfl rfl rfl trivial ?_
    refine vNil ?_
    change VC _ _ _ _
    refine vRet ?_
    change ∃ _, _
    cases h
    exact ⟨[], _, rfl, trivial, rfl, (.eq rfl), rfl⟩
  · replace h := cnd_f hb2 h
    iterate 5 refine oNoT rfl rfl rfl rfl hb2 rfl rfl ?_
    refine oPickF rfl rfl rfl rfl rfl hb2 rfl ?_
    refine oVal tt rfl rfl rfl rfl rfl trivial ?_
    refine vNil ?_
    change VC _ _ _ _
    refine vRet ?_
    change ∃ _, _
    cases h
    exact ⟨[], _, rfl, trivial, rfl, (.eq rfl), rfl⟩
def I_InnerPoints_l1 (N : Nat) (p_0 : Pin) (k : (List Int) → Option (List Int)) : Nat → ((List Int) × Int) → Option (List Int)
  | 0, _ => none
  | n + 1, (l12, x13) =>
    cnd (decide (x13 < p_0.g.n)) (
      (G_Contains_int N p_0.ground x13).bind fun v15 =>
      cnd (!v15) (
        grd (l12.length + 1 ≤ 4294967296) <|
        grd (Rg64 (x13 + (1 : Int))) <|
        I_InnerPoints_l1 N p_0 k n ((l12 ++ ([x13] : List Int)), (x13 + (1 : Int)))) (
        grd (Rg64 (x13 + (1 : Int))) <|
        I_InnerPoints_l1 N p_0 k n (l12, (x13 + (1 : Int))))) (
      k l12)
def I_InnerPoints (N : Nat) (p_0 : Pin) : Option (List Int) :=
  (I_IsPinned N p_0).bind fun v1 =>
  cnd (!v1) (
    some ([] : List Int)) (
    I_InnerPoints_l1 N p_0 (fun (l8 : List Int) =>
          some l8) N (([] : List Int), (0 : Int)))
set_option maxRecDepth 20000 in
set_option maxHeartbeats 1600000 in
theorem I_InnerPoints_w (N : Nat) (p_0 : Pin) (r : List Int) (h : I_InnerPoints N p_0 = some r) : PCall Try.prog 91 [pD p_0] [(3, .ints r)] (.row 0 0 r.length) := by
  unfold I_InnerPoints at h
  refine pcall_intro (TT := TT) tt Try.func91 rfl rfl Try.ntmps91 (congrArg Array.toList Try.results91) rfl rfl fun w0 => ?_
  refine vSeq ?_
  refine vRegion ?_
  refine oBox rfl rfl rfl rfl rfl rfl rfl rfl rfl ?_
  refine oVal tt rfl rfl rfl rfl rfl trivial ?_
  refine vNil ?_
  change VC _ _ _ _
  refine vSeq ?_
  refine vRegion ?_
  refine oEmpty tt (wNone rfl) rfl rfl rfl rfl ?_
  refine oVal tt rfl rfl rfl rfl rfl trivial ?_
  refine vNil ?_
  change VC _ _ _ _
  iterate 2 refine vSeq ?_
  refine vRegion ?_
  refine oVal tt rfl rfl rfl rfl rfl trivial ?_
  obtain ⟨v1, hc1, h⟩ := bind_inv h
  refine oCall (I_IsPinned_w N p_0 v1 hc1) rfl rfl rfl rfl rfl rfl rfl rfl ⟨⟨rfl, rfl, rfl, trivial⟩, trivial⟩ ?_
  refine oVal tt rfl rfl rfl rfl rfl trivial ?_
  refine vNil ?_
  change VC _ _ _ _
  refine vCond rfl (fun hb2 => ?_) (fun hb2 => ?_)
  · replace h := cnd_t hb2 h
    refine vSeq ?_
    refine vRegion ?_
    iterate 2 refine oVal tt rfl rfl rfl rfl rfl trivial ?_
    refine vNil ?_
    change VC _ _ _ _
    refine vNilT 2 9001 3 (.ints []) rfl rfl rfl rfl ?_
    refine vRet ?_
    change ∃ _, _
    cases h
    exact ⟨[9001], _, rfl, ⟨rfl, trivial⟩, rfl, (.eq rfl), rfl⟩
  · replace h := cnd_f hb2 h
    refine vSkip ?_
    change VC _ _ _ _
    iterate 2 refine vSeq ?_
    refine vRegion ?_
    iterate 4 refine oVal tt rfl rfl rfl rfl rfl trivial ?_
    refine vNil ?_
    change VC _ _ _ _
    refine vJoin (F := fun k => I_InnerPoints_l1 N p_0 k) h (α := List Int) (J := fun (l8 : List Int) => (⟨[(3, .row 24 0 l8.length)], [(24, some (3, .ints l8))], []⟩ : PS)) ?_ ?_
    · rintro l8 h
      show VC _ _ _ (⟨[(3, .row 24 0 l8.length)], [(24, some (3, .ints l8))], []⟩ : PS)
      refine vSeq ?_
      refine vRegion ?_
      iterate 2 refine oVal tt rfl rfl rfl rfl rfl trivial ?_
      refine vNil ?_
      change VC _ _ _ _
      refine vRet ?_
      change ∃ _, _
      cases h
      exact ⟨[24], _, rfl, ⟨rfl, trivial⟩, rfl, (.eq rfl), rfl⟩
    · intro k h
      refine vBlock ?_
      refine vNilT 3 24 3 (.ints []) rfl rfl rfl rfl ?_
      refine vLoopS (α := (List Int) × Int) (fun | (l12, x13) => (⟨[(1, .ptr 1 0), (3, .row 24 0 l12.length), (12, .int p_0.g.n), (13, .int x13)], [(24, some (3, .ints l12))], [(1, some [.int p_0.g.n, .ro false (.pairs p_0.g.bars), .ro false (.ints p_0.ground)])]⟩ : PS)) (I_InnerPoints_l1 N p_0 k) h (En.of ⟨rfl, rfl, rfl, rfl, trivial⟩ ⟨rfl, trivial⟩ ⟨rfl, trivial⟩) (fun _ => rfl) ?_
      rintro n ⟨l12, x13⟩ h
      rw [I_InnerPoints_l1] at h
      show VC _ _ _ (⟨[(1, .ptr 1 0), (3, .row 24 0 l12.length), (12, .int p_0.g.n), (13, .int x13)], [(24, some (3, .ints l12))], [(1, some [.int p_0.g.n, .ro false (.pairs p_0.g.bars), .ro false (.ints p_0.ground)])]⟩ : PS)
      refine vSeq ?_
      refine vRegion ?_
      refine oVal tt rfl rfl rfl rfl rfl trivial ?_
      refine vNil ?_
      change VC _ _ _ _
      refine vSeq ?_
      refine vCond rfl (fun hb3 => ?_) (fun hb3 => ?_)
      · replace h := cnd_t hb3 h
        refine vSkip ?_
        change VC _ _ _ _
        refine vSeq ?_
        refine vBlock ?_
        refine vSeq ?_
        refine vRegion ?_
        iterate 2 refine oVal tt rfl rfl rfl rfl rfl trivial ?_
        refine vNil ?_
        change VC _ _ _ _
        refine vSeq ?_
        refine vRegion ?_
        iterate 3 refine oVal tt rfl rfl rfl rfl rfl trivial ?_
        obtain ⟨v15, hc4, h⟩ := bind_inv h
        refine oCall (G_Contains_int_w N p_0.ground x13 v15 hc4) rfl rfl rfl rfl rfl rfl rfl rfl ⟨rfl, rfl, trivial⟩ ?_
        refine oVal tt rfl rfl rfl rfl rfl trivial ?_
        refine vNil ?_
        change VC _ _ _ _
        refine vCond rfl (fun hb5 => ?_) (fun hb5 => ?_)
        · replace h := cnd_t hb5 h
          refine vRegion ?_
          iterate 2 refine oVal tt rfl rfl rfl rfl rfl trivial ?_
          refine oBuild tt rfl rfl rfl rfl rfl rfl rfl rfl rfl rfl rfl ?_
          obtain ⟨hg6, h⟩ := grd_inv h
          refine oAppend tt rfl rfl rfl rfl rfl rfl rfl rfl rfl rfl rfl rfl rfl rfl rfl rfl (Nat.le_of_eq (Nat.zero_add _)) hg6 ?_
          refine oVal tt rfl rfl rfl rfl rfl trivial ?_
          refine vNil ?_
          change VC _ _ _ _
          refine vRegion ?_
          obtain ⟨hg7, h⟩ := grd_inv h
          refine oVal tt rfl rfl rfl rfl rfl hg7 ?_
          refine oVal tt rfl rfl rfl rfl rfl trivial ?_
          refine vNil ?_
          change ∃ _, _
          exact ⟨((l12 ++ ([x13] : List Int)), (x13 + (1 : Int))), (En.of ⟨rfl, rfl, rfl, rfl, trivial⟩ ⟨rfl, trivial⟩ ⟨rfl, trivial⟩), h⟩
        · replace h := cnd_f hb5 h
          refine vSkip ?_
          change VC _ _ _ _
          refine vRegion ?_
          obtain ⟨hg8, h⟩ := grd_inv h
          refine oVal tt rfl rfl rfl rfl rfl hg8 ?_
          refine oVal tt rfl rfl rfl rfl rfl trivial ?_
          refine vNil ?_
          change ∃ _, _
          exact ⟨(l12, (x13 + (1 : Int))), (En.of ⟨rfl, rfl, rfl, rfl, trivial⟩ ⟨rfl, trivial⟩ ⟨rfl, trivial⟩), h⟩
      · replace h := cnd_f hb3 h
        refine vExit ?_
        change ∃ _, _
        exact ⟨l12, (En.of ⟨rfl, trivial⟩ ⟨rfl, trivial⟩ trivial), h⟩
def L_eqPinned (N : Nat) (a_0 : Pin) (b_1 : Pin) : Option (Bool) :=
  (L_eqGraph N a_0.g b_1.g).bind fun v1 =>
  cnd (!v1) (
    some false) (
    (L_eqIntS N a_0.ground b_1.ground).bind fun v2 =>
    cnd (!v2) (
      some false) (
      some true))
set_option maxRecDepth 20000 in
set_option maxHeartbeats 1600000 in
theorem L_eqPinned_w (N : Nat) (a_0 : Pin) (b_1 : Pin) (r : Bool) (h : L_eqPinned N a_0 b_1 = some r) : PCall Try.prog 19 [pD a_0, pD b_1] [] (.bool r) := by
  unfold L_eqPinned at h
  refine pcall_intro (TT := TT) tt Try.func19 rfl rfl Try.ntmps19 (congrArg Array.toList Try.results19) rfl rfl fun w0 => ?_
  refine vSeq ?_
  refine vRegion ?_
  iterate 2 refine oBox rfl rfl rfl rfl rfl rfl rfl rfl rfl ?_
  refine oVal tt rfl rfl rfl rfl rfl trivial ?_
  refine vNil ?_
  change VC _ _ _ _
  iterate 2 refine vSeq ?_
  refine vRegion ?_
  iterate 4 refine oVal tt rfl rfl rfl rfl rfl trivial ?_
  obtain ⟨v1, hc1, h⟩ := bind_inv h
  refine oCall (L_eqGraph_w N a_0.g b_1.g v1 hc1) rfl rfl rfl rfl rfl rfl rfl rfl ⟨⟨rfl, rfl, trivial⟩, ⟨rfl, rfl, trivial⟩, trivial⟩ ?_
  refine oVal tt rfl rfl rfl rfl rfl trivial ?_
  refine vNil ?_
  change VC _ _ _ _
  refine vCond rfl (fun hb2 => ?_) (fun hb2 => ?_)
  · replace h := cnd_t hb2 h
    refine vSeq ?_
    refine vRegion ?_
    refine oVal tt rfl rfl rfl rfl rfl trivial ?_
    refine vNil ?_
    change VC _ _ _ _
    refine vRet ?_
    change ∃ _, _
    cases h
    exact ⟨[], _, rfl, trivial, rfl, (.eq rfl), rfl⟩
  · replace h := cnd_f hb2 h
    refine vSkip ?_
    change VC _ _ _ _
    iterate 2 refine vSeq ?_
    refine vRegion ?_
    iterate 4 refine oVal tt rfl rfl rfl rfl rfl trivial ?_
    obtain ⟨v2, hc3, h⟩ := bind_inv h
    refine oCall (L_eqIntS_w N a_0.ground b_1.ground v2 hc3) rfl rfl rfl rfl rfl rfl rfl rfl ⟨rfl, rfl, trivial⟩ ?_
    refine oVal tt rfl rfl rfl rfl rfl trivial ?_
    refine vNil ?_
    change VC _ _ _ _
    refine vCond rfl (fun hb4 => ?_) (fun hb4 => ?_)
    · replace h := cnd_t hb4 h
      refine vSeq ?_
      refine vRegion ?_
      refine oVal tt rfl rfl rfl rfl rfl trivial ?_
      refine vNil ?_
      change VC _ _ _ _
      refine vRet ?_
      change ∃ _, _
      cases h
      exact ⟨[], _, rfl, trivial, rfl, (.eq rfl), rfl⟩
    · replace h := cnd_f hb4 h
      refine vSkip ?_
      change VC _ _ _ _
      refine vSeq ?_
      refine vRegion ?_
      refine oVal tt rfl rfl rfl rfl rfl trivial ?_
      refine vNil ?_
      change VC _ _ _ _
      refine vRet ?_
      change ∃ _, _
      cases h
      exact ⟨[], _, rfl, trivial, rfl, (.eq rfl), rfl⟩
end Go.Proofs.Ytkpmijmlbpdknaa
