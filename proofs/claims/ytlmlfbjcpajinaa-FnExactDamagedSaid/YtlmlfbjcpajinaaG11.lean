/- Plain texts of functions, and that the program computes them (printed by gen.py). -/
import Derived.Test.YtlmlfbjcpajinaaShb
import Derived.Test.YtlmlfbjcpajinaaG1
import Derived.Test.YtlmlfbjcpajinaaG6
import Derived.Test.YtlmlfbjcpajinaaG7
import Derived.Test.YtlmlfbjcpajinaaG10
namespace Go.Proofs.Ytlmlfbjcpajinaa
open Go.RowKit
set_option linter.unusedVariables false
set_option linter.unusedSimpArgs false
def L_toPlaceS_l1 (N : Nat) (a_0 : List (Int × Int)) (k : (List (Int × Int)) → Option (List (Int × Int))) : Nat → ((List (Int × Int)) × Int) → Option (List (Int × Int))
  | 0, _ => none
  | n + 1, (l21, i22) =>
    cnd (decide (i22 < (a_0.length : Int))) (
      grd (0 ≤ i22 ∧ i22 < (a_0.length : Int)) <|
      (L_toPlace N (a_0.getD ((i22).toNat) (0, 0))).bind fun v24 =>
      grd (0 ≤ i22 ∧ i22 < ((List.replicate (((a_0.length : Int)).toNat) ((0, 0) : Int × Int)).length : Int)) <|
      grd (0 ≤ i22 ∧ i22 < (l21.length : Int)) <|
      grd (Rg64 (i22 + (1 : Int))) <|
      L_toPlaceS_l1 N a_0 k n (((l21.set ((i22).toNat) (v24.1, (l21.getD ((i22).toNat) (0, 0)).2)).set ((i22).toNat) (((l21.set ((i22).toNat) (v24.1, (l21.getD ((i22).toNat) (0, 0)).2)).getD ((i22).toNat) (0, 0)).1, v24.2)), (i22 + (1 : Int)))) (
      k l21)
def L_toPlaceS (N : Nat) (a_0 : List (Int × Int)) : Option (List (Int × Int)) :=
  grd (0 ≤ (a_0.length : Int) ∧ (a_0.length : Int) ≤ 4294967296) <|
  L_toPlaceS_l1 N a_0 (fun (l18 : List (Int × Int)) =>
        grd ((List.replicate (((a_0.length : Int)).toNat) ((0, 0) : Int × Int)).length = l18.length) <|
        some l18) N ((List.replicate (((a_0.length : Int)).toNat) ((0, 0) : Int × Int)), (0 : Int))
set_option maxRecDepth 20000 in
set_option maxHeartbeats 1600000 in
theorem L_toPlaceS_w (N : Nat) (a_0 : List (Int × Int)) (r : List (Int × Int)) (h : L_toPlaceS N a_0 = some r) : PCall Try.prog 57 [.ro false (.pairs a_0)] [(118, .pairs r)] (.row 0 0 r.length) := by
  unfold L_toPlaceS at h
  refine pcall_intro (TT := TT) tt Try.func57 rfl rfl Try.ntmps57 (congrArg Array.toList Try.results57) rfl rfl fun w0 => ?_
  refine vSeq ?_
  refine vRegion ?_
  refine oVal tt rfl rfl rfl rfl rfl trivial ?_
  refine vNil ?_
  change VC _ _ _ _
  refine vSeq ?_
  refine vRegion ?_
  iterate 2 refine oVal tt rfl rfl rfl rfl rfl trivial ?_
  obtain ⟨hg1, h⟩ := grd_inv h
  refine oMake tt rfl rfl rfl rfl rfl rfl rfl rfl rfl rfl rfl hg1 ?_
  refine oVal tt rfl rfl rfl rfl rfl trivial ?_
  refine vNil ?_
  change VC _ _ _ _
  iterate 2 refine vSeq ?_
  refine vRegion ?_
  refine oVal tt rfl rfl rfl rfl rfl trivial ?_
  refine vNil ?_
  change VC _ _ _ _
  refine vJoin (F := fun k => L_toPlaceS_l1 N a_0 k) h (α := List (Int × Int)) (J := fun (l18 : List (Int × Int)) => (⟨[(3, .row 7 0 ((List.replicate (((a_0.length : Int)).toNat) ((0, 0) : Int × Int)).length))], [(7, some (118, .pairs l18))], []⟩ : PS)) ?_ ?_
  · rintro l18 h
    show VC _ _ _ (⟨[(3, .row 7 0 ((List.replicate (((a_0.length : Int)).toNat) ((0, 0) : Int × Int)).length))], [(7, some (118, .pairs l18))], []⟩ : PS)
    refine vSeq ?_
    refine vRegion ?_
    iterate 2 refine oVal tt rfl rfl rfl rfl rfl trivial ?_
    refine vNil ?_
    change VC _ _ _ _
    obtain ⟨hg2, h⟩ := grd_inv h
    refine vRet ?_
    change ∃ _, _
    cases h
    exact ⟨[7], _, rfl, ⟨rfl, trivial⟩, rfl, (by simp only [hg2]; rfl), rfl⟩
  · intro k h
    refine vBlock ?_
    refine vLoopS (α := (List (Int × Int)) × Int) (fun | (l21, i22) => (⟨[(0, .ro false (.pairs a_0)), (3, .row 7 0 ((List.replicate (((a_0.length : Int)).toNat) ((0, 0) : Int × Int)).length)), (4, .int i22)], [(7, some (118, .pairs l21))], []⟩ : PS)) (L_toPlaceS_l1 N a_0 k) h (En.of ⟨rfl, rfl, rfl, trivial⟩ ⟨rfl, trivial⟩ trivial) (fun _ => rfl) ?_
    rintro n ⟨l21, i22⟩ h
    rw [L_toPlaceS_l1] at h
    show VC _ _ _ (⟨[(0, .ro false (.pairs a_0)), (3, .row 7 0 ((List.replicate (((a_0.length : Int)).toNat) ((0, 0) : Int × Int)).length)), (4, .int i22)], [(7, some (118, .pairs l21))], []⟩ : PS)
    iterate 2 refine vSeq ?_
    refine vRegion ?_
    iterate 4 refine oVal tt rfl rfl rfl rfl rfl trivial ?_
    refine vNil ?_
    change VC _ _ _ _
    refine vCond rfl (fun hb3 => ?_) (fun hb3 => ?_)
    · replace h := cnd_t hb3 h
      refine vSkip ?_
      change VC _ _ _ _
      refine vSeq ?_
      refine vBlock ?_
      refine vRegion ?_
      iterate 4 refine oVal tt rfl rfl rfl rfl rfl trivial ?_
      obtain ⟨hg4, h⟩ := grd_inv h
      refine oVal tt rfl rfl rfl rfl rfl hg4 ?_
      refine oVal tt rfl rfl rfl rfl rfl trivial ?_
      obtain ⟨v24, hc5, h⟩ := bind_inv h
      refine oCall (L_toPlace_w N (a_0.getD ((i22).toNat) (0, 0)) v24 hc5) rfl rfl rfl rfl rfl rfl rfl rfl ⟨⟨rfl, rfl, trivial⟩, trivial⟩ ?_
      obtain ⟨hg6, h⟩ := grd_inv h
      refine oVal tt rfl rfl rfl rfl rfl hg6 ?_
      obtain ⟨hg7, h⟩ := grd_inv h
      refine oStore tt rfl rfl rfl rfl rfl rfl rfl rfl rfl rfl ⟨_, _, rfl, hg7.1, hg7.2⟩ ⟨hg7, (by simpa [Sq.len] using hg7), trivial⟩ ?_
      refine vNil ?_
      change VC _ _ _ _
      refine vRegion ?_
      refine oVal tt rfl rfl rfl rfl rfl trivial ?_
      obtain ⟨hg8, h⟩ := grd_inv h
      refine oVal tt rfl rfl rfl rfl rfl hg8 ?_
      refine oVal tt rfl rfl rfl rfl rfl trivial ?_
      refine vNil ?_
      change ∃ _, _
      exact ⟨(((l21.set ((i22).toNat) (v24.1, (l21.getD ((i22).toNat) (0, 0)).2)).set ((i22).toNat) (((l21.set ((i22).toNat) (v24.1, (l21.getD ((i22).toNat) (0, 0)).2)).getD ((i22).toNat) (0, 0)).1, v24.2)), (i22 + (1 : Int))), (En.of ⟨rfl, rfl, rfl, trivial⟩ ⟨rfl, trivial⟩ trivial), h⟩
    · replace h := cnd_f hb3 h
      refine vExit ?_
      change ∃ _, _
      exact ⟨l21, (En.of ⟨rfl, trivial⟩ ⟨rfl, trivial⟩ trivial), h⟩
def L_toFramework (N : Nat) (a_0 : Frm) : Option (Frm) :=
  (L_toGraph N a_0.g).bind fun v3 =>
  (L_toPlaceS N a_0.places).bind fun v4 =>
  some (⟨⟨v3.n, v3.bars⟩, v4⟩ : Frm)
set_option maxRecDepth 20000 in
set_option maxHeartbeats 1600000 in
theorem L_toFramework_w (N : Nat) (a_0 : Frm) (r : Frm) (h : L_toFramework N a_0 = some r) : PCall Try.prog 90 [fD a_0] [(105, .pairs r.g.bars), (118, .pairs r.places)] (.agg [.int r.g.n, .row 0 0 r.g.bars.length, .row 1 0 r.places.length]) := by
  unfold L_toFramework at h
  refine pcall_intro (TT := TT) tt Try.func90 rfl rfl Try.ntmps90 (congrArg Array.toList Try.results90) rfl rfl fun w0 => ?_
  refine vSeq ?_
  refine vRegion ?_
  refine oBox rfl rfl rfl rfl rfl rfl rfl rfl rfl ?_
  refine oAlloc tt rfl rfl rfl rfl rfl rfl rfl rfl rfl ?_
  refine vNil ?_
  change VC _ _ _ _
  refine vSeq ?_
  refine vRegion ?_
  refine oAlloc tt rfl rfl rfl rfl rfl rfl rfl rfl rfl ?_
  refine vNil ?_
  change VC _ _ _ _
  refine vSeq ?_
  refine vRegion ?_
  iterate 2 refine oVal tt rfl rfl rfl rfl rfl trivial ?_
  obtain ⟨v3, hc1, h⟩ := bind_inv h
  refine oCall (L_toGraph_w N a_0.g v3 hc1) rfl rfl rfl rfl rfl rfl rfl rfl ⟨⟨rfl, rfl, trivial⟩, trivial⟩ ?_
  refine oVal tt rfl rfl rfl rfl rfl trivial ?_
  refine oStore tt rfl rfl rfl rfl rfl rfl rfl rfl rfl rfl rfl ⟨trivial, trivial, trivial⟩ ?_
  refine vNil ?_
  change VC _ _ _ _
  refine vSeq ?_
  refine vRegion ?_
  iterate 2 refine oVal tt rfl rfl rfl rfl rfl trivial ?_
  obtain ⟨v4, hc2, h⟩ := bind_inv h
  refine oCall (L_toPlaceS_w N a_0.places v4 hc2) rfl rfl rfl rfl rfl rfl rfl rfl ⟨rfl, trivial⟩ ?_
  refine oVal tt rfl rfl rfl rfl rfl trivial ?_
  refine oStore tt rfl rfl rfl rfl rfl rfl rfl rfl rfl rfl rfl ⟨trivial, trivial⟩ ?_
  refine vNil ?_
  change VC _ _ _ _
  refine vSeq ?_
  refine vRegion ?_
  refine oVal tt rfl rfl rfl rfl rfl trivial ?_
  refine oStore tt rfl rfl rfl rfl rfl rfl rfl rfl rfl rfl rfl ⟨trivial, trivial, trivial, trivial⟩ ?_
  refine vNil ?_
  change VC _ _ _ _
  refine vRet ?_
  change ∃ _, _
  cases h
  exact ⟨[1060, 1100], _, rfl, ⟨rfl, rfl, trivial⟩, rfl, rfl, rfl⟩
def L_toLinkage (N : Nat) (a_0 : Lnk) : Option (Lnk) :=
  (L_toFramework N a_0.f).bind fun v3 =>
  (L_toIntS N a_0.ground).bind fun v4 =>
  some (⟨⟨⟨v3.g.n, v3.g.bars⟩, v3.places⟩, v4⟩ : Lnk)
set_option maxRecDepth 20000 in
set_option maxHeartbeats 1600000 in
theorem L_toLinkage_w (N : Nat) (a_0 : Lnk) (r : Lnk) (h : L_toLinkage N a_0 = some r) : PCall Try.prog 38 [lD a_0] [(105, .pairs r.f.g.bars), (118, .pairs r.f.places), (3, .ints r.ground)] (.agg [.int r.f.g.n, .row 0 0 r.f.g.bars.length, .row 1 0 r.f.places.length, .row 2 0 r.ground.length]) := by
  unfold L_toLinkage at h
  refine pcall_intro (TT := TT) tt Try.func38 rfl rfl Try.ntmps38 (congrArg Array.toList Try.results38) rfl rfl fun w0 => ?_
  refine vSeq ?_
  refine vRegion ?_
  refine oBox rfl rfl rfl rfl rfl rfl rfl rfl rfl ?_
  refine oAlloc tt rfl rfl rfl rfl rfl rfl rfl rfl rfl ?_
  refine vNil ?_
  change VC _ _ _ _
  refine vSeq ?_
  refine vRegion ?_
  refine oAlloc tt rfl rfl rfl rfl rfl rfl rfl rfl rfl ?_
  refine vNil ?_
  change VC _ _ _ _
  refine vSeq ?_
  refine vRegion ?_
  iterate 2 refine oVal tt rfl rfl rfl rfl rfl trivial ?_
  obtain ⟨v3, hc1, h⟩ := bind_inv h
  refine oCall (L_toFramework_w N a_0.f v3 hc1) rfl rfl rfl rfl rfl rfl rfl rfl ⟨⟨rfl, rfl, rfl, trivial⟩, trivial⟩ ?_
  refine oVal tt rfl rfl rfl rfl rfl trivial ?_
  refine oStore tt rfl rfl rfl rfl rfl rfl rfl rfl rfl rfl rfl ⟨trivial, trivial, trivial, trivial⟩ ?_
  refine vNil ?_
  change VC _ _ _ _
  refine vSeq ?_
  refine vRegion ?_
  iterate 2 refine oVal tt rfl rfl rfl rfl rfl trivial ?_
  obtain ⟨v4, hc2, h⟩ := bind_inv h
  refine oCall (L_toIntS_w N a_0.ground v4 hc2) rfl rfl rfl rfl rfl rfl rfl rfl ⟨rfl, trivial⟩ ?_
  refine oVal tt rfl rfl rfl rfl rfl trivial ?_
  refine oStore tt rfl rfl rfl rfl rfl rfl rfl rfl rfl rfl rfl ⟨trivial, trivial⟩ ?_
  refine vNil ?_
  change VC _ _ _ _
  refine vSeq ?_
  refine vRegion ?_
  refine oVal tt rfl rfl rfl rfl rfl trivial ?_
  refine oStore tt rfl rfl rfl rfl rfl rfl rfl rfl rfl rfl rfl ⟨trivial, trivial, trivial, trivial, trivial⟩ ?_
  refine vNil ?_
  change VC _ _ _ _
  refine vRet ?_
  change ∃ _, _
  cases h
  exact ⟨[1060, 1061, 1100], _, rfl, ⟨rfl, rfl, rfl, trivial⟩, rfl, rfl, rfl⟩
def I_isPlace (N : Nat) (p_0 : Int × Int) : Option (Bool) :=
  (I_within N p_0.1 (0 : Int) (4 : Int)).bind fun v3 =>
  cnd v3 (
    (I_within N p_0.2 (0 : Int) (4 : Int)).bind fun v4 =>
    some v4) (
    some false)
set_option maxRecDepth 20000 in
set_option maxHeartbeats 1600000 in
theorem I_isPlace_w (N : Nat) (p_0 : Int × Int) (r : Bool) (h : I_isPlace N p_0 = some r) : PCall Try.prog 107 [.agg [.int p_0.1, .int p_0.2]] [] (.bool r) := by
  unfold I_isPlace at h
  refine pcall_intro (TT := TT) tt Try.func107 rfl rfl Try.ntmps107 (congrArg Array.toList Try.results107) rfl rfl fun w0 => ?_
  refine vSeq ?_
  refine vRegion ?_
  refine oBox rfl rfl rfl rfl rfl rfl rfl rfl rfl ?_
  refine oVal tt rfl rfl rfl rfl rfl trivial ?_
  refine vNil ?_
  change VC _ _ _ _
  refine vSeq ?_
  refine vRegion ?_
  iterate 2 refine oVal tt rfl rfl rfl rfl rfl trivial ?_
  obtain ⟨v3, hc1, h⟩ := bind_inv h
  refine oCall (I_within_w N p_0.1 (0 : Int) (4 : Int) v3 hc1) rfl rfl rfl rfl rfl rfl rfl rfl ⟨rfl, rfl, rfl, trivial⟩ ?_
  refine oVal tt rfl rfl rfl rfl rfl trivial ?_
  refine oSplit rfl rfl rfl (fun hb2 => ?_) (fun hb2 => ?_)
  · replace h := cnd_t hb2 h
    iterate 2 refine oValG tt rfl rfl rfl rfl rfl hb2 rfl rfl rfl trivial ?_
    obtain ⟨v4, hc3, h⟩ := bind_inv h
    refine oCallG (I_within_w N p_0.2 (0 : Int) (4 : Int) v4 hc3) rfl rfl rfl rfl hb2 rfl rfl rfl rfl rfl rfl rfl ⟨rfl, rfl, rfl, trivial⟩ ?_
    refine oPick rfl rfl rfl rfl rfl hb2 rfl ?_
    refine oVal tt rfl rfl rfl rfl rfl trivial ?_
    refine vNil ?_
    change VC _ _ _ _
    refine vRet ?_
    change ∃ _, _
    cases h
    exact ⟨[], _, rfl, trivial, rfl, rfl, rfl⟩
  · replace h := cnd_f hb2 h
    iterate 3 refine oNoT rfl rfl rfl rfl hb2 rfl rfl ?_
    refine oPickF rfl rfl rfl rfl rfl hb2 rfl ?_
    refine oVal tt rfl rfl rfl rfl rfl trivial ?_
    refine vNil ?_
    change VC _ _ _ _
    refine vRet ?_
    change ∃ _, _
    cases h
    exact ⟨[], _, rfl, trivial, rfl, rfl, rfl⟩
def I_IsFramework_l1 (N : Nat) (f_0 : Frm) (k : Unit → Option (Bool)) : Nat → Int → Option (Bool)
  | 0, _ => none
  | n + 1, x21 =>
    cnd (decide (x21 < (f_0.g.bars.length : Int))) (
      grd (0 ≤ x21 ∧ x21 < (f_0.g.bars.length : Int)) <|
      cnd (decide (x21 > (0 : Int))) (
        grd (Rg64 (x21 - (1 : Int))) <|
        grd (0 ≤ (x21 - (1 : Int)) ∧ (x21 - (1 : Int)) < (f_0.g.bars.length : Int)) <|
        cnd (((f_0.g.bars.getD (((x21 - (1 : Int))).toNat) (0, 0)).1 == (f_0.g.bars.getD ((x21).toNat) (0, 0)).1) && ((f_0.g.bars.getD (((x21 - (1 : Int))).toNat) (0, 0)).2 == (f_0.g.bars.getD ((x21).toNat) (0, 0)).2)) (
          some false) (
          grd (0 ≤ ((f_0.g.bars.getD ((x21).toNat) (0, 0)).1) ∧ ((f_0.g.bars.getD ((x21).toNat) (0, 0)).1) < (f_0.places.length : Int)) <|
          grd (0 ≤ ((f_0.g.bars.getD ((x21).toNat) (0, 0)).2) ∧ ((f_0.g.bars.getD ((x21).toNat) (0, 0)).2) < (f_0.places.length : Int)) <|
          cnd (((f_0.places.getD (((f_0.g.bars.getD ((x21).toNat) (0, 0)).1).toNat) (0, 0)).1 == (f_0.places.getD (((f_0.g.bars.getD ((x21).toNat) (0, 0)).2).toNat) (0, 0)).1) && ((f_0.places.getD (((f_0.g.bars.getD ((x21).toNat) (0, 0)).1).toNat) (0, 0)).2 == (f_0.places.getD (((f_0.g.bars.getD ((x21).toNat) (0, 0)).2).toNat) (0, 0)).2)) (
            some false) (
            grd (Rg64 (x21 + (1 : Int))) <|
            I_IsFramework_l1 N f_0 k n (x21 + (1 : Int))))) (
        grd (0 ≤ ((f_0.g.bars.getD ((x21).toNat) (0, 0)).1) ∧ ((f_0.g.bars.getD ((x21).toNat) (0, 0)).1) < (f_0.places.length : Int)) <|
        grd (0 ≤ ((f_0.g.bars.getD ((x21).toNat) (0, 0)).2) ∧ ((f_0.g.bars.getD ((x21).toNat) (0, 0)).2) < (f_0.places.length : Int)) <|
        cnd (((f_0.places.getD (((f_0.g.bars.getD ((x21).toNat) (0, 0)).1).toNat) (0, 0)).1 == (f_0.places.getD (((f_0.g.bars.getD ((x21).toNat) (0, 0)).2).toNat) (0, 0)).1) && ((f_0.places.getD (((f_0.g.bars.getD ((x21).toNat) (0, 0)).1).toNat) (0, 0)).2 == (f_0.places.getD (((f_0.g.bars.getD ((x21).toNat) (0, 0)).2).toNat) (0, 0)).2)) (
          some false) (
          grd (Rg64 (x21 + (1 : Int))) <|
          I_IsFramework_l1 N f_0 k n (x21 + (1 : Int))))) (
      k ())
def I_IsFramework_l2 (N : Nat) (f_0 : Frm) (k : Unit → Option (Bool)) : Nat → Int → Option (Bool)
  | 0, _ => none
  | n + 1, x24 =>
    cnd (decide (x24 < (f_0.places.length : Int))) (
      grd (0 ≤ x24 ∧ x24 < (f_0.places.length : Int)) <|
      (I_isPlace N (f_0.places.getD ((x24).toNat) (0, 0))).bind fun v26 =>
      cnd (!v26) (
        some false) (
        grd (Rg64 (x24 + (1 : Int))) <|
        I_IsFramework_l2 N f_0 k n (x24 + (1 : Int)))) (
      k ())
def I_IsFramework (N : Nat) (f_0 : Frm) : Option (Bool) :=
  (I_IsGraph N f_0.g).bind fun v14 =>
  cnd (!v14) (
    some false) (
    cnd (decide (f_0.g.n > (6 : Int))) (
      some false) (
      cnd (decide ((f_0.g.bars.length : Int) > (15 : Int))) (
        some false) (
        cnd ((f_0.places.length : Int) != f_0.g.n) (
          some false) (
          I_IsFramework_l2 N f_0 (fun (_ : Unit) =>
                I_IsFramework_l1 N f_0 (fun (_ : Unit) =>
                      some true) N (0 : Int)) N (0 : Int)))))
set_option maxRecDepth 20000 in
set_option maxHeartbeats 1600000 in
theorem I_IsFramework_w (N : Nat) (f_0 : Frm) (r : Bool) (h : I_IsFramework N f_0 = some r) : PCall Try.prog 91 [fD f_0] [] (.bool r) := by
  unfold I_IsFramework at h
  refine pcall_intro (TT := TT) tt Try.func91 rfl rfl Try.ntmps91 (congrArg Array.toList Try.results91) rfl rfl fun w0 => ?_
  refine vSeq ?_
  refine vRegion ?_
  refine oBox rfl rfl rfl rfl rfl rfl rfl rfl rfl ?_
  refine oVal tt rfl rfl rfl rfl rfl trivial ?_
  refine vNil ?_
  change VC _ _ _ _
  refine vSeq ?_
  refine vRegion ?_
  iterate 2 refine oVal tt rfl rfl rfl rfl rfl trivial ?_
  refine oAlloc tt rfl rfl rfl rfl rfl rfl rfl rfl rfl ?_
  refine oStore tt rfl rfl rfl rfl rfl rfl rfl rfl rfl rfl rfl ⟨trivial, trivial, trivial⟩ ?_
  refine vNil ?_
  change VC _ _ _ _
  iterate 2 refine vSeq ?_
  refine vRegion ?_
  refine oVal tt rfl rfl rfl rfl rfl trivial ?_
  obtain ⟨v14, hc1, h⟩ := bind_inv h
  refine oCall (I_IsGraph_w N f_0.g v14 hc1) rfl rfl rfl rfl rfl rfl rfl rfl ⟨⟨rfl, rfl, trivial⟩, trivial⟩ ?_
  iterate 2 refine oVal tt rfl rfl rfl rfl rfl trivial ?_
  refine oSplit rfl rfl rfl (fun hb2 => ?_) (fun hb2 => ?_)
  · replace h := cnd_t hb2 h
    iterate 3 refine oNoF rfl rfl rfl rfl hb2 rfl rfl ?_
    refine oPick rfl rfl rfl rfl rfl hb2 rfl ?_
    refine oVal tt rfl rfl rfl rfl rfl trivial ?_
    iterate 4 refine oNoF rfl rfl rfl rfl rfl rfl rfl ?_
    refine oPick rfl rfl rfl rfl rfl rfl rfl ?_
    refine oVal tt rfl rfl rfl rfl rfl trivial ?_
    iterate 6 refine oNoF rfl rfl rfl rfl rfl rfl rfl ?_
    refine oPick rfl rfl rfl rfl rfl rfl rfl ?_
    refine vNil ?_
    change VC _ _ _ _
    refine vCondT rfl rfl ?_
    refine vSeq ?_
    refine vRegion ?_
    refine oVal tt rfl rfl rfl rfl rfl trivial ?_
    refine vNil ?_
    change VC _ _ _ _
    refine vRet ?_
    change ∃ _, _
    cases h
    exact ⟨[], _, rfl, trivial, rfl, rfl, rfl⟩
  · replace h := cnd_f hb2 h
    iterate 3 refine oValG tt rfl rfl rfl rfl rfl hb2 rfl rfl rfl trivial ?_
    refine oPickF rfl rfl rfl rfl rfl hb2 rfl ?_
    refine oVal tt rfl rfl rfl rfl rfl trivial ?_
    refine oSplit rfl rfl rfl (fun hb3 => ?_) (fun hb3 => ?_)
    · replace h := cnd_t hb3 h
      iterate 4 refine oNoF rfl rfl rfl rfl hb3 rfl rfl ?_
      refine oPick rfl rfl rfl rfl rfl hb3 rfl ?_
      refine oVal tt rfl rfl rfl rfl rfl trivial ?_
      iterate 6 refine oNoF rfl rfl rfl rfl rfl rfl rfl ?_
      refine oPick rfl rfl rfl rfl rfl rfl rfl ?_
      refine vNil ?_
      change VC _ _ _ _
      refine vCondT rfl rfl ?_
      refine vSeq ?_
      refine vRegion ?_
      refine oVal tt rfl rfl rfl rfl rfl trivial ?_
      refine vNil ?_
      change VC _ _ _ _
      refine vRet ?_
      change ∃ _, _
      cases h
      exact ⟨[], _, rfl, trivial, rfl, rfl, rfl⟩
    · replace h := cnd_f hb3 h
      iterate 4 refine oValG tt rfl rfl rfl rfl rfl hb3 rfl rfl rfl trivial ?_
      refine oPickF rfl rfl rfl rfl rfl hb3 rfl ?_
      refine oVal tt rfl rfl rfl rfl rfl trivial ?_
      refine oSplit rfl rfl rfl (fun hb4 => ?_) (fun hb4 => ?_)
      · replace h := cnd_t hb4 h
        iterate 6 refine oNoF rfl rfl rfl rfl hb4 rfl rfl ?_
        refine oPick rfl rfl rfl rfl rfl hb4 rfl ?_
        refine vNil ?_
        change VC _ _ _ _
        refine vCondT rfl rfl ?_
        refine vSeq ?_
        refine vRegion ?_
        refine oVal tt rfl rfl rfl rfl rfl trivial ?_
        refine vNil ?_
        change VC _ _ _ _
        refine vRet ?_
        change ∃ _, _
        cases h
        exact ⟨[], _, rfl, trivial, rfl, rfl, rfl⟩
      · replace h := cnd_f hb4 h
        iterate 6 refine oValG tt rfl rfl rfl rfl rfl hb4 rfl rfl rfl trivial ?_
        refine oPickF rfl rfl rfl rfl rfl hb4 rfl ?_
        refine vNil ?_
        change VC _ _ _ _
        refine vCond rfl (fun hb5 => ?_) (fun hb5 => ?_)
        · replace h := cnd_t hb5 h
          refine vSeq ?_
          refine vRegion ?_
          refine oVal tt rfl rfl rfl rfl rfl trivial ?_
          refine vNil ?_
          change VC _ _ _ _
          refine vRet ?_
          change ∃ _, _
          cases h
          exact ⟨[], _, rfl, trivial, rfl, rfl, rfl⟩
        · replace h := cnd_f hb5 h
          refine vSkip ?_
          change VC _ _ _ _
          iterate 2 refine vSeq ?_
          refine vRegion ?_
          iterate 4 refine oVal tt rfl rfl rfl rfl rfl trivial ?_
          refine vNil ?_
          change VC _ _ _ _
          refine vJoin (F := fun k => I_IsFramework_l2 N f_0 k) h (α := Unit) (J := fun (_ : Unit) => (⟨[(1, .ptr 1 0), (3, .ptr 3 0)], [], [(1, some [.int f_0.g.n, .ro false (.pairs f_0.g.bars), .ro false (.pairs f_0.places)]), (3, some [.int f_0.g.n, .ro false (.pairs f_0.g.bars)])]⟩ : PS)) ?_ ?_
          · rintro ⟨⟩ h
            show VC _ _ _ (⟨[(1, .ptr 1 0), (3, .ptr 3 0)], [], [(1, some [.int f_0.g.n, .ro false (.pairs f_0.g.bars), .ro false (.pairs f_0.places)]), (3, some [.int f_0.g.n, .ro false (.pairs f_0.g.bars)])]⟩ : PS)
            iterate 2 refine vSeq ?_
            refine vRegion ?_
            iterate 4 refine oVal tt rfl rfl rfl rfl rfl trivial ?_
            refine vNil ?_
            change VC _ _ _ _
            refine vJoin (F := fun k => I_IsFramework_l1 N f_0 k) h (α := Unit) (J := fun (_ : Unit) => (⟨[], [], []⟩ : PS)) ?_ ?_
            · rintro ⟨⟩ h
              show VC _ _ _ (⟨[], [], []⟩ : PS)
              refine vSeq ?_
              refine vRegion ?_
              refine oVal tt rfl rfl rfl rfl rfl trivial ?_
              refine vNil ?_
              change VC _ _ _ _
              refine vRet ?_
              change ∃ _, _
              cases h
              exact ⟨[], _, rfl, trivial, rfl, rfl, rfl⟩
            · intro k h
              refine vBlock ?_
              refine vLoopS (α := Int) (fun (x21 : Int) => (⟨[(1, .ptr 1 0), (3, .ptr 3 0), (44, .ro false (.pairs f_0.g.bars)), (45, .int (f_0.g.bars.length : Int)), (46, .int x21)], [], [(1, some [.int f_0.g.n, .ro false (.pairs f_0.g.bars), .ro false (.pairs f_0.places)]), (3, some [.int f_0.g.n, .ro false (.pairs f_0.g.bars)])]⟩ : PS)) (I_IsFramework_l1 N f_0 k) h (En.of ⟨rfl, rfl, rfl, rfl, rfl, trivial⟩ trivial ⟨rfl, rfl, trivial⟩) (fun _ => rfl) ?_
              rintro n x21 h
              rw [I_IsFramework_l1] at h
              show VC _ _ _ (⟨[(1, .ptr 1 0), (3, .ptr 3 0), (44, .ro false (.pairs f_0.g.bars)), (45, .int (f_0.g.bars.length : Int)), (46, .int x21)], [], [(1, some [.int f_0.g.n, .ro false (.pairs f_0.g.bars), .ro false (.pairs f_0.places)]), (3, some [.int f_0.g.n, .ro false (.pairs f_0.g.bars)])]⟩ : PS)
              refine vSeq ?_
              refine vRegion ?_
              refine oVal tt rfl rfl rfl rfl rfl trivial ?_
              refine vNil ?_
              change VC _ _ _ _
              refine vSeq ?_
              refine vCond rfl (fun hb6 => ?_) (fun hb6 => ?_)
              · replace h := cnd_t hb6 h
                refine vSkip ?_
                change VC _ _ _ _
                refine vSeq ?_
                refine vBlock ?_
                refine vSeq ?_
                refine vRegion ?_
                refine oVal tt rfl rfl rfl rfl rfl trivial ?_
                obtain ⟨hg7, h⟩ := grd_inv h
                refine oVal tt rfl rfl rfl rfl rfl hg7 ?_
                refine oVal tt rfl rfl rfl rfl rfl trivial ?_
                refine oAlloc tt rfl rfl rfl rfl rfl rfl rfl rfl rfl ?_
                refine oVal tt rfl rfl rfl rfl rfl trivial ?_
                refine oStore tt rfl rfl rfl rfl rfl rfl rfl rfl rfl rfl rfl ⟨trivial, trivial, trivial⟩ ?_
                refine vNil ?_
                change VC _ _ _ _
                refine vSeq ?_
                refine vRegionD (by kernel_rfl) (by kernel_rfl) ?_
                iterate 3 refine cVal tt rfl (wNone rfl) rfl rfl rfl trivial ?_
                refine cSplit rfl rfl rfl (fun hb8 => ?_) (fun hb8 => ?_)
                · replace h := cnd_t hb8 h
                  iterate 3 refine cVal tt rfl (wSome rfl rfl rfl rfl hb8) rfl rfl rfl trivial ?_
                  obtain ⟨hg9, h⟩ := grd_inv h
                  refine cVal tt rfl (wSome rfl rfl rfl rfl hb8) rfl rfl rfl hg9 ?_
                  obtain ⟨hg10, h⟩ := grd_inv h
                  refine cVal tt rfl (wSome rfl rfl rfl rfl hb8) rfl rfl rfl hg10 ?_
                  iterate 2 refine cVal tt rfl (wSome rfl rfl rfl rfl hb8) rfl rfl rfl trivial ?_
                  refine cPure (wSome rfl rfl rfl rfl hb8) (pEqP eqP_impl_Bar rfl rfl rfl) rfl rfl ?_
                  refine cPickT rfl (wNone rfl) rfl rfl rfl hb8 rfl ?_
                  refine cVal tt rfl (wNone rfl) rfl rfl rfl trivial ?_
                  refine cSplit rfl rfl rfl (fun hb11 => ?_) (fun hb11 => ?_)
                  · replace h := cnd_t hb11 h
                    iterate 13 refine cNoF rfl rfl rfl rfl hb11 rfl rfl ?_
                    refine cPickT rfl (wNone rfl) rfl rfl rfl hb11 rfl ?_
                    refine cNil ?_
                    change VC _ _ _ _
                    refine vCondT rfl rfl ?_
                    refine vSeq ?_
                    refine vRegion ?_
                    refine oVal tt rfl rfl rfl rfl rfl trivial ?_
                    refine vNil ?_
                    change VC _ _ _ _
                    refine vRet ?_
                    change ∃ _, _
                    cases h
                    exact ⟨[], _, rfl, trivial, rfl, rfl, rfl⟩
                  · replace h := cnd_f hb11 h
                    iterate 4 refine cVal tt rfl (wSome rfl rfl rfl rfl hb11) rfl rfl rfl trivial ?_
                    obtain ⟨hg12, h⟩ := grd_inv h
                    refine cVal tt rfl (wSome rfl rfl rfl rfl hb11) rfl rfl rfl hg12 ?_
                    iterate 5 refine cVal tt rfl (wSome rfl rfl rfl rfl hb11) rfl rfl rfl trivial ?_
                    obtain ⟨hg13, h⟩ := grd_inv h
                    refine cVal tt rfl (wSome rfl rfl rfl rfl hb11) rfl rfl rfl hg13 ?_
                    refine cVal tt rfl (wSome rfl rfl rfl rfl hb11) rfl rfl rfl trivial ?_
                    refine cPure (wSome rfl rfl rfl rfl hb11) (pEqP eqP_impl_Place rfl rfl rfl) rfl rfl ?_
                    refine cPickF rfl (wNone rfl) rfl rfl rfl hb11 rfl ?_
                    refine cNil ?_
                    change VC _ _ _ _
                    refine vCond rfl (fun hb14 => ?_) (fun hb14 => ?_)
                    · replace h := cnd_t hb14 h
                      refine vSeq ?_
                      refine vRegion ?_
                      refine oVal tt rfl rfl rfl rfl rfl trivial ?_
                      refine vNil ?_
                      change VC _ _ _ _
                      refine vRet ?_
                      change ∃ _, _
                      cases h
                      exact ⟨[], _, rfl, trivial, rfl, rfl, rfl⟩
                    · replace h := cnd_f hb14 h
                      refine vSkip ?_
                      change VC _ _ _ _
                      refine vRegion ?_
                      obtain ⟨hg15, h⟩ := grd_inv h
                      refine oVal tt rfl rfl rfl rfl rfl hg15 ?_
                      refine oVal tt rfl rfl rfl rfl rfl trivial ?_
                      refine vNil ?_
                      change ∃ _, _
                      exact ⟨(x21 + (1 : Int)), (En.of ⟨rfl, rfl, rfl, rfl, rfl, trivial⟩ trivial ⟨rfl, rfl, trivial⟩), h⟩
                · replace h := cnd_f hb8 h
                  iterate 8 refine cNoT rfl rfl rfl rfl hb8 rfl rfl ?_
                  refine cPickF rfl (wNone rfl) rfl rfl rfl hb8 rfl ?_
                  refine cVal tt rfl (wNone rfl) rfl rfl rfl trivial ?_
                  iterate 4 refine cVal tt rfl (wSome rfl rfl rfl rfl rfl) rfl rfl rfl trivial ?_
                  obtain ⟨hg16, h⟩ := grd_inv h
                  refine cVal tt rfl (wSome rfl rfl rfl rfl rfl) rfl rfl rfl hg16 ?_
                  iterate 5 refine cVal tt rfl (wSome rfl rfl rfl rfl rfl) rfl rfl rfl trivial ?_
                  obtain ⟨hg17, h⟩ := grd_inv h
                  refine cVal tt rfl (wSome rfl rfl rfl rfl rfl) rfl rfl rfl hg17 ?_
                  refine cVal tt rfl (wSome rfl rfl rfl rfl rfl) rfl rfl rfl trivial ?_
                  refine cPure (wSome rfl rfl rfl rfl rfl) (pEqP eqP_impl_Place rfl rfl rfl) rfl rfl ?_
                  refine cPickF rfl (wNone rfl) rfl rfl rfl rfl rfl ?_
                  refine cNil ?_
                  change VC _ _ _ _
                  refine vCond rfl (fun hb18 => ?_) (fun hb18 => ?_)
                  · replace h := cnd_t hb18 h
                    refine vSeq ?_
                    refine vRegion ?_
                    refine oVal tt rfl rfl rfl rfl rfl trivial ?_
                    refine vNil ?_
                    change VC _ _ _ _
                    refine vRet ?_
                    change ∃ _, _
                    cases h
                    exact ⟨[], _, rfl, trivial, rfl, rfl, rfl⟩
                  · replace h := cnd_f hb18 h
                    refine vSkip ?_
                    change VC _ _ _ _
                    refine vRegion ?_
                    obtain ⟨hg19, h⟩ := grd_inv h
                    refine oVal tt rfl rfl rfl rfl rfl hg19 ?_
                    refine oVal tt rfl rfl rfl rfl rfl trivial ?_
                    refine vNil ?_
                    change ∃ _, _
                    exact ⟨(x21 + (1 : Int)), (En.of ⟨rfl, rfl, rfl, rfl, rfl, trivial⟩ trivial ⟨rfl, rfl, trivial⟩), h⟩
              · replace h := cnd_f hb6 h
                refine vExit ?_
                change ∃ _, _
                exact ⟨(), (En.of trivial trivial trivial), h⟩
          · intro k h
            refine vBlock ?_
            refine vLoopS (α := Int) (fun (x24 : Int) => (⟨[(1, .ptr 1 0), (3, .ptr 3 0), (33, .ro false (.pairs f_0.places)), (34, .int (f_0.places.length : Int)), (35, .int x24)], [], [(1, some [.int f_0.g.n, .ro false (.pairs f_0.g.bars), .ro false (.pairs f_0.places)]), (3, some [.int f_0.g.n, .ro false (.pairs f_0.g.bars)])]⟩ : PS)) (I_IsFramework_l2 N f_0 k) h (En.of ⟨rfl, rfl, rfl, rfl, rfl, trivial⟩ trivial ⟨rfl, rfl, trivial⟩) (fun _ => rfl) ?_
            rintro n x24 h
            rw [I_IsFramework_l2] at h
            show VC _ _ _ (⟨[(1, .ptr 1 0), (3, .ptr 3 0), (33, .ro false (.pairs f_0.places)), (34, .int (f_0.places.length : Int)), (35, .int x24)], [], [(1, some [.int f_0.g.n, .ro false (.pairs f_0.g.bars), .ro false (.pairs f_0.places)]), (3, some [.int f_0.g.n, .ro false (.pairs f_0.g.bars)])]⟩ : PS)
            refine vSeq ?_
            refine vRegion ?_
            refine oVal tt rfl rfl rfl rfl rfl trivial ?_
            refine vNil ?_
            change VC _ _ _ _
            refine vSeq ?_
            refine vCond rfl (fun hb20 => ?_) (fun hb20 => ?_)
            · replace h := cnd_t hb20 h
              refine vSkip ?_
              change VC _ _ _ _
              refine vSeq ?_
              refine vBlock ?_
              refine vSeq ?_
              refine vRegion ?_
              obtain ⟨hg21, h⟩ := grd_inv h
              refine oVal tt rfl rfl rfl rfl rfl hg21 ?_
              refine oVal tt rfl rfl rfl rfl rfl trivial ?_
              refine oAlloc tt rfl rfl rfl rfl rfl rfl rfl rfl rfl ?_
              refine oStore tt rfl rfl rfl rfl rfl rfl rfl rfl rfl rfl rfl ⟨trivial, trivial, trivial⟩ ?_
              refine vNil ?_
              change VC _ _ _ _
              refine vSeq ?_
              refine vRegion ?_
              refine oVal tt rfl rfl rfl rfl rfl trivial ?_
              obtain ⟨v26, hc22, h⟩ := bind_inv h
              refine oCall (I_isPlace_w N (f_0.places.getD ((x24).toNat) (0, 0)) v26 hc22) rfl rfl rfl rfl rfl rfl rfl rfl ⟨⟨rfl, rfl, trivial⟩, trivial⟩ ?_
              refine oVal tt rfl rfl rfl rfl rfl trivial ?_
              refine vNil ?_
              change VC _ _ _ _
              refine vCond rfl (fun hb23 => ?_) (fun hb23 => ?_)
              · replace h := cnd_t hb23 h
                refine vSeq ?_
                refine vRegion ?_
                refine oVal tt rfl rfl rfl rfl rfl trivial ?_
                refine vNil ?_
                change VC _ _ _ _
                refine vRet ?_
                change ∃ _, _
                cases h
                exact ⟨[], _, rfl, trivial, rfl, rfl, rfl⟩
              · replace h := cnd_f hb23 h
                refine vSkip ?_
                change VC _ _ _ _
                refine vRegion ?_
                obtain ⟨hg24, h⟩ := grd_inv h
                refine oVal tt rfl rfl rfl rfl rfl hg24 ?_
                refine oVal tt rfl rfl rfl rfl rfl trivial ?_
                refine vNil ?_
                change ∃ _, _
                exact ⟨(x24 + (1 : Int)), (En.of ⟨rfl, rfl, rfl, rfl, rfl, trivial⟩ trivial ⟨rfl, rfl, trivial⟩), h⟩
            · replace h := cnd_f hb20 h
              refine vExit ?_
              change ∃ _, _
              exact ⟨(), (En.of ⟨rfl, rfl, trivial⟩ trivial ⟨rfl, rfl, trivial⟩), h⟩
def I_IsLinkage_l1 (N : Nat) (l_0 : Lnk) (k : Unit → Option (Bool)) : Nat → Int → Option (Bool)
  | 0, _ => none
  | n + 1, x18 =>
    cnd (decide (x18 < (l_0.ground.length : Int))) (
      grd (0 ≤ x18 ∧ x18 < (l_0.ground.length : Int)) <|
      (M_Graph_has N l_0.f.g (l_0.ground.getD ((x18).toNat) 0)).bind fun v20 =>
      cnd (!v20) (
        some false) (
        cnd (decide (x18 > (0 : Int))) (
          grd (Rg64 (x18 - (1 : Int))) <|
          grd (0 ≤ (x18 - (1 : Int)) ∧ (x18 - (1 : Int)) < (l_0.ground.length : Int)) <|
          cnd (decide ((l_0.ground.getD (((x18 - (1 : Int))).toNat) 0) ≥ (l_0.ground.getD ((x18).toNat) 0))) (
            some false) (
            grd (Rg64 (x18 + (1 : Int))) <|
            I_IsLinkage_l1 N l_0 k n (x18 + (1 : Int)))) (
          grd (Rg64 (x18 + (1 : Int))) <|
          I_IsLinkage_l1 N l_0 k n (x18 + (1 : Int))))) (
      k ())
def I_IsLinkage (N : Nat) (l_0 : Lnk) : Option (Bool) :=
  (I_IsFramework N l_0.f).bind fun v11 =>
  cnd (!v11) (
    some false) (
    cnd ((l_0.ground.length : Int) == (0 : Int)) (
      some false) (
      grd (Rg64 (l_0.f.g.n - (l_0.ground.length : Int))) <|
      cnd (decide ((l_0.f.g.n - (l_0.ground.length : Int)) > (2 : Int))) (
        some false) (
        I_IsLinkage_l1 N l_0 (fun (_ : Unit) =>
              some true) N (0 : Int))))
set_option maxRecDepth 20000 in
set_option maxHeartbeats 1600000 in
theorem I_IsLinkage_w (N : Nat) (l_0 : Lnk) (r : Bool) (h : I_IsLinkage N l_0 = some r) : PCall Try.prog 39 [lD l_0] [] (.bool r) := by
  unfold I_IsLinkage at h
  refine pcall_intro (TT := TT) tt Try.func39 rfl rfl Try.ntmps39 (congrArg Array.toList Try.results39) rfl rfl fun w0 => ?_
  refine vSeq ?_
  refine vRegion ?_
  refine oBox rfl rfl rfl rfl rfl rfl rfl rfl rfl ?_
  refine oVal tt rfl rfl rfl rfl rfl trivial ?_
  refine vNil ?_
  change VC _ _ _ _
  iterate 2 refine vSeq ?_
  refine vRegion ?_
  iterate 2 refine oVal tt rfl rfl rfl rfl rfl trivial ?_
  obtain ⟨v11, hc1, h⟩ := bind_inv h
  refine oCall (I_IsFramework_w N l_0.f v11 hc1) rfl rfl rfl rfl rfl rfl rfl rfl ⟨⟨rfl, rfl, rfl, trivial⟩, trivial⟩ ?_
  iterate 2 refine oVal tt rfl rfl rfl rfl rfl trivial ?_
  refine oSplit rfl rfl rfl (fun hb2 => ?_) (fun hb2 => ?_)
  · replace h := cnd_t hb2 h
    iterate 4 refine oNoF rfl rfl rfl rfl hb2 rfl rfl ?_
    refine oPick rfl rfl rfl rfl rfl hb2 rfl ?_
    refine oVal tt rfl rfl rfl rfl rfl trivial ?_
    iterate 9 refine oNoF rfl rfl rfl rfl rfl rfl rfl ?_
    refine oPick rfl rfl rfl rfl rfl rfl rfl ?_
    refine vNil ?_
    change VC _ _ _ _
    refine vCondT rfl rfl ?_
    refine vSeq ?_
    refine vRegion ?_
    refine oVal tt rfl rfl rfl rfl rfl trivial ?_
    refine vNil ?_
    change VC _ _ _ _
    refine vRet ?_
    change ∃ _, _
    cases h
    exact ⟨[], _, rfl, trivial, rfl, rfl, rfl⟩
  · replace h := cnd_f hb2 h
    iterate 4 refine oValG tt rfl rfl rfl rfl rfl hb2 rfl rfl rfl trivial ?_
    refine oPickF rfl rfl rfl rfl rfl hb2 rfl ?_
    refine oVal tt rfl rfl rfl rfl rfl trivial ?_
    refine oSplit rfl rfl rfl (fun hb3 => ?_) (fun hb3 => ?_)
    · replace h := cnd_t hb3 h
      iterate 9 refine oNoF rfl rfl rfl rfl hb3 rfl rfl ?_
      refine oPick rfl rfl rfl rfl rfl hb3 rfl ?_
      refine vNil ?_
      change VC _ _ _ _
      refine vCondT rfl rfl ?_
      refine vSeq ?_
      refine vRegion ?_
      refine oVal tt rfl rfl rfl rfl rfl trivial ?_
      refine vNil ?_
      change VC _ _ _ _
      refine vRet ?_
      change ∃ _, _
      cases h
      exact ⟨[], _, rfl, trivial, rfl, rfl, rfl⟩
    · replace h := cnd_f hb3 h
      iterate 7 refine oValG tt rfl rfl rfl rfl rfl hb3 rfl rfl rfl trivial ?_
      obtain ⟨hg4, h⟩ := grd_inv h
      refine oValG tt rfl rfl rfl rfl rfl hb3 rfl rfl rfl hg4 ?_
      refine oValG tt rfl rfl rfl rfl rfl hb3 rfl rfl rfl trivial ?_
      refine oPickF rfl rfl rfl rfl rfl hb3 rfl ?_
      refine vNil ?_
      change VC _ _ _ _
      refine vCond rfl (fun hb5 => ?_) (fun hb5 => ?_)
      · replace h := cnd_t hb5 h
        refine vSeq ?_
        refine vRegion ?_
        refine oVal tt rfl rfl rfl rfl rfl trivial ?_
        refine vNil ?_
        change VC _ _ _ _
        refine vRet ?_
        change ∃ _, _
        cases h
        exact ⟨[], _, rfl, trivial, rfl, rfl, rfl⟩
      · replace h := cnd_f hb5 h
        refine vSkip ?_
        change VC _ _ _ _
        iterate 2 refine vSeq ?_
        refine vRegion ?_
        iterate 4 refine oVal tt rfl rfl rfl rfl rfl trivial ?_
        refine vNil ?_
        change VC _ _ _ _
        refine vJoin (F := fun k => I_IsLinkage_l1 N l_0 k) h (α := Unit) (J := fun (_ : Unit) => (⟨[], [], []⟩ : PS)) ?_ ?_
        · rintro ⟨⟩ h
          show VC _ _ _ (⟨[], [], []⟩ : PS)
          refine vSeq ?_
          refine vRegion ?_
          refine oVal tt rfl rfl rfl rfl rfl trivial ?_
          refine vNil ?_
          change VC _ _ _ _
          refine vRet ?_
          change ∃ _, _
          cases h
          exact ⟨[], _, rfl, trivial, rfl, rfl, rfl⟩
        · intro k h
          refine vBlock ?_
          refine vLoopS (α := Int) (fun (x18 : Int) => (⟨[(1, .ptr 1 0), (27, .ro false (.ints l_0.ground)), (28, .int (l_0.ground.length : Int)), (29, .int x18)], [], [(1, some [.int l_0.f.g.n, .ro false (.pairs l_0.f.g.bars), .ro false (.pairs l_0.f.places), .ro false (.ints l_0.ground)])]⟩ : PS)) (I_IsLinkage_l1 N l_0 k) h (En.of ⟨rfl, rfl, rfl, rfl, trivial⟩ trivial ⟨rfl, trivial⟩) (fun _ => rfl) ?_
          rintro n x18 h
          rw [I_IsLinkage_l1] at h
          show VC _ _ _ (⟨[(1, .ptr 1 0), (27, .ro false (.ints l_0.ground)), (28, .int (l_0.ground.length : Int)), (29, .int x18)], [], [(1, some [.int l_0.f.g.n, .ro false (.pairs l_0.f.g.bars), .ro false (.pairs l_0.f.places), .ro false (.ints l_0.ground)])]⟩ : PS)
          refine vSeq ?_
          refine vRegion ?_
          refine oVal tt rfl rfl rfl rfl rfl trivial ?_
          refine vNil ?_
          change VC _ _ _ _
          refine vSeq ?_
          refine vCond rfl (fun hb6 => ?_) (fun hb6 => ?_)
          · replace h := cnd_t hb6 h
            refine vSkip ?_
            change VC _ _ _ _
            refine vSeq ?_
            refine vBlock ?_
            refine vSeq ?_
            refine vRegion ?_
            refine oVal tt rfl rfl rfl rfl rfl trivial ?_
            obtain ⟨hg7, h⟩ := grd_inv h
            refine oVal tt rfl rfl rfl rfl rfl hg7 ?_
            iterate 3 refine oVal tt rfl rfl rfl rfl rfl trivial ?_
            refine vNil ?_
            change VC _ _ _ _
            refine vSeq ?_
            refine vRegion ?_
            iterate 4 refine oVal tt rfl rfl rfl rfl rfl trivial ?_
            obtain ⟨v20, hc8, h⟩ := bind_inv h
            refine oCall (M_Graph_has_w N l_0.f.g (l_0.ground.getD ((x18).toNat) 0) v20 hc8) rfl rfl rfl rfl rfl rfl rfl rfl ⟨⟨rfl, rfl, trivial⟩, rfl, trivial⟩ ?_
            iterate 2 refine oVal tt rfl rfl rfl rfl rfl trivial ?_
            refine oSplit rfl rfl rfl (fun hb9 => ?_) (fun hb9 => ?_)
            · replace h := cnd_t hb9 h
              iterate 3 refine oNoF rfl rfl rfl rfl hb9 rfl rfl ?_
              iterate 8 refine oNoU rfl rfl rfl rfl rfl ?_
              refine oNoF rfl rfl rfl rfl hb9 rfl rfl ?_
              refine oPick rfl rfl rfl rfl rfl hb9 rfl ?_
              refine vNil ?_
              change VC _ _ _ _
              refine vCondT rfl rfl ?_
              refine vSeq ?_
              refine vRegion ?_
              refine oVal tt rfl rfl rfl rfl rfl trivial ?_
              refine vNil ?_
              change VC _ _ _ _
              refine vRet ?_
              change ∃ _, _
              cases h
              exact ⟨[], _, rfl, trivial, rfl, rfl, rfl⟩
            · replace h := cnd_f hb9 h
              iterate 3 refine oValG tt rfl rfl rfl rfl rfl hb9 rfl rfl rfl trivial ?_
              refine oSplit rfl rfl rfl (fun hb10 => ?_) (fun hb10 => ?_)
              · replace h := cnd_t hb10 h
                iterate 3 refine oValG tt rfl rfl rfl rfl rfl hb10 rfl rfl rfl trivial ?_
                obtain ⟨hg11, h⟩ := grd_inv h
                refine oValG tt rfl rfl rfl rfl rfl hb10 rfl rfl rfl hg11 ?_
                obtain ⟨hg12, h⟩ := grd_inv h
                refine oValG tt rfl rfl rfl rfl rfl hb10 rfl rfl rfl hg12 ?_
                iterate 3 refine oValG tt rfl rfl rfl rfl rfl hb10 rfl rfl rfl trivial ?_
                refine oPickGT rfl rfl rfl rfl hb9 rfl rfl rfl rfl hb10 rfl ?_
                refine oPickF rfl rfl rfl rfl rfl hb9 rfl ?_
                refine vNil ?_
                change VC _ _ _ _
                refine vCond rfl (fun hb13 => ?_) (fun hb13 => ?_)
                · replace h := cnd_t hb13 h
                  refine vSeq ?_
                  refine vRegion ?_
                  refine oVal tt rfl rfl rfl rfl rfl trivial ?_
                  refine vNil ?_
                  change VC _ _ _ _
                  refine vRet ?_
                  change ∃ _, _
                  cases h
                  exact ⟨[], _, rfl, trivial, rfl, rfl, rfl⟩
                · replace h := cnd_f hb13 h
                  refine vSkip ?_
                  change VC _ _ _ _
                  refine vRegion ?_
                  obtain ⟨hg14, h⟩ := grd_inv h
                  refine oVal tt rfl rfl rfl rfl rfl hg14 ?_
                  refine oVal tt rfl rfl rfl rfl rfl trivial ?_
                  refine vNil ?_
                  change ∃ _, _
                  exact ⟨(x18 + (1 : Int)), (En.of ⟨rfl, rfl, rfl, rfl, trivial⟩ trivial ⟨rfl, trivial⟩), h⟩
              · replace h := cnd_f hb10 h
                iterate 8 refine oNoT rfl rfl rfl rfl hb10 rfl rfl ?_
                refine oPickGF rfl rfl rfl rfl hb9 rfl rfl rfl rfl hb10 rfl ?_
                refine oPickF rfl rfl rfl rfl rfl hb9 rfl ?_
                refine vNil ?_
                change VC _ _ _ _
                refine vCondF rfl rfl ?_
                refine vSkip ?_
                change VC _ _ _ _
                refine vRegion ?_
                obtain ⟨hg15, h⟩ := grd_inv h
                refine oVal tt rfl rfl rfl rfl rfl hg15 ?_
                refine oVal tt rfl rfl rfl rfl rfl trivial ?_
                refine vNil ?_
                change ∃ _, _
                exact ⟨(x18 + (1 : Int)), (En.of ⟨rfl, rfl, rfl, rfl, trivial⟩ trivial ⟨rfl, trivial⟩), h⟩
          · replace h := cnd_f hb6 h
            refine vExit ?_
            change ∃ _, _
            exact ⟨(), (En.of trivial trivial trivial), h⟩
end Go.Proofs.Ytlmlfbjcpajinaa
