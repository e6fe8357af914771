/- Plain texts of functions, and that the program computes them (printed by gen.py). -/
import Derived.Test.YtlmlfbjcpajinaaShb
import Derived.Test.YtlmlfbjcpajinaaG1
import Derived.Test.YtlmlfbjcpajinaaG6
import Derived.Test.YtlmlfbjcpajinaaG7
import Derived.Test.YtlmlfbjcpajinaaG10
namespace Go.Proofs.Ytlmlfbjcpajinaa
open Go.RowKit
set_option linter.unusedVariables false
set_option linter.unusedSimpArgs false
def L_toPlaceS_l1 (N : Nat) (a_0 : List (Int × Int)) (k : (List (Int × Int)) → Option (List (Int × Int))) : Nat → ((List (Int × Int)) × Int) → Option (List (Int × Int))
  | 0, _ => none
  | n + 1, (l9, i10) =>
    cnd (decide (i10 < (a_0.length : Int))) (
      grd (0 ≤ i10 ∧ i10 < (a_0.length : Int)) <|
      (L_toPlace N (a_0.getD ((i10).toNat) (0, 0))).bind fun v12 =>
      grd (0 ≤ i10 ∧ i10 < ((List.replicate (((a_0.length : Int)).toNat) ((0, 0) : Int × Int)).length : Int)) <|
      grd (0 ≤ i10 ∧ i10 < (l9.length : Int)) <|
      grd (Rg64 (i10 + (1 : Int))) <|
      L_toPlaceS_l1 N a_0 k n (((l9.set ((i10).toNat) (v12.1, (l9.getD ((i10).toNat) (0, 0)).2)).set ((i10).toNat) (((l9.set ((i10).toNat) (v12.1, (l9.getD ((i10).toNat) (0, 0)).2)).getD ((i10).toNat) (0, 0)).1, v12.2)), (i10 + (1 : Int)))) (
      k l9)
def L_toPlaceS (N : Nat) (a_0 : List (Int × Int)) : Option (List (Int × Int)) :=
  grd (0 ≤ (a_0.length : Int) ∧ (a_0.length : Int) ≤ 4294967296) <|
  L_toPlaceS_l1 N a_0 (fun (l6 : List (Int × Int)) =>
        grd ((List.replicate (((a_0.length : Int)).toNat) ((0, 0) : Int × Int)).length = l6.length) <|
        some l6) N ((List.replicate (((a_0.length : Int)).toNat) ((0, 0) : Int × Int)), (0 : Int))
set_option maxRecDepth 20000 in
set_option maxHeartbeats 1600000 in
theorem L_toPlaceS_w (N : Nat) (a_0 : List (Int × Int)) (r : List (Int × Int)) (h : L_toPlaceS N a_0 = some r) : PCall Try.prog 57 [.ro false (.pairs a_0)] [(118, .pairs r)] (.row 0 0 r.length) := by
  unfold L_toPlaceS at h
  refine pcall_intro (TT := TT) tt Try.func57 rfl rfl Try.ntmps57 (congrArg Array.toList Try.results57) rfl rfl fun w0 => ?_
  refine vSeq ?_
  refine vRegion ?_
  refine oVal tt rfl rfl rfl rfl rfl trivial ?_
  refine vNil ?_
  change VC _ _ _ _
  refine vSeq ?_
  refine vRegion ?_
  iterate 2 refine oVal tt rfl rfl rfl rfl rfl trivial ?_
  obtain ⟨hg1, h⟩ := grd_inv h
  refine oMake tt rfl rfl rfl rfl rfl rfl rfl rfl rfl rfl rfl hg1 ?_
  refine oVal tt rfl rfl rfl rfl rfl trivial ?_
  refine vNil ?_
  change VC _ _ _ _
  iterate 2 refine vSeq ?_
  refine vRegion ?_
  refine oVal tt rfl rfl rfl rfl rfl trivial ?_
  refine vNil ?_
  change VC _ _ _ _
  refine vJoin (F := fun k => L_toPlaceS_l1 N a_0 k) h (α := List (Int × Int)) (J := fun (l6 : List (Int × Int)) => (⟨[(3, .row 7 0 ((List.replicate (((a_0.length : Int)).toNat) ((0, 0) : Int × Int)).length))], [(7, some (118, .pairs l6))], []⟩ : PS)) ?_ ?_
  · rintro l6 h
    show VC _ _ _ (⟨[(3, .row 7 0 ((List.replicate (((a_0.length : Int)).toNat) ((0, 0) : Int × Int)).length))], [(7, some (118, .pairs l6))], []⟩ : PS)
    refine vSeq ?_
    refine vRegion ?_
    iterate 2 refine oVal tt rfl rfl rfl rfl rfl trivial ?_
    refine vNil ?_
    change VC _ _ _ _
    obtain ⟨hg2, h⟩ := grd_inv h
    refine vRet ?_
    change ∃ _, _
    cases h
    exact ⟨[7], _, rfl, ⟨rfl, trivial⟩, rfl, (.eq (by simp only [hg2]; rfl)), rfl⟩
  · intro k h
    refine vBlock ?_
    refine vLoopS (α := (List (Int × Int)) × Int) (fun | (l9, i10) => (⟨[(0, .ro false (.pairs a_0)), (3, .row 7 0 ((List.replicate (((a_0.length : Int)).toNat) ((0, 0) : Int × Int)).length)), (4, .int i10)], [(7, some (118, .pairs l9))], []⟩ : PS)) (L_toPlaceS_l1 N a_0 k) h (En.of ⟨rfl, rfl, rfl, trivial⟩ ⟨rfl, trivial⟩ trivial) (fun _ => rfl) ?_
    rintro n ⟨l9, i10⟩ h
    rw [L_toPlaceS_l1] at h
    show VC _ _ _ (⟨[(0, .ro false (.pairs a_0)), (3, .row 7 0 ((List.replicate (((a_0.length : Int)).toNat) ((0, 0) : Int × Int)).length)), (4, .int i10)], [(7, some (118, .pairs l9))], []⟩ : PS)
    iterate 2 refine vSeq ?_
    refine vRegion ?_
    iterate 4 refine oVal tt rfl rfl rfl rfl rfl trivial ?_
    refine vNil ?_
    change VC _ _ _ _
    refine vCond rfl (fun hb3 => ?_) (fun hb3 => ?_)
    · replace h := cnd_t hb3 h
      refine vSkip ?_
      change VC _ _ _ _
      refine vSeq ?_
      refine vBlock ?_
      refine vRegion ?_
      iterate 4 refine oVal tt rfl rfl rfl rfl rfl trivial ?_
      obtain ⟨hg4, h⟩ := grd_inv h
      refine oVal tt rfl rfl rfl rfl rfl hg4 ?_
      refine oVal tt rfl rfl rfl rfl rfl trivial ?_
      obtain ⟨v12, hc5, h⟩ := bind_inv h
      refine oCall (L_toPlace_w N (a_0.getD ((i10).toNat) (0, 0)) v12 hc5) rfl rfl rfl rfl rfl rfl rfl rfl ⟨⟨rfl, rfl, trivial⟩, trivial⟩ ?_
      obtain ⟨hg6, h⟩ := grd_inv h
      refine oVal tt rfl rfl rfl rfl rfl hg6 ?_
      obtain ⟨hg7, h⟩ := grd_inv h
      refine oStore tt rfl rfl rfl rfl rfl rfl rfl rfl rfl rfl ⟨_, _, rfl, hg7.1, hg7.2⟩ ⟨hg7, (by simpa [Sq.len] using hg7), trivial⟩ ?_
      refine vNil ?_
      change VC _ _ _ _
      refine vRegion ?_
      refine oVal tt rfl rfl rfl rfl rfl trivial ?_
      obtain ⟨hg8, h⟩ := grd_inv h
      refine oVal tt rfl rfl rfl rfl rfl hg8 ?_
      refine oVal tt rfl rfl rfl rfl rfl trivial ?_
      refine vNil ?_
      change ∃ _, _
      exact ⟨(((l9.set ((i10).toNat) (v12.1, (l9.getD ((i10).toNat) (0, 0)).2)).set ((i10).toNat) (((l9.set ((i10).toNat) (v12.1, (l9.getD ((i10).toNat) (0, 0)).2)).getD ((i10).toNat) (0, 0)).1, v12.2)), (i10 + (1 : Int))), (En.of ⟨rfl, rfl, rfl, trivial⟩ ⟨rfl, trivial⟩ trivial), h⟩
    · replace h := cnd_f hb3 h
      refine vExit ?_
      change ∃ _, _
      exact ⟨l9, (En.of ⟨rfl, trivial⟩ ⟨rfl, trivial⟩ trivial), h⟩
def L_toFramework (N : Nat) (a_0 : Frm) : Option (Frm) :=
  (L_toGraph N a_0.g).bind fun v1 =>
  (L_toPlaceS N a_0.places).bind fun v2 =>
  some (⟨⟨v1.n, v1.bars⟩, v2⟩ : Frm)
set_option maxRecDepth 20000 in
set_option maxHeartbeats 1600000 in
theorem L_toFramework_w (N : Nat) (a_0 : Frm) (r : Frm) (h : L_toFramework N a_0 = some r) : PCall Try.prog 90 [fD a_0] [(105, .pairs r.g.bars), (118, .pairs r.places)] (.agg [.int r.g.n, .row 0 0 r.g.bars.length, .row 1 0 r.places.length]) := by
  unfold L_toFramework at h
  refine pcall_intro (TT := TT) tt Try.func90 rfl rfl Try.ntmps90 (congrArg Array.toList Try.results90) rfl rfl fun w0 => ?_
  refine vSeq ?_
  refine vRegion ?_
  refine oBox rfl rfl rfl rfl rfl rfl rfl rfl rfl ?_
  refine oAlloc tt rfl rfl rfl rfl rfl rfl rfl rfl rfl ?_
  refine vNil ?_
  change VC _ _ _ _
  refine vSeq ?_
  refine vRegion ?_
  refine oAlloc tt rfl rfl rfl rfl rfl rfl rfl rfl rfl ?_
  refine vNil ?_
  change VC _ _ _ _
  refine vSeq ?_
  refine vRegion ?_
  iterate 2 refine oVal tt rfl rfl rfl rfl rfl trivial ?_
  obtain ⟨v1, hc1, h⟩ := bind_inv h
  refine oCall (L_toGraph_w N a_0.g v1 hc1) rfl rfl rfl rfl rfl rfl rfl rfl ⟨⟨rfl, rfl, trivial⟩, trivial⟩ ?_
  refine oVal tt rfl rfl rfl rfl rfl trivial ?_
  refine oStore tt rfl rfl rfl rfl rfl rfl rfl rfl rfl rfl rfl ⟨trivial, trivial, trivial⟩ ?_
  refine vNil ?_
  change VC _ _ _ _
  refine vSeq ?_
  refine vRegion ?_
  iterate 2 refine oVal tt rfl rfl rfl rfl rfl trivial ?_
  obtain ⟨v2, hc2, h⟩ := bind_inv h
  refine oCall (L_toPlaceS_w N a_0.places v2 hc2) rfl rfl rfl rfl rfl rfl rfl rfl ⟨rfl, trivial⟩ ?_
  refine oVal tt rfl rfl rfl rfl rfl trivial ?_
  refine oStore tt rfl rfl rfl rfl rfl rfl rfl rfl rfl rfl rfl ⟨trivial, trivial⟩ ?_
  refine vNil ?_
  change VC _ _ _ _
  refine vSeq ?_
  refine vRegion ?_
  refine oVal tt rfl rfl rfl rfl rfl trivial ?_
  refine oStore tt rfl rfl rfl rfl rfl rfl rfl rfl rfl rfl rfl ⟨trivial, trivial, trivial, trivial⟩ ?_
  refine vNil ?_
  change VC _ _ _ _
  refine vRet ?_
  change ∃ _, _
  cases h
  exact ⟨[1060, 1100], _, rfl, ⟨rfl, rfl, trivial⟩, rfl, (.eq rfl), rfl⟩
def L_toLinkage (N : Nat) (a_0 : Lnk) : Option (Lnk) :=
  (L_toFramework N a_0.f).bind fun v1 =>
  (L_toIntS N a_0.ground).bind fun v2 =>
  some (⟨⟨⟨v1.g.n, v1.g.bars⟩, v1.places⟩, v2⟩ : Lnk)
set_option maxRecDepth 20000 in
set_option maxHeartbeats 1600000 in
theorem L_toLinkage_w (N : Nat) (a_0 : Lnk) (r : Lnk) (h : L_toLinkage N a_0 = some r) : PCall Try.prog 38 [lD a_0] [(105, .pairs r.f.g.bars), (118, .pairs r.f.places), (3, .ints r.ground)] (.agg [.int r.f.g.n, .row 0 0 r.f.g.bars.length, .row 1 0 r.f.places.length, .row 2 0 r.ground.length]) := by
  unfold L_toLinkage at h
  refine pcall_intro (TT := TT) tt Try.func38 rfl rfl Try.ntmps38 (congrArg Array.toList Try.results38) rfl rfl fun w0 => ?_
  refine vSeq ?_
  refine vRegion ?_
  refine oBox rfl rfl rfl rfl rfl rfl rfl rfl rfl ?_
  refine oAlloc tt rfl rfl rfl rfl rfl rfl rfl rfl rfl ?_
  refine vNil ?_
  change VC _ _ _ _
  refine vSeq ?_
  refine vRegion ?_
  refine oAlloc tt rfl rfl rfl rfl rfl rfl rfl rfl rfl ?_
  refine vNil ?_
  change VC _ _ _ _
  refine vSeq ?_
  refine vRegion ?_
  iterate 2 refine oVal tt rfl rfl rfl rfl rfl trivial ?_
  obtain ⟨v1, hc1, h⟩ := bind_inv h
  refine oCall (L_toFramework_w N a_0.f v1 hc1) rfl rfl rfl rfl rfl rfl rfl rfl ⟨⟨rfl, rfl, rfl, trivial⟩, trivial⟩ ?_
  refine oVal tt rfl rfl rfl rfl rfl trivial ?_
  refine oStore tt rfl rfl rfl rfl rfl rfl rfl rfl rfl rfl rfl ⟨trivial, trivial, trivial, trivial⟩ ?_
  refine vNil ?_
  change VC _ _ _ _
  refine vSeq ?_
  refine vRegion ?_
  iterate 2 refine oVal tt rfl rfl rfl rfl rfl trivial ?_
  obtain ⟨v2, hc2, h⟩ := bind_inv h
  refine oCall (L_toIntS_w N a_0.ground v2 hc2) rfl rfl rfl rfl rfl rfl rfl rfl ⟨rfl, trivial⟩ ?_
  refine oVal tt rfl rfl rfl rfl rfl trivial ?_
  refine oStore tt rfl rfl rfl rfl rfl rfl rfl rfl rfl rfl rfl ⟨trivial, trivial⟩ ?_
  refine vNil ?_
  change VC _ _ _ _
  refine vSeq ?_
  refine vRegion ?_
  refine oVal tt rfl rfl rfl rfl rfl trivial ?_
  refine oStore tt rfl rfl rfl rfl rfl rfl rfl rfl rfl rfl rfl ⟨trivial, trivial, trivial, trivial, trivial⟩ ?_
  refine vNil ?_
  change VC _ _ _ _
  refine vRet ?_
  change ∃ _, _
  cases h
  exact ⟨[1060, 1061, 1100], _, rfl, ⟨rfl, rfl, rfl, trivial⟩, rfl, (.eq rfl), rfl⟩
def I_isPlace (N : Nat) (p_0 : Int × Int) : Option (Bool) :=
  (I_within N p_0.1 (0 : Int) (4 : Int)).bind fun v1 =>
  cnd v1 (
    (I_within N p_0.2 (0 : Int) (4 : Int)).bind fun v2 =>
    some v2) (
    some false)
set_option maxRecDepth 20000 in
set_option maxHeartbeats 1600000 in
theorem I_isPlace_w (N : Nat) (p_0 : Int × Int) (r : Bool) (h : I_isPlace N p_0 = some r) : PCall Try.prog 107 [.agg [.int p_0.1, .int p_0.2]] [] (.bool r) := by
  unfold I_isPlace at h
  refine pcall_intro (TT := TT) tt Try.func107 rfl rfl Try.ntmps107 (congrArg Array.toList Try.results107) rfl rfl fun w0 => ?_
  refine vSeq ?_
  refine vRegion ?_
  refine oBox rfl rfl rfl rfl rfl rfl rfl rfl rfl ?_
  refine oVal tt rfl rfl rfl rfl rfl trivial ?_
  refine vNil ?_
  change VC _ _ _ _
  refine vSeq ?_
  refine vRegion ?_
  iterate 2 refine oVal tt rfl rfl rfl rfl rfl trivial ?_
  obtain ⟨v1, hc1, h⟩ := bind_inv h
  refine oCall (I_within_w N p_0.1 (0 : Int) (4 : Int) v1 hc1) rfl rfl rfl rfl rfl rfl rfl rfl ⟨rfl, rfl, rfl, trivial⟩ ?_
  refine oVal tt rfl rfl rfl rfl rfl trivial ?_
  refine oSplit rfl rfl rfl (fun hb2 => ?_) (fun hb2 => ?_)
  · replace h := cnd_t hb2 h
    iterate 2 refine oValG tt rfl rfl rfl rfl rfl hb2 rfl rfl rfl trivial ?_
    obtain ⟨v2, hc3, h⟩ := bind_inv h
    refine oCallG (I_within_w N p_0.2 (0 : Int) (4 : Int) v2 hc3) rfl rfl rfl rfl hb2 rfl rfl rfl rfl rfl rfl rfl ⟨rfl, rfl, rfl, trivial⟩ ?_
    refine oPick rfl rfl rfl rfl rfl hb2 rfl ?_
    refine oVal tt rfl rfl rfl rfl rfl trivial ?_
    refine vNil ?_
    change VC _ _ _ _
    refine vRet ?_
    change ∃ _, _
    cases h
    exact ⟨[], _, rfl, trivial, rfl, (.eq rfl), rfl⟩
  · replace h := cnd_f hb2 h
    iterate 3 refine oNoT rfl rfl rfl rfl hb2 rfl rfl ?_
    refine oPickF rfl rfl rfl rfl rfl hb2 rfl ?_
    refine oVal tt rfl rfl rfl rfl rfl trivial ?_
    refine vNil ?_
    change VC _ _ _ _
    refine vRet ?_
    change ∃ _, _
    cases h
    exact ⟨[], _, rfl, trivial, rfl, (.eq rfl), rfl⟩
def I_IsFramework_l1 (N : Nat) (f_0 : Frm) (k : Unit → Option (Bool)) : Nat → Int → Option (Bool)
  | 0, _ => none
  | n + 1, x8 =>
    cnd (decide (x8 < (f_0.g.bars.length : Int))) (
      grd (0 ≤ x8 ∧ x8 < (f_0.g.bars.length : Int)) <|
      cnd (decide (x8 > (0 : Int))) (
        grd (Rg64 (x8 - (1 : Int))) <|
        grd (0 ≤ (x8 - (1 : Int)) ∧ (x8 - (1 : Int)) < (f_0.g.bars.length : Int)) <|
        cnd (((f_0.g.bars.getD (((x8 - (1 : Int))).toNat) (0, 0)).1 == (f_0.g.bars.getD ((x8).toNat) (0, 0)).1) && ((f_0.g.bars.getD (((x8 - (1 : Int))).toNat) (0, 0)).2 == (f_0.g.bars.getD ((x8).toNat) (0, 0)).2)) (
          some false) (
          grd (0 ≤ ((f_0.g.bars.getD ((x8).toNat) (0, 0)).1) ∧ ((f_0.g.bars.getD ((x8).toNat) (0, 0)).1) < (f_0.places.length : Int)) <|
          grd (0 ≤ ((f_0.g.bars.getD ((x8).toNat) (0, 0)).2) ∧ ((f_0.g.bars.getD ((x8).toNat) (0, 0)).2) < (f_0.places.length : Int)) <|
          cnd (((f_0.places.getD (((f_0.g.bars.getD ((x8).toNat) (0, 0)).1).toNat) (0, 0)).1 == (f_0.places.getD (((f_0.g.bars.getD ((x8).toNat) (0, 0)).2).toNat) (0, 0)).1) && ((f_0.places.getD (((f_0.g.bars.getD ((x8).toNat) (0, 0)).1).toNat) (0, 0)).2 == (f_0.places.getD (((f_0.g.bars.getD ((x8).toNat) (0, 0)).2).toNat) (0, 0)).2)) (
            some false) (
            grd (Rg64 (x8 + (1 : Int))) <|
            I_IsFramework_l1 N f_0 k n (x8 + (1 : Int))))) (
        grd (0 ≤ ((f_0.g.bars.getD ((x8).toNat) (0, 0)).1) ∧ ((f_0.g.bars.getD ((x8).toNat) (0, 0)).1) < (f_0.places.length : Int)) <|
        grd (0 ≤ ((f_0.g.bars.getD ((x8).toNat) (0, 0)).2) ∧ ((f_0.g.bars.getD ((x8).toNat) (0, 0)).2) < (f_0.places.length : Int)) <|
        cnd (((f_0.places.getD (((f_0.g.bars.getD ((x8).toNat) (0, 0)).1).toNat) (0, 0)).1 == (f_0.places.getD (((f_0.g.bars.getD ((x8).toNat) (0, 0)).2).toNat) (0, 0)).1) && ((f_0.places.getD (((f_0.g.bars.getD ((x8).toNat) (0, 0)).1).toNat) (0, 0)).2 == (f_0.places.getD (((f_0.g.bars.getD ((x8).toNat) (0, 0)).2).toNat) (0, 0)).2)) (
          some false) (
          grd (Rg64 (x8 + (1 : Int))) <|
          I_IsFramework_l1 N f_0 k n (x8 + (1 : Int))))) (
      k ())
def I_IsFramework_l2 (N : Nat) (f_0 : Frm) (k : Unit → Option (Bool)) : Nat → Int → Option (Bool)
  | 0, _ => none
  | n + 1, x11 =>
    cnd (decide (x11 < (f_0.places.length : Int))) (
      grd (0 ≤ x11 ∧ x11 < (f_0.places.length : Int)) <|
      (I_isPlace N (f_0.places.getD ((x11).toNat) (0, 0))).bind fun v13 =>
      cnd (!v13) (
        some false) (
        grd (Rg64 (x11 + (1 : Int))) <|
        I_IsFramework_l2 N f_0 k n (x11 + (1 : Int)))) (
      k ())
def I_IsFramework (N : Nat) (f_0 : Frm) : Option (Bool) :=
  (I_IsGraph N f_0.g).bind fun v1 =>
  cnd (!v1) (
    some false) (
    cnd (decide (f_0.g.n > (6 : Int))) (
      some false) (
      cnd (decide ((f_0.g.bars.length : Int) > (15 : Int))) (
        some false) (
        cnd ((f_0.places.length : Int) != f_0.g.n) (
          some false) (
          I_IsFramework_l2 N f_0 (fun (_ : Unit) =>
                I_IsFramework_l1 N f_0 (fun (_ : Unit) =>
                      some true) N (0 : Int)) N (0 : Int)))))
set_option maxRecDepth 20000 in
set_option maxHeartbeats 1600000 in
theorem I_IsFramework_w (N : Nat) (f_0 : Frm) (r : Bool) (h : I_IsFramework N f_0 = some r) : PCall Try.prog 91 [fD f_0] [] (.bool r) := by
  unfold I_IsFramework at h
  refine pcall_intro (TT := TT) tt Try.func91 rfl rfl Try.ntmps91 (congrArg Array.toList Try.results91) rfl rfl fun w0 => ?_
  refine vSeq ?_
  refine vRegion ?_
  refine oBox rfl rfl rfl rfl rfl rfl rfl rfl rfl ?_
  refine oVal tt rfl rfl rfl rfl rfl trivial ?_
  refine vNil ?_
  change VC _ _ _ _
  refine vSeq ?_
  refine vRegion ?_
  iterate 2 refine oVal tt rfl rfl rfl rfl rfl trivial ?_
  refine oAlloc tt rfl rfl rfl rfl rfl rfl rfl rfl rfl ?_
  refine oStore tt rfl rfl rfl rfl rfl rfl rfl rfl rfl rfl rfl ⟨trivial, trivial, trivial⟩ ?_
  refine vNil ?_
  change VC _ _ _ _
  iterate 2 refine vSeq ?_
  refine vRegion ?_
  refine oVal tt rfl rfl rfl rfl rfl trivial ?_
  obtain ⟨v1, hc1, h⟩ := bind_inv h
  refine oCall (I_IsGraph_w N f_0.g v1 hc1) rfl rfl rfl rfl rfl rfl rfl rfl ⟨⟨rfl, rfl, trivial⟩, trivial⟩ ?_
  iterate 2 refine oVal tt rfl rfl rfl rfl rfl trivial ?_
  refine oSplit rfl rfl rfl (fun hb2 => ?_) (fun hb2 => ?_)
  · replace h := cnd_t hb2 h
    iterate 3 refine oNoF rfl rfl rfl rfl hb2 rfl rfl ?_
    refine oPick rfl rfl rfl rfl rfl hb2 rfl ?_
    refine oVal tt rfl rfl rfl rfl rfl trivial ?_
    iterate 4 refine oNoF rfl rfl rfl rfl rfl rfl rfl ?_
    refine oPick rfl rfl rfl rfl rfl rfl rfl ?_
    refine oVal tt rfl rfl rfl rfl rfl trivial ?_
    iterate 6 refine oNoF rfl rfl rfl rfl rfl rfl rfl ?_
    refine oPick rfl rfl rfl rfl rfl rfl rfl ?_
    refine vNil ?_
    change VC _ _ _ _
    refine vCondT rfl rfl ?_
    refine vSeq ?_
    refine vRegion ?_
    refine oVal tt rfl rfl rfl rfl rfl trivial ?_
    refine vNil ?_
    change VC _ _ _ _
    refine vRet ?_
    change ∃ _, _
    cases h
    exact ⟨[], _, rfl, trivial, rfl, (.eq rfl), rfl⟩
  · replace h := cnd_f hb2 h
    iterate 3 refine oValG tt rfl rfl rfl rfl rfl hb2 rfl rfl rfl trivial ?_
    refine oPickF rfl rfl rfl rfl rfl hb2 rfl ?_
    refine oVal tt rfl rfl rfl rfl rfl trivial ?_
    refine oSplit rfl rfl rfl (fun hb3 => ?_) (fun hb3 => ?_)
    · replace h := cnd_t hb3 h
      iterate 4 refine oNoF rfl rfl rfl rfl hb3 rfl rfl ?_
      refine oPick rfl rfl rfl rfl rfl hb3 rfl ?_
      refine oVal tt rfl rfl rfl rfl rfl trivial ?_
      iterate 6 refine oNoF rfl rfl rfl rfl rfl rfl rfl ?_
      refine oPick rfl rfl rfl rfl rfl rfl rfl ?_
      refine vNil ?_
      change VC _ _ _ _
      refine vCondT rfl rfl ?_
      refine vSeq ?_
      refine vRegion ?_
      refine oVal tt rfl rfl rfl rfl rfl trivial ?_
      refine vNil ?_
      change VC _ _ _ _
      refine vRet ?_
      change ∃ _, _
      cases h
      exact ⟨[], _, rfl, trivial, rfl, (.eq rfl), rfl⟩
    · replace h := cnd_f hb3 h
      iterate 4 refine oValG tt rfl rfl rfl rfl rfl hb3 rfl rfl rfl trivial ?_
      refine oPickF rfl rfl rfl rfl rfl hb3 rfl ?_
      refine oVal tt rfl rfl rfl rfl rfl trivial ?_
      refine oSplit rfl rfl rfl (fun hb4 => ?_) (fun hb4 => ?_)
      · replace h := cnd_t hb4 h
        iterate 6 refine oNoF rfl rfl rfl rfl hb4 rfl rfl ?_
        refine oPick rfl rfl rfl rfl rfl hb4 rfl ?_
        refine vNil ?_
        change VC _ _ _ _
        refine vCondT rfl rfl ?_
        refine vSeq ?_
        refine vRegion ?_
        refine oVal tt rfl rfl rfl rfl rfl trivial ?_
        refine vNil ?_
        change VC _ _ _ _
        refine vRet ?_
        change ∃ _, _
        cases h
        exact ⟨[], _, rfl, trivial, rfl, (.eq rfl), rfl⟩
      · replace h := cnd_f hb4 h
        iterate 6 refine oValG tt rfl rfl rfl rfl rfl hb4 rfl rfl rfl trivial ?_
        refine oPickF rfl rfl rfl rfl rfl hb4 rfl ?_
        refine vNil ?_
        change VC _ _ _ _
        refine vCond rfl (fun hb5 => ?_) (fun hb5 => ?_)
        · replace h := cnd_t hb5 h
          refine vSeq ?_
          refine vRegion ?_
          refine oVal tt rfl rfl rfl rfl rfl trivial ?_
          refine vNil ?_
          change VC _ _ _ _
          refine vRet ?_
          change ∃ _, _
          cases h
          exact ⟨[], _, rfl, trivial, rfl, (.eq rfl), rfl⟩
        · replace h := cnd_f hb5 h
          refine vSkip ?_
          change VC _ _ _ _
          iterate 2 refine vSeq ?_
          refine vRegion ?_
          iterate 4 refine oVal tt rfl rfl rfl rfl rfl trivial ?_
          refine vNil ?_
          change VC _ _ _ _
          refine vJoin (F := fun k => I_IsFramework_l2 N f_0 k) h (α := Unit) (J := fun (_ : Unit) => (⟨[(1, .ptr 1 0), (3, .ptr 3 0)], [], [(1, some [.int f_0.g.n, .ro false (.pairs f_0.g.bars), .ro false (.pairs f_0.places)]), (3, some [.int f_0.g.n, .ro false (.pairs f_0.g.bars)])]⟩ : PS)) ?_ ?_
          · rintro ⟨⟩ h
            show VC _ _ _ (⟨[(1, .ptr 1 0), (3, .ptr 3 0)], [], [(1, some [.int f_0.g.n, .ro false (.pairs f_0.g.bars), .ro false (.pairs f_0.places)]), (3, some [.int f_0.g.n, .ro false (.pairs f_0.g.bars)])]⟩ : PS)
            iterate 2 refine vSeq ?_
            refine vRegion ?_
            iterate 4 refine oVal tt rfl rfl rfl rfl rfl trivial ?_
            refine vNil ?_
            change VC _ _ _ _
            refine vJoin (F := fun k => I_IsFramework_l1 N f_0 k) h (α := Unit) (J := fun (_ : Unit) => (⟨[], [], []⟩ : PS)) ?_ ?_
            · rintro ⟨⟩ h
              show VC _ _ _ (⟨[], [], []⟩ : PS)
              refine vSeq ?_
              refine vRegion ?_
              refine oVal tt rfl rfl rfl rfl rfl trivial ?_
              refine vNil ?_
              change VC _ _ _ _
              refine vRet ?_
              change ∃ _, _
              cases h
              exact ⟨[], _, rfl, trivial, rfl, (.eq rfl), rfl⟩
            · intro k h
              refine vBlock ?_
              refine vLoopS (α := Int) (fun (x8 : Int) => (⟨[(1, .ptr 1 0), (3, .ptr 3 0), (44, .ro false (.pairs f_0.g.bars)), (45, .int (f_0.g.bars.length : Int)), (46, .int x8)], [], [(1, some [.int f_0.g.n, .ro false (.pairs f_0.g.bars), .ro false (.pairs f_0.places)]), (3, some [.int f_0.g.n, .ro false (.pairs f_0.g.bars)])]⟩ : PS)) (I_IsFramework_l1 N f_0 k) h (En.of ⟨rfl, rfl, rfl, rfl, rfl, trivial⟩ trivial ⟨rfl, rfl, trivial⟩) (fun _ => rfl) ?_
              rintro n x8 h
              rw [I_IsFramework_l1] at h
              show VC _ _ _ (⟨[(1, .ptr 1 0), (3, .ptr 3 0), (44, .ro false (.pairs f_0.g.bars)), (45, .int (f_0.g.bars.length : Int)), (46, .int x8)], [], [(1, some [.int f_0.g.n, .ro false (.pairs f_0.g.bars), .ro false (.pairs f_0.places)]), (3, some [.int f_0.g.n, .ro false (.pairs f_0.g.bars)])]⟩ : PS)
              refine vSeq ?_
              refine vRegion ?_
              refine oVal tt rfl rfl rfl rfl rfl trivial ?_
              refine vNil ?_
              change VC _ _ _ _
              refine vSeq ?_
              refine vCond rfl (fun hb6 => ?_) (fun hb6 => ?_)
              · replace h := cnd_t hb6 h
                refine vSkip ?_
                change VC _ _ _ _
                refine vSeq ?_
                refine vBlock ?_
                refine vSeq ?_
                refine vRegion ?_
                refine oVal tt rfl rfl rfl rfl rfl trivial ?_
                obtain ⟨hg7, h⟩ := grd_inv h
                refine oVal tt rfl rfl rfl rfl rfl hg7 ?_
                refine oVal tt rfl rfl rfl rfl rfl trivial ?_
                refine oAlloc tt rfl rfl rfl rfl rfl rfl rfl rfl rfl ?_
                refine oVal tt rfl rfl rfl rfl rfl trivial ?_
                refine oStore tt rfl rfl rfl rfl rfl rfl rfl rfl rfl rfl rfl ⟨trivial, trivial, trivial⟩ ?_
                refine vNil ?_
                change VC _ _ _ _
                refine vSeq ?_
                refine vRegionD (by kernel_rfl) (by kernel_rfl) ?_
                iterate 3 refine cVal tt rfl (wNone rfl) rfl rfl rfl trivial ?_
                refine cSplit rfl rfl rfl (fun hb8 => ?_) (fun hb8 => ?_)
                · replace h := cnd_t hb8 h
                  iterate 3 refine cVal tt rfl (wSome rfl rfl rfl rfl hb8) rfl rfl rfl trivial ?_
                  obtain ⟨hg9, h⟩ := grd_inv h
                  refine cVal tt rfl (wSome rfl rfl rfl rfl hb8) rfl rfl rfl hg9 ?_
                  obtain ⟨hg10, h⟩ := grd_inv h
                  refine cVal tt rfl (wSome rfl rfl rfl rfl hb8) rfl rfl rfl hg10 ?_
                  iterate 2 refine cVal tt rfl (wSome rfl rfl rfl rfl hb8) rfl rfl rfl trivial ?_
                  refine cPure (wSome rfl rfl rfl rfl hb8) (pEqP eqP_impl_Bar rfl rfl rfl) rfl rfl ?_
                  refine cPickT rfl (wNone rfl) rfl rfl rfl hb8 rfl ?_
                  refine cVal tt rfl (wNone rfl) rfl rfl rfl trivial ?_
                  refine cSplit rfl rfl rfl (fun hb11 => ?_) (fun hb11 => ?_)
                  · replace h := cnd_t hb11 h
                    iterate 13 refine cNoF rfl rfl rfl rfl hb11 rfl rfl ?_
                    refine cPickT rfl (wNone rfl) rfl rfl rfl hb11 rfl ?_
                    refine cNil ?_
                    change VC _ _ _ _
                    refine vCondT rfl rfl ?_
                    refine vSeq ?_
                    refine vRegion ?_
                    refine oVal tt rfl rfl rfl rfl rfl trivial ?_
                    refine vNil ?_
                    change VC _ _ _ _
                    refine vRet ?_
                    change ∃ _, _
                    cases h
                    exact ⟨[], _, rfl, trivial, rfl, (.eq rfl), rfl⟩
                  · replace h := cnd_f hb11 h
                    iterate 4 refine cVal tt rfl (wSome rfl rfl rfl rfl hb11) rfl rfl rfl trivial ?_
                    obtain ⟨hg12, h⟩ := grd_inv h
                    refine cVal tt rfl (wSome rfl rfl rfl rfl hb11) rfl rfl rfl hg12 ?_
                    iterate 5 refine cVal tt rfl (wSome rfl rfl rfl rfl hb11) rfl rfl rfl trivial ?_
                    obtain ⟨hg13, h⟩ := grd_inv h
                    refine cVal tt rfl (wSome rfl rfl rfl rfl hb11) rfl rfl rfl hg13 ?_
                    refine cVal tt rfl (wSome rfl rfl rfl rfl hb11) rfl rfl rfl trivial ?_
                    refine cPure (wSome rfl rfl rfl rfl hb11) (pEqP eqP_impl_Place rfl rfl rfl) rfl rfl ?_
                    refine cPickF rfl (wNone rfl) rfl rfl rfl hb11 rfl ?_
                    refine cNil ?_
                    change VC _ _ _ _
                    refine vCond rfl (fun hb14 => ?_) (fun hb14 => ?_)
                    · replace h := cnd_t hb14 h
                      refine vSeq ?_
                      refine vRegion ?_
                      refine oVal tt rfl rfl rfl rfl rfl trivial ?_
                      refine vNil ?_
                      change VC _ _ _ _
                      refine vRet ?_
                      change ∃ _, _
                      cases h
                      exact ⟨[], _, rfl, trivial, rfl, (.eq rfl), rfl⟩
                    · replace h := cnd_f hb14 h
                      refine vSkip ?_
                      change VC _ _ _ _
                      refine vRegion ?_
                      obtain ⟨hg15, h⟩ := grd_inv h
                      refine oVal tt rfl rfl rfl rfl rfl hg15 ?_
                      refine oVal tt rfl rfl rfl rfl rfl trivial ?_
                      refine vNil ?_
                      change ∃ _, _
                      exact ⟨(x8 + (1 : Int)), (En.of ⟨rfl, rfl, rfl, rfl, rfl, trivial⟩ trivial ⟨rfl, rfl, trivial⟩), h⟩
                · replace h := cnd_f hb8 h
                  iterate 8 refine cNoT rfl rfl rfl rfl hb8 rfl rfl ?_
                  refine cPickF rfl (wNone rfl) rfl rfl rfl hb8 rfl ?_
                  refine cVal tt rfl (wNone rfl) rfl rfl rfl trivial ?_
                  iterate 4 refine cVal tt rfl (wSome rfl rfl rfl rfl rfl) rfl rfl rfl trivial ?_
                  obtain ⟨hg16, h⟩ := grd_inv h
                  refine cVal tt rfl (wSome rfl rfl rfl rfl rfl) rfl rfl rfl hg16 ?_
                  iterate 5 refine cVal tt rfl (wSome rfl rfl rfl rfl rfl) rfl rfl rfl trivial ?_
                  obtain ⟨hg17, h⟩ := grd_inv h
                  refine cVal tt rfl (wSome rfl rfl rfl rfl rfl) rfl rfl rfl hg17 ?_
                  refine cVal tt rfl (wSome rfl rfl rfl rfl rfl) rfl rfl rfl trivial ?_
                  refine cPure (wSome rfl rfl rfl rfl rfl) (pEqP eqP_impl_Place rfl rfl rfl) rfl rfl ?_
                  refine cPickF rfl (wNone rfl) rfl rfl rfl rfl rfl ?_
                  refine cNil ?_
                  change VC _ _ _ _
                  refine vCond rfl (fun hb18 => ?_) (fun hb18 => ?_)
                  · replace h := cnd_t hb18 h
                    refine vSeq ?_
                    refine vRegion ?_
                    refine oVal tt rfl rfl rfl rfl rfl trivial ?_
                    refine vNil ?_
                    change VC _ _ _ _
                    refine vRet ?_
                    change ∃ _, _
                    cases h
                    exact ⟨[], _, rfl, trivial, rfl, (.eq rfl), rfl⟩
                  · replace h := cnd_f hb18 h
                    refine vSkip ?_
                    change VC _ _ _ _
                    refine vRegion ?_
                    obtain ⟨hg19, h⟩ := grd_inv h
                    refine oVal tt rfl rfl rfl rfl rfl hg19 ?_
                    refine oVal tt rfl rfl rfl rfl rfl trivial ?_
                    refine vNil ?_
                    change ∃ _, _
                    exact ⟨(x8 + (1 : Int)), (En.of ⟨rfl, rfl, rfl, rfl, rfl, trivial⟩ trivial ⟨rfl, rfl, trivial⟩), h⟩
              · replace h := cnd_f hb6 h
                refine vExit ?_
                change ∃ _, _
                exact ⟨(), (En.of trivial trivial trivial), h⟩
          · intro k h
            refine vBlock ?_
            refine vLoopS (α := Int) (fun (x11 : Int) => (⟨[(1, .ptr 1 0), (3, .ptr 3 0), (33, .ro false (.pairs f_0.places)), (34, .int (f_0.places.length : Int)), (35, .int x11)], [], [(1, some [.int f_0.g.n, .ro false (.pairs f_0.g.bars), .ro false (.pairs f_0.places)]), (3, some [.int f_0.g.n, .ro false (.pairs f_0.g.bars)])]⟩ : PS)) (I_IsFramework_l2 N f_0 k) h (En.of ⟨rfl, rfl, rfl, rfl, rfl, trivial⟩ trivial ⟨rfl, rfl, trivial⟩) (fun _ => rfl) ?_
            rintro n x11 h
            rw [I_IsFramework_l2] at h
            show VC _ _ _ (⟨[(1, .ptr 1 0), (3, .ptr 3 0), (33, .ro false (.pairs f_0.places)), (34, .int (f_0.places.length : Int)), (35, .int x11)], [], [(1, some [.int f_0.g.n, .ro false (.pairs f_0.g.bars), .ro false (.pairs f_0.places)]), (3, some [.int f_0.g.n, .ro false (.pairs f_0.g.bars)])]⟩ : PS)
            refine vSeq ?_
            refine vRegion ?_
            refine oVal tt rfl rfl rfl rfl rfl trivial ?_
            refine vNil ?_
            change VC _ _ _ _
            refine vSeq ?_
            refine vCond rfl (fun hb20 => ?_) (fun hb20 => ?_)
            · replace h := cnd_t hb20 h
              refine vSkip ?_
              change VC _ _ _ _
              refine vSeq ?_
              refine vBlock ?_
              refine vSeq ?_
              refine vRegion ?_
              obtain ⟨hg21, h⟩ := grd_inv h
              refine oVal tt rfl rfl rfl rfl rfl hg21 ?_
              refine oVal tt rfl rfl rfl rfl rfl trivial ?_
              refine oAlloc tt rfl rfl rfl rfl rfl rfl rfl rfl rfl ?_
              refine oStore tt rfl rfl rfl rfl rfl rfl rfl rfl rfl rfl rfl ⟨trivial, trivial, trivial⟩ ?_
              refine vNil ?_
              change VC _ _ _ _
              refine vSeq ?_
              refine vRegion ?_
              refine oVal tt rfl rfl rfl rfl rfl trivial ?_
              obtain ⟨v13, hc22, h⟩ := bind_inv h
              refine oCall (I_isPlace_w N (f_0.places.getD ((x11).toNat) (0, 0)) v13 hc22) rfl rfl rfl rfl rfl rfl rfl rfl ⟨⟨rfl, rfl, trivial⟩, trivial⟩ ?_
              refine oVal tt rfl rfl rfl rfl rfl trivial ?_
              refine vNil ?_
              change VC _ _ _ _
              refine vCond rfl (fun hb23 => ?_) (fun hb23 => ?_)
              · replace h := cnd_t hb23 h
                refine vSeq ?_
                refine vRegion ?_
                refine oVal tt rfl rfl rfl rfl rfl trivial ?_
                refine vNil ?_
                change VC _ _ _ _
                refine vRet ?_
                change ∃ _, _
                cases h
                exact ⟨[], _, rfl, trivial, rfl, (.eq rfl), rfl⟩
              · replace h := cnd_f hb23 h
                refine vSkip ?_
                change VC _ _ _ _
                refine vRegion ?_
                obtain ⟨hg24, h⟩ := grd_inv h
                refine oVal tt rfl rfl rfl rfl rfl hg24 ?_
                refine oVal tt rfl rfl rfl rfl rfl trivial ?_
                refine vNil ?_
                change ∃ _, _
                exact ⟨(x11 + (1 : Int)), (En.of ⟨rfl, rfl, rfl, rfl, rfl, trivial⟩ trivial ⟨rfl, rfl, trivial⟩), h⟩
            · replace h := cnd_f hb20 h
              refine vExit ?_
              change ∃ _, _
              exact ⟨(), (En.of ⟨rfl, rfl, trivial⟩ trivial ⟨rfl, rfl, trivial⟩), h⟩
def I_IsLinkage_l1 (N : Nat) (l_0 : Lnk) (k : Unit → Option (Bool)) : Nat → Int → Option (Bool)
  | 0, _ => none
  | n + 1, x8 =>
    cnd (decide (x8 < (l_0.ground.length : Int))) (
      grd (0 ≤ x8 ∧ x8 < (l_0.ground.length : Int)) <|
      (M_Graph_has N l_0.f.g (l_0.ground.getD ((x8).toNat) 0)).bind fun v10 =>
      cnd (!v10) (
        some false) (
        cnd (decide (x8 > (0 : Int))) (
          grd (Rg64 (x8 - (1 : Int))) <|
          grd (0 ≤ (x8 - (1 : Int)) ∧ (x8 - (1 : Int)) < (l_0.ground.length : Int)) <|
          cnd (decide ((l_0.ground.getD (((x8 - (1 : Int))).toNat) 0) ≥ (l_0.ground.getD ((x8).toNat) 0))) (
            some false) (
            grd (Rg64 (x8 + (1 : Int))) <|
            I_IsLinkage_l1 N l_0 k n (x8 + (1 : Int)))) (
          grd (Rg64 (x8 + (1 : Int))) <|
          I_IsLinkage_l1 N l_0 k n (x8 + (1 : Int))))) (
      k ())
def I_IsLinkage (N : Nat) (l_0 : Lnk) : Option (Bool) :=
  (I_IsFramework N l_0.f).bind fun v1 =>
  cnd (!v1) (
    some false) (
    cnd ((l_0.ground.length : Int) == (0 : Int)) (
      some false) (
      grd (Rg64 (l_0.f.g.n - (l_0.ground.length : Int))) <|
      cnd (decide ((l_0.f.g.n - (l_0.ground.length : Int)) > (2 : Int))) (
        some false) (
        I_IsLinkage_l1 N l_0 (fun (_ : Unit) =>
              some true) N (0 : Int))))
set_option maxRecDepth 20000 in
set_option maxHeartbeats 1600000 in
theorem I_IsLinkage_w (N : Nat) (l_0 : Lnk) (r : Bool) (h : I_IsLinkage N l_0 = some r) : PCall Try.prog 39 [lD l_0] [] (.bool r) := by
  unfold I_IsLinkage at h
  refine pcall_intro (TT := TT) tt Try.func39 rfl rfl Try.ntmps39 (congrArg Array.toList Try.results39) rfl rfl fun w0 => ?_
  refine vSeq ?_
  refine vRegion ?_
  refine oBox rfl rfl rfl rfl rfl rfl rfl rfl rfl ?_
  refine oVal tt rfl rfl rfl rfl rfl trivial ?_
  refine vNil ?_
  change VC _ _ _ _
  iterate 2 refine vSeq ?_
  refine vRegion ?_
  iterate 2 refine oVal tt rfl rfl rfl rfl rfl trivial ?_
  obtain ⟨v1, hc1, h⟩ := bind_inv h
  refine oCall (I_IsFramework_w N l_0.f v1 hc1) rfl rfl rfl rfl rfl rfl rfl rfl ⟨⟨rfl, rfl, rfl, trivial⟩, trivial⟩ ?_
  iterate 2 refine oVal tt rfl rfl rfl rfl rfl trivial ?_
  refine oSplit rfl rfl rfl (fun hb2 => ?_) (fun hb2 => ?_)
  · replace h := cnd_t hb2 h
    iterate 4 refine oNoF rfl rfl rfl rfl hb2 rfl rfl ?_
    refine oPick rfl rfl rfl rfl rfl hb2 rfl ?_
    refine oVal tt rfl rfl rfl rfl rfl trivial ?_
    iterate 9 refine oNoF rfl rfl rfl rfl rfl rfl rfl ?_
    refine oPick rfl rfl rfl rfl rfl rfl rfl ?_
    refine vNil ?_
    change VC _ _ _ _
    refine vCondT rfl rfl ?_
    refine vSeq ?_
    refine vRegion ?_
    refine oVal tt rfl rfl rfl rfl rfl trivial ?_
    refine vNil ?_
    change VC _ _ _ _
    refine vRet ?_
    change ∃ _, _
    cases h
    exact ⟨[], _, rfl, trivial, rfl, (.eq rfl), rfl⟩
  · replace h := cnd_f hb2 h
    iterate 4 refine oValG tt rfl rfl rfl rfl rfl hb2 rfl rfl rfl trivial ?_
    refine oPickF rfl rfl rfl rfl rfl hb2 rfl ?_
    refine oVal tt rfl rfl rfl rfl rfl trivial ?_
    refine oSplit rfl rfl rfl (fun hb3 => ?_) (fun hb3 => ?_)
    · replace h := cnd_t hb3 h
      iterate 9 refine oNoF rfl rfl rfl rfl hb3 rfl rfl ?_
      refine oPick rfl rfl rfl rfl rfl hb3 rfl ?_
      refine vNil ?_
      change VC _ _ _ _
      refine vCondT rfl rfl ?_
      refine vSeq ?_
      refine vRegion ?_
      refine oVal tt rfl rfl rfl rfl rfl trivial ?_
      refine vNil ?_
      change VC _ _ _ _
      refine vRet ?_
      change ∃ _, _
      cases h
      exact ⟨[], _, rfl, trivial, rfl, (.eq rfl), rfl⟩
    · replace h := cnd_f hb3 h
      iterate 7 refine oValG tt rfl rfl rfl rfl rfl hb3 rfl rfl rfl trivial ?_
      obtain ⟨hg4, h⟩ := grd_inv h
      refine oValG tt rfl rfl rfl rfl rfl hb3 rfl rfl rfl hg4 ?_
      refine oValG tt rfl rfl rfl rfl rfl hb3 rfl rfl rfl trivial ?_
      refine oPickF rfl rfl rfl rfl rfl hb3 rfl ?_
      refine vNil ?_
      change VC _ _ _ _
      refine vCond rfl (fun hb5 => ?_) (fun hb5 => ?_)
      · replace h := cnd_t hb5 h
        refine vSeq ?_
        refine vRegion ?_
        refine oVal tt rfl rfl rfl rfl rfl trivial ?_
        refine vNil ?_
        change VC _ _ _ _
        refine vRet ?_
        change ∃ _, _
        cases h
        exact ⟨[], _, rfl, trivial, rfl, (.eq rfl), rfl⟩
      · replace h := cnd_f hb5 h
        refine vSkip ?_
        change VC _ _ _ _
        iterate 2 refine vSeq ?_
        refine vRegion ?_
        iterate 4 refine oVal tt rfl rfl rfl rfl rfl trivial ?_
        refine vNil ?_
        change VC _ _ _ _
        refine vJoin (F := fun k => I_IsLinkage_l1 N l_0 k) h (α := Unit) (J := fun (_ : Unit) => (⟨[], [], []⟩ : PS)) ?_ ?_
        · rintro ⟨⟩ h
          show VC _ _ _ (⟨[], [], []⟩ : PS)
          refine vSeq ?_
          refine vRegion ?_
          refine oVal tt rfl rfl rfl rfl rfl trivial ?_
          refine vNil ?_
          change VC _ _ _ _
          refine vRet ?_
          change ∃ _, _
          cases h
          exact ⟨[], _, rfl, trivial, rfl, (.eq rfl), rfl⟩
        · intro k h
          refine vBlock ?_
          refine vLoopS (α := Int) (fun (x8 : Int) => (⟨[(1, .ptr 1 0), (27, .ro false (.ints l_0.ground)), (28, .int (l_0.ground.length : Int)), (29, .int x8)], [], [(1, some [.int l_0.f.g.n, .ro false (.pairs l_0.f.g.bars), .ro false (.pairs l_0.f.places), .ro false (.ints l_0.ground)])]⟩ : PS)) (I_IsLinkage_l1 N l_0 k) h (En.of ⟨rfl, rfl, rfl, rfl, trivial⟩ trivial ⟨rfl, trivial⟩) (fun _ => rfl) ?_
          rintro n x8 h
          rw [I_IsLinkage_l1] at h
          show VC _ _ _ (⟨[(1, .ptr 1 0), (27, .ro false (.ints l_0.ground)), (28, .int (l_0.ground.length : Int)), (29, .int x8)], [], [(1, some [.int l_0.f.g.n, .ro false (.pairs l_0.f.g.bars), .ro false (.pairs l_0.f.places), .ro false (.ints l_0.ground)])]⟩ : PS)
          refine vSeq ?_
          refine vRegion ?_
          refine oVal tt rfl rfl rfl rfl rfl trivial ?_
          refine vNil ?_
          change VC _ _ _ _
          refine vSeq ?_
          refine vCond rfl (fun hb6 => ?_) (fun hb6 => ?_)
          · replace h := cnd_t hb6 h
            refine vSkip ?_
            change VC _ _ _ _
            refine vSeq ?_
            refine vBlock ?_
            refine vSeq ?_
            refine vRegion ?_
            refine oVal tt rfl rfl rfl rfl rfl trivial ?_
            obtain ⟨hg7, h⟩ := grd_inv h
            refine oVal tt rfl rfl rfl rfl rfl hg7 ?_
            iterate 3 refine oVal tt rfl rfl rfl rfl rfl trivial ?_
            refine vNil ?_
            change VC _ _ _ _
            refine vSeq ?_
            refine vRegion ?_
            iterate 4 refine oVal tt rfl rfl rfl rfl rfl trivial ?_
            obtain ⟨v10, hc8, h⟩ := bind_inv h
            refine oCall (M_Graph_has_w N l_0.f.g (l_0.ground.getD ((x8).toNat) 0) v10 hc8) rfl rfl rfl rfl rfl rfl rfl rfl ⟨⟨rfl, rfl, trivial⟩, rfl, trivial⟩ ?_
            iterate 2 refine oVal tt rfl rfl rfl rfl rfl trivial ?_
            refine oSplit rfl rfl rfl (fun hb9 => ?_) (fun hb9 => ?_)
            · replace h := cnd_t hb9 h
              iterate 3 refine oNoF rfl rfl rfl rfl hb9 rfl rfl ?_
              iterate 8 refine oNoU rfl rfl rfl rfl rfl ?_
              refine oNoF rfl rfl rfl rfl hb9 rfl rfl ?_
              refine oPick rfl rfl rfl rfl rfl hb9 rfl ?_
              refine vNil ?_
              change VC _ _ _ _
              refine vCondT rfl rfl ?_
              refine vSeq ?_
              refine vRegion ?_
              refine oVal tt rfl rfl rfl rfl rfl trivial ?_
              refine vNil ?_
              change VC _ _ _ _
              refine vRet ?_
              change ∃ _, _
              cases h
              exact ⟨[], _, rfl, trivial, rfl, (.eq rfl), rfl⟩
            · replace h := cnd_f hb9 h
              iterate 3 refine oValG tt rfl rfl rfl rfl rfl hb9 rfl rfl rfl trivial ?_
              refine oSplit rfl rfl rfl (fun hb10 => ?_) (fun hb10 => ?_)
              · replace h := cnd_t hb10 h
                iterate 3 refine oValG tt rfl rfl rfl rfl rfl hb10 rfl rfl rfl trivial ?_
                obtain ⟨hg11, h⟩ := grd_inv h
                refine oValG tt rfl rfl rfl rfl rfl hb10 rfl rfl rfl hg11 ?_
                obtain ⟨hg12, h⟩ := grd_inv h
                refine oValG tt rfl rfl rfl rfl rfl hb10 rfl rfl rfl hg12 ?_
                iterate 3 refine oValG tt rfl rfl rfl rfl rfl hb10 rfl rfl rfl trivial ?_
                refine oPickGT rfl rfl rfl rfl hb9 rfl rfl rfl rfl hb10 rfl ?_
                refine oPickF rfl rfl rfl rfl rfl hb9 rfl ?_
                refine vNil ?_
                change VC _ _ _ _
                refine vCond rfl (fun hb13 => ?_) (fun hb13 => ?_)
                · replace h := cnd_t hb13 h
                  refine vSeq ?_
                  refine vRegion ?_
                  refine oVal tt rfl rfl rfl rfl rfl trivial ?_
                  refine vNil ?_
                  change VC _ _ _ _
                  refine vRet ?_
                  change ∃ _, _
                  cases h
                  exact ⟨[], _, rfl, trivial, rfl, (.eq rfl), rfl⟩
                · replace h := cnd_f hb13 h
                  refine vSkip ?_
                  change VC _ _ _ _
                  refine vRegion ?_
                  obtain ⟨hg14, h⟩ := grd_inv h
                  refine oVal tt rfl rfl rfl rfl rfl hg14 ?_
                  refine oVal tt rfl rfl rfl rfl rfl trivial ?_
                  refine vNil ?_
                  change ∃ _, _
                  exact ⟨(x8 + (1 : Int)), (En.of ⟨rfl, rfl, rfl, rfl, trivial⟩ trivial ⟨rfl, trivial⟩), h⟩
              · replace h := cnd_f hb10 h
                iterate 8 refine oNoT rfl rfl rfl rfl hb10 rfl rfl ?_
                refine oPickGF rfl rfl rfl rfl hb9 rfl rfl rfl rfl hb10 rfl ?_
                refine oPickF rfl rfl rfl rfl rfl hb9 rfl ?_
                refine vNil ?_
                change VC _ _ _ _
                refine vCondF rfl rfl ?_
                refine vSkip ?_
                change VC _ _ _ _
                refine vRegion ?_
                obtain ⟨hg15, h⟩ := grd_inv h
                refine oVal tt rfl rfl rfl rfl rfl hg15 ?_
                refine oVal tt rfl rfl rfl rfl rfl trivial ?_
                refine vNil ?_
                change ∃ _, _
                exact ⟨(x8 + (1 : Int)), (En.of ⟨rfl, rfl, rfl, rfl, trivial⟩ trivial ⟨rfl, trivial⟩), h⟩
          · replace h := cnd_f hb6 h
            refine vExit ?_
            change ∃ _, _
            exact ⟨(), (En.of trivial trivial trivial), h⟩
end Go.Proofs.Ytlmlfbjcpajinaa
