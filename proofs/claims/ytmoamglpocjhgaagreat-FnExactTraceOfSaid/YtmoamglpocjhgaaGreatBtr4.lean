/- Texts that the proof needs, put together: G11 G12 Pb G3 G24 G28 G5 G66 Pmk Pc G14 G15 Pd Pe Pf Ph G19 G20. -/
import Derived.Test.YtmoamglpocjhgaaGreatBtr3
set_option linter.unusedVariables false
set_option linter.unusedSimpArgs false
namespace Go.Proofs.YtmoamglpocjhgaaGreat
open Go.RowKit
def L_toPlaceS_l1 (N : Nat) (a_0 : List (Int × Int)) (k : (List (Int × Int)) → Option (List (Int × Int))) : Nat → ((List (Int × Int)) × Int) → Option (List (Int × Int))
 | 0, _ => none
 | n + 1, (l9, i10) =>
  cnd (decide (i10 < (a_0.length : Int))) (
   grd (0 ≤ i10 ∧ i10 < (a_0.length : Int)) <|
   (L_toPlace N (a_0.getD ((i10).toNat) (0, 0))).bind fun v12 =>
   grd (0 ≤ i10 ∧ i10 < ((List.replicate (((a_0.length : Int)).toNat) ((0, 0) : Int × Int)).length : Int)) <|
   grd (0 ≤ i10 ∧ i10 < (l9.length : Int)) <|
   grd (Rg64 (i10 + (1 : Int))) <|
   L_toPlaceS_l1 N a_0 k n (((l9.set ((i10).toNat) (v12.1, (l9.getD ((i10).toNat) (0, 0)).2)).set ((i10).toNat) (((l9.set ((i10).toNat) (v12.1, (l9.getD ((i10).toNat) (0, 0)).2)).getD ((i10).toNat) (0, 0)).1, v12.2)), (i10 + (1 : Int)))) (
   k l9)
def L_toPlaceS (N : Nat) (a_0 : List (Int × Int)) : Option (List (Int × Int)) :=
 grd (0 ≤ (a_0.length : Int) ∧ (a_0.length : Int) ≤ 4294967296) <|
 L_toPlaceS_l1 N a_0 (fun (l6 : List (Int × Int)) =>
    grd ((List.replicate (((a_0.length : Int)).toNat) ((0, 0) : Int × Int)).length = l6.length) <|
    some l6) N ((List.replicate (((a_0.length : Int)).toNat) ((0, 0) : Int × Int)), (0 : Int))
set_option maxRecDepth 20000 in
set_option maxHeartbeats 1600000 in
theorem L_toPlaceS_w (N : Nat) (a_0 : List (Int × Int)) (r : List (Int × Int)) (h : L_toPlaceS N a_0 = some r) : PCall Tryz.prog 86 [.ro false (.pairs a_0)] [(83, .pairs r)] (.row 0 0 r.length) := by
 unfold L_toPlaceS at h
 refine pcall_intro (TT := TT) tt Tryz.func86 rfl rfl Tryz.ntmps86 (congrArg Array.toList Tryz.results86) rfl rfl fun w0 => ?_
 refine vSeq ?_
 refine vRegion ?_
 refine oVal tt rfl rfl rfl rfl rfl trivial ?_
 refine vNil ?_
 change VC _ _ _ _
 refine vSeq ?_
 refine vRegion ?_
 iterate 2 refine oVal tt rfl rfl rfl rfl rfl trivial ?_
 obtain ⟨hg1, h⟩ := grd_inv h
 refine oMake tt rfl rfl rfl rfl rfl rfl rfl rfl rfl rfl rfl hg1 ?_
 refine oVal tt rfl rfl rfl rfl rfl trivial ?_
 refine vNil ?_
 change VC _ _ _ _
 iterate 2 refine vSeq ?_
 refine vRegion ?_
 refine oVal tt rfl rfl rfl rfl rfl trivial ?_
 refine vNil ?_
 change VC _ _ _ _
 refine vJoin (F := fun k => L_toPlaceS_l1 N a_0 k) h (α := List (Int × Int)) (J := fun (l6 : List (Int × Int)) => (⟨[(3, .row 7 0 ((List.replicate (((a_0.length : Int)).toNat) ((0, 0) : Int × Int)).length))], [(7, some (83, .pairs l6))], []⟩ : PS)) ?_ ?_
 ·rintro l6 h
  show VC _ _ _ (⟨[(3, .row 7 0 ((List.replicate (((a_0.length : Int)).toNat) ((0, 0) : Int × Int)).length))], [(7, some (83, .pairs l6))], []⟩ : PS)
  refine vSeq ?_
  refine vRegion ?_
  iterate 2 refine oVal tt rfl rfl rfl rfl rfl trivial ?_
  refine vNil ?_
  change VC _ _ _ _
  obtain ⟨hg2, h⟩ := grd_inv h
  refine vRet ?_
  change ∃ _, _
  cases h
  exact ⟨[7], _, rfl, ⟨rfl, trivial⟩, rfl, (.eq (by simp only [hg2]; rfl)), rfl⟩
 ·intro k h
  refine vBlock ?_
  refine vLoopS (α := (List (Int × Int)) × Int) (fun | (l9, i10) => (⟨[(0, .ro false (.pairs a_0)), (3, .row 7 0 ((List.replicate (((a_0.length : Int)).toNat) ((0, 0) : Int × Int)).length)), (4, .int i10)], [(7, some (83, .pairs l9))], []⟩ : PS)) (L_toPlaceS_l1 N a_0 k) h (En.of ⟨rfl, rfl, rfl, trivial⟩ ⟨rfl, trivial⟩ trivial) (fun _ => rfl) ?_
  rintro n ⟨l9, i10⟩ h
  rw [L_toPlaceS_l1] at h
  show VC _ _ _ (⟨[(0, .ro false (.pairs a_0)), (3, .row 7 0 ((List.replicate (((a_0.length : Int)).toNat) ((0, 0) : Int × Int)).length)), (4, .int i10)], [(7, some (83, .pairs l9))], []⟩ : PS)
  iterate 2 refine vSeq ?_
  refine vRegion ?_
  iterate 4 refine oVal tt rfl rfl rfl rfl rfl trivial ?_
  refine vNil ?_
  change VC _ _ _ _
  refine vCond rfl (fun hb3 => ?_) (fun hb3 => ?_)
  ·replace h := cnd_t hb3 h
   refine vSkip ?_
   change VC _ _ _ _
   refine vSeq ?_
   refine vBlock ?_
   refine vRegion ?_
   iterate 4 refine oVal tt rfl rfl rfl rfl rfl trivial ?_
   obtain ⟨hg4, h⟩ := grd_inv h
   refine oVal tt rfl rfl rfl rfl rfl hg4 ?_
   refine oVal tt rfl rfl rfl rfl rfl trivial ?_
   obtain ⟨v12, hc5, h⟩ := bind_inv h
   refine oCall (L_toPlace_w N (a_0.getD ((i10).toNat) (0, 0)) v12 hc5) rfl rfl rfl rfl rfl rfl rfl rfl ⟨⟨rfl, rfl, trivial⟩, trivial⟩ ?_
   obtain ⟨hg6, h⟩ := grd_inv h
   refine oVal tt rfl rfl rfl rfl rfl hg6 ?_
   obtain ⟨hg7, h⟩ := grd_inv h
   refine oStore tt rfl rfl rfl rfl rfl rfl rfl rfl rfl rfl ⟨_, _, rfl, hg7.1, hg7.2⟩ ⟨hg7, (by simpa [Sq.len] using hg7), trivial⟩ ?_
   refine vNil ?_
   change VC _ _ _ _
   refine vRegion ?_
   refine oVal tt rfl rfl rfl rfl rfl trivial ?_
   obtain ⟨hg8, h⟩ := grd_inv h
   refine oVal tt rfl rfl rfl rfl rfl hg8 ?_
   refine oVal tt rfl rfl rfl rfl rfl trivial ?_
   refine vNil ?_
   change ∃ _, _
   exact ⟨(((l9.set ((i10).toNat) (v12.1, (l9.getD ((i10).toNat) (0, 0)).2)).set ((i10).toNat) (((l9.set ((i10).toNat) (v12.1, (l9.getD ((i10).toNat) (0, 0)).2)).getD ((i10).toNat) (0, 0)).1, v12.2)), (i10 + (1 : Int))), (En.of ⟨rfl, rfl, rfl, trivial⟩ ⟨rfl, trivial⟩ trivial), h⟩
  ·replace h := cnd_f hb3 h
   refine vExit ?_
   change ∃ _, _
   exact ⟨l9, (En.of ⟨rfl, trivial⟩ ⟨rfl, trivial⟩ trivial), h⟩
def L_toFramework (N : Nat) (a_0 : Frm) : Option (Frm) :=
 (L_toGraph N a_0.g).bind fun v1 =>
 (L_toPlaceS N a_0.places).bind fun v2 =>
 some (⟨⟨v1.n, v1.bars⟩, v2⟩ : Frm)
set_option maxRecDepth 20000 in
set_option maxHeartbeats 1600000 in
theorem L_toFramework_w (N : Nat) (a_0 : Frm) (r : Frm) (h : L_toFramework N a_0 = some r) : PCall Tryz.prog 51 [fD a_0] [(39, .pairs r.g.bars), (83, .pairs r.places)] (.agg [.int r.g.n, .row 0 0 r.g.bars.length, .row 1 0 r.places.length]) := by
 unfold L_toFramework at h
 refine pcall_intro (TT := TT) tt Tryz.func51 rfl rfl Tryz.ntmps51 (congrArg Array.toList Tryz.results51) rfl rfl fun w0 => ?_
 refine vSeq ?_
 refine vRegion ?_
 refine oBox rfl rfl rfl rfl rfl rfl rfl rfl rfl ?_
 refine oAlloc tt rfl rfl rfl rfl rfl rfl rfl rfl rfl ?_
 refine vNil ?_
 change VC _ _ _ _
 refine vSeq ?_
 refine vRegion ?_
 refine oAlloc tt rfl rfl rfl rfl rfl rfl rfl rfl rfl ?_
 refine vNil ?_
 change VC _ _ _ _
 refine vSeq ?_
 refine vRegion ?_
 iterate 2 refine oVal tt rfl rfl rfl rfl rfl trivial ?_
 obtain ⟨v1, hc1, h⟩ := bind_inv h
 refine oCall (L_toGraph_w N a_0.g v1 hc1) rfl rfl rfl rfl rfl rfl rfl rfl ⟨⟨rfl, rfl, trivial⟩, trivial⟩ ?_
 refine oVal tt rfl rfl rfl rfl rfl trivial ?_
 refine oStore tt rfl rfl rfl rfl rfl rfl rfl rfl rfl rfl rfl ⟨trivial, trivial, trivial⟩ ?_
 refine vNil ?_
 change VC _ _ _ _
 refine vSeq ?_
 refine vRegion ?_
 iterate 2 refine oVal tt rfl rfl rfl rfl rfl trivial ?_
 obtain ⟨v2, hc2, h⟩ := bind_inv h
 refine oCall (L_toPlaceS_w N a_0.places v2 hc2) rfl rfl rfl rfl rfl rfl rfl rfl ⟨rfl, trivial⟩ ?_
 refine oVal tt rfl rfl rfl rfl rfl trivial ?_
 refine oStore tt rfl rfl rfl rfl rfl rfl rfl rfl rfl rfl rfl ⟨trivial, trivial⟩ ?_
 refine vNil ?_
 change VC _ _ _ _
 refine vSeq ?_
 refine vRegion ?_
 refine oVal tt rfl rfl rfl rfl rfl trivial ?_
 refine oStore tt rfl rfl rfl rfl rfl rfl rfl rfl rfl rfl rfl ⟨trivial, trivial, trivial, trivial⟩ ?_
 refine vNil ?_
 change VC _ _ _ _
 refine vRet ?_
 change ∃ _, _
 cases h
 exact ⟨[1060, 1100], _, rfl, ⟨rfl, rfl, trivial⟩, rfl, (.eq rfl), rfl⟩
def L_toLinkage (N : Nat) (a_0 : Lnk) : Option (Lnk) :=
 (L_toFramework N a_0.f).bind fun v1 =>
 (L_toIntS N a_0.ground).bind fun v2 =>
 some (⟨⟨⟨v1.g.n, v1.g.bars⟩, v1.places⟩, v2⟩ : Lnk)
set_option maxRecDepth 20000 in
set_option maxHeartbeats 1600000 in
theorem L_toLinkage_w (N : Nat) (a_0 : Lnk) (r : Lnk) (h : L_toLinkage N a_0 = some r) : PCall Tryz.prog 21 [lD a_0] [(39, .pairs r.f.g.bars), (83, .pairs r.f.places), (3, .ints r.ground)] (.agg [.int r.f.g.n, .row 0 0 r.f.g.bars.length, .row 1 0 r.f.places.length, .row 2 0 r.ground.length]) := by
 unfold L_toLinkage at h
 refine pcall_intro (TT := TT) tt Tryz.func21 rfl rfl Tryz.ntmps21 (congrArg Array.toList Tryz.results21) rfl rfl fun w0 => ?_
 refine vSeq ?_
 refine vRegion ?_
 refine oBox rfl rfl rfl rfl rfl rfl rfl rfl rfl ?_
 refine oAlloc tt rfl rfl rfl rfl rfl rfl rfl rfl rfl ?_
 refine vNil ?_
 change VC _ _ _ _
 refine vSeq ?_
 refine vRegion ?_
 refine oAlloc tt rfl rfl rfl rfl rfl rfl rfl rfl rfl ?_
 refine vNil ?_
 change VC _ _ _ _
 refine vSeq ?_
 refine vRegion ?_
 iterate 2 refine oVal tt rfl rfl rfl rfl rfl trivial ?_
 obtain ⟨v1, hc1, h⟩ := bind_inv h
 refine oCall (L_toFramework_w N a_0.f v1 hc1) rfl rfl rfl rfl rfl rfl rfl rfl ⟨⟨rfl, rfl, rfl, trivial⟩, trivial⟩ ?_
 refine oVal tt rfl rfl rfl rfl rfl trivial ?_
 refine oStore tt rfl rfl rfl rfl rfl rfl rfl rfl rfl rfl rfl ⟨trivial, trivial, trivial, trivial⟩ ?_
 refine vNil ?_
 change VC _ _ _ _
 refine vSeq ?_
 refine vRegion ?_
 iterate 2 refine oVal tt rfl rfl rfl rfl rfl trivial ?_
 obtain ⟨v2, hc2, h⟩ := bind_inv h
 refine oCall (L_toIntS_w N a_0.ground v2 hc2) rfl rfl rfl rfl rfl rfl rfl rfl ⟨rfl, trivial⟩ ?_
 refine oVal tt rfl rfl rfl rfl rfl trivial ?_
 refine oStore tt rfl rfl rfl rfl rfl rfl rfl rfl rfl rfl rfl ⟨trivial, trivial⟩ ?_
 refine vNil ?_
 change VC _ _ _ _
 refine vSeq ?_
 refine vRegion ?_
 refine oVal tt rfl rfl rfl rfl rfl trivial ?_
 refine oStore tt rfl rfl rfl rfl rfl rfl rfl rfl rfl rfl rfl ⟨trivial, trivial, trivial, trivial, trivial⟩ ?_
 refine vNil ?_
 change VC _ _ _ _
 refine vRet ?_
 change ∃ _, _
 cases h
 exact ⟨[1060, 1061, 1100], _, rfl, ⟨rfl, rfl, rfl, trivial⟩, rfl, (.eq rfl), rfl⟩
def I_isPlace (N : Nat) (p_0 : Int × Int) : Option (Bool) :=
 (I_within N p_0.1 (0 : Int) (4 : Int)).bind fun v1 =>
 cnd v1 (
  (I_within N p_0.2 (0 : Int) (4 : Int)).bind fun v2 =>
  some v2) (
  some false)
set_option maxRecDepth 20000 in
set_option maxHeartbeats 1600000 in
theorem I_isPlace_w (N : Nat) (p_0 : Int × Int) (r : Bool) (h : I_isPlace N p_0 = some r) : PCall Tryz.prog 109 [.agg [.int p_0.1, .int p_0.2]] [] (.bool r) := by
 unfold I_isPlace at h
 refine pcall_intro (TT := TT) tt Tryz.func109 rfl rfl Tryz.ntmps109 (congrArg Array.toList Tryz.results109) rfl rfl fun w0 => ?_
 refine vSeq ?_
 refine vRegion ?_
 refine oBox rfl rfl rfl rfl rfl rfl rfl rfl rfl ?_
 refine oVal tt rfl rfl rfl rfl rfl trivial ?_
 refine vNil ?_
 change VC _ _ _ _
 refine vSeq ?_
 refine vRegion ?_
 iterate 2 refine oVal tt rfl rfl rfl rfl rfl trivial ?_
 obtain ⟨v1, hc1, h⟩ := bind_inv h
 refine oCall (I_within_w N p_0.1 (0 : Int) (4 : Int) v1 hc1) rfl rfl rfl rfl rfl rfl rfl rfl ⟨rfl, rfl, rfl, trivial⟩ ?_
 refine oVal tt rfl rfl rfl rfl rfl trivial ?_
 refine oSplit rfl rfl rfl (fun hb2 => ?_) (fun hb2 => ?_)
 ·replace h := cnd_t hb2 h
  iterate 2 refine oValG tt rfl rfl rfl rfl rfl hb2 rfl rfl rfl trivial ?_
  obtain ⟨v2, hc3, h⟩ := bind_inv h
  refine oCallG (I_within_w N p_0.2 (0 : Int) (4 : Int) v2 hc3) rfl rfl rfl rfl hb2 rfl rfl rfl rfl rfl rfl rfl ⟨rfl, rfl, rfl, trivial⟩ ?_
  refine oPick rfl rfl rfl rfl rfl hb2 rfl ?_
  refine oVal tt rfl rfl rfl rfl rfl trivial ?_
  refine vNil ?_
  change VC _ _ _ _
  refine vRet ?_
  change ∃ _, _
  cases h
  exact ⟨[], _, rfl, trivial, rfl, (.eq rfl), rfl⟩
 ·replace h := cnd_f hb2 h
  iterate 3 refine oNoT rfl rfl rfl rfl hb2 rfl rfl ?_
  refine oPickF rfl rfl rfl rfl rfl hb2 rfl ?_
  refine oVal tt rfl rfl rfl rfl rfl trivial ?_
  refine vNil ?_
  change VC _ _ _ _
  refine vRet ?_
  change ∃ _, _
  cases h
  exact ⟨[], _, rfl, trivial, rfl, (.eq rfl), rfl⟩
def I_IsFramework_l1 (N : Nat) (f_0 : Frm) (k : Unit → Option (Bool)) : Nat → Int → Option (Bool)
 | 0, _ => none
 | n + 1, x8 =>
  cnd (decide (x8 < (f_0.g.bars.length : Int))) (
   grd (0 ≤ x8 ∧ x8 < (f_0.g.bars.length : Int)) <|
   cnd (decide (x8 > (0 : Int))) (
    grd (Rg64 (x8 - (1 : Int))) <|
    grd (0 ≤ (x8 - (1 : Int)) ∧ (x8 - (1 : Int)) < (f_0.g.bars.length : Int)) <|
    cnd (((f_0.g.bars.getD (((x8 - (1 : Int))).toNat) (0, 0)).1 == (f_0.g.bars.getD ((x8).toNat) (0, 0)).1) && ((f_0.g.bars.getD (((x8 - (1 : Int))).toNat) (0, 0)).2 == (f_0.g.bars.getD ((x8).toNat) (0, 0)).2)) (
     some false) (
     grd (0 ≤ ((f_0.g.bars.getD ((x8).toNat) (0, 0)).1) ∧ ((f_0.g.bars.getD ((x8).toNat) (0, 0)).1) < (f_0.places.length : Int)) <|
     grd (0 ≤ ((f_0.g.bars.getD ((x8).toNat) (0, 0)).2) ∧ ((f_0.g.bars.getD ((x8).toNat) (0, 0)).2) < (f_0.places.length : Int)) <|
     cnd (((f_0.places.getD (((f_0.g.bars.getD ((x8).toNat) (0, 0)).1).toNat) (0, 0)).1 == (f_0.places.getD (((f_0.g.bars.getD ((x8).toNat) (0, 0)).2).toNat) (0, 0)).1) && ((f_0.places.getD (((f_0.g.bars.getD ((x8).toNat) (0, 0)).1).toNat) (0, 0)).2 == (f_0.places.getD (((f_0.g.bars.getD ((x8).toNat) (0, 0)).2).toNat) (0, 0)).2)) (
      some false) (
      grd (Rg64 (x8 + (1 : Int))) <|
      I_IsFramework_l1 N f_0 k n (x8 + (1 : Int))))) (
    grd (0 ≤ ((f_0.g.bars.getD ((x8).toNat) (0, 0)).1) ∧ ((f_0.g.bars.getD ((x8).toNat) (0, 0)).1) < (f_0.places.length : Int)) <|
    grd (0 ≤ ((f_0.g.bars.getD ((x8).toNat) (0, 0)).2) ∧ ((f_0.g.bars.getD ((x8).toNat) (0, 0)).2) < (f_0.places.length : Int)) <|
    cnd (((f_0.places.getD (((f_0.g.bars.getD ((x8).toNat) (0, 0)).1).toNat) (0, 0)).1 == (f_0.places.getD (((f_0.g.bars.getD ((x8).toNat) (0, 0)).2).toNat) (0, 0)).1) && ((f_0.places.getD (((f_0.g.bars.getD ((x8).toNat) (0, 0)).1).toNat) (0, 0)).2 == (f_0.places.getD (((f_0.g.bars.getD ((x8).toNat) (0, 0)).2).toNat) (0, 0)).2)) (
     some false) (
     grd (Rg64 (x8 + (1 : Int))) <|
     I_IsFramework_l1 N f_0 k n (x8 + (1 : Int))))) (
   k ())
def I_IsFramework_l2 (N : Nat) (f_0 : Frm) (k : Unit → Option (Bool)) : Nat → Int → Option (Bool)
 | 0, _ => none
 | n + 1, x11 =>
  cnd (decide (x11 < (f_0.places.length : Int))) (
   grd (0 ≤ x11 ∧ x11 < (f_0.places.length : Int)) <|
   (I_isPlace N (f_0.places.getD ((x11).toNat) (0, 0))).bind fun v13 =>
   cnd (!v13) (
    some false) (
    grd (Rg64 (x11 + (1 : Int))) <|
    I_IsFramework_l2 N f_0 k n (x11 + (1 : Int)))) (
   k ())
def I_IsFramework (N : Nat) (f_0 : Frm) : Option (Bool) :=
 (I_IsGraph N f_0.g).bind fun v1 =>
 cnd (!v1) (
  some false) (
  cnd (decide (f_0.g.n > (6 : Int))) (
   some false) (
   cnd (decide ((f_0.g.bars.length : Int) > (15 : Int))) (
    some false) (
    cnd ((f_0.places.length : Int) != f_0.g.n) (
     some false) (
     I_IsFramework_l2 N f_0 (fun (_ : Unit) =>
        I_IsFramework_l1 N f_0 (fun (_ : Unit) =>
           some true) N (0 : Int)) N (0 : Int)))))
set_option maxRecDepth 20000 in
set_option maxHeartbeats 1600000 in
theorem I_IsFramework_w (N : Nat) (f_0 : Frm) (r : Bool) (h : I_IsFramework N f_0 = some r) : PCall Tryz.prog 108 [fD f_0] [] (.bool r) := by
 unfold I_IsFramework at h
 refine pcall_intro (TT := TT) tt Tryz.func108 rfl rfl Tryz.ntmps108 (congrArg Array.toList Tryz.results108) rfl rfl fun w0 => ?_
 refine vSeq ?_
 refine vRegion ?_
 refine oBox rfl rfl rfl rfl rfl rfl rfl rfl rfl ?_
 refine oVal tt rfl rfl rfl rfl rfl trivial ?_
 refine vNil ?_
 change VC _ _ _ _
 refine vSeq ?_
 refine vRegion ?_
 iterate 2 refine oVal tt rfl rfl rfl rfl rfl trivial ?_
 refine oAlloc tt rfl rfl rfl rfl rfl rfl rfl rfl rfl ?_
 refine oStore tt rfl rfl rfl rfl rfl rfl rfl rfl rfl rfl rfl ⟨trivial, trivial, trivial⟩ ?_
 refine vNil ?_
 change VC _ _ _ _
 iterate 2 refine vSeq ?_
 refine vRegion ?_
 refine oVal tt rfl rfl rfl rfl rfl trivial ?_
 obtain ⟨v1, hc1, h⟩ := bind_inv h
 refine oCall (I_IsGraph_w N f_0.g v1 hc1) rfl rfl rfl rfl rfl rfl rfl rfl ⟨⟨rfl, rfl, trivial⟩, trivial⟩ ?_
 iterate 2 refine oVal tt rfl rfl rfl rfl rfl trivial ?_
 refine oSplit rfl rfl rfl (fun hb2 => ?_) (fun hb2 => ?_)
 ·replace h := cnd_t hb2 h
  iterate 3 refine oNoF rfl rfl rfl rfl hb2 rfl rfl ?_
  refine oPick rfl rfl rfl rfl rfl hb2 rfl ?_
  refine oVal tt rfl rfl rfl rfl rfl trivial ?_
  iterate 4 refine oNoF rfl rfl rfl rfl rfl rfl rfl ?_
  refine oPick rfl rfl rfl rfl rfl rfl rfl ?_
  refine oVal tt rfl rfl rfl rfl rfl trivial ?_
  iterate 6 refine oNoF rfl rfl rfl rfl rfl rfl rfl ?_
  refine oPick rfl rfl rfl rfl rfl rfl rfl ?_
  refine vNil ?_
  change VC _ _ _ _
  refine vCondT rfl rfl ?_
  refine vSeq ?_
  refine vRegion ?_
  refine oVal tt rfl rfl rfl rfl rfl trivial ?_
  refine vNil ?_
  change VC _ _ _ _
  refine vRet ?_
  change ∃ _, _
  cases h
  exact ⟨[], _, rfl, trivial, rfl, (.eq rfl), rfl⟩
 ·replace h := cnd_f hb2 h
  iterate 3 refine oValG tt rfl rfl rfl rfl rfl hb2 rfl rfl rfl trivial ?_
  refine oPickF rfl rfl rfl rfl rfl hb2 rfl ?_
  refine oVal tt rfl rfl rfl rfl rfl trivial ?_
  refine oSplit rfl rfl rfl (fun hb3 => ?_) (fun hb3 => ?_)
  ·replace h := cnd_t hb3 h
   iterate 4 refine oNoF rfl rfl rfl rfl hb3 rfl rfl ?_
   refine oPick rfl rfl rfl rfl rfl hb3 rfl ?_
   refine oVal tt rfl rfl rfl rfl rfl trivial ?_
   iterate 6 refine oNoF rfl rfl rfl rfl rfl rfl rfl ?_
   refine oPick rfl rfl rfl rfl rfl rfl rfl ?_
   refine vNil ?_
   change VC _ _ _ _
   refine vCondT rfl rfl ?_
   refine vSeq ?_
   refine vRegion ?_
   refine oVal tt rfl rfl rfl rfl rfl trivial ?_
   refine vNil ?_
   change VC _ _ _ _
   refine vRet ?_
   change ∃ _, _
   cases h
   exact ⟨[], _, rfl, trivial, rfl, (.eq rfl), rfl⟩
  ·replace h := cnd_f hb3 h
   iterate 4 refine oValG tt rfl rfl rfl rfl rfl hb3 rfl rfl rfl trivial ?_
   refine oPickF rfl rfl rfl rfl rfl hb3 rfl ?_
   refine oVal tt rfl rfl rfl rfl rfl trivial ?_
   refine oSplit rfl rfl rfl (fun hb4 => ?_) (fun hb4 => ?_)
   ·replace h := cnd_t hb4 h
    iterate 6 refine oNoF rfl rfl rfl rfl hb4 rfl rfl ?_
    refine oPick rfl rfl rfl rfl rfl hb4 rfl ?_
    refine vNil ?_
    change VC _ _ _ _
    refine vCondT rfl rfl ?_
    refine vSeq ?_
    refine vRegion ?_
    refine oVal tt rfl rfl rfl rfl rfl trivial ?_
    refine vNil ?_
    change VC _ _ _ _
    refine vRet ?_
    change ∃ _, _
    cases h
    exact ⟨[], _, rfl, trivial, rfl, (.eq rfl), rfl⟩
   ·replace h := cnd_f hb4 h
    iterate 6 refine oValG tt rfl rfl rfl rfl rfl hb4 rfl rfl rfl trivial ?_
    refine oPickF rfl rfl rfl rfl rfl hb4 rfl ?_
    refine vNil ?_
    change VC _ _ _ _
    refine vCond rfl (fun hb5 => ?_) (fun hb5 => ?_)
    ·replace h := cnd_t hb5 h
     refine vSeq ?_
     refine vRegion ?_
     refine oVal tt rfl rfl rfl rfl rfl trivial ?_
     refine vNil ?_
     change VC _ _ _ _
     refine vRet ?_
     change ∃ _, _
     cases h
     exact ⟨[], _, rfl, trivial, rfl, (.eq rfl), rfl⟩
    ·replace h := cnd_f hb5 h
     refine vSkip ?_
     change VC _ _ _ _
     iterate 2 refine vSeq ?_
     refine vRegion ?_
     iterate 4 refine oVal tt rfl rfl rfl rfl rfl trivial ?_
     refine vNil ?_
     change VC _ _ _ _
     refine vJoin (F := fun k => I_IsFramework_l2 N f_0 k) h (α := Unit) (J := fun (_ : Unit) => (⟨[(1, .ptr 1 0), (3, .ptr 3 0)], [], [(1, some [.int f_0.g.n, .ro false (.pairs f_0.g.bars), .ro false (.pairs f_0.places)]), (3, some [.int f_0.g.n, .ro false (.pairs f_0.g.bars)])]⟩ : PS)) ?_ ?_
     ·rintro ⟨⟩ h
      show VC _ _ _ (⟨[(1, .ptr 1 0), (3, .ptr 3 0)], [], [(1, some [.int f_0.g.n, .ro false (.pairs f_0.g.bars), .ro false (.pairs f_0.places)]), (3, some [.int f_0.g.n, .ro false (.pairs f_0.g.bars)])]⟩ : PS)
      iterate 2 refine vSeq ?_
      refine vRegion ?_
      iterate 4 refine oVal tt rfl rfl rfl rfl rfl trivial ?_
      refine vNil ?_
      change VC _ _ _ _
      refine vJoin (F := fun k => I_IsFramework_l1 N f_0 k) h (α := Unit) (J := fun (_ : Unit) => (⟨[], [], []⟩ : PS)) ?_ ?_
      ·rintro ⟨⟩ h
       show VC _ _ _ (⟨[], [], []⟩ : PS)
       refine vSeq ?_
       refine vRegion ?_
       refine oVal tt rfl rfl rfl rfl rfl trivial ?_
       refine vNil ?_
       change VC _ _ _ _
       refine vRet ?_
       change ∃ _, _
       cases h
       exact ⟨[], _, rfl, trivial, rfl, (.eq rfl), rfl⟩
      ·intro k h
       refine vBlock ?_
       refine vLoopS (α := Int) (fun (x8 : Int) => (⟨[(1, .ptr 1 0), (3, .ptr 3 0), (44, .ro false (.pairs f_0.g.bars)), (45, .int (f_0.g.bars.length : Int)), (46, .int x8)], [], [(1, some [.int f_0.g.n, .ro false (.pairs f_0.g.bars), .ro false (.pairs f_0.places)]), (3, some [.int f_0.g.n, .ro false (.pairs f_0.g.bars)])]⟩ : PS)) (I_IsFramework_l1 N f_0 k) h (En.of ⟨rfl, rfl, rfl, rfl, rfl, trivial⟩ trivial ⟨rfl, rfl, trivial⟩) (fun _ => rfl) ?_
       rintro n x8 h
       rw [I_IsFramework_l1] at h
       show VC _ _ _ (⟨[(1, .ptr 1 0), (3, .ptr 3 0), (44, .ro false (.pairs f_0.g.bars)), (45, .int (f_0.g.bars.length : Int)), (46, .int x8)], [], [(1, some [.int f_0.g.n, .ro false (.pairs f_0.g.bars), .ro false (.pairs f_0.places)]), (3, some [.int f_0.g.n, .ro false (.pairs f_0.g.bars)])]⟩ : PS)
       refine vSeq ?_
       refine vRegion ?_
       refine oVal tt rfl rfl rfl rfl rfl trivial ?_
       refine vNil ?_
       change VC _ _ _ _
       refine vSeq ?_
       refine vCond rfl (fun hb6 => ?_) (fun hb6 => ?_)
       ·replace h := cnd_t hb6 h
        refine vSkip ?_
        change VC _ _ _ _
        refine vSeq ?_
        refine vBlock ?_
        refine vSeq ?_
        refine vRegion ?_
        refine oVal tt rfl rfl rfl rfl rfl trivial ?_
        obtain ⟨hg7, h⟩ := grd_inv h
        refine oVal tt rfl rfl rfl rfl rfl hg7 ?_
        refine oVal tt rfl rfl rfl rfl rfl trivial ?_
        refine oAlloc tt rfl rfl rfl rfl rfl rfl rfl rfl rfl ?_
        refine oVal tt rfl rfl rfl rfl rfl trivial ?_
        refine oStore tt rfl rfl rfl rfl rfl rfl rfl rfl rfl rfl rfl ⟨trivial, trivial, trivial⟩ ?_
        refine vNil ?_
        change VC _ _ _ _
        refine vSeq ?_
        refine vRegionD (by kernel_rfl) (by kernel_rfl) ?_
        iterate 3 refine cVal tt rfl (wNone rfl) rfl rfl rfl trivial ?_
        refine cSplit rfl rfl rfl (fun hb8 => ?_) (fun hb8 => ?_)
        ·replace h := cnd_t hb8 h
         iterate 3 refine cVal tt rfl (wSome rfl rfl rfl rfl hb8) rfl rfl rfl trivial ?_
         obtain ⟨hg9, h⟩ := grd_inv h
         refine cVal tt rfl (wSome rfl rfl rfl rfl hb8) rfl rfl rfl hg9 ?_
         obtain ⟨hg10, h⟩ := grd_inv h
         refine cVal tt rfl (wSome rfl rfl rfl rfl hb8) rfl rfl rfl hg10 ?_
         iterate 2 refine cVal tt rfl (wSome rfl rfl rfl rfl hb8) rfl rfl rfl trivial ?_
         refine cPure (wSome rfl rfl rfl rfl hb8) (pEqP eqP_impl_Bar rfl rfl rfl) rfl rfl ?_
         refine cPickT rfl (wNone rfl) rfl rfl rfl hb8 rfl ?_
         refine cVal tt rfl (wNone rfl) rfl rfl rfl trivial ?_
         refine cSplit rfl rfl rfl (fun hb11 => ?_) (fun hb11 => ?_)
         ·replace h := cnd_t hb11 h
          iterate 13 refine cNoF rfl rfl rfl rfl hb11 rfl rfl ?_
          refine cPickT rfl (wNone rfl) rfl rfl rfl hb11 rfl ?_
          refine cNil ?_
          change VC _ _ _ _
          refine vCondT rfl rfl ?_
          refine vSeq ?_
          refine vRegion ?_
          refine oVal tt rfl rfl rfl rfl rfl trivial ?_
          refine vNil ?_
          change VC _ _ _ _
          refine vRet ?_
          change ∃ _, _
          cases h
          exact ⟨[], _, rfl, trivial, rfl, (.eq rfl), rfl⟩
         ·replace h := cnd_f hb11 h
          iterate 4 refine cVal tt rfl (wSome rfl rfl rfl rfl hb11) rfl rfl rfl trivial ?_
          obtain ⟨hg12, h⟩ := grd_inv h
          refine cVal tt rfl (wSome rfl rfl rfl rfl hb11) rfl rfl rfl hg12 ?_
          iterate 5 refine cVal tt rfl (wSome rfl rfl rfl rfl hb11) rfl rfl rfl trivial ?_
          obtain ⟨hg13, h⟩ := grd_inv h
          refine cVal tt rfl (wSome rfl rfl rfl rfl hb11) rfl rfl rfl hg13 ?_
          refine cVal tt rfl (wSome rfl rfl rfl rfl hb11) rfl rfl rfl trivial ?_
          refine cPure (wSome rfl rfl rfl rfl hb11) (pEqP eqP_impl_Place rfl rfl rfl) rfl rfl ?_
          refine cPickF rfl (wNone rfl) rfl rfl rfl hb11 rfl ?_
          refine cNil ?_
          change VC _ _ _ _
          refine vCond rfl (fun hb14 => ?_) (fun hb14 => ?_)
          ·replace h := cnd_t hb14 h
           refine vSeq ?_
           refine vRegion ?_
           refine oVal tt rfl rfl rfl rfl rfl trivial ?_
           refine vNil ?_
           change VC _ _ _ _
           refine vRet ?_
           change ∃ _, _
           cases h
           exact ⟨[], _, rfl, trivial, rfl, (.eq rfl), rfl⟩
          ·replace h := cnd_f hb14 h
           refine vSkip ?_
           change VC _ _ _ _
           refine vRegion ?_
           obtain ⟨hg15, h⟩ := grd_inv h
           refine oVal tt rfl rfl rfl rfl rfl hg15 ?_
           refine oVal tt rfl rfl rfl rfl rfl trivial ?_
           refine vNil ?_
           change ∃ _, _
           exact ⟨(x8 + (1 : Int)), (En.of ⟨rfl, rfl, rfl, rfl, rfl, trivial⟩ trivial ⟨rfl, rfl, trivial⟩), h⟩
        ·replace h := cnd_f hb8 h
         iterate 8 refine cNoT rfl rfl rfl rfl hb8 rfl rfl ?_
         refine cPickF rfl (wNone rfl) rfl rfl rfl hb8 rfl ?_
         refine cVal tt rfl (wNone rfl) rfl rfl rfl trivial ?_
         iterate 4 refine cVal tt rfl (wSome rfl rfl rfl rfl rfl) rfl rfl rfl trivial ?_
         obtain ⟨hg16, h⟩ := grd_inv h
         refine cVal tt rfl (wSome rfl rfl rfl rfl rfl) rfl rfl rfl hg16 ?_
         iterate 5 refine cVal tt rfl (wSome rfl rfl rfl rfl rfl) rfl rfl rfl trivial ?_
         obtain ⟨hg17, h⟩ := grd_inv h
         refine cVal tt rfl (wSome rfl rfl rfl rfl rfl) rfl rfl rfl hg17 ?_
         refine cVal tt rfl (wSome rfl rfl rfl rfl rfl) rfl rfl rfl trivial ?_
         refine cPure (wSome rfl rfl rfl rfl rfl) (pEqP eqP_impl_Place rfl rfl rfl) rfl rfl ?_
         refine cPickF rfl (wNone rfl) rfl rfl rfl rfl rfl ?_
         refine cNil ?_
         change VC _ _ _ _
         refine vCond rfl (fun hb18 => ?_) (fun hb18 => ?_)
         ·replace h := cnd_t hb18 h
          refine vSeq ?_
          refine vRegion ?_
          refine oVal tt rfl rfl rfl rfl rfl trivial ?_
          refine vNil ?_
          change VC _ _ _ _
          refine vRet ?_
          change ∃ _, _
          cases h
          exact ⟨[], _, rfl, trivial, rfl, (.eq rfl), rfl⟩
         ·replace h := cnd_f hb18 h
          refine vSkip ?_
          change VC _ _ _ _
          refine vRegion ?_
          obtain ⟨hg19, h⟩ := grd_inv h
          refine oVal tt rfl rfl rfl rfl rfl hg19 ?_
          refine oVal tt rfl rfl rfl rfl rfl trivial ?_
          refine vNil ?_
          change ∃ _, _
          exact ⟨(x8 + (1 : Int)), (En.of ⟨rfl, rfl, rfl, rfl, rfl, trivial⟩ trivial ⟨rfl, rfl, trivial⟩), h⟩
       ·replace h := cnd_f hb6 h
        refine vExit ?_
        change ∃ _, _
        exact ⟨(), (En.of trivial trivial trivial), h⟩
     ·intro k h
      refine vBlock ?_
      refine vLoopS (α := Int) (fun (x11 : Int) => (⟨[(1, .ptr 1 0), (3, .ptr 3 0), (33, .ro false (.pairs f_0.places)), (34, .int (f_0.places.length : Int)), (35, .int x11)], [], [(1, some [.int f_0.g.n, .ro false (.pairs f_0.g.bars), .ro false (.pairs f_0.places)]), (3, some [.int f_0.g.n, .ro false (.pairs f_0.g.bars)])]⟩ : PS)) (I_IsFramework_l2 N f_0 k) h (En.of ⟨rfl, rfl, rfl, rfl, rfl, trivial⟩ trivial ⟨rfl, rfl, trivial⟩) (fun _ => rfl) ?_
      rintro n x11 h
      rw [I_IsFramework_l2] at h
      show VC _ _ _ (⟨[(1, .ptr 1 0), (3, .ptr 3 0), (33, .ro false (.pairs f_0.places)), (34, .int (f_0.places.length : Int)), (35, .int x11)], [], [(1, some [.int f_0.g.n, .ro false (.pairs f_0.g.bars), .ro false (.pairs f_0.places)]), (3, some [.int f_0.g.n, .ro false (.pairs f_0.g.bars)])]⟩ : PS)
      refine vSeq ?_
      refine vRegion ?_
      refine oVal tt rfl rfl rfl rfl rfl trivial ?_
      refine vNil ?_
      change VC _ _ _ _
      refine vSeq ?_
      refine vCond rfl (fun hb20 => ?_) (fun hb20 => ?_)
      ·replace h := cnd_t hb20 h
       refine vSkip ?_
       change VC _ _ _ _
       refine vSeq ?_
       refine vBlock ?_
       refine vSeq ?_
       refine vRegion ?_
       obtain ⟨hg21, h⟩ := grd_inv h
       refine oVal tt rfl rfl rfl rfl rfl hg21 ?_
       refine oVal tt rfl rfl rfl rfl rfl trivial ?_
       refine oAlloc tt rfl rfl rfl rfl rfl rfl rfl rfl rfl ?_
       refine oStore tt rfl rfl rfl rfl rfl rfl rfl rfl rfl rfl rfl ⟨trivial, trivial, trivial⟩ ?_
       refine vNil ?_
       change VC _ _ _ _
       refine vSeq ?_
       refine vRegion ?_
       refine oVal tt rfl rfl rfl rfl rfl trivial ?_
       obtain ⟨v13, hc22, h⟩ := bind_inv h
       refine oCall (I_isPlace_w N (f_0.places.getD ((x11).toNat) (0, 0)) v13 hc22) rfl rfl rfl rfl rfl rfl rfl rfl ⟨⟨rfl, rfl, trivial⟩, trivial⟩ ?_
       refine oVal tt rfl rfl rfl rfl rfl trivial ?_
       refine vNil ?_
       change VC _ _ _ _
       refine vCond rfl (fun hb23 => ?_) (fun hb23 => ?_)
       ·replace h := cnd_t hb23 h
        refine vSeq ?_
        refine vRegion ?_
        refine oVal tt rfl rfl rfl rfl rfl trivial ?_
        refine vNil ?_
        change VC _ _ _ _
        refine vRet ?_
        change ∃ _, _
        cases h
        exact ⟨[], _, rfl, trivial, rfl, (.eq rfl), rfl⟩
       ·replace h := cnd_f hb23 h
        refine vSkip ?_
        change VC _ _ _ _
        refine vRegion ?_
        obtain ⟨hg24, h⟩ := grd_inv h
        refine oVal tt rfl rfl rfl rfl rfl hg24 ?_
        refine oVal tt rfl rfl rfl rfl rfl trivial ?_
        refine vNil ?_
        change ∃ _, _
        exact ⟨(x11 + (1 : Int)), (En.of ⟨rfl, rfl, rfl, rfl, rfl, trivial⟩ trivial ⟨rfl, rfl, trivial⟩), h⟩
      ·replace h := cnd_f hb20 h
       refine vExit ?_
       change ∃ _, _
       exact ⟨(), (En.of ⟨rfl, rfl, trivial⟩ trivial ⟨rfl, rfl, trivial⟩), h⟩
def I_IsLinkage_l1 (N : Nat) (l_0 : Lnk) (k : Unit → Option (Bool)) : Nat → Int → Option (Bool)
 | 0, _ => none
 | n + 1, x8 =>
  cnd (decide (x8 < (l_0.ground.length : Int))) (
   grd (0 ≤ x8 ∧ x8 < (l_0.ground.length : Int)) <|
   (M_Graph_has N l_0.f.g (l_0.ground.getD ((x8).toNat) 0)).bind fun v10 =>
   cnd (!v10) (
    some false) (
    cnd (decide (x8 > (0 : Int))) (
     grd (Rg64 (x8 - (1 : Int))) <|
     grd (0 ≤ (x8 - (1 : Int)) ∧ (x8 - (1 : Int)) < (l_0.ground.length : Int)) <|
     cnd (decide ((l_0.ground.getD (((x8 - (1 : Int))).toNat) 0) ≥ (l_0.ground.getD ((x8).toNat) 0))) (
      some false) (
      grd (Rg64 (x8 + (1 : Int))) <|
      I_IsLinkage_l1 N l_0 k n (x8 + (1 : Int)))) (
     grd (Rg64 (x8 + (1 : Int))) <|
     I_IsLinkage_l1 N l_0 k n (x8 + (1 : Int))))) (
   k ())
def I_IsLinkage (N : Nat) (l_0 : Lnk) : Option (Bool) :=
 (I_IsFramework N l_0.f).bind fun v1 =>
 cnd (!v1) (
  some false) (
  cnd ((l_0.ground.length : Int) == (0 : Int)) (
   some false) (
   grd (Rg64 (l_0.f.g.n - (l_0.ground.length : Int))) <|
   cnd (decide ((l_0.f.g.n - (l_0.ground.length : Int)) > (2 : Int))) (
    some false) (
    I_IsLinkage_l1 N l_0 (fun (_ : Unit) =>
       some true) N (0 : Int))))
set_option maxRecDepth 20000 in
set_option maxHeartbeats 1600000 in
theorem I_IsLinkage_w (N : Nat) (l_0 : Lnk) (r : Bool) (h : I_IsLinkage N l_0 = some r) : PCall Tryz.prog 88 [lD l_0] [] (.bool r) := by
 unfold I_IsLinkage at h
 refine pcall_intro (TT := TT) tt Tryz.func88 rfl rfl Tryz.ntmps88 (congrArg Array.toList Tryz.results88) rfl rfl fun w0 => ?_
 refine vSeq ?_
 refine vRegion ?_
 refine oBox rfl rfl rfl rfl rfl rfl rfl rfl rfl ?_
 refine oVal tt rfl rfl rfl rfl rfl trivial ?_
 refine vNil ?_
 change VC _ _ _ _
 iterate 2 refine vSeq ?_
 refine vRegion ?_
 iterate 2 refine oVal tt rfl rfl rfl rfl rfl trivial ?_
 obtain ⟨v1, hc1, h⟩ := bind_inv h
 refine oCall (I_IsFramework_w N l_0.f v1 hc1) rfl rfl rfl rfl rfl rfl rfl rfl ⟨⟨rfl, rfl, rfl, trivial⟩, trivial⟩ ?_
 iterate 2 refine oVal tt rfl rfl rfl rfl rfl trivial ?_
 refine oSplit rfl rfl rfl (fun hb2 => ?_) (fun hb2 => ?_)
 ·replace h := cnd_t hb2 h
  iterate 4 refine oNoF rfl rfl rfl rfl hb2 rfl rfl ?_
  refine oPick rfl rfl rfl rfl rfl hb2 rfl ?_
  refine oVal tt rfl rfl rfl rfl rfl trivial ?_
  iterate 9 refine oNoF rfl rfl rfl rfl rfl rfl rfl ?_
  refine oPick rfl rfl rfl rfl rfl rfl rfl ?_
  refine vNil ?_
  change VC _ _ _ _
  refine vCondT rfl rfl ?_
  refine vSeq ?_
  refine vRegion ?_
  refine oVal tt rfl rfl rfl rfl rfl trivial ?_
  refine vNil ?_
  change VC _ _ _ _
  refine vRet ?_
  change ∃ _, _
  cases h
  exact ⟨[], _, rfl, trivial, rfl, (.eq rfl), rfl⟩
 ·replace h := cnd_f hb2 h
  iterate 4 refine oValG tt rfl rfl rfl rfl rfl hb2 rfl rfl rfl trivial ?_
  refine oPickF rfl rfl rfl rfl rfl hb2 rfl ?_
  refine oVal tt rfl rfl rfl rfl rfl trivial ?_
  refine oSplit rfl rfl rfl (fun hb3 => ?_) (fun hb3 => ?_)
  ·replace h := cnd_t hb3 h
   iterate 9 refine oNoF rfl rfl rfl rfl hb3 rfl rfl ?_
   refine oPick rfl rfl rfl rfl rfl hb3 rfl ?_
   refine vNil ?_
   change VC _ _ _ _
   refine vCondT rfl rfl ?_
   refine vSeq ?_
   refine vRegion ?_
   refine oVal tt rfl rfl rfl rfl rfl trivial ?_
   refine vNil ?_
   change VC _ _ _ _
   refine vRet ?_
   change ∃ _, _
   cases h
   exact ⟨[], _, rfl, trivial, rfl, (.eq rfl), rfl⟩
  ·replace h := cnd_f hb3 h
   iterate 7 refine oValG tt rfl rfl rfl rfl rfl hb3 rfl rfl rfl trivial ?_
   obtain ⟨hg4, h⟩ := grd_inv h
   refine oValG tt rfl rfl rfl rfl rfl hb3 rfl rfl rfl hg4 ?_
   refine oValG tt rfl rfl rfl rfl rfl hb3 rfl rfl rfl trivial ?_
   refine oPickF rfl rfl rfl rfl rfl hb3 rfl ?_
   refine vNil ?_
   change VC _ _ _ _
   refine vCond rfl (fun hb5 => ?_) (fun hb5 => ?_)
   ·replace h := cnd_t hb5 h
    refine vSeq ?_
    refine vRegion ?_
    refine oVal tt rfl rfl rfl rfl rfl trivial ?_
    refine vNil ?_
    change VC _ _ _ _
    refine vRet ?_
    change ∃ _, _
    cases h
    exact ⟨[], _, rfl, trivial, rfl, (.eq rfl), rfl⟩
   ·replace h := cnd_f hb5 h
    refine vSkip ?_
    change VC _ _ _ _
    iterate 2 refine vSeq ?_
    refine vRegion ?_
    iterate 4 refine oVal tt rfl rfl rfl rfl rfl trivial ?_
    refine vNil ?_
    change VC _ _ _ _
    refine vJoin (F := fun k => I_IsLinkage_l1 N l_0 k) h (α := Unit) (J := fun (_ : Unit) => (⟨[], [], []⟩ : PS)) ?_ ?_
    ·rintro ⟨⟩ h
     show VC _ _ _ (⟨[], [], []⟩ : PS)
     refine vSeq ?_
     refine vRegion ?_
     refine oVal tt rfl rfl rfl rfl rfl trivial ?_
     refine vNil ?_
     change VC _ _ _ _
     refine vRet ?_
     change ∃ _, _
     cases h
     exact ⟨[], _, rfl, trivial, rfl, (.eq rfl), rfl⟩
    ·intro k h
     refine vBlock ?_
     refine vLoopS (α := Int) (fun (x8 : Int) => (⟨[(1, .ptr 1 0), (27, .ro false (.ints l_0.ground)), (28, .int (l_0.ground.length : Int)), (29, .int x8)], [], [(1, some [.int l_0.f.g.n, .ro false (.pairs l_0.f.g.bars), .ro false (.pairs l_0.f.places), .ro false (.ints l_0.ground)])]⟩ : PS)) (I_IsLinkage_l1 N l_0 k) h (En.of ⟨rfl, rfl, rfl, rfl, trivial⟩ trivial ⟨rfl, trivial⟩) (fun _ => rfl) ?_
     rintro n x8 h
     rw [I_IsLinkage_l1] at h
     show VC _ _ _ (⟨[(1, .ptr 1 0), (27, .ro false (.ints l_0.ground)), (28, .int (l_0.ground.length : Int)), (29, .int x8)], [], [(1, some [.int l_0.f.g.n, .ro false (.pairs l_0.f.g.bars), .ro false (.pairs l_0.f.places), .ro false (.ints l_0.ground)])]⟩ : PS)
     refine vSeq ?_
     refine vRegion ?_
     refine oVal tt rfl rfl rfl rfl rfl trivial ?_
     refine vNil ?_
     change VC _ _ _ _
     refine vSeq ?_
     refine vCond rfl (fun hb6 => ?_) (fun hb6 => ?_)
     ·replace h := cnd_t hb6 h
      refine vSkip ?_
      change VC _ _ _ _
      refine vSeq ?_
      refine vBlock ?_
      refine vSeq ?_
      refine vRegion ?_
      refine oVal tt rfl rfl rfl rfl rfl trivial ?_
      obtain ⟨hg7, h⟩ := grd_inv h
      refine oVal tt rfl rfl rfl rfl rfl hg7 ?_
      iterate 3 refine oVal tt rfl rfl rfl rfl rfl trivial ?_
      refine vNil ?_
      change VC _ _ _ _
      refine vSeq ?_
      refine vRegion ?_
      iterate 4 refine oVal tt rfl rfl rfl rfl rfl trivial ?_
      obtain ⟨v10, hc8, h⟩ := bind_inv h
      refine oCall (M_Graph_has_w N l_0.f.g (l_0.ground.getD ((x8).toNat) 0) v10 hc8) rfl rfl rfl rfl rfl rfl rfl rfl ⟨⟨rfl, rfl, trivial⟩, rfl, trivial⟩ ?_
      iterate 2 refine oVal tt rfl rfl rfl rfl rfl trivial ?_
      refine oSplit rfl rfl rfl (fun hb9 => ?_) (fun hb9 => ?_)
      ·replace h := cnd_t hb9 h
       iterate 3 refine oNoF rfl rfl rfl rfl hb9 rfl rfl ?_
       iterate 8 refine oNoU rfl rfl rfl rfl rfl ?_
       refine oNoF rfl rfl rfl rfl hb9 rfl rfl ?_
       refine oPick rfl rfl rfl rfl rfl hb9 rfl ?_
       refine vNil ?_
       change VC _ _ _ _
       refine vCondT rfl rfl ?_
       refine vSeq ?_
       refine vRegion ?_
       refine oVal tt rfl rfl rfl rfl rfl trivial ?_
       refine vNil ?_
       change VC _ _ _ _
       refine vRet ?_
       change ∃ _, _
       cases h
       exact ⟨[], _, rfl, trivial, rfl, (.eq rfl), rfl⟩
      ·replace h := cnd_f hb9 h
       iterate 3 refine oValG tt rfl rfl rfl rfl rfl hb9 rfl rfl rfl trivial ?_
       refine oSplit rfl rfl rfl (fun hb10 => ?_) (fun hb10 => ?_)
       ·replace h := cnd_t hb10 h
        iterate 3 refine oValG tt rfl rfl rfl rfl rfl hb10 rfl rfl rfl trivial ?_
        obtain ⟨hg11, h⟩ := grd_inv h
        refine oValG tt rfl rfl rfl rfl rfl hb10 rfl rfl rfl hg11 ?_
        obtain ⟨hg12, h⟩ := grd_inv h
        refine oValG tt rfl rfl rfl rfl rfl hb10 rfl rfl rfl hg12 ?_
        iterate 3 refine oValG tt rfl rfl rfl rfl rfl hb10 rfl rfl rfl trivial ?_
        refine oPickGT rfl rfl rfl rfl hb9 rfl rfl rfl rfl hb10 rfl ?_
        refine oPickF rfl rfl rfl rfl rfl hb9 rfl ?_
        refine vNil ?_
        change VC _ _ _ _
        refine vCond rfl (fun hb13 => ?_) (fun hb13 => ?_)
        ·replace h := cnd_t hb13 h
         refine vSeq ?_
         refine vRegion ?_
         refine oVal tt rfl rfl rfl rfl rfl trivial ?_
         refine vNil ?_
         change VC _ _ _ _
         refine vRet ?_
         change ∃ _, _
         cases h
         exact ⟨[], _, rfl, trivial, rfl, (.eq rfl), rfl⟩
        ·replace h := cnd_f hb13 h
         refine vSkip ?_
         change VC _ _ _ _
         refine vRegion ?_
         obtain ⟨hg14, h⟩ := grd_inv h
         refine oVal tt rfl rfl rfl rfl rfl hg14 ?_
         refine oVal tt rfl rfl rfl rfl rfl trivial ?_
         refine vNil ?_
         change ∃ _, _
         exact ⟨(x8 + (1 : Int)), (En.of ⟨rfl, rfl, rfl, rfl, trivial⟩ trivial ⟨rfl, trivial⟩), h⟩
       ·replace h := cnd_f hb10 h
        iterate 8 refine oNoT rfl rfl rfl rfl hb10 rfl rfl ?_
        refine oPickGF rfl rfl rfl rfl hb9 rfl rfl rfl rfl hb10 rfl ?_
        refine oPickF rfl rfl rfl rfl rfl hb9 rfl ?_
        refine vNil ?_
        change VC _ _ _ _
        refine vCondF rfl rfl ?_
        refine vSkip ?_
        change VC _ _ _ _
        refine vRegion ?_
        obtain ⟨hg15, h⟩ := grd_inv h
        refine oVal tt rfl rfl rfl rfl rfl hg15 ?_
        refine oVal tt rfl rfl rfl rfl rfl trivial ?_
        refine vNil ?_
        change ∃ _, _
        exact ⟨(x8 + (1 : Int)), (En.of ⟨rfl, rfl, rfl, rfl, trivial⟩ trivial ⟨rfl, trivial⟩), h⟩
     ·replace h := cnd_f hb6 h
      refine vExit ?_
      change ∃ _, _
      exact ⟨(), (En.of trivial trivial trivial), h⟩
end Go.Proofs.YtmoamglpocjhgaaGreat
namespace Go.Proofs.YtmoamglpocjhgaaGreat
open Go.RowKit
def L_eqPlace (N : Nat) (a_0 : Int × Int) (b_1 : Int × Int) : Option (Bool) :=
 cnd (a_0.1 != b_1.1) (
  some false) (
  cnd (a_0.2 != b_1.2) (
   some false) (
   some true))
set_option maxRecDepth 20000 in
set_option maxHeartbeats 1600000 in
theorem L_eqPlace_w (N : Nat) (a_0 : Int × Int) (b_1 : Int × Int) (r : Bool) (h : L_eqPlace N a_0 b_1 = some r) : PCall Tryz.prog 59 [.agg [.int a_0.1, .int a_0.2], .agg [.int b_1.1, .int b_1.2]] [] (.bool r) := by
 unfold L_eqPlace at h
 refine pcall_intro (TT := TT) tt Tryz.func59 rfl rfl Tryz.ntmps59 (congrArg Array.toList Tryz.results59) rfl rfl fun w0 => ?_
 refine vSeq ?_
 refine vRegion ?_
 iterate 2 refine oBox rfl rfl rfl rfl rfl rfl rfl rfl rfl ?_
 refine oVal tt rfl rfl rfl rfl rfl trivial ?_
 refine vNil ?_
 change VC _ _ _ _
 iterate 2 refine vSeq ?_
 refine vRegion ?_
 iterate 5 refine oVal tt rfl rfl rfl rfl rfl trivial ?_
 refine vNil ?_
 change VC _ _ _ _
 refine vCond rfl (fun hb1 => ?_) (fun hb1 => ?_)
 ·replace h := cnd_t hb1 h
  refine vSeq ?_
  refine vRegion ?_
  refine oVal tt rfl rfl rfl rfl rfl trivial ?_
  refine vNil ?_
  change VC _ _ _ _
  refine vRet ?_
  change ∃ _, _
  cases h
  exact ⟨[], _, rfl, trivial, rfl, (.eq rfl), rfl⟩
 ·replace h := cnd_f hb1 h
  refine vSkip ?_
  change VC _ _ _ _
  iterate 2 refine vSeq ?_
  refine vRegion ?_
  iterate 5 refine oVal tt rfl rfl rfl rfl rfl trivial ?_
  refine vNil ?_
  change VC _ _ _ _
  refine vCond rfl (fun hb2 => ?_) (fun hb2 => ?_)
  ·replace h := cnd_t hb2 h
   refine vSeq ?_
   refine vRegion ?_
   refine oVal tt rfl rfl rfl rfl rfl trivial ?_
   refine vNil ?_
   change VC _ _ _ _
   refine vRet ?_
   change ∃ _, _
   cases h
   exact ⟨[], _, rfl, trivial, rfl, (.eq rfl), rfl⟩
  ·replace h := cnd_f hb2 h
   refine vSkip ?_
   change VC _ _ _ _
   refine vSeq ?_
   refine vRegion ?_
   refine oVal tt rfl rfl rfl rfl rfl trivial ?_
   refine vNil ?_
   change VC _ _ _ _
   refine vRet ?_
   change ∃ _, _
   cases h
   exact ⟨[], _, rfl, trivial, rfl, (.eq rfl), rfl⟩
def L_eqPlaceS_l1 (N : Nat) (a_0 : List (Int × Int)) (b_1 : List (Int × Int)) (k : Unit → Option (Bool)) : Nat → Int → Option (Bool)
 | 0, _ => none
 | n + 1, i7 =>
  cnd (decide (i7 < (a_0.length : Int))) (
   grd (0 ≤ i7 ∧ i7 < (a_0.length : Int)) <|
   grd (0 ≤ i7 ∧ i7 < (b_1.length : Int)) <|
   (L_eqPlace N (a_0.getD ((i7).toNat) (0, 0)) (b_1.getD ((i7).toNat) (0, 0))).bind fun v9 =>
   cnd (!v9) (
    some false) (
    grd (Rg64 (i7 + (1 : Int))) <|
    L_eqPlaceS_l1 N a_0 b_1 k n (i7 + (1 : Int)))) (
   k ())
def L_eqPlaceS (N : Nat) (a_0 : List (Int × Int)) (b_1 : List (Int × Int)) : Option (Bool) :=
 cnd ((a_0.length : Int) != (b_1.length : Int)) (
  some false) (
  L_eqPlaceS_l1 N a_0 b_1 (fun (_ : Unit) =>
     some true) N (0 : Int))
set_option maxRecDepth 20000 in
set_option maxHeartbeats 1600000 in
theorem L_eqPlaceS_w (N : Nat) (a_0 : List (Int × Int)) (b_1 : List (Int × Int)) (r : Bool) (h : L_eqPlaceS N a_0 b_1 = some r) : PCall Tryz.prog 23 [.ro false (.pairs a_0), .ro false (.pairs b_1)] [] (.bool r) := by
 unfold L_eqPlaceS at h
 refine pcall_intro (TT := TT) tt Tryz.func23 rfl rfl Tryz.ntmps23 (congrArg Array.toList Tryz.results23) rfl rfl fun w0 => ?_
 refine vSeq ?_
 refine vRegion ?_
 refine oVal tt rfl rfl rfl rfl rfl trivial ?_
 refine vNil ?_
 change VC _ _ _ _
 iterate 2 refine vSeq ?_
 refine vRegion ?_
 iterate 5 refine oVal tt rfl rfl rfl rfl rfl trivial ?_
 refine vNil ?_
 change VC _ _ _ _
 refine vCond rfl (fun hb1 => ?_) (fun hb1 => ?_)
 ·replace h := cnd_t hb1 h
  refine vSeq ?_
  refine vRegion ?_
  refine oVal tt rfl rfl rfl rfl rfl trivial ?_
  refine vNil ?_
  change VC _ _ _ _
  refine vRet ?_
  change ∃ _, _
  cases h
  exact ⟨[], _, rfl, trivial, rfl, (.eq rfl), rfl⟩
 ·replace h := cnd_f hb1 h
  refine vSkip ?_
  change VC _ _ _ _
  iterate 2 refine vSeq ?_
  refine vRegion ?_
  refine oVal tt rfl rfl rfl rfl rfl trivial ?_
  refine vNil ?_
  change VC _ _ _ _
  refine vJoin (F := fun k => L_eqPlaceS_l1 N a_0 b_1 k) h (α := Unit) (J := fun (_ : Unit) => (⟨[], [], []⟩ : PS)) ?_ ?_
  ·rintro ⟨⟩ h
   show VC _ _ _ (⟨[], [], []⟩ : PS)
   refine vSeq ?_
   refine vRegion ?_
   refine oVal tt rfl rfl rfl rfl rfl trivial ?_
   refine vNil ?_
   change VC _ _ _ _
   refine vRet ?_
   change ∃ _, _
   cases h
   exact ⟨[], _, rfl, trivial, rfl, (.eq rfl), rfl⟩
  ·intro k h
   refine vBlock ?_
   refine vLoopS (α := Int) (fun (i7 : Int) => (⟨[(0, .ro false (.pairs a_0)), (1, .ro false (.pairs b_1)), (5, .int i7)], [], []⟩ : PS)) (L_eqPlaceS_l1 N a_0 b_1 k) h (En.of ⟨rfl, rfl, rfl, trivial⟩ trivial trivial) (fun _ => rfl) ?_
   rintro n i7 h
   rw [L_eqPlaceS_l1] at h
   show VC _ _ _ (⟨[(0, .ro false (.pairs a_0)), (1, .ro false (.pairs b_1)), (5, .int i7)], [], []⟩ : PS)
   iterate 2 refine vSeq ?_
   refine vRegion ?_
   iterate 4 refine oVal tt rfl rfl rfl rfl rfl trivial ?_
   refine vNil ?_
   change VC _ _ _ _
   refine vCond rfl (fun hb2 => ?_) (fun hb2 => ?_)
   ·replace h := cnd_t hb2 h
    refine vSkip ?_
    change VC _ _ _ _
    refine vSeq ?_
    refine vBlock ?_
    refine vSeq ?_
    refine vRegionD (by kernel_rfl) (by kernel_rfl) ?_
    iterate 2 refine cVal tt rfl (wNone rfl) rfl rfl rfl trivial ?_
    obtain ⟨hg3, h⟩ := grd_inv h
    refine cVal tt rfl (wNone rfl) rfl rfl rfl hg3 ?_
    iterate 3 refine cVal tt rfl (wNone rfl) rfl rfl rfl trivial ?_
    obtain ⟨hg4, h⟩ := grd_inv h
    refine cVal tt rfl (wNone rfl) rfl rfl rfl hg4 ?_
    refine cVal tt rfl (wNone rfl) rfl rfl rfl trivial ?_
    obtain ⟨v9, hc5, h⟩ := bind_inv h
    refine cCall (L_eqPlace_w N (a_0.getD ((i7).toNat) (0, 0)) (b_1.getD ((i7).toNat) (0, 0)) v9 hc5) rfl (wNone rfl) rfl rfl rfl rfl rfl rfl ⟨⟨rfl, rfl, trivial⟩, ⟨rfl, rfl, trivial⟩, trivial⟩ ?_
    refine cVal tt rfl (wNone rfl) rfl rfl rfl trivial ?_
    refine cNil ?_
    change VC _ _ _ _
    refine vCond rfl (fun hb6 => ?_) (fun hb6 => ?_)
    ·replace h := cnd_t hb6 h
     refine vSeq ?_
     refine vRegion ?_
     refine oVal tt rfl rfl rfl rfl rfl trivial ?_
     refine vNil ?_
     change VC _ _ _ _
     refine vRet ?_
     change ∃ _, _
     cases h
     exact ⟨[], _, rfl, trivial, rfl, (.eq rfl), rfl⟩
    ·replace h := cnd_f hb6 h
     refine vSkip ?_
     change VC _ _ _ _
     refine vRegion ?_
     refine oVal tt rfl rfl rfl rfl rfl trivial ?_
     obtain ⟨hg7, h⟩ := grd_inv h
     refine oVal tt rfl rfl rfl rfl rfl hg7 ?_
     refine oVal tt rfl rfl rfl rfl rfl trivial ?_
     refine vNil ?_
     change ∃ _, _
     exact ⟨(i7 + (1 : Int)), (En.of ⟨rfl, rfl, rfl, trivial⟩ trivial trivial), h⟩
   ·replace h := cnd_f hb2 h
    refine vExit ?_
    change ∃ _, _
    exact ⟨(), (En.of trivial trivial trivial), h⟩
def L_eqFramework (N : Nat) (a_0 : Frm) (b_1 : Frm) : Option (Bool) :=
 (L_eqGraph N a_0.g b_1.g).bind fun v1 =>
 cnd (!v1) (
  some false) (
  (L_eqPlaceS N a_0.places b_1.places).bind fun v2 =>
  cnd (!v2) (
   some false) (
   some true))
set_option maxRecDepth 20000 in
set_option maxHeartbeats 1600000 in
theorem L_eqFramework_w (N : Nat) (a_0 : Frm) (b_1 : Frm) (r : Bool) (h : L_eqFramework N a_0 b_1 = some r) : PCall Tryz.prog 60 [fD a_0, fD b_1] [] (.bool r) := by
 unfold L_eqFramework at h
 refine pcall_intro (TT := TT) tt Tryz.func60 rfl rfl Tryz.ntmps60 (congrArg Array.toList Tryz.results60) rfl rfl fun w0 => ?_
 refine vSeq ?_
 refine vRegion ?_
 iterate 2 refine oBox rfl rfl rfl rfl rfl rfl rfl rfl rfl ?_
 refine oVal tt rfl rfl rfl rfl rfl trivial ?_
 refine vNil ?_
 change VC _ _ _ _
 iterate 2 refine vSeq ?_
 refine vRegion ?_
 iterate 4 refine oVal tt rfl rfl rfl rfl rfl trivial ?_
 obtain ⟨v1, hc1, h⟩ := bind_inv h
 refine oCall (L_eqGraph_w N a_0.g b_1.g v1 hc1) rfl rfl rfl rfl rfl rfl rfl rfl ⟨⟨rfl, rfl, trivial⟩, ⟨rfl, rfl, trivial⟩, trivial⟩ ?_
 refine oVal tt rfl rfl rfl rfl rfl trivial ?_
 refine vNil ?_
 change VC _ _ _ _
 refine vCond rfl (fun hb2 => ?_) (fun hb2 => ?_)
 ·replace h := cnd_t hb2 h
  refine vSeq ?_
  refine vRegion ?_
  refine oVal tt rfl rfl rfl rfl rfl trivial ?_
  refine vNil ?_
  change VC _ _ _ _
  refine vRet ?_
  change ∃ _, _
  cases h
  exact ⟨[], _, rfl, trivial, rfl, (.eq rfl), rfl⟩
 ·replace h := cnd_f hb2 h
  refine vSkip ?_
  change VC _ _ _ _
  iterate 2 refine vSeq ?_
  refine vRegion ?_
  iterate 4 refine oVal tt rfl rfl rfl rfl rfl trivial ?_
  obtain ⟨v2, hc3, h⟩ := bind_inv h
  refine oCall (L_eqPlaceS_w N a_0.places b_1.places v2 hc3) rfl rfl rfl rfl rfl rfl rfl rfl ⟨rfl, rfl, trivial⟩ ?_
  refine oVal tt rfl rfl rfl rfl rfl trivial ?_
  refine vNil ?_
  change VC _ _ _ _
  refine vCond rfl (fun hb4 => ?_) (fun hb4 => ?_)
  ·replace h := cnd_t hb4 h
   refine vSeq ?_
   refine vRegion ?_
   refine oVal tt rfl rfl rfl rfl rfl trivial ?_
   refine vNil ?_
   change VC _ _ _ _
   refine vRet ?_
   change ∃ _, _
   cases h
   exact ⟨[], _, rfl, trivial, rfl, (.eq rfl), rfl⟩
  ·replace h := cnd_f hb4 h
   refine vSkip ?_
   change VC _ _ _ _
   refine vSeq ?_
   refine vRegion ?_
   refine oVal tt rfl rfl rfl rfl rfl trivial ?_
   refine vNil ?_
   change VC _ _ _ _
   refine vRet ?_
   change ∃ _, _
   cases h
   exact ⟨[], _, rfl, trivial, rfl, (.eq rfl), rfl⟩
def L_eqLinkage (N : Nat) (a_0 : Lnk) (b_1 : Lnk) : Option (Bool) :=
 (L_eqFramework N a_0.f b_1.f).bind fun v1 =>
 cnd (!v1) (
  some false) (
  (L_eqIntS N a_0.ground b_1.ground).bind fun v2 =>
  cnd (!v2) (
   some false) (
   some true))
set_option maxRecDepth 20000 in
set_option maxHeartbeats 1600000 in
theorem L_eqLinkage_w (N : Nat) (a_0 : Lnk) (b_1 : Lnk) (r : Bool) (h : L_eqLinkage N a_0 b_1 = some r) : PCall Tryz.prog 24 [lD a_0, lD b_1] [] (.bool r) := by
 unfold L_eqLinkage at h
 refine pcall_intro (TT := TT) tt Tryz.func24 rfl rfl Tryz.ntmps24 (congrArg Array.toList Tryz.results24) rfl rfl fun w0 => ?_
 refine vSeq ?_
 refine vRegion ?_
 iterate 2 refine oBox rfl rfl rfl rfl rfl rfl rfl rfl rfl ?_
 refine oVal tt rfl rfl rfl rfl rfl trivial ?_
 refine vNil ?_
 change VC _ _ _ _
 iterate 2 refine vSeq ?_
 refine vRegion ?_
 iterate 4 refine oVal tt rfl rfl rfl rfl rfl trivial ?_
 obtain ⟨v1, hc1, h⟩ := bind_inv h
 refine oCall (L_eqFramework_w N a_0.f b_1.f v1 hc1) rfl rfl rfl rfl rfl rfl rfl rfl ⟨⟨rfl, rfl, rfl, trivial⟩, ⟨rfl, rfl, rfl, trivial⟩, trivial⟩ ?_
 refine oVal tt rfl rfl rfl rfl rfl trivial ?_
 refine vNil ?_
 change VC _ _ _ _
 refine vCond rfl (fun hb2 => ?_) (fun hb2 => ?_)
 ·replace h := cnd_t hb2 h
  refine vSeq ?_
  refine vRegion ?_
  refine oVal tt rfl rfl rfl rfl rfl trivial ?_
  refine vNil ?_
  change VC _ _ _ _
  refine vRet ?_
  change ∃ _, _
  cases h
  exact ⟨[], _, rfl, trivial, rfl, (.eq rfl), rfl⟩
 ·replace h := cnd_f hb2 h
  refine vSkip ?_
  change VC _ _ _ _
  iterate 2 refine vSeq ?_
  refine vRegion ?_
  iterate 4 refine oVal tt rfl rfl rfl rfl rfl trivial ?_
  obtain ⟨v2, hc3, h⟩ := bind_inv h
  refine oCall (L_eqIntS_w N a_0.ground b_1.ground v2 hc3) rfl rfl rfl rfl rfl rfl rfl rfl ⟨rfl, rfl, trivial⟩ ?_
  refine oVal tt rfl rfl rfl rfl rfl trivial ?_
  refine vNil ?_
  change VC _ _ _ _
  refine vCond rfl (fun hb4 => ?_) (fun hb4 => ?_)
  ·replace h := cnd_t hb4 h
   refine vSeq ?_
   refine vRegion ?_
   refine oVal tt rfl rfl rfl rfl rfl trivial ?_
   refine vNil ?_
   change VC _ _ _ _
   refine vRet ?_
   change ∃ _, _
   cases h
   exact ⟨[], _, rfl, trivial, rfl, (.eq rfl), rfl⟩
  ·replace h := cnd_f hb4 h
   refine vSkip ?_
   change VC _ _ _ _
   refine vSeq ?_
   refine vRegion ?_
   refine oVal tt rfl rfl rfl rfl rfl trivial ?_
   refine vNil ?_
   change VC _ _ _ _
   refine vRet ?_
   change ∃ _, _
   cases h
   exact ⟨[], _, rfl, trivial, rfl, (.eq rfl), rfl⟩
end Go.Proofs.YtmoamglpocjhgaaGreat
namespace Go.Proofs.YtmoamglpocjhgaaGreat
variable (N : Nat)
def szv (left : Int) (n : Nat) : Int := if left < n then -1 else left - n
theorem szv_big {left : Int} {n : Nat} (h : left < n) : szv left n = -1 := if_pos h
theorem szv_ok {left : Int} {n : Nat} (h : ¬ left < n) : szv left n = left - n := if_neg h
abbrev B63 (n : Nat) : Prop := n ≤ 9223372036854775807
theorem szIntS_s {a : List Int} (ha : B63 a.length) {left : Int} (h0 : 0 ≤ left) (h1 : left ≤ 1048576) : L_szIntS N a left = some (szv left a.length) := by
 unfold L_szIntS
 by_cases h : left < a.length
 ·rw [szv_big h]; simp (disch := omega) only [Int.toNat_natCast, tk0, List.length_cons, List.length_nil, grd_pos, grd_T, grd_R, cnd_dt, cnd_df, cnd_true, cnd_false, Option.bind_some]
 ·rw [szv_ok h]; simp (disch := omega) only [Int.toNat_natCast, tk0, List.length_cons, List.length_nil, grd_pos, grd_T, grd_R, cnd_dt, cnd_df, cnd_true, cnd_false, Option.bind_some]
theorem toIntS_l {a : List Int} (ha : a.length ≤ 1048576) (k : List Int → Option (List Int)) : ∀ n i : Nat, i ≤ a.length → a.length < n + i → L_toIntS_l1 N a k n (cpy a 0 i, (i : Int)) = k a := by
 intro n
 induction n with
 | zero => intro i h1 h2; omega
 | succ n ih =>
  intro i h1 h2
  have hl := cpy_len a 0 i
  rw [L_toIntS_l1]
  by_cases hi : i < a.length
  ·simp (disch := omega) only [Int.toNat_natCast, tk0, List.length_cons, List.length_nil, grd_pos, grd_T, grd_R, cnd_dt, cnd_df, cnd_true, cnd_false, Option.bind_some, List.length_replicate, hl]
   rw [cpy_set a 0 0 i hi rfl]
   exact ih (i + 1) (by omega) (by omega)
  ·simp (disch := omega) only [Int.toNat_natCast, tk0, List.length_cons, List.length_nil, grd_pos, grd_T, grd_R, cnd_dt, cnd_df, cnd_true, cnd_false, Option.bind_some]
   obtain rfl : i = a.length := by omega
   rw [cpy_full]
theorem toIntS_s (hN : 4000000 ≤ N) {a : List Int} (ha : a.length ≤ 1048576) : L_toIntS N a = some a := by
 unfold L_toIntS
 have h := toIntS_l N ha (fun l9 => grd ((List.replicate (((a.length : Int)).toNat) (0 : Int)).length = l9.length) <| some l9) N 0 (by omega) (by omega)
 simp only [Int.toNat_natCast, cpy_zero] at h ⊢
 simp (disch := omega) only [Int.toNat_natCast, tk0, List.length_cons, List.length_nil, grd_pos, grd_T, grd_R, cnd_dt, cnd_df, cnd_true, cnd_false, Option.bind_some]
 refine h.trans ?_
 simp (disch := omega) only [Int.toNat_natCast, tk0, List.length_cons, List.length_nil, grd_pos, grd_T, grd_R, cnd_dt, cnd_df, cnd_true, cnd_false, Option.bind_some, cpy_len]
theorem eqIntS_l {a : List Int} (ha : a.length ≤ 1048576) (k : Unit → Option Bool) : ∀ n i : Nat, i ≤ a.length → a.length < n + i → L_eqIntS_l1 N a a k n (i : Int) = k () := by
 intro n
 induction n with
 | zero => intro i h1 h2; omega
 | succ n ih =>
  intro i h1 h2
  rw [L_eqIntS_l1]
  by_cases hi : i < a.length
  ·simp (disch := omega) only [Int.toNat_natCast, tk0, List.length_cons, List.length_nil, grd_pos, grd_T, grd_R, cnd_dt, cnd_df, cnd_true, cnd_false, Option.bind_some, bne_self_eq_false]
   exact ih (i + 1) (by omega) (by omega)
  ·simp (disch := omega) only [Int.toNat_natCast, tk0, List.length_cons, List.length_nil, grd_pos, grd_T, grd_R, cnd_dt, cnd_df, cnd_true, cnd_false, Option.bind_some]
theorem eqIntS_s (hN : 4000000 ≤ N) {a : List Int} (ha : a.length ≤ 1048576) : L_eqIntS N a a = some true := by
 unfold L_eqIntS
 simp (disch := omega) only [Int.toNat_natCast, tk0, List.length_cons, List.length_nil, grd_pos, grd_T, grd_R, cnd_dt, cnd_df, cnd_true, cnd_false, Option.bind_some, bne_self_eq_false]
 exact eqIntS_l N ha (fun _ => some true) N 0 (by omega) (by omega)
theorem szBarS_s {a : List (Int × Int)} (ha : B63 a.length) {left : Int} (h0 : 0 ≤ left) (h1 : left ≤ 1048576) : L_szBarS N a left = some (szv left a.length) := by
 unfold L_szBarS
 by_cases h : left < a.length
 ·rw [szv_big h]; simp (disch := omega) only [Int.toNat_natCast, tk0, List.length_cons, List.length_nil, grd_pos, grd_T, grd_R, cnd_dt, cnd_df, cnd_true, cnd_false, Option.bind_some]
 ·rw [szv_ok h]; simp (disch := omega) only [Int.toNat_natCast, tk0, List.length_cons, List.length_nil, grd_pos, grd_T, grd_R, cnd_dt, cnd_df, cnd_true, cnd_false, Option.bind_some]
theorem toBar_s (x : Int × Int) : L_toBar N x = some x := rfl
theorem toBarS_l {a : List (Int × Int)} (ha : a.length ≤ 1048576) (k : List (Int × Int) → Option (List (Int × Int))) : ∀ n i : Nat, i ≤ a.length → a.length < n + i → L_toBarS_l1 N a k n (cpy a (0, 0) i, (i : Int)) = k a := by
 intro n
 induction n with
 | zero => intro i h1 h2; omega
 | succ n ih =>
  intro i h1 h2
  have hl := cpy_len a (0, 0) i
  rw [L_toBarS_l1]
  by_cases hi : i < a.length
  ·simp (disch := omega) only [Int.toNat_natCast, tk0, List.length_cons, List.length_nil, grd_pos, grd_T, grd_R, cnd_dt, cnd_df, cnd_true, cnd_false, Option.bind_some, List.length_replicate, hl, toBar_s]
   rw [set_pair _ _ _ _ (by omega), cpy_set a (0, 0) (0, 0) i hi rfl]
   exact ih (i + 1) (by omega) (by omega)
  ·simp (disch := omega) only [Int.toNat_natCast, tk0, List.length_cons, List.length_nil, grd_pos, grd_T, grd_R, cnd_dt, cnd_df, cnd_true, cnd_false, Option.bind_some]
   obtain rfl : i = a.length := by omega
   rw [cpy_full]
theorem toBarS_s (hN : 4000000 ≤ N) {a : List (Int × Int)} (ha : a.length ≤ 1048576) : L_toBarS N a = some a := by
 unfold L_toBarS
 have h := toBarS_l N ha (fun l9 => grd ((List.replicate (((a.length : Int)).toNat) ((0, 0) : Int × Int)).length = l9.length) <| some l9) N 0 (by omega) (by omega)
 simp only [Int.toNat_natCast, cpy_zero] at h ⊢
 simp (disch := omega) only [Int.toNat_natCast, tk0, List.length_cons, List.length_nil, grd_pos, grd_T, grd_R, cnd_dt, cnd_df, cnd_true, cnd_false, Option.bind_some]
 refine h.trans ?_
 simp (disch := omega) only [Int.toNat_natCast, tk0, List.length_cons, List.length_nil, grd_pos, grd_T, grd_R, cnd_dt, cnd_df, cnd_true, cnd_false, Option.bind_some, cpy_len]
theorem eqBar_s (x : Int × Int) : L_eqBar N x x = some true := by
 unfold L_eqBar
 simp (disch := omega) only [Int.toNat_natCast, tk0, List.length_cons, List.length_nil, grd_pos, grd_T, grd_R, cnd_dt, cnd_df, cnd_true, cnd_false, Option.bind_some, bne_self_eq_false]
theorem eqBarS_l {a : List (Int × Int)} (ha : a.length ≤ 1048576) (k : Unit → Option Bool) : ∀ n i : Nat, i ≤ a.length → a.length < n + i → L_eqBarS_l1 N a a k n (i : Int) = k () := by
 intro n
 induction n with
 | zero => intro i h1 h2; omega
 | succ n ih =>
  intro i h1 h2
  rw [L_eqBarS_l1]
  by_cases hi : i < a.length
  ·simp (disch := omega) only [Int.toNat_natCast, tk0, List.length_cons, List.length_nil, grd_pos, grd_T, grd_R, cnd_dt, cnd_df, cnd_true, cnd_false, Option.bind_some, bne_self_eq_false, eqBar_s, Bool.not_true]
   exact ih (i + 1) (by omega) (by omega)
  ·simp (disch := omega) only [Int.toNat_natCast, tk0, List.length_cons, List.length_nil, grd_pos, grd_T, grd_R, cnd_dt, cnd_df, cnd_true, cnd_false, Option.bind_some]
theorem eqBarS_s (hN : 4000000 ≤ N) {a : List (Int × Int)} (ha : a.length ≤ 1048576) : L_eqBarS N a a = some true := by
 unfold L_eqBarS
 simp (disch := omega) only [Int.toNat_natCast, tk0, List.length_cons, List.length_nil, grd_pos, grd_T, grd_R, cnd_dt, cnd_df, cnd_true, cnd_false, Option.bind_some, bne_self_eq_false]
 exact eqBarS_l N ha (fun _ => some true) N 0 (by omega) (by omega)
theorem szPlaceS_s {a : List (Int × Int)} (ha : B63 a.length) {left : Int} (h0 : 0 ≤ left) (h1 : left ≤ 1048576) : L_szPlaceS N a left = some (szv left a.length) := by
 unfold L_szPlaceS
 by_cases h : left < a.length
 ·rw [szv_big h]; simp (disch := omega) only [Int.toNat_natCast, tk0, List.length_cons, List.length_nil, grd_pos, grd_T, grd_R, cnd_dt, cnd_df, cnd_true, cnd_false, Option.bind_some]
 ·rw [szv_ok h]; simp (disch := omega) only [Int.toNat_natCast, tk0, List.length_cons, List.length_nil, grd_pos, grd_T, grd_R, cnd_dt, cnd_df, cnd_true, cnd_false, Option.bind_some]
theorem toPlace_s (x : Int × Int) : L_toPlace N x = some x := rfl
theorem toPlaceS_l {a : List (Int × Int)} (ha : a.length ≤ 1048576) (k : List (Int × Int) → Option (List (Int × Int))) : ∀ n i : Nat, i ≤ a.length → a.length < n + i → L_toPlaceS_l1 N a k n (cpy a (0, 0) i, (i : Int)) = k a := by
 intro n
 induction n with
 | zero => intro i h1 h2; omega
 | succ n ih =>
  intro i h1 h2
  have hl := cpy_len a (0, 0) i
  rw [L_toPlaceS_l1]
  by_cases hi : i < a.length
  ·simp (disch := omega) only [Int.toNat_natCast, tk0, List.length_cons, List.length_nil, grd_pos, grd_T, grd_R, cnd_dt, cnd_df, cnd_true, cnd_false, Option.bind_some, List.length_replicate, hl, toPlace_s]
   rw [set_pair _ _ _ _ (by omega), cpy_set a (0, 0) (0, 0) i hi rfl]
   exact ih (i + 1) (by omega) (by omega)
  ·simp (disch := omega) only [Int.toNat_natCast, tk0, List.length_cons, List.length_nil, grd_pos, grd_T, grd_R, cnd_dt, cnd_df, cnd_true, cnd_false, Option.bind_some]
   obtain rfl : i = a.length := by omega
   rw [cpy_full]
theorem toPlaceS_s (hN : 4000000 ≤ N) {a : List (Int × Int)} (ha : a.length ≤ 1048576) : L_toPlaceS N a = some a := by
 unfold L_toPlaceS
 have h := toPlaceS_l N ha (fun l9 => grd ((List.replicate (((a.length : Int)).toNat) ((0, 0) : Int × Int)).length = l9.length) <| some l9) N 0 (by omega) (by omega)
 simp only [Int.toNat_natCast, cpy_zero] at h ⊢
 simp (disch := omega) only [Int.toNat_natCast, tk0, List.length_cons, List.length_nil, grd_pos, grd_T, grd_R, cnd_dt, cnd_df, cnd_true, cnd_false, Option.bind_some]
 refine h.trans ?_
 simp (disch := omega) only [Int.toNat_natCast, tk0, List.length_cons, List.length_nil, grd_pos, grd_T, grd_R, cnd_dt, cnd_df, cnd_true, cnd_false, Option.bind_some, cpy_len]
theorem eqPlace_s (x : Int × Int) : L_eqPlace N x x = some true := by
 unfold L_eqPlace
 simp (disch := omega) only [Int.toNat_natCast, tk0, List.length_cons, List.length_nil, grd_pos, grd_T, grd_R, cnd_dt, cnd_df, cnd_true, cnd_false, Option.bind_some, bne_self_eq_false]
theorem eqPlaceS_l {a : List (Int × Int)} (ha : a.length ≤ 1048576) (k : Unit → Option Bool) : ∀ n i : Nat, i ≤ a.length → a.length < n + i → L_eqPlaceS_l1 N a a k n (i : Int) = k () := by
 intro n
 induction n with
 | zero => intro i h1 h2; omega
 | succ n ih =>
  intro i h1 h2
  rw [L_eqPlaceS_l1]
  by_cases hi : i < a.length
  ·simp (disch := omega) only [Int.toNat_natCast, tk0, List.length_cons, List.length_nil, grd_pos, grd_T, grd_R, cnd_dt, cnd_df, cnd_true, cnd_false, Option.bind_some, bne_self_eq_false, eqPlace_s, Bool.not_true]
   exact ih (i + 1) (by omega) (by omega)
  ·simp (disch := omega) only [Int.toNat_natCast, tk0, List.length_cons, List.length_nil, grd_pos, grd_T, grd_R, cnd_dt, cnd_df, cnd_true, cnd_false, Option.bind_some]
theorem eqPlaceS_s (hN : 4000000 ≤ N) {a : List (Int × Int)} (ha : a.length ≤ 1048576) : L_eqPlaceS N a a = some true := by
 unfold L_eqPlaceS
 simp (disch := omega) only [Int.toNat_natCast, tk0, List.length_cons, List.length_nil, grd_pos, grd_T, grd_R, cnd_dt, cnd_df, cnd_true, cnd_false, Option.bind_some, bne_self_eq_false]
 exact eqPlaceS_l N ha (fun _ => some true) N 0 (by omega) (by omega)
abbrev lnGraph (a : Grf) : Nat := a.bars.length
abbrev BGraph (a : Grf) : Prop := B63 a.bars.length
theorem szGraph_s {a : Grf} (ha : BGraph a) {left : Int} (h0 : 0 ≤ left) (h1 : left ≤ 1048576) : L_szGraph N a left = some (szv left (lnGraph a)) := by
 unfold L_szGraph
 rw [szBarS_s N ha h0 h1]
 by_cases h : left < a.bars.length
 ·rw [szv_big h]; simp (disch := omega) only [Int.toNat_natCast, tk0, List.length_cons, List.length_nil, grd_pos, grd_T, grd_R, cnd_dt, cnd_df, cnd_true, cnd_false, Option.bind_some]
 ·rw [szv_ok h]; simp (disch := omega) only [Int.toNat_natCast, tk0, List.length_cons, List.length_nil, grd_pos, grd_T, grd_R, cnd_dt, cnd_df, cnd_true, cnd_false, Option.bind_some]
theorem toGraph_s (hN : 4000000 ≤ N) {a : Grf} (ha : lnGraph a ≤ 1048576) : L_toGraph N a = some a := by
 unfold L_toGraph
 rw [toBarS_s N hN (a := a.bars) (by have := ha; simp only [lnGraph] at this; omega)]
 rfl
theorem eqGraph_s (hN : 4000000 ≤ N) {a : Grf} (ha : lnGraph a ≤ 1048576) : L_eqGraph N a a = some true := by
 unfold L_eqGraph
 rw [eqBarS_s N hN (a := a.bars) (by have := ha; simp only [lnGraph] at this; omega)]
 simp only [bne_self_eq_false]; rfl
abbrev lnRaise (a : Rse) : Nat := a.bars.length
abbrev lnPinned (a : Pin) : Nat := a.g.bars.length + a.ground.length
abbrev lnFramework (a : Frm) : Nat := a.g.bars.length + a.places.length
abbrev BFramework (a : Frm) : Prop := B63 a.g.bars.length ∧ B63 a.places.length
theorem szFramework_s {a : Frm} (ha : BFramework a) {left : Int} (h0 : 0 ≤ left) (h1 : left ≤ 1048576) : L_szFramework N a left = some (szv left (lnFramework a)) := by
 unfold L_szFramework
 have e : lnFramework a = (lnGraph a.g) + a.places.length := rfl
 rw [szGraph_s N ha.1 h0 h1]
 by_cases h : left < (lnGraph a.g)
 ·rw [szv_big h, szv_big (by omega)]; simp (disch := omega) only [Int.toNat_natCast, tk0, List.length_cons, List.length_nil, grd_pos, grd_T, grd_R, cnd_dt, cnd_df, cnd_true, cnd_false, Option.bind_some]
 ·rw [szv_ok h]
  simp (disch := omega) only [Int.toNat_natCast, tk0, List.length_cons, List.length_nil, grd_pos, grd_T, grd_R, cnd_dt, cnd_df, cnd_true, cnd_false, Option.bind_some]
  rw [szPlaceS_s N ha.2 (by omega) (by omega)]
  by_cases h' : left - (lnGraph a.g) < a.places.length
  ·rw [szv_big h', szv_big (by omega)]; simp (disch := omega) only [Int.toNat_natCast, tk0, List.length_cons, List.length_nil, grd_pos, grd_T, grd_R, cnd_dt, cnd_df, cnd_true, cnd_false, Option.bind_some]
  ·rw [szv_ok h', szv_ok (by omega)]
   simp (disch := omega) only [Int.toNat_natCast, tk0, List.length_cons, List.length_nil, grd_pos, grd_T, grd_R, cnd_dt, cnd_df, cnd_true, cnd_false, Option.bind_some]
   congr 1; omega
theorem toFramework_s (hN : 4000000 ≤ N) {a : Frm} (ha : lnFramework a ≤ 1048576) : L_toFramework N a = some a := by
 unfold L_toFramework
 rw [toGraph_s N hN (a := a.g) (by have := ha; simp only [lnFramework] at this; simp only [lnGraph]; omega), Option.bind_some, toPlaceS_s N hN (a := a.places) (by have := ha; simp only [lnFramework] at this; omega)]
 rfl
theorem eqFramework_s (hN : 4000000 ≤ N) {a : Frm} (ha : lnFramework a ≤ 1048576) : L_eqFramework N a a = some true := by
 unfold L_eqFramework
 rw [eqGraph_s N hN (a := a.g) (by have := ha; simp only [lnFramework] at this; simp only [lnGraph]; omega), Option.bind_some, eqPlaceS_s N hN (a := a.places) (by have := ha; simp only [lnFramework] at this; omega)]
 rfl
abbrev lnLinkage (a : Lnk) : Nat := a.f.g.bars.length + a.f.places.length + a.ground.length
abbrev BLinkage (a : Lnk) : Prop := B63 a.f.g.bars.length ∧ B63 a.f.places.length ∧ B63 a.ground.length
theorem szLinkage_s {a : Lnk} (ha : BLinkage a) {left : Int} (h0 : 0 ≤ left) (h1 : left ≤ 1048576) : L_szLinkage N a left = some (szv left (lnLinkage a)) := by
 unfold L_szLinkage
 have e : lnLinkage a = (lnFramework a.f) + a.ground.length := rfl
 rw [szFramework_s N ⟨ha.1, ha.2.1⟩ h0 h1]
 by_cases h : left < (lnFramework a.f)
 ·rw [szv_big h, szv_big (by omega)]; simp (disch := omega) only [Int.toNat_natCast, tk0, List.length_cons, List.length_nil, grd_pos, grd_T, grd_R, cnd_dt, cnd_df, cnd_true, cnd_false, Option.bind_some]
 ·rw [szv_ok h]
  simp (disch := omega) only [Int.toNat_natCast, tk0, List.length_cons, List.length_nil, grd_pos, grd_T, grd_R, cnd_dt, cnd_df, cnd_true, cnd_false, Option.bind_some]
  rw [szIntS_s N ha.2.2 (by omega) (by omega)]
  by_cases h' : left - (lnFramework a.f) < a.ground.length
  ·rw [szv_big h', szv_big (by omega)]; simp (disch := omega) only [Int.toNat_natCast, tk0, List.length_cons, List.length_nil, grd_pos, grd_T, grd_R, cnd_dt, cnd_df, cnd_true, cnd_false, Option.bind_some]
  ·rw [szv_ok h', szv_ok (by omega)]
   simp (disch := omega) only [Int.toNat_natCast, tk0, List.length_cons, List.length_nil, grd_pos, grd_T, grd_R, cnd_dt, cnd_df, cnd_true, cnd_false, Option.bind_some]
   congr 1; omega
theorem toLinkage_s (hN : 4000000 ≤ N) {a : Lnk} (ha : lnLinkage a ≤ 1048576) : L_toLinkage N a = some a := by
 unfold L_toLinkage
 rw [toFramework_s N hN (a := a.f) (by have := ha; simp only [lnLinkage] at this; simp only [lnFramework]; omega), Option.bind_some, toIntS_s N hN (a := a.ground) (by have := ha; simp only [lnLinkage] at this; omega)]
 rfl
theorem eqLinkage_s (hN : 4000000 ≤ N) {a : Lnk} (ha : lnLinkage a ≤ 1048576) : L_eqLinkage N a a = some true := by
 unfold L_eqLinkage
 rw [eqFramework_s N hN (a := a.f) (by have := ha; simp only [lnLinkage] at this; simp only [lnFramework]; omega), Option.bind_some, eqIntS_s N hN (a := a.ground) (by have := ha; simp only [lnLinkage] at this; omega)]
 rfl
end Go.Proofs.YtmoamglpocjhgaaGreat
namespace Go.Proofs.YtmoamglpocjhgaaGreat
open Go.RowKit
def L_heldIntS_l1 (N : Nat) (a_0 : List Int) (k : Int → Option (Int)) : Nat → (Int × Int) → Option (Int)
 | 0, _ => none
 | n + 1, (k5, i6) =>
  cnd (decide (i6 < (a_0.length : Int))) (
   grd (0 ≤ i6 ∧ i6 < (a_0.length : Int)) <|
   cnd ((a_0.getD ((i6).toNat) 0) != k5) (
    some (-1 : Int)) (
    grd (Rg64 (k5 + (1 : Int))) <|
    grd (Rg64 (i6 + (1 : Int))) <|
    L_heldIntS_l1 N a_0 k n ((k5 + (1 : Int)), (i6 + (1 : Int))))) (
   k k5)
def L_heldIntS (N : Nat) (a_0 : List Int) (k_1 : Int) : Option (Int) :=
 L_heldIntS_l1 N a_0 (fun (k3 : Int) =>
    some k3) N (k_1, (0 : Int))
end Go.Proofs.YtmoamglpocjhgaaGreat
namespace Go.Proofs.YtmoamglpocjhgaaGreat
open Go.RowKit
def L_markIntS_l1 (N : Nat) (a_0 : List Int) (k : ((List Int) × Int) → Option (Int × (List Int))) : Nat → ((List Int) × Int × Int) → Option (Int × (List Int))
 | 0, _ => none
 | n + 1, (l7, k8, i9) =>
  cnd (decide (i9 < (a_0.length : Int))) (
   grd (0 ≤ i9 ∧ i9 < (a_0.length : Int)) <|
   grd (0 ≤ i9 ∧ i9 < (l7.length : Int)) <|
   grd (Rg64 (k8 + (1 : Int))) <|
   grd (Rg64 (i9 + (1 : Int))) <|
   L_markIntS_l1 N a_0 k n ((l7.set ((i9).toNat) k8), (k8 + (1 : Int)), (i9 + (1 : Int)))) (
   k (l7, k8))
def L_markIntS (N : Nat) (a_0 : List Int) (k_1 : Int) : Option (Int × (List Int)) :=
 L_markIntS_l1 N a_0 (fun (x : (List Int) × Int) =>
   match x with
   | (l4, k5) =>
    some (k5, l4)) N (a_0, k_1, (0 : Int))
set_option maxRecDepth 20000 in
set_option maxHeartbeats 1600000 in
theorem L_markIntS_w (N : Nat) (a_0 : List Int) (k_1 : Int) (r : Int × (List Int)) (h : L_markIntS N a_0 k_1 = some r) : MCall Tryz.prog 14 [.row 1000000 0 a_0.length, .int k_1] [1000000] [] [(3, .ints a_0)] [(3, .ints r.2)] [] [] (.int r.1) := by
 unfold L_markIntS at h
 refine mcall_intro (TT := TT) tt Tryz.func14 rfl rfl Tryz.ntmps14 (congrArg Array.toList Tryz.results14) rfl rfl rfl rfl rfl fun w0 O0 => ?_
 refine vSeq ?_
 refine vRegion ?_
 refine oVal tt rfl rfl rfl rfl rfl trivial ?_
 refine vNil ?_
 change VC _ _ _ _
 iterate 2 refine vSeq ?_
 refine vRegion ?_
 refine oVal tt rfl rfl rfl rfl rfl trivial ?_
 refine vNil ?_
 change VC _ _ _ _
 refine vJoin (F := fun k => L_markIntS_l1 N a_0 k) h (α := (List Int) × Int) (J := fun | (l4, k5) => (⟨[(1, .int k5)], [(1000000, some (3, .ints l4))], []⟩ : PS)) ?_ ?_
 ·rintro ⟨l4, k5⟩ h
  show VC _ _ _ (⟨[(1, .int k5)], [(1000000, some (3, .ints l4))], []⟩ : PS)
  refine vSeq ?_
  refine vRegion ?_
  iterate 2 refine oVal tt rfl rfl rfl rfl rfl trivial ?_
  refine vNil ?_
  change VC _ _ _ _
  refine vRet ?_
  change ∃ _, _
  cases h
  exact ⟨[1000000], rfl, ⟨rfl, trivial⟩, trivial, rfl⟩
 ·intro k h
  refine vBlock ?_
  refine vLoopS (α := (List Int) × Int × Int) (fun | (l7, k8, i9) => (⟨[(0, .row 1000000 0 a_0.length), (1, .int k8), (5, .int i9)], [(1000000, some (3, .ints l7))], []⟩ : PS)) (L_markIntS_l1 N a_0 k) h (En.of ⟨rfl, rfl, rfl, trivial⟩ ⟨rfl, trivial⟩ trivial) (fun _ => rfl) ?_
  rintro n ⟨l7, k8, i9⟩ h
  rw [L_markIntS_l1] at h
  show VC _ _ _ (⟨[(0, .row 1000000 0 a_0.length), (1, .int k8), (5, .int i9)], [(1000000, some (3, .ints l7))], []⟩ : PS)
  iterate 2 refine vSeq ?_
  refine vRegion ?_
  iterate 4 refine oVal tt rfl rfl rfl rfl rfl trivial ?_
  refine vNil ?_
  change VC _ _ _ _
  refine vCond rfl (fun hb1 => ?_) (fun hb1 => ?_)
  ·replace h := cnd_t hb1 h
   refine vSkip ?_
   change VC _ _ _ _
   refine vSeq ?_
   refine vBlock ?_
   refine vSeq ?_
   refine vRegion ?_
   iterate 3 refine oVal tt rfl rfl rfl rfl rfl trivial ?_
   obtain ⟨hg2, h⟩ := grd_inv h
   refine oVal tt rfl rfl rfl rfl rfl hg2 ?_
   obtain ⟨hg3, h⟩ := grd_inv h
   refine oStore tt rfl rfl rfl rfl rfl rfl rfl rfl rfl rfl ⟨_, _, rfl, hg3.1, hg3.2⟩ ⟨hg3, trivial⟩ ?_
   refine vNil ?_
   change VC _ _ _ _
   refine vRegion ?_
   refine oVal tt rfl rfl rfl rfl rfl trivial ?_
   obtain ⟨hg4, h⟩ := grd_inv h
   refine oVal tt rfl rfl rfl rfl rfl hg4 ?_
   refine oVal tt rfl rfl rfl rfl rfl trivial ?_
   refine vNil ?_
   change VC _ _ _ _
   refine vRegion ?_
   refine oVal tt rfl rfl rfl rfl rfl trivial ?_
   obtain ⟨hg5, h⟩ := grd_inv h
   refine oVal tt rfl rfl rfl rfl rfl hg5 ?_
   refine oVal tt rfl rfl rfl rfl rfl trivial ?_
   refine vNil ?_
   change ∃ _, _
   exact ⟨((l7.set ((i9).toNat) k8), (k8 + (1 : Int)), (i9 + (1 : Int))), (En.of ⟨rfl, rfl, rfl, trivial⟩ ⟨rfl, trivial⟩ trivial), h⟩
  ·replace h := cnd_f hb1 h
   refine vExit ?_
   change ∃ _, _
   exact ⟨(l7, k8), (En.of ⟨rfl, trivial⟩ ⟨rfl, trivial⟩ trivial), h⟩
def L_markBarS_l1 (N : Nat) (a_0 : List (Int × Int)) (k : ((List (Int × Int)) × Int) → Option (Int × (List (Int × Int)))) : Nat → ((List (Int × Int)) × Int × Int) → Option (Int × (List (Int × Int)))
 | 0, _ => none
 | n + 1, (l7, k8, i9) =>
  cnd (decide (i9 < (a_0.length : Int))) (
   grd (0 ≤ i9 ∧ i9 < (a_0.length : Int)) <|
   grd (0 ≤ i9 ∧ i9 < (l7.length : Int)) <|
   grd (Rg64 (k8 + (1 : Int))) <|
   grd (0 ≤ i9 ∧ i9 < ((l7.set ((i9).toNat) (k8, (l7.getD ((i9).toNat) (0, 0)).2)).length : Int)) <|
   grd (Rg64 ((k8 + (1 : Int)) + (1 : Int))) <|
   grd (Rg64 (i9 + (1 : Int))) <|
   L_markBarS_l1 N a_0 k n (((l7.set ((i9).toNat) (k8, (l7.getD ((i9).toNat) (0, 0)).2)).set ((i9).toNat) (((l7.set ((i9).toNat) (k8, (l7.getD ((i9).toNat) (0, 0)).2)).getD ((i9).toNat) (0, 0)).1, (k8 + (1 : Int)))), ((k8 + (1 : Int)) + (1 : Int)), (i9 + (1 : Int)))) (
   k (l7, k8))
def L_markBarS (N : Nat) (a_0 : List (Int × Int)) (k_1 : Int) : Option (Int × (List (Int × Int))) :=
 L_markBarS_l1 N a_0 (fun (x : (List (Int × Int)) × Int) =>
   match x with
   | (l4, k5) =>
    some (k5, l4)) N (a_0, k_1, (0 : Int))
set_option maxRecDepth 20000 in
set_option maxHeartbeats 1600000 in
theorem L_markBarS_w (N : Nat) (a_0 : List (Int × Int)) (k_1 : Int) (r : Int × (List (Int × Int))) (h : L_markBarS N a_0 k_1 = some r) : MCall Tryz.prog 40 [.row 1000000 0 a_0.length, .int k_1] [1000000] [] [(39, .pairs a_0)] [(39, .pairs r.2)] [] [] (.int r.1) := by
 unfold L_markBarS at h
 refine mcall_intro (TT := TT) tt Tryz.func40 rfl rfl Tryz.ntmps40 (congrArg Array.toList Tryz.results40) rfl rfl rfl rfl rfl fun w0 O0 => ?_
 refine vSeq ?_
 refine vRegion ?_
 refine oVal tt rfl rfl rfl rfl rfl trivial ?_
 refine vNil ?_
 change VC _ _ _ _
 iterate 2 refine vSeq ?_
 refine vRegion ?_
 refine oVal tt rfl rfl rfl rfl rfl trivial ?_
 refine vNil ?_
 change VC _ _ _ _
 refine vJoin (F := fun k => L_markBarS_l1 N a_0 k) h (α := (List (Int × Int)) × Int) (J := fun | (l4, k5) => (⟨[(1, .int k5)], [(1000000, some (39, .pairs l4))], []⟩ : PS)) ?_ ?_
 ·rintro ⟨l4, k5⟩ h
  show VC _ _ _ (⟨[(1, .int k5)], [(1000000, some (39, .pairs l4))], []⟩ : PS)
  refine vSeq ?_
  refine vRegion ?_
  iterate 2 refine oVal tt rfl rfl rfl rfl rfl trivial ?_
  refine vNil ?_
  change VC _ _ _ _
  refine vRet ?_
  change ∃ _, _
  cases h
  exact ⟨[1000000], rfl, ⟨rfl, trivial⟩, trivial, rfl⟩
 ·intro k h
  refine vBlock ?_
  refine vLoopS (α := (List (Int × Int)) × Int × Int) (fun | (l7, k8, i9) => (⟨[(0, .row 1000000 0 a_0.length), (1, .int k8), (5, .int i9)], [(1000000, some (39, .pairs l7))], []⟩ : PS)) (L_markBarS_l1 N a_0 k) h (En.of ⟨rfl, rfl, rfl, trivial⟩ ⟨rfl, trivial⟩ trivial) (fun _ => rfl) ?_
  rintro n ⟨l7, k8, i9⟩ h
  rw [L_markBarS_l1] at h
  show VC _ _ _ (⟨[(0, .row 1000000 0 a_0.length), (1, .int k8), (5, .int i9)], [(1000000, some (39, .pairs l7))], []⟩ : PS)
  iterate 2 refine vSeq ?_
  refine vRegion ?_
  iterate 4 refine oVal tt rfl rfl rfl rfl rfl trivial ?_
  refine vNil ?_
  change VC _ _ _ _
  refine vCond rfl (fun hb1 => ?_) (fun hb1 => ?_)
  ·replace h := cnd_t hb1 h
   refine vSkip ?_
   change VC _ _ _ _
   refine vSeq ?_
   refine vBlock ?_
   refine vSeq ?_
   refine vRegion ?_
   iterate 3 refine oVal tt rfl rfl rfl rfl rfl trivial ?_
   obtain ⟨hg2, h⟩ := grd_inv h
   refine oVal tt rfl rfl rfl rfl rfl hg2 ?_
   obtain ⟨hg3, h⟩ := grd_inv h
   refine oVal tt rfl rfl rfl rfl rfl hg3 ?_
   refine oStore tt rfl rfl rfl rfl rfl rfl rfl rfl rfl rfl ⟨_, _, rfl, hg3.1, hg3.2⟩ ⟨hg3, trivial⟩ ?_
   refine vNil ?_
   change VC _ _ _ _
   refine vSeq ?_
   refine vRegion ?_
   refine oVal tt rfl rfl rfl rfl rfl trivial ?_
   obtain ⟨hg4, h⟩ := grd_inv h
   refine oVal tt rfl rfl rfl rfl rfl hg4 ?_
   refine oVal tt rfl rfl rfl rfl rfl trivial ?_
   refine vNil ?_
   change VC _ _ _ _
   refine vSeq ?_
   refine vRegion ?_
   iterate 3 refine oVal tt rfl rfl rfl rfl rfl trivial ?_
   refine oVal tt rfl rfl rfl rfl rfl hg2 ?_
   obtain ⟨hg5, h⟩ := grd_inv h
   refine oVal tt rfl rfl rfl rfl rfl hg5 ?_
   refine oStore tt rfl rfl rfl rfl rfl rfl rfl rfl rfl rfl ⟨_, _, rfl, hg5.1, hg5.2⟩ ⟨hg5, trivial⟩ ?_
   refine vNil ?_
   change VC _ _ _ _
   refine vRegion ?_
   refine oVal tt rfl rfl rfl rfl rfl trivial ?_
   obtain ⟨hg6, h⟩ := grd_inv h
   refine oVal tt rfl rfl rfl rfl rfl hg6 ?_
   refine oVal tt rfl rfl rfl rfl rfl trivial ?_
   refine vNil ?_
   change VC _ _ _ _
   refine vRegion ?_
   refine oVal tt rfl rfl rfl rfl rfl trivial ?_
   obtain ⟨hg7, h⟩ := grd_inv h
   refine oVal tt rfl rfl rfl rfl rfl hg7 ?_
   refine oVal tt rfl rfl rfl rfl rfl trivial ?_
   refine vNil ?_
   change ∃ _, _
   exact ⟨(((l7.set ((i9).toNat) (k8, (l7.getD ((i9).toNat) (0, 0)).2)).set ((i9).toNat) (((l7.set ((i9).toNat) (k8, (l7.getD ((i9).toNat) (0, 0)).2)).getD ((i9).toNat) (0, 0)).1, (k8 + (1 : Int)))), ((k8 + (1 : Int)) + (1 : Int)), (i9 + (1 : Int))), (En.of ⟨rfl, rfl, rfl, trivial⟩ ⟨rfl, trivial⟩ trivial), h⟩
  ·replace h := cnd_f hb1 h
   refine vExit ?_
   change ∃ _, _
   exact ⟨(l7, k8), (En.of ⟨rfl, trivial⟩ ⟨rfl, trivial⟩ trivial), h⟩
def L_markGraph (N : Nat) (a_0 : Grf) (k_1 : Int) : Option (Int × (List (Int × Int))) :=
 (L_markBarS N a_0.bars k_1).bind fun v1 =>
 some (v1.1, v1.2)
set_option maxRecDepth 20000 in
set_option maxHeartbeats 1600000 in
theorem L_markGraph_w (N : Nat) (a_0 : Grf) (k_1 : Int) (r : Int × (List (Int × Int))) (h : L_markGraph N a_0 k_1 = some r) : MCall Tryz.prog 13 [.agg [.int a_0.n, .row 1000001 0 a_0.bars.length], .int k_1] [1000001] [] [(39, .pairs a_0.bars)] [(39, .pairs r.2)] [] [] (.int r.1) := by
 unfold L_markGraph at h
 refine mcall_intro (TT := TT) tt Tryz.func13 rfl rfl Tryz.ntmps13 (congrArg Array.toList Tryz.results13) rfl rfl rfl rfl rfl fun w0 O0 => ?_
 refine vSeq ?_
 refine vRegion ?_
 refine oBox rfl rfl rfl rfl rfl rfl rfl rfl rfl ?_
 refine oVal tt rfl rfl rfl rfl rfl trivial ?_
 refine vNil ?_
 change VC _ _ _ _
 refine vSeq ?_
 refine vRegion ?_
 iterate 3 refine oVal tt rfl rfl rfl rfl rfl trivial ?_
 obtain ⟨v1, hc1, h⟩ := bind_inv h
 refine oMCall (L_markBarS_w N a_0.bars k_1 v1 hc1) [1000001] [] [1000001] rfl rfl rfl rfl rfl rfl ⟨rfl, trivial⟩ trivial ⟨⟨rfl, rfl⟩, ⟨rfl, rfl⟩, trivial⟩ ?_
 refine oVal tt rfl rfl rfl rfl rfl trivial ?_
 refine vNil ?_
 change VC _ _ _ _
 refine vSeq ?_
 refine vRegion ?_
 iterate 2 refine oVal tt rfl rfl rfl rfl rfl trivial ?_
 refine vNil ?_
 change VC _ _ _ _
 refine vRet ?_
 change ∃ _, _
 cases h
 exact ⟨[1000001], rfl, ⟨rfl, trivial⟩, trivial, rfl⟩
end Go.Proofs.YtmoamglpocjhgaaGreat
namespace Go.Proofs.YtmoamglpocjhgaaGreat
open Go.RowKit
def L_markPlaceS_l1 (N : Nat) (a_0 : List (Int × Int)) (k : ((List (Int × Int)) × Int) → Option (Int × (List (Int × Int)))) : Nat → ((List (Int × Int)) × Int × Int) → Option (Int × (List (Int × Int)))
 | 0, _ => none
 | n + 1, (l7, k8, i9) =>
  cnd (decide (i9 < (a_0.length : Int))) (
   grd (0 ≤ i9 ∧ i9 < (a_0.length : Int)) <|
   grd (0 ≤ i9 ∧ i9 < (l7.length : Int)) <|
   grd (Rg64 (k8 + (1 : Int))) <|
   grd (0 ≤ i9 ∧ i9 < ((l7.set ((i9).toNat) (k8, (l7.getD ((i9).toNat) (0, 0)).2)).length : Int)) <|
   grd (Rg64 ((k8 + (1 : Int)) + (1 : Int))) <|
   grd (Rg64 (i9 + (1 : Int))) <|
   L_markPlaceS_l1 N a_0 k n (((l7.set ((i9).toNat) (k8, (l7.getD ((i9).toNat) (0, 0)).2)).set ((i9).toNat) (((l7.set ((i9).toNat) (k8, (l7.getD ((i9).toNat) (0, 0)).2)).getD ((i9).toNat) (0, 0)).1, (k8 + (1 : Int)))), ((k8 + (1 : Int)) + (1 : Int)), (i9 + (1 : Int)))) (
   k (l7, k8))
def L_markPlaceS (N : Nat) (a_0 : List (Int × Int)) (k_1 : Int) : Option (Int × (List (Int × Int))) :=
 L_markPlaceS_l1 N a_0 (fun (x : (List (Int × Int)) × Int) =>
   match x with
   | (l4, k5) =>
    some (k5, l4)) N (a_0, k_1, (0 : Int))
set_option maxRecDepth 20000 in
set_option maxHeartbeats 1600000 in
theorem L_markPlaceS_w (N : Nat) (a_0 : List (Int × Int)) (k_1 : Int) (r : Int × (List (Int × Int))) (h : L_markPlaceS N a_0 k_1 = some r) : MCall Tryz.prog 26 [.row 1000000 0 a_0.length, .int k_1] [1000000] [] [(83, .pairs a_0)] [(83, .pairs r.2)] [] [] (.int r.1) := by
 unfold L_markPlaceS at h
 refine mcall_intro (TT := TT) tt Tryz.func26 rfl rfl Tryz.ntmps26 (congrArg Array.toList Tryz.results26) rfl rfl rfl rfl rfl fun w0 O0 => ?_
 refine vSeq ?_
 refine vRegion ?_
 refine oVal tt rfl rfl rfl rfl rfl trivial ?_
 refine vNil ?_
 change VC _ _ _ _
 iterate 2 refine vSeq ?_
 refine vRegion ?_
 refine oVal tt rfl rfl rfl rfl rfl trivial ?_
 refine vNil ?_
 change VC _ _ _ _
 refine vJoin (F := fun k => L_markPlaceS_l1 N a_0 k) h (α := (List (Int × Int)) × Int) (J := fun | (l4, k5) => (⟨[(1, .int k5)], [(1000000, some (83, .pairs l4))], []⟩ : PS)) ?_ ?_
 ·rintro ⟨l4, k5⟩ h
  show VC _ _ _ (⟨[(1, .int k5)], [(1000000, some (83, .pairs l4))], []⟩ : PS)
  refine vSeq ?_
  refine vRegion ?_
  iterate 2 refine oVal tt rfl rfl rfl rfl rfl trivial ?_
  refine vNil ?_
  change VC _ _ _ _
  refine vRet ?_
  change ∃ _, _
  cases h
  exact ⟨[1000000], rfl, ⟨rfl, trivial⟩, trivial, rfl⟩
 ·intro k h
  refine vBlock ?_
  refine vLoopS (α := (List (Int × Int)) × Int × Int) (fun | (l7, k8, i9) => (⟨[(0, .row 1000000 0 a_0.length), (1, .int k8), (5, .int i9)], [(1000000, some (83, .pairs l7))], []⟩ : PS)) (L_markPlaceS_l1 N a_0 k) h (En.of ⟨rfl, rfl, rfl, trivial⟩ ⟨rfl, trivial⟩ trivial) (fun _ => rfl) ?_
  rintro n ⟨l7, k8, i9⟩ h
  rw [L_markPlaceS_l1] at h
  show VC _ _ _ (⟨[(0, .row 1000000 0 a_0.length), (1, .int k8), (5, .int i9)], [(1000000, some (83, .pairs l7))], []⟩ : PS)
  iterate 2 refine vSeq ?_
  refine vRegion ?_
  iterate 4 refine oVal tt rfl rfl rfl rfl rfl trivial ?_
  refine vNil ?_
  change VC _ _ _ _
  refine vCond rfl (fun hb1 => ?_) (fun hb1 => ?_)
  ·replace h := cnd_t hb1 h
   refine vSkip ?_
   change VC _ _ _ _
   refine vSeq ?_
   refine vBlock ?_
   refine vSeq ?_
   refine vRegion ?_
   iterate 3 refine oVal tt rfl rfl rfl rfl rfl trivial ?_
   obtain ⟨hg2, h⟩ := grd_inv h
   refine oVal tt rfl rfl rfl rfl rfl hg2 ?_
   obtain ⟨hg3, h⟩ := grd_inv h
   refine oVal tt rfl rfl rfl rfl rfl hg3 ?_
   refine oStore tt rfl rfl rfl rfl rfl rfl rfl rfl rfl rfl ⟨_, _, rfl, hg3.1, hg3.2⟩ ⟨hg3, trivial⟩ ?_
   refine vNil ?_
   change VC _ _ _ _
   refine vSeq ?_
   refine vRegion ?_
   refine oVal tt rfl rfl rfl rfl rfl trivial ?_
   obtain ⟨hg4, h⟩ := grd_inv h
   refine oVal tt rfl rfl rfl rfl rfl hg4 ?_
   refine oVal tt rfl rfl rfl rfl rfl trivial ?_
   refine vNil ?_
   change VC _ _ _ _
   refine vSeq ?_
   refine vRegion ?_
   iterate 3 refine oVal tt rfl rfl rfl rfl rfl trivial ?_
   refine oVal tt rfl rfl rfl rfl rfl hg2 ?_
   obtain ⟨hg5, h⟩ := grd_inv h
   refine oVal tt rfl rfl rfl rfl rfl hg5 ?_
   refine oStore tt rfl rfl rfl rfl rfl rfl rfl rfl rfl rfl ⟨_, _, rfl, hg5.1, hg5.2⟩ ⟨hg5, trivial⟩ ?_
   refine vNil ?_
   change VC _ _ _ _
   refine vRegion ?_
   refine oVal tt rfl rfl rfl rfl rfl trivial ?_
   obtain ⟨hg6, h⟩ := grd_inv h
   refine oVal tt rfl rfl rfl rfl rfl hg6 ?_
   refine oVal tt rfl rfl rfl rfl rfl trivial ?_
   refine vNil ?_
   change VC _ _ _ _
   refine vRegion ?_
   refine oVal tt rfl rfl rfl rfl rfl trivial ?_
   obtain ⟨hg7, h⟩ := grd_inv h
   refine oVal tt rfl rfl rfl rfl rfl hg7 ?_
   refine oVal tt rfl rfl rfl rfl rfl trivial ?_
   refine vNil ?_
   change ∃ _, _
   exact ⟨(((l7.set ((i9).toNat) (k8, (l7.getD ((i9).toNat) (0, 0)).2)).set ((i9).toNat) (((l7.set ((i9).toNat) (k8, (l7.getD ((i9).toNat) (0, 0)).2)).getD ((i9).toNat) (0, 0)).1, (k8 + (1 : Int)))), ((k8 + (1 : Int)) + (1 : Int)), (i9 + (1 : Int))), (En.of ⟨rfl, rfl, rfl, trivial⟩ ⟨rfl, trivial⟩ trivial), h⟩
  ·replace h := cnd_f hb1 h
   refine vExit ?_
   change ∃ _, _
   exact ⟨(l7, k8), (En.of ⟨rfl, trivial⟩ ⟨rfl, trivial⟩ trivial), h⟩
def L_markFramework (N : Nat) (a_0 : Frm) (k_1 : Int) : Option (Int × (List (Int × Int)) × (List (Int × Int))) :=
 (L_markGraph N (⟨a_0.g.n, a_0.g.bars⟩ : Grf) k_1).bind fun v1 =>
 (L_markPlaceS N a_0.places v1.1).bind fun v2 =>
 some (v2.1, v1.2, v2.2)
set_option maxRecDepth 20000 in
set_option maxHeartbeats 1600000 in
theorem L_markFramework_w (N : Nat) (a_0 : Frm) (k_1 : Int) (r : Int × (List (Int × Int)) × (List (Int × Int))) (h : L_markFramework N a_0 k_1 = some r) : MCall Tryz.prog 61 [.agg [.int a_0.g.n, .row 1000001 0 a_0.g.bars.length, .row 1000002 0 a_0.places.length], .int k_1] [1000001, 1000002] [] [(39, .pairs a_0.g.bars), (83, .pairs a_0.places)] [(39, .pairs r.2.1), (83, .pairs r.2.2)] [] [] (.int r.1) := by
 unfold L_markFramework at h
 refine mcall_intro (TT := TT) tt Tryz.func61 rfl rfl Tryz.ntmps61 (congrArg Array.toList Tryz.results61) rfl rfl rfl rfl rfl fun w0 O0 => ?_
 refine vSeq ?_
 refine vRegion ?_
 refine oBox rfl rfl rfl rfl rfl rfl rfl rfl rfl ?_
 refine oVal tt rfl rfl rfl rfl rfl trivial ?_
 refine vNil ?_
 change VC _ _ _ _
 refine vSeq ?_
 refine vRegion ?_
 iterate 3 refine oVal tt rfl rfl rfl rfl rfl trivial ?_
 obtain ⟨v1, hc1, h⟩ := bind_inv h
 refine oMCall (L_markGraph_w N (⟨a_0.g.n, a_0.g.bars⟩ : Grf) k_1 v1 hc1) [1000001] [] [1000001] rfl rfl rfl rfl rfl rfl ⟨rfl, trivial⟩ trivial ⟨⟨⟨rfl, rfl⟩, ⟨rfl, rfl⟩, trivial⟩, ⟨rfl, rfl⟩, trivial⟩ ?_
 refine oVal tt rfl rfl rfl rfl rfl trivial ?_
 refine vNil ?_
 change VC _ _ _ _
 refine vSeq ?_
 refine vRegion ?_
 iterate 3 refine oVal tt rfl rfl rfl rfl rfl trivial ?_
 obtain ⟨v2, hc2, h⟩ := bind_inv h
 refine oMCall (L_markPlaceS_w N a_0.places v1.1 v2 hc2) [1000002] [] [1000002] rfl rfl rfl rfl rfl rfl ⟨rfl, trivial⟩ trivial ⟨⟨rfl, rfl⟩, ⟨rfl, rfl⟩, trivial⟩ ?_
 refine oVal tt rfl rfl rfl rfl rfl trivial ?_
 refine vNil ?_
 change VC _ _ _ _
 refine vSeq ?_
 refine vRegion ?_
 iterate 2 refine oVal tt rfl rfl rfl rfl rfl trivial ?_
 refine vNil ?_
 change VC _ _ _ _
 refine vRet ?_
 change ∃ _, _
 cases h
 exact ⟨[1000001, 1000002], rfl, ⟨rfl, rfl, trivial⟩, trivial, rfl⟩
def L_markLinkage (N : Nat) (a_0 : Lnk) (k_1 : Int) : Option (Int × (List (Int × Int)) × (List (Int × Int)) × (List Int)) :=
 (L_markFramework N (⟨⟨a_0.f.g.n, a_0.f.g.bars⟩, a_0.f.places⟩ : Frm) k_1).bind fun v1 =>
 (L_markIntS N a_0.ground v1.1).bind fun v2 =>
 some (v2.1, v1.2.1, v1.2.2, v2.2)
set_option maxRecDepth 20000 in
set_option maxHeartbeats 1600000 in
theorem L_markLinkage_w (N : Nat) (a_0 : Lnk) (k_1 : Int) (r : Int × (List (Int × Int)) × (List (Int × Int)) × (List Int)) (h : L_markLinkage N a_0 k_1 = some r) : MCall Tryz.prog 25 [.agg [.int a_0.f.g.n, .row 1000001 0 a_0.f.g.bars.length, .row 1000002 0 a_0.f.places.length, .row 1000003 0 a_0.ground.length], .int k_1] [1000001, 1000002, 1000003] [] [(39, .pairs a_0.f.g.bars), (83, .pairs a_0.f.places), (3, .ints a_0.ground)] [(39, .pairs r.2.1), (83, .pairs r.2.2.1), (3, .ints r.2.2.2)] [] [] (.int r.1) := by
 unfold L_markLinkage at h
 refine mcall_intro (TT := TT) tt Tryz.func25 rfl rfl Tryz.ntmps25 (congrArg Array.toList Tryz.results25) rfl rfl rfl rfl rfl fun w0 O0 => ?_
 refine vSeq ?_
 refine vRegion ?_
 refine oBox rfl rfl rfl rfl rfl rfl rfl rfl rfl ?_
 refine oVal tt rfl rfl rfl rfl rfl trivial ?_
 refine vNil ?_
 change VC _ _ _ _
 refine vSeq ?_
 refine vRegion ?_
 iterate 3 refine oVal tt rfl rfl rfl rfl rfl trivial ?_
 obtain ⟨v1, hc1, h⟩ := bind_inv h
 refine oMCall (L_markFramework_w N (⟨⟨a_0.f.g.n, a_0.f.g.bars⟩, a_0.f.places⟩ : Frm) k_1 v1 hc1) [1000001, 1000002] [] [1000001, 1000002] rfl rfl rfl rfl rfl rfl ⟨rfl, rfl, trivial⟩ trivial ⟨⟨⟨rfl, rfl⟩, ⟨rfl, rfl⟩, ⟨rfl, rfl⟩, trivial⟩, ⟨rfl, rfl⟩, trivial⟩ ?_
 refine oVal tt rfl rfl rfl rfl rfl trivial ?_
 refine vNil ?_
 change VC _ _ _ _
 refine vSeq ?_
 refine vRegion ?_
 iterate 3 refine oVal tt rfl rfl rfl rfl rfl trivial ?_
 obtain ⟨v2, hc2, h⟩ := bind_inv h
 refine oMCall (L_markIntS_w N a_0.ground v1.1 v2 hc2) [1000003] [] [1000003] rfl rfl rfl rfl rfl rfl ⟨rfl, trivial⟩ trivial ⟨⟨rfl, rfl⟩, ⟨rfl, rfl⟩, trivial⟩ ?_
 refine oVal tt rfl rfl rfl rfl rfl trivial ?_
 refine vNil ?_
 change VC _ _ _ _
 refine vSeq ?_
 refine vRegion ?_
 iterate 2 refine oVal tt rfl rfl rfl rfl rfl trivial ?_
 refine vNil ?_
 change VC _ _ _ _
 refine vRet ?_
 change ∃ _, _
 cases h
 exact ⟨[1000001, 1000002, 1000003], rfl, ⟨rfl, rfl, rfl, trivial⟩, trivial, rfl⟩
end Go.Proofs.YtmoamglpocjhgaaGreat
namespace Go.Proofs.YtmoamglpocjhgaaGreat
open Go.RowKit
def S_l2Has_l1 (N : Nat) (l_0 : List Int) (x_1 : Int) (k : Unit → Option (Bool)) : Nat → Int → Option (Bool)
 | 0, _ => none
 | n + 1, i3 =>
  cnd (decide (i3 < (l_0.length : Int))) (
   grd (0 ≤ i3 ∧ i3 < (l_0.length : Int)) <|
   cnd ((l_0.getD ((i3).toNat) 0) == x_1) (
    some true) (
    grd (Rg64 (i3 + (1 : Int))) <|
    S_l2Has_l1 N l_0 x_1 k n (i3 + (1 : Int)))) (
   k ())
def S_l2Has (N : Nat) (l_0 : List Int) (x_1 : Int) : Option (Bool) :=
 S_l2Has_l1 N l_0 x_1 (fun (_ : Unit) =>
    some false) N (0 : Int)
set_option maxRecDepth 20000 in
set_option maxHeartbeats 1600000 in
theorem S_l2Has_w (N : Nat) (l_0 : List Int) (x_1 : Int) (r : Bool) (h : S_l2Has N l_0 x_1 = some r) : PCall Tryz.prog 31 [.ro false (.ints l_0), .int x_1] [] (.bool r) := by
 unfold S_l2Has at h
 refine pcall_intro (TT := TT) tt Tryz.func31 rfl rfl Tryz.ntmps31 (congrArg Array.toList Tryz.results31) rfl rfl fun w0 => ?_
 refine vSeq ?_
 refine vRegion ?_
 refine oVal tt rfl rfl rfl rfl rfl trivial ?_
 refine vNil ?_
 change VC _ _ _ _
 iterate 2 refine vSeq ?_
 refine vRegion ?_
 refine oVal tt rfl rfl rfl rfl rfl trivial ?_
 refine vNil ?_
 change VC _ _ _ _
 refine vJoin (F := fun k => S_l2Has_l1 N l_0 x_1 k) h (α := Unit) (J := fun (_ : Unit) => (⟨[], [], []⟩ : PS)) ?_ ?_
 ·rintro ⟨⟩ h
  show VC _ _ _ (⟨[], [], []⟩ : PS)
  refine vSeq ?_
  refine vRegion ?_
  refine oVal tt rfl rfl rfl rfl rfl trivial ?_
  refine vNil ?_
  change VC _ _ _ _
  refine vRet ?_
  change ∃ _, _
  cases h
  exact ⟨[], _, rfl, trivial, rfl, (.eq rfl), rfl⟩
 ·intro k h
  refine vBlock ?_
  refine vLoopS (α := Int) (fun (i3 : Int) => (⟨[(0, .ro false (.ints l_0)), (1, .int x_1), (5, .int i3)], [], []⟩ : PS)) (S_l2Has_l1 N l_0 x_1 k) h (En.of ⟨rfl, rfl, rfl, trivial⟩ trivial trivial) (fun _ => rfl) ?_
  rintro n i3 h
  rw [S_l2Has_l1] at h
  show VC _ _ _ (⟨[(0, .ro false (.ints l_0)), (1, .int x_1), (5, .int i3)], [], []⟩ : PS)
  iterate 2 refine vSeq ?_
  refine vRegion ?_
  iterate 4 refine oVal tt rfl rfl rfl rfl rfl trivial ?_
  refine vNil ?_
  change VC _ _ _ _
  refine vCond rfl (fun hb1 => ?_) (fun hb1 => ?_)
  ·replace h := cnd_t hb1 h
   refine vSkip ?_
   change VC _ _ _ _
   refine vSeq ?_
   refine vBlock ?_
   refine vSeq ?_
   refine vRegion ?_
   iterate 2 refine oVal tt rfl rfl rfl rfl rfl trivial ?_
   obtain ⟨hg2, h⟩ := grd_inv h
   refine oVal tt rfl rfl rfl rfl rfl hg2 ?_
   iterate 3 refine oVal tt rfl rfl rfl rfl rfl trivial ?_
   refine vNil ?_
   change VC _ _ _ _
   refine vCond rfl (fun hb3 => ?_) (fun hb3 => ?_)
   ·replace h := cnd_t hb3 h
    refine vSeq ?_
    refine vRegion ?_
    refine oVal tt rfl rfl rfl rfl rfl trivial ?_
    refine vNil ?_
    change VC _ _ _ _
    refine vRet ?_
    change ∃ _, _
    cases h
    exact ⟨[], _, rfl, trivial, rfl, (.eq rfl), rfl⟩
   ·replace h := cnd_f hb3 h
    refine vSkip ?_
    change VC _ _ _ _
    refine vRegion ?_
    refine oVal tt rfl rfl rfl rfl rfl trivial ?_
    obtain ⟨hg4, h⟩ := grd_inv h
    refine oVal tt rfl rfl rfl rfl rfl hg4 ?_
    refine oVal tt rfl rfl rfl rfl rfl trivial ?_
    refine vNil ?_
    change ∃ _, _
    exact ⟨(i3 + (1 : Int)), (En.of ⟨rfl, rfl, rfl, trivial⟩ trivial trivial), h⟩
  ·replace h := cnd_f hb1 h
   refine vExit ?_
   change ∃ _, _
   exact ⟨(), (En.of trivial trivial trivial), h⟩
end Go.Proofs.YtmoamglpocjhgaaGreat
namespace Go.Proofs.YtmoamglpocjhgaaGreat
open Go.RowKit
def L_heldPlaceS_l1 (N : Nat) (a_0 : List (Int × Int)) (k : Int → Option (Int)) : Nat → (Int × Int) → Option (Int)
 | 0, _ => none
 | n + 1, (k5, i6) =>
  cnd (decide (i6 < (a_0.length : Int))) (
   grd (0 ≤ i6 ∧ i6 < (a_0.length : Int)) <|
   cnd (((a_0.getD ((i6).toNat) (0, 0)).1) != k5) (
    some (-1 : Int)) (
    grd (Rg64 (k5 + (1 : Int))) <|
    cnd (((a_0.getD ((i6).toNat) (0, 0)).2) != (k5 + (1 : Int))) (
     some (-1 : Int)) (
     grd (Rg64 ((k5 + (1 : Int)) + (1 : Int))) <|
     grd (Rg64 (i6 + (1 : Int))) <|
     L_heldPlaceS_l1 N a_0 k n (((k5 + (1 : Int)) + (1 : Int)), (i6 + (1 : Int)))))) (
   k k5)
def L_heldPlaceS (N : Nat) (a_0 : List (Int × Int)) (k_1 : Int) : Option (Int) :=
 L_heldPlaceS_l1 N a_0 (fun (k3 : Int) =>
    some k3) N (k_1, (0 : Int))
set_option maxRecDepth 20000 in
set_option maxHeartbeats 1600000 in
theorem L_heldPlaceS_w (N : Nat) (a_0 : List (Int × Int)) (k_1 : Int) (r : Int) (h : L_heldPlaceS N a_0 k_1 = some r) : PCall Tryz.prog 27 [.ro false (.pairs a_0), .int k_1] [] (.int r) := by
 unfold L_heldPlaceS at h
 refine pcall_intro (TT := TT) tt Tryz.func27 rfl rfl Tryz.ntmps27 (congrArg Array.toList Tryz.results27) rfl rfl fun w0 => ?_
 refine vSeq ?_
 refine vRegion ?_
 refine oVal tt rfl rfl rfl rfl rfl trivial ?_
 refine vNil ?_
 change VC _ _ _ _
 iterate 2 refine vSeq ?_
 refine vRegion ?_
 refine oVal tt rfl rfl rfl rfl rfl trivial ?_
 refine vNil ?_
 change VC _ _ _ _
 refine vJoin (F := fun k => L_heldPlaceS_l1 N a_0 k) h (α := Int) (J := fun (k3 : Int) => (⟨[(1, .int k3)], [], []⟩ : PS)) ?_ ?_
 ·rintro k3 h
  show VC _ _ _ (⟨[(1, .int k3)], [], []⟩ : PS)
  refine vSeq ?_
  refine vRegion ?_
  iterate 2 refine oVal tt rfl rfl rfl rfl rfl trivial ?_
  refine vNil ?_
  change VC _ _ _ _
  refine vRet ?_
  change ∃ _, _
  cases h
  exact ⟨[], _, rfl, trivial, rfl, (.eq rfl), rfl⟩
 ·intro k h
  refine vBlock ?_
  refine vLoopS (α := Int × Int) (fun | (k5, i6) => (⟨[(0, .ro false (.pairs a_0)), (1, .int k5), (5, .int i6)], [], []⟩ : PS)) (L_heldPlaceS_l1 N a_0 k) h (En.of ⟨rfl, rfl, rfl, trivial⟩ trivial trivial) (fun _ => rfl) ?_
  rintro n ⟨k5, i6⟩ h
  rw [L_heldPlaceS_l1] at h
  show VC _ _ _ (⟨[(0, .ro false (.pairs a_0)), (1, .int k5), (5, .int i6)], [], []⟩ : PS)
  iterate 2 refine vSeq ?_
  refine vRegion ?_
  iterate 4 refine oVal tt rfl rfl rfl rfl rfl trivial ?_
  refine vNil ?_
  change VC _ _ _ _
  refine vCond rfl (fun hb1 => ?_) (fun hb1 => ?_)
  ·replace h := cnd_t hb1 h
   refine vSkip ?_
   change VC _ _ _ _
   refine vSeq ?_
   refine vBlock ?_
   iterate 2 refine vSeq ?_
   refine vRegion ?_
   iterate 2 refine oVal tt rfl rfl rfl rfl rfl trivial ?_
   obtain ⟨hg2, h⟩ := grd_inv h
   refine oVal tt rfl rfl rfl rfl rfl hg2 ?_
   iterate 4 refine oVal tt rfl rfl rfl rfl rfl trivial ?_
   refine vNil ?_
   change VC _ _ _ _
   refine vCond rfl (fun hb3 => ?_) (fun hb3 => ?_)
   ·replace h := cnd_t hb3 h
    refine vSeq ?_
    refine vRegion ?_
    refine oVal tt rfl rfl rfl rfl rfl trivial ?_
    refine vNil ?_
    change VC _ _ _ _
    refine vRet ?_
    change ∃ _, _
    cases h
    exact ⟨[], _, rfl, trivial, rfl, (.eq rfl), rfl⟩
   ·replace h := cnd_f hb3 h
    refine vSkip ?_
    change VC _ _ _ _
    refine vSeq ?_
    refine vRegion ?_
    refine oVal tt rfl rfl rfl rfl rfl trivial ?_
    obtain ⟨hg4, h⟩ := grd_inv h
    refine oVal tt rfl rfl rfl rfl rfl hg4 ?_
    refine oVal tt rfl rfl rfl rfl rfl trivial ?_
    refine vNil ?_
    change VC _ _ _ _
    iterate 2 refine vSeq ?_
    refine vRegion ?_
    iterate 2 refine oVal tt rfl rfl rfl rfl rfl trivial ?_
    refine oVal tt rfl rfl rfl rfl rfl hg2 ?_
    iterate 4 refine oVal tt rfl rfl rfl rfl rfl trivial ?_
    refine vNil ?_
    change VC _ _ _ _
    refine vCond rfl (fun hb5 => ?_) (fun hb5 => ?_)
    ·replace h := cnd_t hb5 h
     refine vSeq ?_
     refine vRegion ?_
     refine oVal tt rfl rfl rfl rfl rfl trivial ?_
     refine vNil ?_
     change VC _ _ _ _
     refine vRet ?_
     change ∃ _, _
     cases h
     exact ⟨[], _, rfl, trivial, rfl, (.eq rfl), rfl⟩
    ·replace h := cnd_f hb5 h
     refine vSkip ?_
     change VC _ _ _ _
     refine vRegion ?_
     refine oVal tt rfl rfl rfl rfl rfl trivial ?_
     obtain ⟨hg6, h⟩ := grd_inv h
     refine oVal tt rfl rfl rfl rfl rfl hg6 ?_
     refine oVal tt rfl rfl rfl rfl rfl trivial ?_
     refine vNil ?_
     change VC _ _ _ _
     refine vRegion ?_
     refine oVal tt rfl rfl rfl rfl rfl trivial ?_
     obtain ⟨hg7, h⟩ := grd_inv h
     refine oVal tt rfl rfl rfl rfl rfl hg7 ?_
     refine oVal tt rfl rfl rfl rfl rfl trivial ?_
     refine vNil ?_
     change ∃ _, _
     exact ⟨(((k5 + (1 : Int)) + (1 : Int)), (i6 + (1 : Int))), (En.of ⟨rfl, rfl, rfl, trivial⟩ trivial trivial), h⟩
  ·replace h := cnd_f hb1 h
   refine vExit ?_
   change ∃ _, _
   exact ⟨k5, (En.of ⟨rfl, trivial⟩ trivial trivial), h⟩
def S_l10On (N : Nat) (p_0 : Int × Int) : Option (Bool) :=
 (S_l1In N p_0.1 (0 : Int) (4 : Int)).bind fun v1 =>
 cnd v1 (
  (S_l1In N p_0.2 (0 : Int) (4 : Int)).bind fun v2 =>
  some v2) (
  some false)
set_option maxRecDepth 20000 in
set_option maxHeartbeats 1600000 in
theorem S_l10On_w (N : Nat) (p_0 : Int × Int) (r : Bool) (h : S_l10On N p_0 = some r) : PCall Tryz.prog 177 [.agg [.int p_0.1, .int p_0.2]] [] (.bool r) := by
 unfold S_l10On at h
 refine pcall_intro (TT := TT) tt Tryz.func177 rfl rfl Tryz.ntmps177 (congrArg Array.toList Tryz.results177) rfl rfl fun w0 => ?_
 refine vSeq ?_
 refine vRegion ?_
 refine oBox rfl rfl rfl rfl rfl rfl rfl rfl rfl ?_
 refine oVal tt rfl rfl rfl rfl rfl trivial ?_
 refine vNil ?_
 change VC _ _ _ _
 refine vSeq ?_
 refine vRegion ?_
 iterate 2 refine oVal tt rfl rfl rfl rfl rfl trivial ?_
 obtain ⟨v1, hc1, h⟩ := bind_inv h
 refine oCall (S_l1In_w N p_0.1 (0 : Int) (4 : Int) v1 hc1) rfl rfl rfl rfl rfl rfl rfl rfl ⟨rfl, rfl, rfl, trivial⟩ ?_
 refine oVal tt rfl rfl rfl rfl rfl trivial ?_
 refine oSplit rfl rfl rfl (fun hb2 => ?_) (fun hb2 => ?_)
 ·replace h := cnd_t hb2 h
  iterate 2 refine oValG tt rfl rfl rfl rfl rfl hb2 rfl rfl rfl trivial ?_
  obtain ⟨v2, hc3, h⟩ := bind_inv h
  refine oCallG (S_l1In_w N p_0.2 (0 : Int) (4 : Int) v2 hc3) rfl rfl rfl rfl hb2 rfl rfl rfl rfl rfl rfl rfl ⟨rfl, rfl, rfl, trivial⟩ ?_
  refine oPick rfl rfl rfl rfl rfl hb2 rfl ?_
  refine oVal tt rfl rfl rfl rfl rfl trivial ?_
  refine vNil ?_
  change VC _ _ _ _
  refine vRet ?_
  change ∃ _, _
  cases h
  exact ⟨[], _, rfl, trivial, rfl, (.eq rfl), rfl⟩
 ·replace h := cnd_f hb2 h
  iterate 3 refine oNoT rfl rfl rfl rfl hb2 rfl rfl ?_
  refine oPickF rfl rfl rfl rfl rfl hb2 rfl ?_
  refine oVal tt rfl rfl rfl rfl rfl trivial ?_
  refine vNil ?_
  change VC _ _ _ _
  refine vRet ?_
  change ∃ _, _
  cases h
  exact ⟨[], _, rfl, trivial, rfl, (.eq rfl), rfl⟩
def S_l25Step (N : Nat) (a_0 : Int × Int) (b_1 : Int × Int) : Option (Bool) :=
 (S_l10On N a_0).bind fun v1 =>
 cnd v1 (
  (S_l10On N b_1).bind fun v2 =>
  cnd v2 (
   grd (Rg64 (a_0.1 - b_1.1)) <|
   (S_l1In N (a_0.1 - b_1.1) (-1 : Int) (1 : Int)).bind fun v3 =>
   cnd v3 (
    grd (Rg64 (a_0.2 - b_1.2)) <|
    (S_l1In N (a_0.2 - b_1.2) (-1 : Int) (1 : Int)).bind fun v4 =>
    some v4) (
    some false)) (
   some false)) (
  some false)
set_option maxRecDepth 20000 in
set_option maxHeartbeats 1600000 in
theorem S_l25Step_w (N : Nat) (a_0 : Int × Int) (b_1 : Int × Int) (r : Bool) (h : S_l25Step N a_0 b_1 = some r) : PCall Tryz.prog 159 [.agg [.int a_0.1, .int a_0.2], .agg [.int b_1.1, .int b_1.2]] [] (.bool r) := by
 unfold S_l25Step at h
 refine pcall_intro (TT := TT) tt Tryz.func159 rfl rfl Tryz.ntmps159 (congrArg Array.toList Tryz.results159) rfl rfl fun w0 => ?_
 refine vSeq ?_
 refine vRegion ?_
 iterate 2 refine oBox rfl rfl rfl rfl rfl rfl rfl rfl rfl ?_
 refine oVal tt rfl rfl rfl rfl rfl trivial ?_
 refine vNil ?_
 change VC _ _ _ _
 refine vSeq ?_
 refine vRegion ?_
 refine oVal tt rfl rfl rfl rfl rfl trivial ?_
 obtain ⟨v1, hc1, h⟩ := bind_inv h
 refine oCall (S_l10On_w N a_0 v1 hc1) rfl rfl rfl rfl rfl rfl rfl rfl ⟨⟨rfl, rfl, trivial⟩, trivial⟩ ?_
 refine oVal tt rfl rfl rfl rfl rfl trivial ?_
 refine oSplit rfl rfl rfl (fun hb2 => ?_) (fun hb2 => ?_)
 ·replace h := cnd_t hb2 h
  refine oValG tt rfl rfl rfl rfl rfl hb2 rfl rfl rfl trivial ?_
  obtain ⟨v2, hc3, h⟩ := bind_inv h
  refine oCallG (S_l10On_w N b_1 v2 hc3) rfl rfl rfl rfl hb2 rfl rfl rfl rfl rfl rfl rfl ⟨⟨rfl, rfl, trivial⟩, trivial⟩ ?_
  refine oPick rfl rfl rfl rfl rfl hb2 rfl ?_
  refine oVal tt rfl rfl rfl rfl rfl trivial ?_
  refine oSplit rfl rfl rfl (fun hb4 => ?_) (fun hb4 => ?_)
  ·replace h := cnd_t hb4 h
   iterate 4 refine oValG tt rfl rfl rfl rfl rfl hb4 rfl rfl rfl trivial ?_
   obtain ⟨hg5, h⟩ := grd_inv h
   refine oValG tt rfl rfl rfl rfl rfl hb4 rfl rfl rfl hg5 ?_
   obtain ⟨v3, hc6, h⟩ := bind_inv h
   refine oCallG (S_l1In_w N (a_0.1 - b_1.1) (-1 : Int) (1 : Int) v3 hc6) rfl rfl rfl rfl hb4 rfl rfl rfl rfl rfl rfl rfl ⟨rfl, rfl, rfl, trivial⟩ ?_
   refine oPick rfl rfl rfl rfl rfl hb4 rfl ?_
   refine oVal tt rfl rfl rfl rfl rfl trivial ?_
   refine oSplit rfl rfl rfl (fun hb7 => ?_) (fun hb7 => ?_)
   ·replace h := cnd_t hb7 h
    iterate 4 refine oValG tt rfl rfl rfl rfl rfl hb7 rfl rfl rfl trivial ?_
    obtain ⟨hg8, h⟩ := grd_inv h
    refine oValG tt rfl rfl rfl rfl rfl hb7 rfl rfl rfl hg8 ?_
    obtain ⟨v4, hc9, h⟩ := bind_inv h
    refine oCallG (S_l1In_w N (a_0.2 - b_1.2) (-1 : Int) (1 : Int) v4 hc9) rfl rfl rfl rfl hb7 rfl rfl rfl rfl rfl rfl rfl ⟨rfl, rfl, rfl, trivial⟩ ?_
    refine oPick rfl rfl rfl rfl rfl hb7 rfl ?_
    refine oVal tt rfl rfl rfl rfl rfl trivial ?_
    refine vNil ?_
    change VC _ _ _ _
    refine vRet ?_
    change ∃ _, _
    cases h
    exact ⟨[], _, rfl, trivial, rfl, (.eq rfl), rfl⟩
   ·replace h := cnd_f hb7 h
    iterate 6 refine oNoT rfl rfl rfl rfl hb7 rfl rfl ?_
    refine oPickF rfl rfl rfl rfl rfl hb7 rfl ?_
    refine oVal tt rfl rfl rfl rfl rfl trivial ?_
    refine vNil ?_
    change VC _ _ _ _
    refine vRet ?_
    change ∃ _, _
    cases h
    exact ⟨[], _, rfl, trivial, rfl, (.eq rfl), rfl⟩
  ·replace h := cnd_f hb4 h
   iterate 6 refine oNoT rfl rfl rfl rfl hb4 rfl rfl ?_
   refine oPickF rfl rfl rfl rfl rfl hb4 rfl ?_
   refine oVal tt rfl rfl rfl rfl rfl trivial ?_
   iterate 6 refine oNoT rfl rfl rfl rfl rfl rfl rfl ?_
   refine oPickF rfl rfl rfl rfl rfl rfl rfl ?_
   refine oVal tt rfl rfl rfl rfl rfl trivial ?_
   refine vNil ?_
   change VC _ _ _ _
   refine vRet ?_
   change ∃ _, _
   cases h
   exact ⟨[], _, rfl, trivial, rfl, (.eq rfl), rfl⟩
 ·replace h := cnd_f hb2 h
  iterate 2 refine oNoT rfl rfl rfl rfl hb2 rfl rfl ?_
  refine oPickF rfl rfl rfl rfl rfl hb2 rfl ?_
  refine oVal tt rfl rfl rfl rfl rfl trivial ?_
  iterate 6 refine oNoT rfl rfl rfl rfl rfl rfl rfl ?_
  refine oPickF rfl rfl rfl rfl rfl rfl rfl ?_
  refine oVal tt rfl rfl rfl rfl rfl trivial ?_
  iterate 6 refine oNoT rfl rfl rfl rfl rfl rfl rfl ?_
  refine oPickF rfl rfl rfl rfl rfl rfl rfl ?_
  refine oVal tt rfl rfl rfl rfl rfl trivial ?_
  refine vNil ?_
  change VC _ _ _ _
  refine vRet ?_
  change ∃ _, _
  cases h
  exact ⟨[], _, rfl, trivial, rfl, (.eq rfl), rfl⟩
def S_AreNear_l1 (N : Nat) (a_0 : List (Int × Int)) (b_1 : List (Int × Int)) (k : Unit → Option (Bool)) : Nat → Int → Option (Bool)
 | 0, _ => none
 | n + 1, i7 =>
  cnd (decide (i7 < (a_0.length : Int))) (
   cnd (decide (i7 < (b_1.length : Int))) (
    grd (0 ≤ i7 ∧ i7 < (a_0.length : Int)) <|
    grd (0 ≤ i7 ∧ i7 < (b_1.length : Int)) <|
    (S_l25Step N (a_0.getD ((i7).toNat) (0, 0)) (b_1.getD ((i7).toNat) (0, 0))).bind fun v9 =>
    cnd (!v9) (
     some false) (
     grd (Rg64 (i7 + (1 : Int))) <|
     S_AreNear_l1 N a_0 b_1 k n (i7 + (1 : Int)))) (
    k ())) (
   k ())
def S_AreNear (N : Nat) (a_0 : List (Int × Int)) (b_1 : List (Int × Int)) : Option (Bool) :=
 S_AreNear_l1 N a_0 b_1 (fun (_ : Unit) =>
    some ((a_0.length : Int) == (b_1.length : Int))) N (0 : Int)
set_option maxRecDepth 20000 in
set_option maxHeartbeats 1600000 in
theorem S_AreNear_w (N : Nat) (a_0 : List (Int × Int)) (b_1 : List (Int × Int)) (r : Bool) (h : S_AreNear N a_0 b_1 = some r) : PCall Tryz.prog 140 [.ro false (.pairs a_0), .ro false (.pairs b_1)] [] (.bool r) := by
 unfold S_AreNear at h
 refine pcall_intro (TT := TT) tt Tryz.func140 rfl rfl Tryz.ntmps140 (congrArg Array.toList Tryz.results140) rfl rfl fun w0 => ?_
 refine vSeq ?_
 refine vRegion ?_
 refine oVal tt rfl rfl rfl rfl rfl trivial ?_
 refine vNil ?_
 change VC _ _ _ _
 iterate 2 refine vSeq ?_
 refine vRegion ?_
 refine oVal tt rfl rfl rfl rfl rfl trivial ?_
 refine vNil ?_
 change VC _ _ _ _
 refine vJoin (F := fun k => S_AreNear_l1 N a_0 b_1 k) h (α := Unit) (J := fun (_ : Unit) => (⟨[(0, .ro false (.pairs a_0)), (1, .ro false (.pairs b_1))], [], []⟩ : PS)) ?_ ?_
 ·rintro ⟨⟩ h
  show VC _ _ _ (⟨[(0, .ro false (.pairs a_0)), (1, .ro false (.pairs b_1))], [], []⟩ : PS)
  refine vSeq ?_
  refine vRegion ?_
  iterate 6 refine oVal tt rfl rfl rfl rfl rfl trivial ?_
  refine vNil ?_
  change VC _ _ _ _
  refine vRet ?_
  change ∃ _, _
  cases h
  exact ⟨[], _, rfl, trivial, rfl, (.eq rfl), rfl⟩
 ·intro k h
  refine vBlock ?_
  refine vLoopS (α := Int) (fun (i7 : Int) => (⟨[(0, .ro false (.pairs a_0)), (1, .ro false (.pairs b_1)), (5, .int i7)], [], []⟩ : PS)) (S_AreNear_l1 N a_0 b_1 k) h (En.of ⟨rfl, rfl, rfl, trivial⟩ trivial trivial) (fun _ => rfl) ?_
  rintro n i7 h
  rw [S_AreNear_l1] at h
  show VC _ _ _ (⟨[(0, .ro false (.pairs a_0)), (1, .ro false (.pairs b_1)), (5, .int i7)], [], []⟩ : PS)
  iterate 2 refine vSeq ?_
  refine vRegion ?_
  iterate 5 refine oVal tt rfl rfl rfl rfl rfl trivial ?_
  refine oSplit rfl rfl rfl (fun hb1 => ?_) (fun hb1 => ?_)
  ·replace h := cnd_t hb1 h
   iterate 4 refine oValG tt rfl rfl rfl rfl rfl hb1 rfl rfl rfl trivial ?_
   refine oPick rfl rfl rfl rfl rfl hb1 rfl ?_
   refine vNil ?_
   change VC _ _ _ _
   refine vCond rfl (fun hb2 => ?_) (fun hb2 => ?_)
   ·replace h := cnd_t hb2 h
    refine vSkip ?_
    change VC _ _ _ _
    refine vSeq ?_
    refine vBlock ?_
    refine vSeq ?_
    refine vRegionD (by kernel_rfl) (by kernel_rfl) ?_
    iterate 2 refine cVal tt rfl (wNone rfl) rfl rfl rfl trivial ?_
    obtain ⟨hg3, h⟩ := grd_inv h
    refine cVal tt rfl (wNone rfl) rfl rfl rfl hg3 ?_
    iterate 3 refine cVal tt rfl (wNone rfl) rfl rfl rfl trivial ?_
    obtain ⟨hg4, h⟩ := grd_inv h
    refine cVal tt rfl (wNone rfl) rfl rfl rfl hg4 ?_
    refine cVal tt rfl (wNone rfl) rfl rfl rfl trivial ?_
    obtain ⟨v9, hc5, h⟩ := bind_inv h
    refine cCall (S_l25Step_w N (a_0.getD ((i7).toNat) (0, 0)) (b_1.getD ((i7).toNat) (0, 0)) v9 hc5) rfl (wNone rfl) rfl rfl rfl rfl rfl rfl ⟨⟨rfl, rfl, trivial⟩, ⟨rfl, rfl, trivial⟩, trivial⟩ ?_
    refine cVal tt rfl (wNone rfl) rfl rfl rfl trivial ?_
    refine cNil ?_
    change VC _ _ _ _
    refine vCond rfl (fun hb6 => ?_) (fun hb6 => ?_)
    ·replace h := cnd_t hb6 h
     refine vSeq ?_
     refine vRegion ?_
     refine oVal tt rfl rfl rfl rfl rfl trivial ?_
     refine vNil ?_
     change VC _ _ _ _
     refine vRet ?_
     change ∃ _, _
     cases h
     exact ⟨[], _, rfl, trivial, rfl, (.eq rfl), rfl⟩
    ·replace h := cnd_f hb6 h
     refine vSkip ?_
     change VC _ _ _ _
     refine vRegion ?_
     refine oVal tt rfl rfl rfl rfl rfl trivial ?_
     obtain ⟨hg7, h⟩ := grd_inv h
     refine oVal tt rfl rfl rfl rfl rfl hg7 ?_
     refine oVal tt rfl rfl rfl rfl rfl trivial ?_
     refine vNil ?_
     change ∃ _, _
     exact ⟨(i7 + (1 : Int)), (En.of ⟨rfl, rfl, rfl, trivial⟩ trivial trivial), h⟩
   ·replace h := cnd_f hb2 h
    refine vExit ?_
    change ∃ _, _
    exact ⟨(), (En.of ⟨rfl, rfl, trivial⟩ trivial trivial), h⟩
  ·replace h := cnd_f hb1 h
   iterate 4 refine oNoT rfl rfl rfl rfl hb1 rfl rfl ?_
   refine oPickF rfl rfl rfl rfl rfl hb1 rfl ?_
   refine vNil ?_
   change VC _ _ _ _
   refine vCondF rfl rfl ?_
   refine vExit ?_
   change ∃ _, _
   exact ⟨(), (En.of ⟨rfl, rfl, trivial⟩ trivial trivial), h⟩
def S_l25Reach_l2 (N : Nat) (all_0 : List (List (Int × Int))) (k93 : Int) (k : ((List Int) × (List Int)) → Option ((List Int) × (List Int))) : Nat → ((List Int) × (List Int) × Int) → Option ((List Int) × (List Int))
 | 0, _ => none
 | n + 1, (l129, l130, i131) =>
  cnd (decide (i131 < (all_0.length : Int))) (
   (S_l2Has N l129 i131).bind fun v134 =>
   cnd (!v134) (
    grd (0 ≤ k93 ∧ k93 < (l129.length : Int)) <|
    grd (0 ≤ (l129.getD ((k93).toNat) 0) ∧ (l129.getD ((k93).toNat) 0) < (all_0.length : Int)) <|
    grd (0 ≤ i131 ∧ i131 < (all_0.length : Int)) <|
    (S_AreNear N (all_0.getD (((l129.getD ((k93).toNat) 0)).toNat) []) (all_0.getD ((i131).toNat) [])).bind fun v135 =>
    cnd v135 (
     grd (l129.length + 1 ≤ 4294967296) <|
     grd (l130.length + 1 ≤ 4294967296) <|
     grd (Rg64 (i131 + (1 : Int))) <|
     S_l25Reach_l2 N all_0 k93 k n ((l129 ++ ([i131] : List Int)), (l130 ++ ([k93] : List Int)), (i131 + (1 : Int)))) (
     grd (Rg64 (i131 + (1 : Int))) <|
     S_l25Reach_l2 N all_0 k93 k n (l129, l130, (i131 + (1 : Int))))) (
    grd (Rg64 (i131 + (1 : Int))) <|
    S_l25Reach_l2 N all_0 k93 k n (l129, l130, (i131 + (1 : Int))))) (
   k (l129, l130))
def S_l25Reach_l1 (N : Nat) (all_0 : List (List (Int × Int))) (k : ((List Int) × (List Int)) → Option ((List Int) × (List Int))) : Nat → ((List Int) × (List Int) × Int) → Option ((List Int) × (List Int))
 | 0, _ => none
 | n + 1, (l91, l92, k93) =>
  cnd (decide (k93 < (l91.length : Int))) (
   S_l25Reach_l2 N all_0 k93 (fun (x : (List Int) × (List Int)) =>
     match x with
     | (l124, l125) =>
      grd (Rg64 (k93 + (1 : Int))) <|
      S_l25Reach_l1 N all_0 k n (l124, l125, (k93 + (1 : Int)))) N (l91, l92, (0 : Int))) (
   k (l91, l92))
def S_l25Reach (N : Nat) (all_0 : List (List (Int × Int))) (start_1 : Int) : Option ((List Int) × (List Int)) :=
 S_l25Reach_l1 N all_0 (fun (x : (List Int) × (List Int)) =>
   match x with
   | (l67, l68) =>
    some (l67, l68)) N (([start_1] : List Int), ([(-1 : Int)] : List Int), (0 : Int))
set_option maxRecDepth 20000 in
set_option maxHeartbeats 1600000 in
theorem S_l25Reach_w (N : Nat) (all_0 : List (List (Int × Int))) (start_1 : Int) (r : (List Int) × (List Int)) (h : S_l25Reach N all_0 start_1 = some r) : PCall Tryz.prog 104 [.ro false (.pairss all_0), .int start_1] [(3, .ints r.1), (3, .ints r.2)] (.tup [.row 0 0 r.1.length, .row 1 0 r.2.length]) := by
 unfold S_l25Reach at h
 refine pcall_intro (TT := TT) tt Tryz.func104 rfl rfl Tryz.ntmps104 (congrArg Array.toList Tryz.results104) rfl rfl fun w0 => ?_
 refine vSeq ?_
 refine vRegion ?_
 iterate 2 refine oVal tt rfl rfl rfl rfl rfl trivial ?_
 refine vNil ?_
 change VC _ _ _ _
 refine vSeq ?_
 refine vRegion ?_
 refine oVal tt rfl rfl rfl rfl rfl trivial ?_
 refine oBuild tt rfl rfl rfl rfl rfl rfl rfl rfl rfl rfl rfl ?_
 refine oVal tt rfl rfl rfl rfl rfl trivial ?_
 refine vNil ?_
 change VC _ _ _ _
 refine vSeq ?_
 refine vRegion ?_
 refine oBuild tt rfl rfl rfl rfl rfl rfl rfl rfl rfl rfl rfl ?_
 refine oVal tt rfl rfl rfl rfl rfl trivial ?_
 refine vNil ?_
 change VC _ _ _ _
 iterate 2 refine vSeq ?_
 refine vRegion ?_
 refine oVal tt rfl rfl rfl rfl rfl trivial ?_
 refine vNil ?_
 change VC _ _ _ _
 refine vJoin (F := fun k => S_l25Reach_l1 N all_0 k) h (α := (List Int) × (List Int)) (J := fun | (l67, l68) => (⟨[(6, .row 11 0 l67.length), (7, .row 12 0 l68.length)], [(11, some (3, .ints l67)), (12, some (3, .ints l68))], []⟩ : PS)) ?_ ?_
 ·rintro ⟨l67, l68⟩ h
  show VC _ _ _ (⟨[(6, .row 11 0 l67.length), (7, .row 12 0 l68.length)], [(11, some (3, .ints l67)), (12, some (3, .ints l68))], []⟩ : PS)
  refine vSeq ?_
  refine vRegion ?_
  iterate 4 refine oVal tt rfl rfl rfl rfl rfl trivial ?_
  refine vNil ?_
  change VC _ _ _ _
  refine vRet ?_
  change ∃ _, _
  cases h
  exact ⟨[11, 12], _, rfl, ⟨rfl, rfl, trivial⟩, rfl, (.eq rfl), rfl⟩
 ·intro k h
  refine vBlock ?_
  refine vLoopS (α := (List Int) × (List Int) × Int) (fun | (l91, l92, k93) => (⟨[(0, .ro false (.pairss all_0)), (6, .row 11 0 l91.length), (7, .row 12 0 l92.length), (8, .int k93)], [(11, some (3, .ints l91)), (12, some (3, .ints l92))], []⟩ : PS)) (S_l25Reach_l1 N all_0 k) h (En.of ⟨rfl, rfl, rfl, rfl, trivial⟩ ⟨rfl, rfl, trivial⟩ trivial) (fun _ => rfl) ?_
  rintro n ⟨l91, l92, k93⟩ h
  rw [S_l25Reach_l1] at h
  show VC _ _ _ (⟨[(0, .ro false (.pairss all_0)), (6, .row 11 0 l91.length), (7, .row 12 0 l92.length), (8, .int k93)], [(11, some (3, .ints l91)), (12, some (3, .ints l92))], []⟩ : PS)
  iterate 2 refine vSeq ?_
  refine vRegion ?_
  iterate 4 refine oVal tt rfl rfl rfl rfl rfl trivial ?_
  refine vNil ?_
  change VC _ _ _ _
  refine vCond rfl (fun hb1 => ?_) (fun hb1 => ?_)
  ·replace h := cnd_t hb1 h
   refine vSkip ?_
   change VC _ _ _ _
   refine vSeq ?_
   refine vBlock ?_
   refine vSeq ?_
   refine vRegion ?_
   refine oVal tt rfl rfl rfl rfl rfl trivial ?_
   refine vNil ?_
   change VC _ _ _ _
   refine vJoin (F := fun k => S_l25Reach_l2 N all_0 k93 k) h (α := (List Int) × (List Int)) (J := fun | (l124, l125) => (⟨[(0, .ro false (.pairss all_0)), (6, .row 11 0 l124.length), (7, .row 12 0 l125.length), (8, .int k93)], [(11, some (3, .ints l124)), (12, some (3, .ints l125))], []⟩ : PS)) ?_ ?_
   ·rintro ⟨l124, l125⟩ h
    show VC _ _ _ (⟨[(0, .ro false (.pairss all_0)), (6, .row 11 0 l124.length), (7, .row 12 0 l125.length), (8, .int k93)], [(11, some (3, .ints l124)), (12, some (3, .ints l125))], []⟩ : PS)
    refine vRegion ?_
    refine oVal tt rfl rfl rfl rfl rfl trivial ?_
    obtain ⟨hg2, h⟩ := grd_inv h
    refine oVal tt rfl rfl rfl rfl rfl hg2 ?_
    refine oVal tt rfl rfl rfl rfl rfl trivial ?_
    refine vNil ?_
    change ∃ _, _
    exact ⟨(l124, l125, (k93 + (1 : Int))), (En.of ⟨rfl, rfl, rfl, rfl, trivial⟩ ⟨rfl, rfl, trivial⟩ trivial), h⟩
   ·intro k h
    refine vBlock ?_
    refine vLoopS (α := (List Int) × (List Int) × Int) (fun | (l129, l130, i131) => (⟨[(0, .ro false (.pairss all_0)), (6, .row 11 0 l129.length), (7, .row 12 0 l130.length), (8, .int k93), (9, .int i131)], [(11, some (3, .ints l129)), (12, some (3, .ints l130))], []⟩ : PS)) (S_l25Reach_l2 N all_0 k93 k) h (En.of ⟨rfl, rfl, rfl, rfl, rfl, trivial⟩ ⟨rfl, rfl, trivial⟩ trivial) (fun _ => rfl) ?_
    rintro n ⟨l129, l130, i131⟩ h
    rw [S_l25Reach_l2] at h
    show VC _ _ _ (⟨[(0, .ro false (.pairss all_0)), (6, .row 11 0 l129.length), (7, .row 12 0 l130.length), (8, .int k93), (9, .int i131)], [(11, some (3, .ints l129)), (12, some (3, .ints l130))], []⟩ : PS)
    iterate 2 refine vSeq ?_
    refine vRegion ?_
    iterate 4 refine oVal tt rfl rfl rfl rfl rfl trivial ?_
    refine vNil ?_
    change VC _ _ _ _
    refine vCond rfl (fun hb3 => ?_) (fun hb3 => ?_)
    ·replace h := cnd_t hb3 h
     refine vSkip ?_
     change VC _ _ _ _
     refine vSeq ?_
     refine vBlock ?_
     refine vSeq ?_
     refine vRegionD (by kernel_rfl) (by kernel_rfl) ?_
     iterate 2 refine cVal tt rfl (wNone rfl) rfl rfl rfl trivial ?_
     obtain ⟨v134, hc4, h⟩ := bind_inv h
     refine cCall (S_l2Has_w N l129 i131 v134 hc4) rfl (wNone rfl) rfl rfl rfl rfl rfl rfl ⟨(.inl ⟨rfl, rfl⟩), rfl, trivial⟩ ?_
     iterate 2 refine cVal tt rfl (wNone rfl) rfl rfl rfl trivial ?_
     refine cSplit rfl rfl rfl (fun hb5 => ?_) (fun hb5 => ?_)
     ·replace h := cnd_t hb5 h
      iterate 3 refine cVal tt rfl (wSome rfl rfl rfl rfl hb5) rfl rfl rfl trivial ?_
      obtain ⟨hg6, h⟩ := grd_inv h
      iterate 2 refine cVal tt rfl (wSome rfl rfl rfl rfl hb5) rfl rfl rfl hg6 ?_
      obtain ⟨hg7, h⟩ := grd_inv h
      refine cVal tt rfl (wSome rfl rfl rfl rfl hb5) rfl rfl rfl hg7 ?_
      iterate 3 refine cVal tt rfl (wSome rfl rfl rfl rfl hb5) rfl rfl rfl trivial ?_
      obtain ⟨hg8, h⟩ := grd_inv h
      refine cVal tt rfl (wSome rfl rfl rfl rfl hb5) rfl rfl rfl hg8 ?_
      refine cVal tt rfl (wSome rfl rfl rfl rfl hb5) rfl rfl rfl trivial ?_
      obtain ⟨v135, hc9, h⟩ := bind_inv h
      refine cCall (S_AreNear_w N (all_0.getD (((l129.getD ((k93).toNat) 0)).toNat) []) (all_0.getD ((i131).toNat) []) v135 hc9) rfl (wSome rfl rfl rfl rfl hb5) rfl rfl rfl rfl rfl rfl ⟨rfl, rfl, trivial⟩ ?_
      refine cPickT rfl (wNone rfl) rfl rfl rfl hb5 rfl ?_
      refine cNil ?_
      change VC _ _ _ _
      refine vCond rfl (fun hb10 => ?_) (fun hb10 => ?_)
      ·replace h := cnd_t hb10 h
       refine vSeq ?_
       refine vRegion ?_
       iterate 2 refine oVal tt rfl rfl rfl rfl rfl trivial ?_
       refine oBuild tt rfl rfl rfl rfl rfl rfl rfl rfl rfl rfl rfl ?_
       obtain ⟨hg11, h⟩ := grd_inv h
       refine oAppend tt rfl rfl rfl rfl rfl rfl rfl rfl rfl rfl rfl rfl rfl rfl rfl rfl (Nat.le_of_eq (Nat.zero_add _)) hg11 ?_
       refine oVal tt rfl rfl rfl rfl rfl trivial ?_
       refine vNil ?_
       change VC _ _ _ _
       refine vRegion ?_
       iterate 2 refine oVal tt rfl rfl rfl rfl rfl trivial ?_
       refine oBuild tt rfl rfl rfl rfl rfl rfl rfl rfl rfl rfl rfl ?_
       obtain ⟨hg12, h⟩ := grd_inv h
       refine oAppend tt rfl rfl rfl rfl rfl rfl rfl rfl rfl rfl rfl rfl rfl rfl rfl rfl (Nat.le_of_eq (Nat.zero_add _)) hg12 ?_
       refine oVal tt rfl rfl rfl rfl rfl trivial ?_
       refine vNil ?_
       change VC _ _ _ _
       refine vRegion ?_
       refine oVal tt rfl rfl rfl rfl rfl trivial ?_
       obtain ⟨hg13, h⟩ := grd_inv h
       refine oVal tt rfl rfl rfl rfl rfl hg13 ?_
       refine oVal tt rfl rfl rfl rfl rfl trivial ?_
       refine vNil ?_
       change ∃ _, _
       exact ⟨((l129 ++ ([i131] : List Int)), (l130 ++ ([k93] : List Int)), (i131 + (1 : Int))), (En.of ⟨rfl, rfl, rfl, rfl, rfl, trivial⟩ ⟨rfl, rfl, trivial⟩ trivial), h⟩
      ·replace h := cnd_f hb10 h
       refine vSkip ?_
       change VC _ _ _ _
       refine vRegion ?_
       refine oVal tt rfl rfl rfl rfl rfl trivial ?_
       obtain ⟨hg14, h⟩ := grd_inv h
       refine oVal tt rfl rfl rfl rfl rfl hg14 ?_
       refine oVal tt rfl rfl rfl rfl rfl trivial ?_
       refine vNil ?_
       change ∃ _, _
       exact ⟨(l129, l130, (i131 + (1 : Int))), (En.of ⟨rfl, rfl, rfl, rfl, rfl, trivial⟩ ⟨rfl, rfl, trivial⟩ trivial), h⟩
     ·replace h := cnd_f hb5 h
      iterate 12 refine cNoT rfl rfl rfl rfl hb5 rfl rfl ?_
      refine cPickF rfl (wNone rfl) rfl rfl rfl hb5 rfl ?_
      refine cNil ?_
      change VC _ _ _ _
      refine vCondF rfl rfl ?_
      refine vSkip ?_
      change VC _ _ _ _
      refine vRegion ?_
      refine oVal tt rfl rfl rfl rfl rfl trivial ?_
      obtain ⟨hg15, h⟩ := grd_inv h
      refine oVal tt rfl rfl rfl rfl rfl hg15 ?_
      refine oVal tt rfl rfl rfl rfl rfl trivial ?_
      refine vNil ?_
      change ∃ _, _
      exact ⟨(l129, l130, (i131 + (1 : Int))), (En.of ⟨rfl, rfl, rfl, rfl, rfl, trivial⟩ ⟨rfl, rfl, trivial⟩ trivial), h⟩
    ·replace h := cnd_f hb3 h
     refine vExit ?_
     change ∃ _, _
     exact ⟨(l129, l130), (En.of ⟨rfl, rfl, rfl, rfl, trivial⟩ ⟨rfl, rfl, trivial⟩ trivial), h⟩
  ·replace h := cnd_f hb1 h
   refine vExit ?_
   change ∃ _, _
   exact ⟨(l91, l92), (En.of ⟨rfl, rfl, trivial⟩ ⟨rfl, rfl, trivial⟩ trivial), h⟩
end Go.Proofs.YtmoamglpocjhgaaGreat
namespace Go.Proofs.YtmoamglpocjhgaaGreat
variable {N : Nat}
theorem grf_eta (g : Grf) : (⟨g.n, g.bars⟩ : Grf) = g := rfl
theorem pin_eta (p : Pin) : (⟨p.g, p.ground⟩ : Pin) = p := rfl
theorem frm_eta (p : Frm) : (⟨p.g, p.places⟩ : Frm) = p := rfl
theorem lnk_eta (p : Lnk) : (⟨p.f, p.ground⟩ : Lnk) = p := rfl
def mkI (k : Int) (m : Nat) : List Int := (List.range m).map fun (i : Nat) => k + (i : Int)
def mkP (k : Int) (m : Nat) : List (Int × Int) := (List.range m).map fun (i : Nat) => (k + 2 * (i : Int), k + 2 * (i : Int) + 1)
theorem mkI_len (k : Int) (m : Nat) : (mkI k m).length = m := by simp [mkI]
theorem mkP_len (k : Int) (m : Nat) : (mkP k m).length = m := by simp [mkP]
theorem mkI_succ (k : Int) (m : Nat) : mkI k (m + 1) = mkI k m ++ [k + (m : Int)] := by simp [mkI, List.range_succ]
theorem mkP_succ (k : Int) (m : Nat) : mkP k (m + 1) = mkP k m ++ [(k + 2 * (m : Int), k + 2 * (m : Int) + 1)] := by simp [mkP, List.range_succ]
theorem set_mid {α : Type} {a b : List α} {x : α} {i : Nat} (h : a.length = i) (hb : 0 < b.length) : (a ++ b).set i x = a ++ [x] ++ b.drop 1 := by
 subst h
 cases b with
 | nil => simp at hb
 | cons y b => simp
theorem getD_mid {α : Type} {a : List α} {x d : α} {b : List α} {i : Nat} (h : a.length = i) : (a ++ [x] ++ b).getD i d = x := by
 subst h; simp
theorem markIntS_l {a : List Int} {k0 : Int} (hk : 0 ≤ k0 ∧ k0 ≤ 100000000) (ha : a.length ≤ 1048576) (k : List Int × Int → Option (Int × List Int)) : ∀ n i : Nat, i ≤ a.length → a.length < n + i → L_markIntS_l1 N a k n (mkI k0 i ++ a.drop i, k0 + (i : Int), (i : Int)) = k (mkI k0 a.length, k0 + (a.length : Int)) := by
 intro n
 induction n with
 | zero => intro i h1 h2; omega
 | succ n ih =>
  intro i h1 h2
  rw [L_markIntS_l1]
  by_cases hi : i < a.length
  ·have e1 : ((mkI k0 i ++ a.drop i).set i (k0 + (i : Int))) = mkI k0 (i + 1) ++ a.drop (i + 1) := by
    rw [set_mid (mkI_len k0 i) (by simp; omega), mkI_succ]
    simp
   have e2 : ((mkI k0 i ++ a.drop i).length : Int) = (a.length : Int) := by simp [mkI_len]; omega
   rw [cnd_dt (by omega), grd_pos (by omega), grd_pos (by omega), grd_pos (by unfold Rg64; omega), grd_pos (by unfold Rg64; omega), Int.toNat_natCast, e1, show k0 + (i : Int) + 1 = k0 + ((i + 1 : Nat) : Int) from by omega, show (i : Int) + 1 = ((i + 1 : Nat) : Int) from by omega]
   exact ih (i + 1) (by omega) (by omega)
  ·have : i = a.length := by omega
   subst this
   rw [cnd_df (by omega)]
   simp
theorem markIntS_s (hN : 4000000 ≤ N) {a : List Int} {k0 : Int} (hk : 0 ≤ k0 ∧ k0 ≤ 100000000) (ha : a.length ≤ 1048576) : L_markIntS N a k0 = some (k0 + (a.length : Int), mkI k0 a.length) := by
 unfold L_markIntS
 have := markIntS_l (N := N) (a := a) hk ha (fun (x : (List Int) × Int) => match x with | (l, k) => some (k, l)) N 0 (by omega) (by omega)
 simpa [mkI] using this
theorem heldIntS_l {m : Nat} {k0 : Int} (hk : 0 ≤ k0 ∧ k0 ≤ 100000000) (ha : m ≤ 1048576) (k : Int → Option Int) : ∀ n i : Nat, i ≤ m → m < n + i → L_heldIntS_l1 N (mkI k0 m) k n (k0 + (i : Int), (i : Int)) = k (k0 + (m : Int)) := by
 intro n
 induction n with
 | zero => intro i h1 h2; omega
 | succ n ih =>
  intro i h1 h2
  rw [L_heldIntS_l1, mkI_len]
  by_cases hi : i < m
  ·have e1 : (mkI k0 m).getD i 0 = k0 + (i : Int) := by simp [mkI, hi]
   rw [cnd_dt (by omega), grd_pos (by omega), Int.toNat_natCast, e1, bne_self_eq_false, cnd_false, grd_pos (by unfold Rg64; omega), grd_pos (by unfold Rg64; omega), show k0 + (i : Int) + 1 = k0 + ((i + 1 : Nat) : Int) from by omega, show (i : Int) + 1 = ((i + 1 : Nat) : Int) from by omega]
   exact ih (i + 1) (by omega) (by omega)
  ·have : i = m := by omega
   subst this
   rw [cnd_df (by omega)]
theorem heldIntS_s (hN : 4000000 ≤ N) {m : Nat} {k0 : Int} (hk : 0 ≤ k0 ∧ k0 ≤ 100000000) (ha : m ≤ 1048576) : L_heldIntS N (mkI k0 m) k0 = some (k0 + (m : Int)) := by
 unfold L_heldIntS
 have := heldIntS_l (N := N) hk ha (fun k => some k) N 0 (by omega) (by omega)
 simpa using this
theorem markBarS_l {a : List (Int × Int)} {k0 : Int} (hk : 0 ≤ k0 ∧ k0 ≤ 100000000) (ha : a.length ≤ 1048576) (k : List (Int × Int) × Int → Option (Int × List (Int × Int))) : ∀ n i : Nat, i ≤ a.length → a.length < n + i → L_markBarS_l1 N a k n (mkP k0 i ++ a.drop i, k0 + 2 * (i : Int), (i : Int)) = k (mkP k0 a.length, k0 + 2 * (a.length : Int)) := by
 intro n
 induction n with
 | zero => intro i h1 h2; omega
 | succ n ih =>
  intro i h1 h2
  rw [L_markBarS_l1]
  by_cases hi : i < a.length
  ·have e2 : ((mkP k0 i ++ a.drop i).length : Int) = (a.length : Int) := by simp [mkP_len]; omega
   rw [cnd_dt (by omega), grd_pos (by omega), grd_pos (by omega), grd_pos (by unfold Rg64; omega), grd_pos (by rw [List.length_set]; omega), grd_pos (by unfold Rg64; omega), grd_pos (by unfold Rg64; omega), Int.toNat_natCast]
   rw [set_mid (mkP_len k0 i) (by simp; omega), getD_mid (mkP_len k0 i), List.append_assoc, set_mid (mkP_len k0 i) (by simp)]
   have e1 : mkP k0 i ++ [(k0 + 2 * (i : Int), k0 + 2 * (i : Int) + 1)] ++ List.drop 1 ([(k0 + 2 * (i : Int), ((mkP k0 i ++ a.drop i).getD i (0, 0)).2)] ++ List.drop 1 (a.drop i)) = mkP k0 (i + 1) ++ a.drop (i + 1) := by
    rw [mkP_succ]; simp
   rw [e1, show k0 + 2 * (i : Int) + 1 + 1 = k0 + 2 * ((i + 1 : Nat) : Int) from by omega, show (i : Int) + 1 = ((i + 1 : Nat) : Int) from by omega]
   exact ih (i + 1) (by omega) (by omega)
  ·have : i = a.length := by omega
   subst this
   rw [cnd_df (by omega)]
   simp
theorem markBarS_s (hN : 4000000 ≤ N) {a : List (Int × Int)} {k0 : Int} (hk : 0 ≤ k0 ∧ k0 ≤ 100000000) (ha : a.length ≤ 1048576) : L_markBarS N a k0 = some (k0 + 2 * (a.length : Int), mkP k0 a.length) := by
 unfold L_markBarS
 have := markBarS_l (N := N) (a := a) hk ha (fun (x : (List (Int × Int)) × Int) => match x with | (l, k) => some (k, l)) N 0 (by omega) (by omega)
 simpa [mkP] using this
theorem markPlaceS_l {a : List (Int × Int)} {k0 : Int} (hk : 0 ≤ k0 ∧ k0 ≤ 100000000) (ha : a.length ≤ 1048576) (k : List (Int × Int) × Int → Option (Int × List (Int × Int))) : ∀ n i : Nat, i ≤ a.length → a.length < n + i → L_markPlaceS_l1 N a k n (mkP k0 i ++ a.drop i, k0 + 2 * (i : Int), (i : Int)) = k (mkP k0 a.length, k0 + 2 * (a.length : Int)) := by
 intro n
 induction n with
 | zero => intro i h1 h2; omega
 | succ n ih =>
  intro i h1 h2
  rw [L_markPlaceS_l1]
  by_cases hi : i < a.length
  ·have e2 : ((mkP k0 i ++ a.drop i).length : Int) = (a.length : Int) := by simp [mkP_len]; omega
   rw [cnd_dt (by omega), grd_pos (by omega), grd_pos (by omega), grd_pos (by unfold Rg64; omega), grd_pos (by rw [List.length_set]; omega), grd_pos (by unfold Rg64; omega), grd_pos (by unfold Rg64; omega), Int.toNat_natCast]
   rw [set_mid (mkP_len k0 i) (by simp; omega), getD_mid (mkP_len k0 i), List.append_assoc, set_mid (mkP_len k0 i) (by simp)]
   have e1 : mkP k0 i ++ [(k0 + 2 * (i : Int), k0 + 2 * (i : Int) + 1)] ++ List.drop 1 ([(k0 + 2 * (i : Int), ((mkP k0 i ++ a.drop i).getD i (0, 0)).2)] ++ List.drop 1 (a.drop i)) = mkP k0 (i + 1) ++ a.drop (i + 1) := by
    rw [mkP_succ]; simp
   rw [e1, show k0 + 2 * (i : Int) + 1 + 1 = k0 + 2 * ((i + 1 : Nat) : Int) from by omega, show (i : Int) + 1 = ((i + 1 : Nat) : Int) from by omega]
   exact ih (i + 1) (by omega) (by omega)
  ·have : i = a.length := by omega
   subst this
   rw [cnd_df (by omega)]
   simp
theorem markPlaceS_s (hN : 4000000 ≤ N) {a : List (Int × Int)} {k0 : Int} (hk : 0 ≤ k0 ∧ k0 ≤ 100000000) (ha : a.length ≤ 1048576) : L_markPlaceS N a k0 = some (k0 + 2 * (a.length : Int), mkP k0 a.length) := by
 unfold L_markPlaceS
 have := markPlaceS_l (N := N) (a := a) hk ha (fun (x : (List (Int × Int)) × Int) => match x with | (l, k) => some (k, l)) N 0 (by omega) (by omega)
 simpa [mkP] using this
theorem heldPlaceS_l {m : Nat} {k0 : Int} (hk : 0 ≤ k0 ∧ k0 ≤ 100000000) (ha : m ≤ 1048576) (k : Int → Option Int) : ∀ n i : Nat, i ≤ m → m < n + i → L_heldPlaceS_l1 N (mkP k0 m) k n (k0 + 2 * (i : Int), (i : Int)) = k (k0 + 2 * (m : Int)) := by
 intro n
 induction n with
 | zero => intro i h1 h2; omega
 | succ n ih =>
  intro i h1 h2
  rw [L_heldPlaceS_l1, mkP_len]
  by_cases hi : i < m
  ·have e1 : (mkP k0 m).getD i (0, 0) = (k0 + 2 * (i : Int), k0 + 2 * (i : Int) + 1) := by simp [mkP, hi]
   rw [cnd_dt (by omega), grd_pos (by omega), Int.toNat_natCast, e1]
   simp only [bne_self_eq_false, cnd_false]
   rw [grd_pos (by unfold Rg64; omega), grd_pos (by unfold Rg64; omega), grd_pos (by unfold Rg64; omega), show k0 + 2 * (i : Int) + 1 + 1 = k0 + 2 * ((i + 1 : Nat) : Int) from by omega, show (i : Int) + 1 = ((i + 1 : Nat) : Int) from by omega]
   exact ih (i + 1) (by omega) (by omega)
  ·have : i = m := by omega
   subst this
   rw [cnd_df (by omega)]
theorem heldPlaceS_s (hN : 4000000 ≤ N) {m : Nat} {k0 : Int} (hk : 0 ≤ k0 ∧ k0 ≤ 100000000) (ha : m ≤ 1048576) : L_heldPlaceS N (mkP k0 m) k0 = some (k0 + 2 * (m : Int)) := by
 unfold L_heldPlaceS
 have := heldPlaceS_l (N := N) hk ha (fun k => some k) N 0 (by omega) (by omega)
 simpa using this
theorem markGraph_s (hN : 4000000 ≤ N) {a : Grf} {k0 : Int} (hk : 0 ≤ k0 ∧ k0 ≤ 50000000) (ha : lnGraph a ≤ 1048576) : L_markGraph N a k0 = some (k0 + 2 * (a.bars.length : Int), mkP k0 a.bars.length) := by
 unfold L_markGraph
 rw [markBarS_s hN (by omega) ha]; rfl
theorem markFramework_s (hN : 4000000 ≤ N) {a : Frm} {k0 : Int} (hk : 0 ≤ k0 ∧ k0 ≤ 20000000) (ha : lnFramework a ≤ 1048576) : L_markFramework N a k0 = some (k0 + 2 * (a.g.bars.length : Int) + 2 * (a.places.length : Int), mkP k0 a.g.bars.length, mkP (k0 + 2 * (a.g.bars.length : Int)) a.places.length) := by
 simp only [lnFramework, lnGraph] at ha
 unfold L_markFramework
 rw [markGraph_s hN (by omega) (by simp only [lnGraph]; omega), Option.bind_some, markPlaceS_s hN (by simp only []; omega) (by omega)]; rfl
theorem markLinkage_s (hN : 4000000 ≤ N) {a : Lnk} {k0 : Int} (hk : 0 ≤ k0 ∧ k0 ≤ 10000000) (ha : lnLinkage a ≤ 1048576) : L_markLinkage N a k0 = some (k0 + 2 * (a.f.g.bars.length : Int) + 2 * (a.f.places.length : Int) + (a.ground.length : Int), mkP k0 a.f.g.bars.length, mkP (k0 + 2 * (a.f.g.bars.length : Int)) a.f.places.length, mkI (k0 + 2 * (a.f.g.bars.length : Int) + 2 * (a.f.places.length : Int)) a.ground.length) := by
 simp only [lnLinkage, lnFramework, lnGraph] at ha
 unfold L_markLinkage
 rw [markFramework_s hN (by omega) (by simp only [lnFramework, lnGraph]; omega), Option.bind_some, markIntS_s hN (by simp only []; omega) (by omega)]; rfl
end Go.Proofs.YtmoamglpocjhgaaGreat
namespace Go.Proofs.YtmoamglpocjhgaaGreat
variable {R σ : Type}
theorem srchA {F : Nat → Int → Option R} {len : Nat} {ok : Nat → Bool} {bad fin : Option R}
  (hs : ∀ n i : Nat, i < len → (∀ j, j < i → ok j = true) → F (n + 1) (i : Int) = cnd (ok i) (F n ((i + 1 : Nat) : Int)) bad) (hf : ∀ n : Nat, (∀ j, j < len → ok j = true) → F (n + 1) (len : Int) = fin) :
  ∀ n i : Nat, i ≤ len → len < n + i → (∀ j, j < i → ok j = true) → F n (i : Int) = cnd ((List.range len).all ok) fin bad := by
 intro n
 induction n with
 | zero => intro i h1 h2; omega
 | succ n ih =>
  intro i h1 h2 h3
  by_cases hi : i < len
  ·rw [hs n i hi h3]
   cases ho : ok i with
   | true =>
    exact ih (i + 1) (by omega) (by omega) fun j hj => by
     rcases Nat.lt_or_ge j i with h | h
     ·exact h3 j h
     ·rw [show j = i by omega]; exact ho
   | false =>
    have : (List.range len).all ok = false := by
     rw [List.all_eq_false]; exact ⟨i, by simpa using hi, by simp [ho]⟩
    rw [this]; rfl
  ·obtain rfl : i = len := by omega
   rw [hf n h3]
   have : (List.range i).all ok = true := by
    rw [List.all_eq_true]; intro j hj; exact h3 j (by simpa using hj)
   rw [this]; rfl
theorem srch {F : Nat → Int → Option R} {N len : Nat} {ok : Nat → Bool} {bad fin : Option R} (hN : len < N)
  (hs : ∀ n i : Nat, i < len → (∀ j, j < i → ok j = true) → F (n + 1) (i : Int) = cnd (ok i) (F n ((i + 1 : Nat) : Int)) bad) (hf : ∀ n : Nat, (∀ j, j < len → ok j = true) → F (n + 1) (len : Int) = fin) :
  F N (0 : Int) = cnd ((List.range len).all ok) fin bad :=
 srchA hs hf N 0 (by omega) (by omega) (by omega)
theorem foldA {F : Nat → σ × Int → Option R} {len : Nat} {st : Nat → σ} {fin : Option R} (hs : ∀ n i : Nat, i < len → F (n + 1) (st i, (i : Int)) = F n (st (i + 1), ((i + 1 : Nat) : Int))) (hf : ∀ n : Nat, F (n + 1) (st len, (len : Int)) = fin) :
  ∀ n i : Nat, i ≤ len → len < n + i → F n (st i, (i : Int)) = fin := by
 intro n
 induction n with
 | zero => intro i h1 h2; omega
 | succ n ih =>
  intro i h1 h2
  by_cases hi : i < len
  ·rw [hs n i hi]; exact ih (i + 1) (by omega) (by omega)
  ·obtain rfl : i = len := by omega
   exact hf n
theorem fold {F : Nat → σ × Int → Option R} {N len : Nat} {st : Nat → σ} {fin : Option R} (hN : len < N) (hs : ∀ n i : Nat, i < len → F (n + 1) (st i, (i : Int)) = F n (st (i + 1), ((i + 1 : Nat) : Int))) (hf : ∀ n : Nat, F (n + 1) (st len, (len : Int)) = fin) :
  F N (st 0, (0 : Int)) = fin := foldA hs hf N 0 (by omega) (by omega)
theorem cnd_congr {α : Type} {a b : Bool} (h : a = b) (x y : α) : cnd a x y = cnd b x y := by rw [h]
theorem cnd_congr' {α : Type} {a b : Bool} (h : a = !b) (x y : α) : cnd a x y = cnd b y x := by subst h; cases b <;> rfl
theorem succ_cast (i : Nat) : ((i : Int) + 1) = ((i + 1 : Nat) : Int) := rfl
theorem range_all_not_contains (l : List Int) (x : Int) : ((List.range l.length).all fun i => !(l.getD i 0 == x)) = !l.contains x := by
 rw [Bool.eq_iff_iff, List.all_eq_true]
 simp only [List.mem_range, Bool.not_eq_true', beq_eq_false_iff_ne, List.contains_eq_mem, decide_eq_false_iff_not]
 constructor
 ·intro h hx
  obtain ⟨i, hi, he⟩ := List.mem_iff_getElem.1 hx
  exact h i hi (by simp [List.getD_eq_getElem?_getD, hi, he])
 ·intro h i hi he
  exact h (List.mem_iff_getElem.2 ⟨i, hi, by simpa [List.getD_eq_getElem?_getD, hi] using he⟩)
end Go.Proofs.YtmoamglpocjhgaaGreat
namespace Go.Proofs.YtmoamglpocjhgaaGreat
open Go.RowKit
def G_Index_int_l1 (N : Nat) (s_0 : List Int) (v_1 : Int) (k : Unit → Option (Int)) : Nat → Int → Option (Int)
 | 0, _ => none
 | n + 1, x3 =>
  cnd (decide (x3 < (s_0.length : Int))) (
   grd (0 ≤ x3 ∧ x3 < (s_0.length : Int)) <|
   cnd (v_1 == (s_0.getD ((x3).toNat) 0)) (
    some x3) (
    grd (Rg64 (x3 + (1 : Int))) <|
    G_Index_int_l1 N s_0 v_1 k n (x3 + (1 : Int)))) (
   k ())
def G_Index_int (N : Nat) (s_0 : List Int) (v_1 : Int) : Option (Int) :=
 G_Index_int_l1 N s_0 v_1 (fun (_ : Unit) =>
    some (-1 : Int)) N (0 : Int)
set_option maxRecDepth 20000 in
set_option maxHeartbeats 1600000 in
theorem G_Index_int_w (N : Nat) (s_0 : List Int) (v_1 : Int) (r : Int) (h : G_Index_int N s_0 v_1 = some r) : PCall Tryz.prog 115 [.ro false (.ints s_0), .int v_1] [] (.int r) := by
 unfold G_Index_int at h
 refine pcall_intro (TT := TT) tt Tryz.func115 rfl rfl Tryz.ntmps115 (congrArg Array.toList Tryz.results115) rfl rfl fun w0 => ?_
 refine vSeq ?_
 refine vRegion ?_
 refine oVal tt rfl rfl rfl rfl rfl trivial ?_
 refine vNil ?_
 change VC _ _ _ _
 iterate 2 refine vSeq ?_
 refine vRegion ?_
 iterate 3 refine oVal tt rfl rfl rfl rfl rfl trivial ?_
 refine vNil ?_
 change VC _ _ _ _
 refine vJoin (F := fun k => G_Index_int_l1 N s_0 v_1 k) h (α := Unit) (J := fun (_ : Unit) => (⟨[], [], []⟩ : PS)) ?_ ?_
 ·rintro ⟨⟩ h
  show VC _ _ _ (⟨[], [], []⟩ : PS)
  refine vSeq ?_
  refine vRegion ?_
  refine oVal tt rfl rfl rfl rfl rfl trivial ?_
  refine vNil ?_
  change VC _ _ _ _
  refine vRet ?_
  change ∃ _, _
  cases h
  exact ⟨[], _, rfl, trivial, rfl, (.eq rfl), rfl⟩
 ·intro k h
  refine vBlock ?_
  refine vLoopS (α := Int) (fun (x3 : Int) => (⟨[(0, .ro false (.ints s_0)), (1, .int v_1), (7, .int (s_0.length : Int)), (8, .int x3)], [], []⟩ : PS)) (G_Index_int_l1 N s_0 v_1 k) h (En.of ⟨rfl, rfl, rfl, rfl, trivial⟩ trivial trivial) (fun _ => rfl) ?_
  rintro n x3 h
  rw [G_Index_int_l1] at h
  show VC _ _ _ (⟨[(0, .ro false (.ints s_0)), (1, .int v_1), (7, .int (s_0.length : Int)), (8, .int x3)], [], []⟩ : PS)
  refine vSeq ?_
  refine vRegion ?_
  refine oVal tt rfl rfl rfl rfl rfl trivial ?_
  refine vNil ?_
  change VC _ _ _ _
  refine vSeq ?_
  refine vCond rfl (fun hb1 => ?_) (fun hb1 => ?_)
  ·replace h := cnd_t hb1 h
   refine vSkip ?_
   change VC _ _ _ _
   refine vSeq ?_
   refine vBlock ?_
   refine vSeq ?_
   refine vRegion ?_
   iterate 2 refine oVal tt rfl rfl rfl rfl rfl trivial ?_
   refine vNil ?_
   change VC _ _ _ _
   refine vSeq ?_
   refine vRegion ?_
   iterate 3 refine oVal tt rfl rfl rfl rfl rfl trivial ?_
   obtain ⟨hg2, h⟩ := grd_inv h
   refine oVal tt rfl rfl rfl rfl rfl hg2 ?_
   iterate 2 refine oVal tt rfl rfl rfl rfl rfl trivial ?_
   refine vNil ?_
   change VC _ _ _ _
   refine vCond rfl (fun hb3 => ?_) (fun hb3 => ?_)
   ·replace h := cnd_t hb3 h
    refine vSeq ?_
    refine vRegion ?_
    iterate 2 refine oVal tt rfl rfl rfl rfl rfl trivial ?_
    refine vNil ?_
    change VC _ _ _ _
    refine vRet ?_
    change ∃ _, _
    cases h
    exact ⟨[], _, rfl, trivial, rfl, (.eq rfl), rfl⟩
   ·replace h := cnd_f hb3 h
    refine vSkip ?_
    change VC _ _ _ _
    refine vRegion ?_
    obtain ⟨hg4, h⟩ := grd_inv h
    refine oVal tt rfl rfl rfl rfl rfl hg4 ?_
    refine oVal tt rfl rfl rfl rfl rfl trivial ?_
    refine vNil ?_
    change ∃ _, _
    exact ⟨(x3 + (1 : Int)), (En.of ⟨rfl, rfl, rfl, rfl, trivial⟩ trivial trivial), h⟩
  ·replace h := cnd_f hb1 h
   refine vExit ?_
   change ∃ _, _
   exact ⟨(), (En.of trivial trivial trivial), h⟩
end Go.Proofs.YtmoamglpocjhgaaGreat
namespace Go.Proofs.YtmoamglpocjhgaaGreat
open Go.RowKit
def G_Contains_int (N : Nat) (s_0 : List Int) (v_1 : Int) : Option (Bool) :=
 (G_Index_int N s_0 v_1).bind fun v1 =>
 some (decide (v1 ≥ (0 : Int)))
set_option maxRecDepth 20000 in
set_option maxHeartbeats 1600000 in
theorem G_Contains_int_w (N : Nat) (s_0 : List Int) (v_1 : Int) (r : Bool) (h : G_Contains_int N s_0 v_1 = some r) : PCall Tryz.prog 94 [.ro false (.ints s_0), .int v_1] [] (.bool r) := by
 unfold G_Contains_int at h
 refine pcall_intro (TT := TT) tt Tryz.func94 rfl rfl Tryz.ntmps94 (congrArg Array.toList Tryz.results94) rfl rfl fun w0 => ?_
 refine vSeq ?_
 refine vRegion ?_
 refine oVal tt rfl rfl rfl rfl rfl trivial ?_
 refine vNil ?_
 change VC _ _ _ _
 refine vSeq ?_
 refine vRegion ?_
 iterate 2 refine oVal tt rfl rfl rfl rfl rfl trivial ?_
 obtain ⟨v1, hc1, h⟩ := bind_inv h
 refine oCall (G_Index_int_w N s_0 v_1 v1 hc1) rfl rfl rfl rfl rfl rfl rfl rfl ⟨rfl, rfl, trivial⟩ ?_
 iterate 2 refine oVal tt rfl rfl rfl rfl rfl trivial ?_
 refine vNil ?_
 change VC _ _ _ _
 refine vRet ?_
 change ∃ _, _
 cases h
 exact ⟨[], _, rfl, trivial, rfl, (.eq rfl), rfl⟩
end Go.Proofs.YtmoamglpocjhgaaGreat
namespace Go.Proofs.YtmoamglpocjhgaaGreat
variable (N : Nat)
theorem l1In_s (x lo hi : Int) : S_l1In N x lo hi = some (inB x lo hi) := by
 unfold S_l1In inB
 rw [cnd_some]
 show some (cnd (decide (lo ≤ x)) _ _) = _
 cases decide (lo ≤ x) <;> rfl
theorem within_s (x lo hi : Int) : I_within N x lo hi = some (inB x lo hi) := by
 unfold I_within inB
 rw [cnd_some]
 show some (cnd (decide (lo ≤ x)) _ _) = _
 cases decide (lo ≤ x) <;> rfl
theorem l2Has_s (hN : 4000000 ≤ N) {l : List Int} (hl : l.length ≤ 3000000) (x : Int) : S_l2Has N l x = some (l.contains x) := by
 unfold S_l2Has
 refine (srch (len := l.length) (ok := fun i => !(l.getD i 0 == x)) (bad := some true) (fin := some false) (by omega) ?_ ?_).trans ?_
 ·intro n i hi _
  rw [S_l2Has_l1]
  simp (disch := omega) only [Int.toNat_natCast, tk0, List.length_cons, List.length_nil, grd_pos, grd_T, grd_R, cnd_dt, cnd_df, cnd_true, cnd_false, Option.bind_some, cnd_not, succ_cast]
 ·intro n _
  rw [S_l2Has_l1]
  simp (disch := omega) only [Int.toNat_natCast, tk0, List.length_cons, List.length_nil, grd_pos, grd_T, grd_R, cnd_dt, cnd_df, cnd_true, cnd_false, Option.bind_some]
 ·rw [range_all_not_contains, cnd_some]; cases l.contains x <;> rfl
theorem indexInt_l (hN : 4000000 ≤ N) {l : List Int} (hl : l.length ≤ 3000000) (x : Int) : ∀ n i : Nat, i ≤ l.length → l.length < n + i → ∃ r : Int, G_Index_int_l1 N l x (fun _ => some (-1)) n (i : Int) = some r ∧ (decide (r ≥ 0) = (l.drop i).contains x) := by
 intro n
 induction n with
 | zero => intro i h1 h2; omega
 | succ n ih =>
  intro i h1 h2
  rw [G_Index_int_l1]
  by_cases hi : i < l.length
  ·simp (disch := omega) only [Int.toNat_natCast, tk0, List.length_cons, List.length_nil, grd_pos, grd_T, grd_R, cnd_dt, cnd_df, cnd_true, cnd_false, Option.bind_some]
   rw [List.drop_eq_getElem_cons hi, List.contains_cons]
   have e : l.getD i 0 = l[i] := by simp [List.getD_eq_getElem?_getD, hi]
   rw [e]
   cases h : x == l[i] with
   | true => exact ⟨i, rfl, by simp⟩
   | false =>
    obtain ⟨r, h1, h2⟩ := ih (i + 1) (by omega) (by omega)
    exact ⟨r, h1, by rw [h2]; rfl⟩
  ·simp (disch := omega) only [Int.toNat_natCast, tk0, List.length_cons, List.length_nil, grd_pos, grd_T, grd_R, cnd_dt, cnd_df, cnd_true, cnd_false, Option.bind_some]
   exact ⟨-1, rfl, by rw [List.drop_eq_nil_of_le (by omega)]; rfl⟩
theorem contains_s (hN : 4000000 ≤ N) {l : List Int} (hl : l.length ≤ 3000000) (x : Int) : G_Contains_int N l x = some (l.contains x) := by
 unfold G_Contains_int G_Index_int
 obtain ⟨r, h1, h2⟩ := indexInt_l N hN hl x N 0 (by omega) (by omega)
 rw [show (0 : Int) = ((0 : Nat) : Int) from rfl, h1]
 show some (decide (r ≥ 0)) = _
 rw [h2]; rfl
theorem l2After_s (a b : Int × Int) : S_l2After N a b = some (barLeB a b) := by
 unfold S_l2After barLeB
 simp only [cnd_some]
 cases decide (a.1 < b.1) <;> cases a.1 == b.1 <;> rfl
theorem compareInts_s (a b : Int) : I_compareInts N a b = some (cmpI a b) := by
 unfold I_compareInts cmpI
 by_cases h : a < b
 ·simp (disch := omega) only [Int.toNat_natCast, tk0, List.length_cons, List.length_nil, grd_pos, grd_T, grd_R, cnd_dt, cnd_df, cnd_true, cnd_false, Option.bind_some, if_pos h]
 ·by_cases h' : b < a
  ·simp (disch := omega) only [Int.toNat_natCast, tk0, List.length_cons, List.length_nil, grd_pos, grd_T, grd_R, cnd_dt, cnd_df, cnd_true, cnd_false, Option.bind_some, if_neg h, if_pos h', gt_iff_lt]
  ·simp (disch := omega) only [Int.toNat_natCast, tk0, List.length_cons, List.length_nil, grd_pos, grd_T, grd_R, cnd_dt, cnd_df, cnd_true, cnd_false, Option.bind_some, if_neg h, if_neg h', gt_iff_lt]
theorem compareBars_s (a b : Int × Int) : I_compareBars N a b = some (cmpBar a b) := by
 unfold I_compareBars cmpBar
 simp only [compareInts_s, Option.bind_some]
 by_cases h : cmpI a.1 b.1 = 0
 ·rw [if_pos h, cnd_nef h]
 ·rw [if_neg h, cnd_net h]
theorem cmpBar_gt (a b : Int × Int) : decide (cmpBar a b > 0) = !barLeB a b := by
 have := cmpBar_pos a b
 cases h : barLeB a b with
 | true => rw [h] at this; simp at this; simp; omega
 | false => rw [h] at this; simp at this; simp; omega
theorem isGraphS_s (hN : 4000000 ≤ N) {g : Grf} : S_IsGraph N g = some (isGraph g) := by
 unfold S_IsGraph isGraph
 rw [l1In_s, Option.bind_some, cnd_not]
 cases h1 : inB g.n 1 8 with
 | false => rfl
 | true =>
  by_cases h2 : g.bars.length ≤ 24
  ·simp (disch := omega) only [Int.toNat_natCast, tk0, List.length_cons, List.length_nil, grd_pos, grd_T, grd_R, cnd_dt, cnd_df, cnd_true, cnd_false, Option.bind_some]
   refine (srch (len := g.bars.length) (ok := barAt g.n g.bars) (bad := some false) (fin := some true) (by omega) ?_ ?_).trans ?_
   ·intro n i hi _
    rw [S_IsGraph_l1]
    by_cases h0 : i = 0
    ·subst h0
     simp (disch := omega) only [Int.toNat_natCast, tk0, List.length_cons, List.length_nil, grd_pos, grd_T, grd_R, cnd_dt, cnd_df, cnd_true, cnd_false, Option.bind_some, l2After_s, cnd_or, cnd_and, succ_cast]
     refine cnd_congr' ?_ _ _
     simp only [barAt, barOkB]
     rw [Bool.eq_iff_iff]; simp; omega
    ·simp (disch := omega) only [Int.toNat_natCast, tk0, List.length_cons, List.length_nil, grd_pos, grd_T, grd_R, cnd_dt, cnd_df, cnd_true, cnd_false, Option.bind_some, l2After_s, cnd_or, cnd_and, succ_cast, show ((i : Int) - 1).toNat = i - 1 from by omega]
     refine cnd_congr' ?_ _ _
     simp only [barAt, barOkB, decide_eq_false h0, Bool.false_or]
     cases barLeB (g.bars.getD (i - 1) (0, 0)) (g.bars.getD i (0, 0)) <;> (rw [Bool.eq_iff_iff]; simp; try omega)
   ·intro n _
    rw [S_IsGraph_l1]
    simp (disch := omega) only [Int.toNat_natCast, tk0, List.length_cons, List.length_nil, grd_pos, grd_T, grd_R, cnd_dt, cnd_df, cnd_true, cnd_false, Option.bind_some]
   ·rw [cnd_some, cnd_bool]; simp [h2]
  ·simp (disch := omega) only [Int.toNat_natCast, tk0, List.length_cons, List.length_nil, grd_pos, grd_T, grd_R, cnd_dt, cnd_df, cnd_true, cnd_false, Option.bind_some]
   simp [h2]
theorem isGraphI_s (hN : 4000000 ≤ N) {g : Grf} : I_IsGraph N g = some (isGraph g) := by
 unfold I_IsGraph isGraph
 rw [within_s, Option.bind_some, cnd_not]
 cases h1 : inB g.n 1 8 with
 | false => rfl
 | true =>
  by_cases h2 : g.bars.length ≤ 24
  ·simp (disch := omega) only [Int.toNat_natCast, tk0, List.length_cons, List.length_nil, grd_pos, grd_T, grd_R, cnd_dt, cnd_df, cnd_true, cnd_false, Option.bind_some]
   refine (srch (len := g.bars.length) (ok := barAt g.n g.bars) (bad := some false) (fin := some true) (by omega) ?_ ?_).trans ?_
   ·intro n i hi _
    rw [I_IsGraph_l1]
    by_cases h0 : i = 0
    ·subst h0
     simp (disch := omega) only [Int.toNat_natCast, tk0, List.length_cons, List.length_nil, grd_pos, grd_T, grd_R, cnd_dt, cnd_df, cnd_true, cnd_false, Option.bind_some, compareBars_s, cmpBar_gt, cnd_or, cnd_and, succ_cast]
     refine cnd_congr' ?_ _ _
     simp only [barAt, barOkB]
     rw [Bool.eq_iff_iff]; simp; omega
    ·simp (disch := omega) only [Int.toNat_natCast, tk0, List.length_cons, List.length_nil, grd_pos, grd_T, grd_R, cnd_dt, cnd_df, cnd_true, cnd_false, Option.bind_some, compareBars_s, cmpBar_gt, cnd_or, cnd_and, succ_cast, show ((i : Int) - 1).toNat = i - 1 from by omega]
     refine cnd_congr' ?_ _ _
     simp only [barAt, barOkB, decide_eq_false h0, Bool.false_or]
     cases barLeB (g.bars.getD (i - 1) (0, 0)) (g.bars.getD i (0, 0)) <;> (rw [Bool.eq_iff_iff]; simp; try omega)
   ·intro n _
    rw [I_IsGraph_l1]
    simp (disch := omega) only [Int.toNat_natCast, tk0, List.length_cons, List.length_nil, grd_pos, grd_T, grd_R, cnd_dt, cnd_df, cnd_true, cnd_false, Option.bind_some]
   ·rw [cnd_some, cnd_bool]; simp [h2]
  ·simp (disch := omega) only [Int.toNat_natCast, tk0, List.length_cons, List.length_nil, grd_pos, grd_T, grd_R, cnd_dt, cnd_df, cnd_true, cnd_false, Option.bind_some]
   simp [h2]
end Go.Proofs.YtmoamglpocjhgaaGreat
namespace Go.Proofs.YtmoamglpocjhgaaGreat
variable (N : Nat)
theorem pair_eq (a b : Int × Int) : ((a.1 == b.1) && (a.2 == b.2)) = (a == b) := by
 obtain ⟨x, y⟩ := a; obtain ⟨u, v⟩ := b; rfl
theorem ghasW_s (g : Grf) (x : Int) : M_Graph_has N g x = some (inB x 0 (w64 (g.n - 1))) := by
 unfold M_Graph_has
 simp (disch := omega) only [Int.toNat_natCast, tk0, List.length_cons, List.length_nil, grd_pos, grd_T, grd_R, cnd_dt, cnd_df, cnd_true, cnd_false, Option.bind_some, within_s]
theorem ghas_s {g : Grf} (h : 0 ≤ g.n) (h' : g.n ≤ 1048576) (x : Int) : M_Graph_has N g x = some (inB x 0 (g.n - 1)) := by
 unfold M_Graph_has
 rw [w64_id (by omega) (by omega)]
 simp (disch := omega) only [Int.toNat_natCast, tk0, List.length_cons, List.length_nil, grd_pos, grd_T, grd_R, cnd_dt, cnd_df, cnd_true, cnd_false, Option.bind_some, within_s]
end Go.Proofs.YtmoamglpocjhgaaGreat
namespace Go.Proofs.YtmoamglpocjhgaaGreat
variable (N : Nat)
def outside (ground : List Int) (n : Nat) : List Int := ((List.range n).map Int.ofNat).filter fun i => !ground.contains i
theorem outside_succ (g : List Int) (n : Nat) : outside g (n + 1) = cnd (g.contains (n : Int)) (outside g n) (outside g n ++ [(n : Int)]) := by
 unfold outside
 rw [List.range_succ, List.map_append, List.filter_append]
 simp only [List.map_cons, List.map_nil, List.filter_cons, List.filter_nil]
 cases h : g.contains (n : Int) <;> simp_all
theorem outside_len (g : List Int) (n : Nat) : (outside g n).length ≤ n := by
 unfold outside
 exact Nat.le_trans (List.length_filter_le _ _) (by simp)
theorem outside_mem (g : List Int) (n : Nat) (x : Int) : (outside g n).contains x = (inB x 0 ((n : Int) - 1) && !g.contains x) := by
 rw [Bool.eq_iff_iff]
 simp only [List.contains_eq_mem, decide_eq_true_eq, outside, List.mem_filter, List.mem_map, List.mem_range, inB, Bool.and_eq_true]
 constructor
 ·rintro ⟨⟨i, hi, rfl⟩, h⟩
  refine ⟨⟨?_, ?_⟩, h⟩
  ·show (0 : Int) ≤ (i : Int); omega
  ·show (i : Int) ≤ _; omega
 ·rintro ⟨⟨h1, h2⟩, h⟩
  exact ⟨⟨x.toNat, by omega, by show ((x.toNat : Nat) : Int) = x; omega⟩, h⟩
end Go.Proofs.YtmoamglpocjhgaaGreat
namespace Go.Proofs.YtmoamglpocjhgaaGreat
variable (N : Nat)
end Go.Proofs.YtmoamglpocjhgaaGreat
namespace Go.Proofs.YtmoamglpocjhgaaGreat
open Go.RowKit
def S_EqualGraphs_l1 (N : Nat) (a_0 : Grf) (b_1 : Grf) (k : Unit → Option (Bool)) : Nat → Int → Option (Bool)
 | 0, _ => none
 | n + 1, i3 =>
  cnd (decide (i3 < (a_0.bars.length : Int))) (
   grd (0 ≤ i3 ∧ i3 < (a_0.bars.length : Int)) <|
   grd (0 ≤ i3 ∧ i3 < (b_1.bars.length : Int)) <|
   cnd (!(((a_0.bars.getD ((i3).toNat) (0, 0)).1 == (b_1.bars.getD ((i3).toNat) (0, 0)).1) && ((a_0.bars.getD ((i3).toNat) (0, 0)).2 == (b_1.bars.getD ((i3).toNat) (0, 0)).2))) (
    some false) (
    grd (Rg64 (i3 + (1 : Int))) <|
    S_EqualGraphs_l1 N a_0 b_1 k n (i3 + (1 : Int)))) (
   k ())
def S_EqualGraphs (N : Nat) (a_0 : Grf) (b_1 : Grf) : Option (Bool) :=
 cnd (a_0.n != b_1.n) (
  some false) (
  cnd ((a_0.bars.length : Int) != (b_1.bars.length : Int)) (
   some false) (
   S_EqualGraphs_l1 N a_0 b_1 (fun (_ : Unit) =>
      some true) N (0 : Int)))
set_option maxRecDepth 20000 in
set_option maxHeartbeats 1600000 in
theorem S_EqualGraphs_w (N : Nat) (a_0 : Grf) (b_1 : Grf) (r : Bool) (h : S_EqualGraphs N a_0 b_1 = some r) : PCall Tryz.prog 141 [gD a_0, gD b_1] [] (.bool r) := by
 unfold S_EqualGraphs at h
 refine pcall_intro (TT := TT) tt Tryz.func141 rfl rfl Tryz.ntmps141 (congrArg Array.toList Tryz.results141) rfl rfl fun w0 => ?_
 refine vSeq ?_
 refine vRegion ?_
 iterate 2 refine oBox rfl rfl rfl rfl rfl rfl rfl rfl rfl ?_
 refine oVal tt rfl rfl rfl rfl rfl trivial ?_
 refine vNil ?_
 change VC _ _ _ _
 iterate 2 refine vSeq ?_
 refine vRegion ?_
 iterate 6 refine oVal tt rfl rfl rfl rfl rfl trivial ?_
 refine oSplit rfl rfl rfl (fun hb1 => ?_) (fun hb1 => ?_)
 ·replace h := cnd_t hb1 h
  iterate 7 refine oNoF rfl rfl rfl rfl hb1 rfl rfl ?_
  refine oPick rfl rfl rfl rfl rfl hb1 rfl ?_
  refine vNil ?_
  change VC _ _ _ _
  refine vCondT rfl rfl ?_
  refine vSeq ?_
  refine vRegion ?_
  refine oVal tt rfl rfl rfl rfl rfl trivial ?_
  refine vNil ?_
  change VC _ _ _ _
  refine vRet ?_
  change ∃ _, _
  cases h
  exact ⟨[], _, rfl, trivial, rfl, (.eq rfl), rfl⟩
 ·replace h := cnd_f hb1 h
  iterate 7 refine oValG tt rfl rfl rfl rfl rfl hb1 rfl rfl rfl trivial ?_
  refine oPickF rfl rfl rfl rfl rfl hb1 rfl ?_
  refine vNil ?_
  change VC _ _ _ _
  refine vCond rfl (fun hb2 => ?_) (fun hb2 => ?_)
  ·replace h := cnd_t hb2 h
   refine vSeq ?_
   refine vRegion ?_
   refine oVal tt rfl rfl rfl rfl rfl trivial ?_
   refine vNil ?_
   change VC _ _ _ _
   refine vRet ?_
   change ∃ _, _
   cases h
   exact ⟨[], _, rfl, trivial, rfl, (.eq rfl), rfl⟩
  ·replace h := cnd_f hb2 h
   refine vSkip ?_
   change VC _ _ _ _
   iterate 2 refine vSeq ?_
   refine vRegion ?_
   refine oVal tt rfl rfl rfl rfl rfl trivial ?_
   refine vNil ?_
   change VC _ _ _ _
   refine vJoin (F := fun k => S_EqualGraphs_l1 N a_0 b_1 k) h (α := Unit) (J := fun (_ : Unit) => (⟨[], [], []⟩ : PS)) ?_ ?_
   ·rintro ⟨⟩ h
    show VC _ _ _ (⟨[], [], []⟩ : PS)
    refine vSeq ?_
    refine vRegion ?_
    refine oVal tt rfl rfl rfl rfl rfl trivial ?_
    refine vNil ?_
    change VC _ _ _ _
    refine vRet ?_
    change ∃ _, _
    cases h
    exact ⟨[], _, rfl, trivial, rfl, (.eq rfl), rfl⟩
   ·intro k h
    refine vBlock ?_
    refine vLoopS (α := Int) (fun (i3 : Int) => (⟨[(2, .ptr 2 0), (3, .ptr 3 0), (5, .int i3)], [], [(2, some [.int a_0.n, .ro false (.pairs a_0.bars)]), (3, some [.int b_1.n, .ro false (.pairs b_1.bars)])]⟩ : PS)) (S_EqualGraphs_l1 N a_0 b_1 k) h (En.of ⟨rfl, rfl, rfl, trivial⟩ trivial ⟨rfl, rfl, trivial⟩) (fun _ => rfl) ?_
    rintro n i3 h
    rw [S_EqualGraphs_l1] at h
    show VC _ _ _ (⟨[(2, .ptr 2 0), (3, .ptr 3 0), (5, .int i3)], [], [(2, some [.int a_0.n, .ro false (.pairs a_0.bars)]), (3, some [.int b_1.n, .ro false (.pairs b_1.bars)])]⟩ : PS)
    iterate 2 refine vSeq ?_
    refine vRegion ?_
    iterate 5 refine oVal tt rfl rfl rfl rfl rfl trivial ?_
    refine vNil ?_
    change VC _ _ _ _
    refine vCond rfl (fun hb3 => ?_) (fun hb3 => ?_)
    ·replace h := cnd_t hb3 h
     refine vSkip ?_
     change VC _ _ _ _
     refine vSeq ?_
     refine vBlock ?_
     refine vSeq ?_
     refine vRegionD (by kernel_rfl) (by kernel_rfl) ?_
     iterate 3 refine cVal tt rfl (wNone rfl) rfl rfl rfl trivial ?_
     obtain ⟨hg4, h⟩ := grd_inv h
     refine cVal tt rfl (wNone rfl) rfl rfl rfl hg4 ?_
     iterate 4 refine cVal tt rfl (wNone rfl) rfl rfl rfl trivial ?_
     obtain ⟨hg5, h⟩ := grd_inv h
     refine cVal tt rfl (wNone rfl) rfl rfl rfl hg5 ?_
     refine cVal tt rfl (wNone rfl) rfl rfl rfl trivial ?_
     refine cPure (wNone rfl) (pNeP eqP_impl_Bar rfl rfl rfl) rfl rfl ?_
     refine cNil ?_
     change VC _ _ _ _
     refine vCond rfl (fun hb6 => ?_) (fun hb6 => ?_)
     ·replace h := cnd_t hb6 h
      refine vSeq ?_
      refine vRegion ?_
      refine oVal tt rfl rfl rfl rfl rfl trivial ?_
      refine vNil ?_
      change VC _ _ _ _
      refine vRet ?_
      change ∃ _, _
      cases h
      exact ⟨[], _, rfl, trivial, rfl, (.eq rfl), rfl⟩
     ·replace h := cnd_f hb6 h
      refine vSkip ?_
      change VC _ _ _ _
      refine vRegion ?_
      refine oVal tt rfl rfl rfl rfl rfl trivial ?_
      obtain ⟨hg7, h⟩ := grd_inv h
      refine oVal tt rfl rfl rfl rfl rfl hg7 ?_
      refine oVal tt rfl rfl rfl rfl rfl trivial ?_
      refine vNil ?_
      change ∃ _, _
      exact ⟨(i3 + (1 : Int)), (En.of ⟨rfl, rfl, rfl, trivial⟩ trivial ⟨rfl, rfl, trivial⟩), h⟩
    ·replace h := cnd_f hb3 h
     refine vExit ?_
     change ∃ _, _
     exact ⟨(), (En.of trivial trivial trivial), h⟩
end Go.Proofs.YtmoamglpocjhgaaGreat
namespace Go.Proofs.YtmoamglpocjhgaaGreat
open Go.RowKit
def S_l6Same_l1 (N : Nat) (a_0 : List Int) (b_1 : List Int) (k : Unit → Option (Bool)) : Nat → Int → Option (Bool)
 | 0, _ => none
 | n + 1, i3 =>
  cnd (decide (i3 < (a_0.length : Int))) (
   grd (0 ≤ i3 ∧ i3 < (a_0.length : Int)) <|
   grd (0 ≤ i3 ∧ i3 < (b_1.length : Int)) <|
   cnd ((a_0.getD ((i3).toNat) 0) != (b_1.getD ((i3).toNat) 0)) (
    some false) (
    grd (Rg64 (i3 + (1 : Int))) <|
    S_l6Same_l1 N a_0 b_1 k n (i3 + (1 : Int)))) (
   k ())
def S_l6Same (N : Nat) (a_0 : List Int) (b_1 : List Int) : Option (Bool) :=
 cnd ((a_0.length : Int) != (b_1.length : Int)) (
  some false) (
  S_l6Same_l1 N a_0 b_1 (fun (_ : Unit) =>
     some true) N (0 : Int))
set_option maxRecDepth 20000 in
set_option maxHeartbeats 1600000 in
theorem S_l6Same_w (N : Nat) (a_0 : List Int) (b_1 : List Int) (r : Bool) (h : S_l6Same N a_0 b_1 = some r) : PCall Tryz.prog 142 [.ro false (.ints a_0), .ro false (.ints b_1)] [] (.bool r) := by
 unfold S_l6Same at h
 refine pcall_intro (TT := TT) tt Tryz.func142 rfl rfl Tryz.ntmps142 (congrArg Array.toList Tryz.results142) rfl rfl fun w0 => ?_
 refine vSeq ?_
 refine vRegion ?_
 refine oVal tt rfl rfl rfl rfl rfl trivial ?_
 refine vNil ?_
 change VC _ _ _ _
 iterate 2 refine vSeq ?_
 refine vRegion ?_
 iterate 5 refine oVal tt rfl rfl rfl rfl rfl trivial ?_
 refine vNil ?_
 change VC _ _ _ _
 refine vCond rfl (fun hb1 => ?_) (fun hb1 => ?_)
 ·replace h := cnd_t hb1 h
  refine vSeq ?_
  refine vRegion ?_
  refine oVal tt rfl rfl rfl rfl rfl trivial ?_
  refine vNil ?_
  change VC _ _ _ _
  refine vRet ?_
  change ∃ _, _
  cases h
  exact ⟨[], _, rfl, trivial, rfl, (.eq rfl), rfl⟩
 ·replace h := cnd_f hb1 h
  refine vSkip ?_
  change VC _ _ _ _
  iterate 2 refine vSeq ?_
  refine vRegion ?_
  refine oVal tt rfl rfl rfl rfl rfl trivial ?_
  refine vNil ?_
  change VC _ _ _ _
  refine vJoin (F := fun k => S_l6Same_l1 N a_0 b_1 k) h (α := Unit) (J := fun (_ : Unit) => (⟨[], [], []⟩ : PS)) ?_ ?_
  ·rintro ⟨⟩ h
   show VC _ _ _ (⟨[], [], []⟩ : PS)
   refine vSeq ?_
   refine vRegion ?_
   refine oVal tt rfl rfl rfl rfl rfl trivial ?_
   refine vNil ?_
   change VC _ _ _ _
   refine vRet ?_
   change ∃ _, _
   cases h
   exact ⟨[], _, rfl, trivial, rfl, (.eq rfl), rfl⟩
  ·intro k h
   refine vBlock ?_
   refine vLoopS (α := Int) (fun (i3 : Int) => (⟨[(0, .ro false (.ints a_0)), (1, .ro false (.ints b_1)), (5, .int i3)], [], []⟩ : PS)) (S_l6Same_l1 N a_0 b_1 k) h (En.of ⟨rfl, rfl, rfl, trivial⟩ trivial trivial) (fun _ => rfl) ?_
   rintro n i3 h
   rw [S_l6Same_l1] at h
   show VC _ _ _ (⟨[(0, .ro false (.ints a_0)), (1, .ro false (.ints b_1)), (5, .int i3)], [], []⟩ : PS)
   iterate 2 refine vSeq ?_
   refine vRegion ?_
   iterate 4 refine oVal tt rfl rfl rfl rfl rfl trivial ?_
   refine vNil ?_
   change VC _ _ _ _
   refine vCond rfl (fun hb2 => ?_) (fun hb2 => ?_)
   ·replace h := cnd_t hb2 h
    refine vSkip ?_
    change VC _ _ _ _
    refine vSeq ?_
    refine vBlock ?_
    refine vSeq ?_
    refine vRegionD (by kernel_rfl) (by kernel_rfl) ?_
    iterate 2 refine cVal tt rfl (wNone rfl) rfl rfl rfl trivial ?_
    obtain ⟨hg3, h⟩ := grd_inv h
    refine cVal tt rfl (wNone rfl) rfl rfl rfl hg3 ?_
    iterate 3 refine cVal tt rfl (wNone rfl) rfl rfl rfl trivial ?_
    obtain ⟨hg4, h⟩ := grd_inv h
    refine cVal tt rfl (wNone rfl) rfl rfl rfl hg4 ?_
    iterate 2 refine cVal tt rfl (wNone rfl) rfl rfl rfl trivial ?_
    refine cNil ?_
    change VC _ _ _ _
    refine vCond rfl (fun hb5 => ?_) (fun hb5 => ?_)
    ·replace h := cnd_t hb5 h
     refine vSeq ?_
     refine vRegion ?_
     refine oVal tt rfl rfl rfl rfl rfl trivial ?_
     refine vNil ?_
     change VC _ _ _ _
     refine vRet ?_
     change ∃ _, _
     cases h
     exact ⟨[], _, rfl, trivial, rfl, (.eq rfl), rfl⟩
    ·replace h := cnd_f hb5 h
     refine vSkip ?_
     change VC _ _ _ _
     refine vRegion ?_
     refine oVal tt rfl rfl rfl rfl rfl trivial ?_
     obtain ⟨hg6, h⟩ := grd_inv h
     refine oVal tt rfl rfl rfl rfl rfl hg6 ?_
     refine oVal tt rfl rfl rfl rfl rfl trivial ?_
     refine vNil ?_
     change ∃ _, _
     exact ⟨(i3 + (1 : Int)), (En.of ⟨rfl, rfl, rfl, trivial⟩ trivial trivial), h⟩
   ·replace h := cnd_f hb2 h
    refine vExit ?_
    change ∃ _, _
    exact ⟨(), (En.of trivial trivial trivial), h⟩
def S_SquareLengths_l1 (N : Nat) (f_0 : Frm) (k : (List Int) → Option (List Int)) : Nat → ((List Int) × Int) → Option (List Int)
 | 0, _ => none
 | n + 1, (l11, i12) =>
  cnd (decide (i12 < (f_0.g.bars.length : Int))) (
   (S_IsFramework N f_0).bind fun v14 =>
   cnd v14 (
    grd (0 ≤ i12 ∧ i12 < (f_0.g.bars.length : Int)) <|
    grd (0 ≤ ((f_0.g.bars.getD ((i12).toNat) (0, 0)).1) ∧ ((f_0.g.bars.getD ((i12).toNat) (0, 0)).1) < (f_0.places.length : Int)) <|
    grd (0 ≤ ((f_0.g.bars.getD ((i12).toNat) (0, 0)).2) ∧ ((f_0.g.bars.getD ((i12).toNat) (0, 0)).2) < (f_0.places.length : Int)) <|
    grd (Rg64 (((f_0.places.getD (((f_0.g.bars.getD ((i12).toNat) (0, 0)).1).toNat) (0, 0)).1) - ((f_0.places.getD (((f_0.g.bars.getD ((i12).toNat) (0, 0)).2).toNat) (0, 0)).1))) <|
    grd (Rg64 ((((f_0.places.getD (((f_0.g.bars.getD ((i12).toNat) (0, 0)).1).toNat) (0, 0)).1) - ((f_0.places.getD (((f_0.g.bars.getD ((i12).toNat) (0, 0)).2).toNat) (0, 0)).1)) * (((f_0.places.getD (((f_0.g.bars.getD ((i12).toNat) (0, 0)).1).toNat) (0, 0)).1) - ((f_0.places.getD (((f_0.g.bars.getD ((i12).toNat) (0, 0)).2).toNat) (0, 0)).1)))) <|
    grd (Rg64 (((f_0.places.getD (((f_0.g.bars.getD ((i12).toNat) (0, 0)).1).toNat) (0, 0)).2) - ((f_0.places.getD (((f_0.g.bars.getD ((i12).toNat) (0, 0)).2).toNat) (0, 0)).2))) <|
    grd (Rg64 ((((f_0.places.getD (((f_0.g.bars.getD ((i12).toNat) (0, 0)).1).toNat) (0, 0)).2) - ((f_0.places.getD (((f_0.g.bars.getD ((i12).toNat) (0, 0)).2).toNat) (0, 0)).2)) * (((f_0.places.getD (((f_0.g.bars.getD ((i12).toNat) (0, 0)).1).toNat) (0, 0)).2) - ((f_0.places.getD (((f_0.g.bars.getD ((i12).toNat) (0, 0)).2).toNat) (0, 0)).2)))) <|
    grd (Rg64 (((((f_0.places.getD (((f_0.g.bars.getD ((i12).toNat) (0, 0)).1).toNat) (0, 0)).1) - ((f_0.places.getD (((f_0.g.bars.getD ((i12).toNat) (0, 0)).2).toNat) (0, 0)).1)) * (((f_0.places.getD (((f_0.g.bars.getD ((i12).toNat) (0, 0)).1).toNat) (0, 0)).1) - ((f_0.places.getD (((f_0.g.bars.getD ((i12).toNat) (0, 0)).2).toNat) (0, 0)).1))) + ((((f_0.places.getD (((f_0.g.bars.getD ((i12).toNat) (0, 0)).1).toNat) (0, 0)).2) - ((f_0.places.getD (((f_0.g.bars.getD ((i12).toNat) (0, 0)).2).toNat) (0, 0)).2)) * (((f_0.places.getD (((f_0.g.bars.getD ((i12).toNat) (0, 0)).1).toNat) (0, 0)).2) - ((f_0.places.getD (((f_0.g.bars.getD ((i12).toNat) (0, 0)).2).toNat) (0, 0)).2))))) <|
    grd (l11.length + 1 ≤ 4294967296) <|
    grd (Rg64 (i12 + (1 : Int))) <|
    S_SquareLengths_l1 N f_0 k n ((l11 ++ ([(((((f_0.places.getD (((f_0.g.bars.getD ((i12).toNat) (0, 0)).1).toNat) (0, 0)).1) - ((f_0.places.getD (((f_0.g.bars.getD ((i12).toNat) (0, 0)).2).toNat) (0, 0)).1)) * (((f_0.places.getD (((f_0.g.bars.getD ((i12).toNat) (0, 0)).1).toNat) (0, 0)).1) - ((f_0.places.getD (((f_0.g.bars.getD ((i12).toNat) (0, 0)).2).toNat) (0, 0)).1))) + ((((f_0.places.getD (((f_0.g.bars.getD ((i12).toNat) (0, 0)).1).toNat) (0, 0)).2) - ((f_0.places.getD (((f_0.g.bars.getD ((i12).toNat) (0, 0)).2).toNat) (0, 0)).2)) * (((f_0.places.getD (((f_0.g.bars.getD ((i12).toNat) (0, 0)).1).toNat) (0, 0)).2) - ((f_0.places.getD (((f_0.g.bars.getD ((i12).toNat) (0, 0)).2).toNat) (0, 0)).2))))] : List Int)), (i12 + (1 : Int)))) (
    k l11)) (
   k l11)
def S_SquareLengths (N : Nat) (f_0 : Frm) : Option (List Int) :=
 S_SquareLengths_l1 N f_0 (fun (l7 : List Int) =>
    some l7) N (([] : List Int), (0 : Int))
set_option maxRecDepth 20000 in
set_option maxHeartbeats 1600000 in
theorem S_SquareLengths_w (N : Nat) (f_0 : Frm) (r : List Int) (h : S_SquareLengths N f_0 = some r) : PCall Tryz.prog 143 [fD f_0] [(3, .ints r)] (.row 0 0 r.length) := by
 unfold S_SquareLengths at h
 refine pcall_intro (TT := TT) tt Tryz.func143 rfl rfl Tryz.ntmps143 (congrArg Array.toList Tryz.results143) rfl rfl fun w0 => ?_
 refine vSeq ?_
 refine vRegion ?_
 refine oBox rfl rfl rfl rfl rfl rfl rfl rfl rfl ?_
 refine oVal tt rfl rfl rfl rfl rfl trivial ?_
 refine vNil ?_
 change VC _ _ _ _
 refine vSeq ?_
 refine vRegion ?_
 refine oEmpty tt (wNone rfl) rfl rfl rfl rfl ?_
 refine oVal tt rfl rfl rfl rfl rfl trivial ?_
 refine vNil ?_
 change VC _ _ _ _
 iterate 2 refine vSeq ?_
 refine vRegion ?_
 refine oVal tt rfl rfl rfl rfl rfl trivial ?_
 refine vNil ?_
 change VC _ _ _ _
 refine vJoin (F := fun k => S_SquareLengths_l1 N f_0 k) h (α := List Int) (J := fun (l7 : List Int) => (⟨[(3, .row 67 0 l7.length)], [(67, some (3, .ints l7))], []⟩ : PS)) ?_ ?_
 ·rintro l7 h
  show VC _ _ _ (⟨[(3, .row 67 0 l7.length)], [(67, some (3, .ints l7))], []⟩ : PS)
  refine vSeq ?_
  refine vRegion ?_
  iterate 2 refine oVal tt rfl rfl rfl rfl rfl trivial ?_
  refine vNil ?_
  change VC _ _ _ _
  refine vRet ?_
  change ∃ _, _
  cases h
  exact ⟨[67], _, rfl, ⟨rfl, trivial⟩, rfl, (.eq rfl), rfl⟩
 ·intro k h
  refine vBlock ?_
  refine vNilT 3 67 3 (.ints []) rfl rfl rfl rfl ?_
  refine vLoopS (α := (List Int) × Int) (fun | (l11, i12) => (⟨[(1, .ptr 1 0), (3, .row 67 0 l11.length), (4, .int i12)], [(67, some (3, .ints l11))], [(1, some [.int f_0.g.n, .ro false (.pairs f_0.g.bars), .ro false (.pairs f_0.places)])]⟩ : PS)) (S_SquareLengths_l1 N f_0 k) h (En.of ⟨rfl, rfl, rfl, trivial⟩ ⟨rfl, trivial⟩ ⟨rfl, trivial⟩) (fun _ => rfl) ?_
  rintro n ⟨l11, i12⟩ h
  rw [S_SquareLengths_l1] at h
  show VC _ _ _ (⟨[(1, .ptr 1 0), (3, .row 67 0 l11.length), (4, .int i12)], [(67, some (3, .ints l11))], [(1, some [.int f_0.g.n, .ro false (.pairs f_0.g.bars), .ro false (.pairs f_0.places)])]⟩ : PS)
  iterate 2 refine vSeq ?_
  refine vRegion ?_
  iterate 7 refine oVal tt rfl rfl rfl rfl rfl trivial ?_
  refine oSplit rfl rfl rfl (fun hb1 => ?_) (fun hb1 => ?_)
  ·replace h := cnd_t hb1 h
   refine oValG tt rfl rfl rfl rfl rfl hb1 rfl rfl rfl trivial ?_
   obtain ⟨v14, hc2, h⟩ := bind_inv h
   refine oCallG (S_IsFramework_w N f_0 v14 hc2) rfl rfl rfl rfl hb1 rfl rfl rfl rfl rfl rfl rfl ⟨⟨rfl, rfl, rfl, trivial⟩, trivial⟩ ?_
   refine oPick rfl rfl rfl rfl rfl hb1 rfl ?_
   refine vNil ?_
   change VC _ _ _ _
   refine vCond rfl (fun hb3 => ?_) (fun hb3 => ?_)
   ·replace h := cnd_t hb3 h
    refine vSkip ?_
    change VC _ _ _ _
    refine vSeq ?_
    refine vBlock ?_
    refine vSeq ?_
    refine vRegionN 12 [11] [0, 1, 0, 4, 12, 0, 60, 124, 252, 511, 1023, 0, 4095] (by kernel_rfl) (by kernel_rfl) (by kernel_rfl) (by kernel_rfl) (by kernel_rfl) rfl (by rfl) ?_
    iterate 6 refine nVal tt rfl (wNone rfl) rfl rfl rfl rfl rfl trivial ?_
    obtain ⟨hg4, h⟩ := grd_inv h
    refine nVal tt rfl (wNone rfl) rfl rfl rfl rfl rfl hg4 ?_
    iterate 2 refine nVal tt rfl (wNone rfl) rfl rfl rfl rfl rfl trivial ?_
    obtain ⟨hg5, h⟩ := grd_inv h
    refine nVal tt rfl (wNone rfl) rfl rfl rfl rfl rfl hg5 ?_
    refine nVal tt rfl (wNone rfl) rfl rfl rfl rfl rfl trivial ?_
    refine nAlloc tt (wNone rfl) rfl rfl rfl rfl rfl rfl rfl rfl rfl rfl ?_
    refine nNil ?_
    change VO _ _ _ _ _
    refine oStore tt rfl rfl rfl rfl rfl rfl rfl rfl rfl rfl rfl ⟨trivial, trivial, trivial⟩ ?_
    refine vNil ?_
    change VC _ _ _ _
    refine vSeq ?_
    refine vRegionN 12 [11] [0, 1, 0, 4, 12, 0, 60, 124, 252, 511, 1023, 0, 4095] (by kernel_rfl) (by kernel_rfl) (by kernel_rfl) (by kernel_rfl) (by kernel_rfl) rfl (by rfl) ?_
    iterate 6 refine nVal tt rfl (wNone rfl) rfl rfl rfl rfl rfl trivial ?_
    refine nVal tt rfl (wNone rfl) rfl rfl rfl rfl rfl hg4 ?_
    iterate 2 refine nVal tt rfl (wNone rfl) rfl rfl rfl rfl rfl trivial ?_
    obtain ⟨hg6, h⟩ := grd_inv h
    refine nVal tt rfl (wNone rfl) rfl rfl rfl rfl rfl hg6 ?_
    refine nVal tt rfl (wNone rfl) rfl rfl rfl rfl rfl trivial ?_
    refine nAlloc tt (wNone rfl) rfl rfl rfl rfl rfl rfl rfl rfl rfl rfl ?_
    refine nNil ?_
    change VO _ _ _ _ _
    refine oStore tt rfl rfl rfl rfl rfl rfl rfl rfl rfl rfl rfl ⟨trivial, trivial, trivial⟩ ?_
    refine vNil ?_
    change VC _ _ _ _
    refine vRegion ?_
    iterate 5 refine oVal tt rfl rfl rfl rfl rfl trivial ?_
    obtain ⟨hg7, h⟩ := grd_inv h
    refine oVal tt rfl rfl rfl rfl rfl hg7 ?_
    iterate 4 refine oVal tt rfl rfl rfl rfl rfl trivial ?_
    refine oVal tt rfl rfl rfl rfl rfl hg7 ?_
    obtain ⟨hg8, h⟩ := grd_inv h
    refine oVal tt rfl rfl rfl rfl rfl hg8 ?_
    iterate 4 refine oVal tt rfl rfl rfl rfl rfl trivial ?_
    obtain ⟨hg9, h⟩ := grd_inv h
    refine oVal tt rfl rfl rfl rfl rfl hg9 ?_
    iterate 4 refine oVal tt rfl rfl rfl rfl rfl trivial ?_
    refine oVal tt rfl rfl rfl rfl rfl hg9 ?_
    obtain ⟨hg10, h⟩ := grd_inv h
    refine oVal tt rfl rfl rfl rfl rfl hg10 ?_
    obtain ⟨hg11, h⟩ := grd_inv h
    refine oVal tt rfl rfl rfl rfl rfl hg11 ?_
    refine oBuild tt rfl rfl rfl rfl rfl rfl rfl rfl rfl rfl rfl ?_
    obtain ⟨hg12, h⟩ := grd_inv h
    refine oAppend tt rfl rfl rfl rfl rfl rfl rfl rfl rfl rfl rfl rfl rfl rfl rfl rfl (Nat.le_of_eq (Nat.zero_add _)) hg12 ?_
    refine oVal tt rfl rfl rfl rfl rfl trivial ?_
    refine vNil ?_
    change VC _ _ _ _
    refine vRegion ?_
    refine oVal tt rfl rfl rfl rfl rfl trivial ?_
    obtain ⟨hg13, h⟩ := grd_inv h
    refine oVal tt rfl rfl rfl rfl rfl hg13 ?_
    refine oVal tt rfl rfl rfl rfl rfl trivial ?_
    refine vNil ?_
    change ∃ _, _
    exact ⟨((l11 ++ ([(((((f_0.places.getD (((f_0.g.bars.getD ((i12).toNat) (0, 0)).1).toNat) (0, 0)).1) - ((f_0.places.getD (((f_0.g.bars.getD ((i12).toNat) (0, 0)).2).toNat) (0, 0)).1)) * (((f_0.places.getD (((f_0.g.bars.getD ((i12).toNat) (0, 0)).1).toNat) (0, 0)).1) - ((f_0.places.getD (((f_0.g.bars.getD ((i12).toNat) (0, 0)).2).toNat) (0, 0)).1))) + ((((f_0.places.getD (((f_0.g.bars.getD ((i12).toNat) (0, 0)).1).toNat) (0, 0)).2) - ((f_0.places.getD (((f_0.g.bars.getD ((i12).toNat) (0, 0)).2).toNat) (0, 0)).2)) * (((f_0.places.getD (((f_0.g.bars.getD ((i12).toNat) (0, 0)).1).toNat) (0, 0)).2) - ((f_0.places.getD (((f_0.g.bars.getD ((i12).toNat) (0, 0)).2).toNat) (0, 0)).2))))] : List Int)), (i12 + (1 : Int))), (En.of ⟨rfl, rfl, rfl, trivial⟩ ⟨rfl, trivial⟩ ⟨rfl, trivial⟩), h⟩
   ·replace h := cnd_f hb3 h
    refine vExit ?_
    change ∃ _, _
    exact ⟨l11, (En.of ⟨rfl, trivial⟩ ⟨rfl, trivial⟩ trivial), h⟩
  ·replace h := cnd_f hb1 h
   iterate 2 refine oNoT rfl rfl rfl rfl hb1 rfl rfl ?_
   refine oPickF rfl rfl rfl rfl rfl hb1 rfl ?_
   refine vNil ?_
   change VC _ _ _ _
   refine vCondF rfl rfl ?_
   refine vExit ?_
   change ∃ _, _
   exact ⟨l11, (En.of ⟨rfl, trivial⟩ ⟨rfl, trivial⟩ trivial), h⟩
def S_AreSameLengths (N : Nat) (a_0 : Frm) (b_1 : Frm) : Option (Bool) :=
 (S_IsFramework N a_0).bind fun v1 =>
 cnd v1 (
  (S_IsFramework N b_1).bind fun v2 =>
  cnd v2 (
   (S_EqualGraphs N a_0.g b_1.g).bind fun v3 =>
   cnd v3 (
    (S_SquareLengths N a_0).bind fun v4 =>
    (S_SquareLengths N b_1).bind fun v5 =>
    (S_l6Same N v4 v5).bind fun v6 =>
    some v6) (
    some false)) (
   some false)) (
  some false)
set_option maxRecDepth 20000 in
set_option maxHeartbeats 1600000 in
theorem S_AreSameLengths_w (N : Nat) (a_0 : Frm) (b_1 : Frm) (r : Bool) (h : S_AreSameLengths N a_0 b_1 = some r) : PCall Tryz.prog 106 [fD a_0, fD b_1] [] (.bool r) := by
 unfold S_AreSameLengths at h
 refine pcall_intro (TT := TT) tt Tryz.func106 rfl rfl Tryz.ntmps106 (congrArg Array.toList Tryz.results106) rfl rfl fun w0 => ?_
 refine vSeq ?_
 refine vRegion ?_
 iterate 2 refine oBox rfl rfl rfl rfl rfl rfl rfl rfl rfl ?_
 refine oVal tt rfl rfl rfl rfl rfl trivial ?_
 refine vNil ?_
 change VC _ _ _ _
 refine vSeq ?_
 refine vRegionN 17 [15] [0, 1, 3, 7, 15, 31, 63, 127, 255, 127, 639, 2047, 4095, 8191, 16383, 32767, 16383, 131071, 262143, 524287, 1048575] (by kernel_rfl) (by kernel_rfl) (by kernel_rfl) (by kernel_rfl) (by kernel_rfl) rfl (by rfl) ?_
 refine nVal tt rfl (wNone rfl) rfl rfl rfl rfl rfl trivial ?_
 obtain ⟨v1, hc1, h⟩ := bind_inv h
 refine nCall (S_IsFramework_w N a_0 v1 hc1) rfl (wNone rfl) rfl rfl rfl rfl rfl rfl rfl rfl ⟨⟨rfl, rfl, rfl, trivial⟩, trivial⟩ ?_
 refine nVal tt rfl (wNone rfl) rfl rfl rfl rfl rfl trivial ?_
 refine nSplit rfl rfl rfl (fun hb2 => ?_) (fun hb2 => ?_)
 ·replace h := cnd_t hb2 h
  refine nVal tt rfl (wSome rfl rfl rfl rfl hb2) rfl rfl rfl rfl rfl trivial ?_
  obtain ⟨v2, hc3, h⟩ := bind_inv h
  refine nCall (S_IsFramework_w N b_1 v2 hc3) rfl (wSome rfl rfl rfl rfl hb2) rfl rfl rfl rfl rfl rfl rfl rfl ⟨⟨rfl, rfl, rfl, trivial⟩, trivial⟩ ?_
  refine nPickT rfl (wNone rfl) rfl rfl rfl hb2 rfl rfl ?_
  refine nVal tt rfl (wNone rfl) rfl rfl rfl rfl rfl trivial ?_
  refine nSplit rfl rfl rfl (fun hb4 => ?_) (fun hb4 => ?_)
  ·replace h := cnd_t hb4 h
   iterate 4 refine nVal tt rfl (wSome rfl rfl rfl rfl hb4) rfl rfl rfl rfl rfl trivial ?_
   obtain ⟨v3, hc5, h⟩ := bind_inv h
   refine nCall (S_EqualGraphs_w N a_0.g b_1.g v3 hc5) rfl (wSome rfl rfl rfl rfl hb4) rfl rfl rfl rfl rfl rfl rfl rfl ⟨⟨rfl, rfl, trivial⟩, ⟨rfl, rfl, trivial⟩, trivial⟩ ?_
   refine nPickT rfl (wNone rfl) rfl rfl rfl hb4 rfl rfl ?_
   refine nVal tt rfl (wNone rfl) rfl rfl rfl rfl rfl trivial ?_
   refine nSplit rfl rfl rfl (fun hb6 => ?_) (fun hb6 => ?_)
   ·replace h := cnd_t hb6 h
    refine nVal tt rfl (wSome rfl rfl rfl rfl hb6) rfl rfl rfl rfl rfl trivial ?_
    obtain ⟨v4, hc7, h⟩ := bind_inv h
    refine nCallR (S_SquareLengths_w N a_0 v4 hc7) rfl (wSome rfl rfl rfl rfl hb6) rfl rfl rfl rfl rfl rfl (by first | rfl | kernel_rfl | (simp [nrL, nm, gdst, nmT, rowB]; done)) rfl (by first | rfl | kernel_rfl | (simp [chkE, nrL, nm, gdst, nmT, rowB, hid, ment, mentA, mentS]; done) | (simp [chkE, nrL, nm, gdst, nmT, rowB, hid, ment, mentA, mentS]; decide)) ⟨⟨rfl, rfl, rfl, trivial⟩, trivial⟩ ?_
    refine nVal tt rfl (wSome rfl rfl rfl rfl hb6) rfl rfl rfl rfl rfl trivial ?_
    refine nNil ?_
    change VO _ _ _ _ _
    obtain ⟨v5, hc8, h⟩ := bind_inv h
    refine oCallG (S_SquareLengths_w N b_1 v5 hc8) rfl rfl rfl rfl hb6 rfl rfl rfl rfl rfl rfl rfl ⟨⟨rfl, rfl, rfl, trivial⟩, trivial⟩ ?_
    obtain ⟨v6, hc9, h⟩ := bind_inv h
    refine oCallG (S_l6Same_w N v4 v5 v6 hc9) rfl rfl rfl rfl hb6 rfl rfl rfl rfl rfl rfl rfl ⟨(.inl ⟨rfl, rfl⟩), (.inl ⟨rfl, rfl⟩), trivial⟩ ?_
    refine oPick rfl rfl rfl rfl rfl hb6 rfl ?_
    refine oVal tt rfl rfl rfl rfl rfl trivial ?_
    refine vNil ?_
    change VC _ _ _ _
    refine vRet ?_
    change ∃ _, _
    cases h
    exact ⟨[], _, rfl, trivial, rfl, (.eq rfl), rfl⟩
   ·replace h := cnd_f hb6 h
    iterate 3 refine nNoT rfl rfl rfl rfl hb6 rfl rfl ?_
    refine nNil ?_
    change VO _ _ _ _ _
    iterate 2 refine oNoT rfl rfl rfl rfl hb6 rfl rfl ?_
    refine oPickF rfl rfl rfl rfl rfl hb6 rfl ?_
    refine oVal tt rfl rfl rfl rfl rfl trivial ?_
    refine vNil ?_
    change VC _ _ _ _
    refine vRet ?_
    change ∃ _, _
    cases h
    exact ⟨[], _, rfl, trivial, rfl, (.eq rfl), rfl⟩
  ·replace h := cnd_f hb4 h
   iterate 5 refine nNoT rfl rfl rfl rfl hb4 rfl rfl ?_
   refine nPickF rfl (wNone rfl) rfl rfl rfl hb4 rfl rfl ?_
   refine nVal tt rfl (wNone rfl) rfl rfl rfl rfl rfl trivial ?_
   iterate 3 refine nNoT rfl rfl rfl rfl rfl rfl rfl ?_
   refine nNil ?_
   change VO _ _ _ _ _
   iterate 2 refine oNoT rfl rfl rfl rfl rfl rfl rfl ?_
   refine oPickF rfl rfl rfl rfl rfl rfl rfl ?_
   refine oVal tt rfl rfl rfl rfl rfl trivial ?_
   refine vNil ?_
   change VC _ _ _ _
   refine vRet ?_
   change ∃ _, _
   cases h
   exact ⟨[], _, rfl, trivial, rfl, (.eq rfl), rfl⟩
 ·replace h := cnd_f hb2 h
  iterate 2 refine nNoT rfl rfl rfl rfl hb2 rfl rfl ?_
  refine nPickF rfl (wNone rfl) rfl rfl rfl hb2 rfl rfl ?_
  refine nVal tt rfl (wNone rfl) rfl rfl rfl rfl rfl trivial ?_
  iterate 5 refine nNoT rfl rfl rfl rfl rfl rfl rfl ?_
  refine nPickF rfl (wNone rfl) rfl rfl rfl rfl rfl rfl ?_
  refine nVal tt rfl (wNone rfl) rfl rfl rfl rfl rfl trivial ?_
  iterate 3 refine nNoT rfl rfl rfl rfl rfl rfl rfl ?_
  refine nNil ?_
  change VO _ _ _ _ _
  iterate 2 refine oNoT rfl rfl rfl rfl rfl rfl rfl ?_
  refine oPickF rfl rfl rfl rfl rfl rfl rfl ?_
  refine oVal tt rfl rfl rfl rfl rfl trivial ?_
  refine vNil ?_
  change VC _ _ _ _
  refine vRet ?_
  change ∃ _, _
  cases h
  exact ⟨[], _, rfl, trivial, rfl, (.eq rfl), rfl⟩
def S_IsPose_l1 (N : Nat) (l_0 : Lnk) (p_1 : List (Int × Int)) (k : Unit → Option (Bool)) : Nat → Int → Option (Bool)
 | 0, _ => none
 | n + 1, i5 =>
  cnd (decide (i5 < (l_0.ground.length : Int))) (
   grd (0 ≤ i5 ∧ i5 < (l_0.ground.length : Int)) <|
   grd (0 ≤ (l_0.ground.getD ((i5).toNat) 0) ∧ (l_0.ground.getD ((i5).toNat) 0) < (p_1.length : Int)) <|
   grd (0 ≤ (l_0.ground.getD ((i5).toNat) 0) ∧ (l_0.ground.getD ((i5).toNat) 0) < (l_0.f.places.length : Int)) <|
   cnd (!(((p_1.getD (((l_0.ground.getD ((i5).toNat) 0)).toNat) (0, 0)).1 == (l_0.f.places.getD (((l_0.ground.getD ((i5).toNat) 0)).toNat) (0, 0)).1) && ((p_1.getD (((l_0.ground.getD ((i5).toNat) 0)).toNat) (0, 0)).2 == (l_0.f.places.getD (((l_0.ground.getD ((i5).toNat) 0)).toNat) (0, 0)).2))) (
    some false) (
    grd (Rg64 (i5 + (1 : Int))) <|
    S_IsPose_l1 N l_0 p_1 k n (i5 + (1 : Int)))) (
   k ())
def S_IsPose (N : Nat) (l_0 : Lnk) (p_1 : List (Int × Int)) : Option (Bool) :=
 (S_IsLinkage N l_0).bind fun v1 =>
 cnd (!v1) (
  some false) (
  cnd ((p_1.length : Int) != (l_0.f.places.length : Int)) (
   some false) (
   S_IsPose_l1 N l_0 p_1 (fun (_ : Unit) =>
      (S_AreSameLengths N l_0.f (⟨⟨l_0.f.g.n, l_0.f.g.bars⟩, p_1⟩ : Frm)).bind fun v3 =>
      some v3) N (0 : Int)))
set_option maxRecDepth 20000 in
set_option maxHeartbeats 1600000 in
theorem S_IsPose_w (N : Nat) (l_0 : Lnk) (p_1 : List (Int × Int)) (r : Bool) (h : S_IsPose N l_0 p_1 = some r) : PCall Tryz.prog 85 [lD l_0, .ro false (.pairs p_1)] [] (.bool r) := by
 unfold S_IsPose at h
 refine pcall_intro (TT := TT) tt Tryz.func85 rfl rfl Tryz.ntmps85 (congrArg Array.toList Tryz.results85) rfl rfl fun w0 => ?_
 refine vSeq ?_
 refine vRegion ?_
 refine oBox rfl rfl rfl rfl rfl rfl rfl rfl rfl ?_
 refine oVal tt rfl rfl rfl rfl rfl trivial ?_
 refine vNil ?_
 change VC _ _ _ _
 iterate 2 refine vSeq ?_
 refine vRegion ?_
 refine oVal tt rfl rfl rfl rfl rfl trivial ?_
 obtain ⟨v1, hc1, h⟩ := bind_inv h
 refine oCall (S_IsLinkage_w N l_0 v1 hc1) rfl rfl rfl rfl rfl rfl rfl rfl ⟨⟨rfl, rfl, rfl, rfl, trivial⟩, trivial⟩ ?_
 iterate 2 refine oVal tt rfl rfl rfl rfl rfl trivial ?_
 refine oSplit rfl rfl rfl (fun hb2 => ?_) (fun hb2 => ?_)
 ·replace h := cnd_t hb2 h
  iterate 7 refine oNoF rfl rfl rfl rfl hb2 rfl rfl ?_
  refine oPick rfl rfl rfl rfl rfl hb2 rfl ?_
  refine vNil ?_
  change VC _ _ _ _
  refine vCondT rfl rfl ?_
  refine vSeq ?_
  refine vRegion ?_
  refine oVal tt rfl rfl rfl rfl rfl trivial ?_
  refine vNil ?_
  change VC _ _ _ _
  refine vRet ?_
  change ∃ _, _
  cases h
  exact ⟨[], _, rfl, trivial, rfl, (.eq rfl), rfl⟩
 ·replace h := cnd_f hb2 h
  iterate 7 refine oValG tt rfl rfl rfl rfl rfl hb2 rfl rfl rfl trivial ?_
  refine oPickF rfl rfl rfl rfl rfl hb2 rfl ?_
  refine vNil ?_
  change VC _ _ _ _
  refine vCond rfl (fun hb3 => ?_) (fun hb3 => ?_)
  ·replace h := cnd_t hb3 h
   refine vSeq ?_
   refine vRegion ?_
   refine oVal tt rfl rfl rfl rfl rfl trivial ?_
   refine vNil ?_
   change VC _ _ _ _
   refine vRet ?_
   change ∃ _, _
   cases h
   exact ⟨[], _, rfl, trivial, rfl, (.eq rfl), rfl⟩
  ·replace h := cnd_f hb3 h
   refine vSkip ?_
   change VC _ _ _ _
   iterate 2 refine vSeq ?_
   refine vRegion ?_
   refine oVal tt rfl rfl rfl rfl rfl trivial ?_
   refine vNil ?_
   change VC _ _ _ _
   refine vJoin (F := fun k => S_IsPose_l1 N l_0 p_1 k) h (α := Unit) (J := fun (_ : Unit) => (⟨[(1, .ro false (.pairs p_1)), (2, .ptr 2 0)], [], [(2, some [.int l_0.f.g.n, .ro false (.pairs l_0.f.g.bars), .ro false (.pairs l_0.f.places), .ro false (.ints l_0.ground)])]⟩ : PS)) ?_ ?_
   ·rintro ⟨⟩ h
    show VC _ _ _ (⟨[(1, .ro false (.pairs p_1)), (2, .ptr 2 0)], [], [(2, some [.int l_0.f.g.n, .ro false (.pairs l_0.f.g.bars), .ro false (.pairs l_0.f.places), .ro false (.ints l_0.ground)])]⟩ : PS)
    refine vSeq ?_
    refine vRegion ?_
    iterate 6 refine oVal tt rfl rfl rfl rfl rfl trivial ?_
    refine oPure (wNone rfl) (pBuild bld_impl_Framework rfl rfl) rfl rfl ?_
    obtain ⟨v3, hc4, h⟩ := bind_inv h
    refine oCall (S_AreSameLengths_w N l_0.f (⟨⟨l_0.f.g.n, l_0.f.g.bars⟩, p_1⟩ : Frm) v3 hc4) rfl rfl rfl rfl rfl rfl rfl rfl ⟨⟨rfl, rfl, rfl, trivial⟩, ⟨rfl, rfl, rfl, trivial⟩, trivial⟩ ?_
    refine oVal tt rfl rfl rfl rfl rfl trivial ?_
    refine vNil ?_
    change VC _ _ _ _
    refine vRet ?_
    change ∃ _, _
    cases h
    exact ⟨[], _, rfl, trivial, rfl, (.eq rfl), rfl⟩
   ·intro k h
    refine vBlock ?_
    refine vLoopS (α := Int) (fun (i5 : Int) => (⟨[(1, .ro false (.pairs p_1)), (2, .ptr 2 0), (5, .int i5)], [], [(2, some [.int l_0.f.g.n, .ro false (.pairs l_0.f.g.bars), .ro false (.pairs l_0.f.places), .ro false (.ints l_0.ground)])]⟩ : PS)) (S_IsPose_l1 N l_0 p_1 k) h (En.of ⟨rfl, rfl, rfl, trivial⟩ trivial ⟨rfl, trivial⟩) (fun _ => rfl) ?_
    rintro n i5 h
    rw [S_IsPose_l1] at h
    show VC _ _ _ (⟨[(1, .ro false (.pairs p_1)), (2, .ptr 2 0), (5, .int i5)], [], [(2, some [.int l_0.f.g.n, .ro false (.pairs l_0.f.g.bars), .ro false (.pairs l_0.f.places), .ro false (.ints l_0.ground)])]⟩ : PS)
    iterate 2 refine vSeq ?_
    refine vRegion ?_
    iterate 5 refine oVal tt rfl rfl rfl rfl rfl trivial ?_
    refine vNil ?_
    change VC _ _ _ _
    refine vCond rfl (fun hb5 => ?_) (fun hb5 => ?_)
    ·replace h := cnd_t hb5 h
     refine vSkip ?_
     change VC _ _ _ _
     refine vSeq ?_
     refine vBlock ?_
     refine vSeq ?_
     refine vRegionD (by kernel_rfl) (by kernel_rfl) ?_
     iterate 4 refine cVal tt rfl (wNone rfl) rfl rfl rfl trivial ?_
     obtain ⟨hg6, h⟩ := grd_inv h
     refine cVal tt rfl (wNone rfl) rfl rfl rfl hg6 ?_
     refine cVal tt rfl (wNone rfl) rfl rfl rfl trivial ?_
     obtain ⟨hg7, h⟩ := grd_inv h
     refine cVal tt rfl (wNone rfl) rfl rfl rfl hg7 ?_
     iterate 7 refine cVal tt rfl (wNone rfl) rfl rfl rfl trivial ?_
     refine cVal tt rfl (wNone rfl) rfl rfl rfl hg6 ?_
     refine cVal tt rfl (wNone rfl) rfl rfl rfl trivial ?_
     obtain ⟨hg8, h⟩ := grd_inv h
     refine cVal tt rfl (wNone rfl) rfl rfl rfl hg8 ?_
     refine cVal tt rfl (wNone rfl) rfl rfl rfl trivial ?_
     refine cPure (wNone rfl) (pNeP eqP_impl_Place rfl rfl rfl) rfl rfl ?_
     refine cNil ?_
     change VC _ _ _ _
     refine vCond rfl (fun hb9 => ?_) (fun hb9 => ?_)
     ·replace h := cnd_t hb9 h
      refine vSeq ?_
      refine vRegion ?_
      refine oVal tt rfl rfl rfl rfl rfl trivial ?_
      refine vNil ?_
      change VC _ _ _ _
      refine vRet ?_
      change ∃ _, _
      cases h
      exact ⟨[], _, rfl, trivial, rfl, (.eq rfl), rfl⟩
     ·replace h := cnd_f hb9 h
      refine vSkip ?_
      change VC _ _ _ _
      refine vRegion ?_
      refine oVal tt rfl rfl rfl rfl rfl trivial ?_
      obtain ⟨hg10, h⟩ := grd_inv h
      refine oVal tt rfl rfl rfl rfl rfl hg10 ?_
      refine oVal tt rfl rfl rfl rfl rfl trivial ?_
      refine vNil ?_
      change ∃ _, _
      exact ⟨(i5 + (1 : Int)), (En.of ⟨rfl, rfl, rfl, trivial⟩ trivial ⟨rfl, trivial⟩), h⟩
    ·replace h := cnd_f hb5 h
     refine vExit ?_
     change ∃ _, _
     exact ⟨(), (En.of ⟨rfl, rfl, trivial⟩ trivial ⟨rfl, trivial⟩), h⟩
def M_Framework_square (N : Nat) (f_0 : Frm) (a_1 : Int) (b_2 : Int) : Option (Int) :=
 grd (0 ≤ a_1 ∧ a_1 < (f_0.places.length : Int)) <|
 grd (0 ≤ b_2 ∧ b_2 < (f_0.places.length : Int)) <|
 grd (Rg64 (((f_0.places.getD ((a_1).toNat) (0, 0)).1) - ((f_0.places.getD ((b_2).toNat) (0, 0)).1))) <|
 grd (Rg64 (((f_0.places.getD ((a_1).toNat) (0, 0)).2) - ((f_0.places.getD ((b_2).toNat) (0, 0)).2))) <|
 grd (Rg64 ((((f_0.places.getD ((a_1).toNat) (0, 0)).1) - ((f_0.places.getD ((b_2).toNat) (0, 0)).1)) * (((f_0.places.getD ((a_1).toNat) (0, 0)).1) - ((f_0.places.getD ((b_2).toNat) (0, 0)).1)))) <|
 grd (Rg64 ((((f_0.places.getD ((a_1).toNat) (0, 0)).2) - ((f_0.places.getD ((b_2).toNat) (0, 0)).2)) * (((f_0.places.getD ((a_1).toNat) (0, 0)).2) - ((f_0.places.getD ((b_2).toNat) (0, 0)).2)))) <|
 grd (Rg64 (((((f_0.places.getD ((a_1).toNat) (0, 0)).1) - ((f_0.places.getD ((b_2).toNat) (0, 0)).1)) * (((f_0.places.getD ((a_1).toNat) (0, 0)).1) - ((f_0.places.getD ((b_2).toNat) (0, 0)).1))) + ((((f_0.places.getD ((a_1).toNat) (0, 0)).2) - ((f_0.places.getD ((b_2).toNat) (0, 0)).2)) * (((f_0.places.getD ((a_1).toNat) (0, 0)).2) - ((f_0.places.getD ((b_2).toNat) (0, 0)).2))))) <|
 some (((((f_0.places.getD ((a_1).toNat) (0, 0)).1) - ((f_0.places.getD ((b_2).toNat) (0, 0)).1)) * (((f_0.places.getD ((a_1).toNat) (0, 0)).1) - ((f_0.places.getD ((b_2).toNat) (0, 0)).1))) + ((((f_0.places.getD ((a_1).toNat) (0, 0)).2) - ((f_0.places.getD ((b_2).toNat) (0, 0)).2)) * (((f_0.places.getD ((a_1).toNat) (0, 0)).2) - ((f_0.places.getD ((b_2).toNat) (0, 0)).2))))
set_option maxRecDepth 20000 in
set_option maxHeartbeats 1600000 in
theorem M_Framework_square_w (N : Nat) (f_0 : Frm) (a_1 : Int) (b_2 : Int) (r : Int) (h : M_Framework_square N f_0 a_1 b_2 = some r) : PCall Tryz.prog 110 [fD f_0, .int a_1, .int b_2] [] (.int r) := by
 unfold M_Framework_square at h
 refine pcall_intro (TT := TT) tt Tryz.func110 rfl rfl Tryz.ntmps110 (congrArg Array.toList Tryz.results110) rfl rfl fun w0 => ?_
 refine vSeq ?_
 refine vRegion ?_
 refine oBox rfl rfl rfl rfl rfl rfl rfl rfl rfl ?_
 refine oVal tt rfl rfl rfl rfl rfl trivial ?_
 refine vNil ?_
 change VC _ _ _ _
 refine vSeq ?_
 refine vRegionD (by kernel_rfl) (by kernel_rfl) ?_
 iterate 3 refine cVal tt rfl (wNone rfl) rfl rfl rfl trivial ?_
 obtain ⟨hg1, h⟩ := grd_inv h
 refine cVal tt rfl (wNone rfl) rfl rfl rfl hg1 ?_
 iterate 5 refine cVal tt rfl (wNone rfl) rfl rfl rfl trivial ?_
 obtain ⟨hg2, h⟩ := grd_inv h
 refine cVal tt rfl (wNone rfl) rfl rfl rfl hg2 ?_
 iterate 2 refine cVal tt rfl (wNone rfl) rfl rfl rfl trivial ?_
 obtain ⟨hg3, h⟩ := grd_inv h
 refine cVal tt rfl (wNone rfl) rfl rfl rfl hg3 ?_
 iterate 3 refine cVal tt rfl (wNone rfl) rfl rfl rfl trivial ?_
 refine cVal tt rfl (wNone rfl) rfl rfl rfl hg1 ?_
 iterate 5 refine cVal tt rfl (wNone rfl) rfl rfl rfl trivial ?_
 refine cVal tt rfl (wNone rfl) rfl rfl rfl hg2 ?_
 iterate 2 refine cVal tt rfl (wNone rfl) rfl rfl rfl trivial ?_
 obtain ⟨hg4, h⟩ := grd_inv h
 refine cVal tt rfl (wNone rfl) rfl rfl rfl hg4 ?_
 iterate 2 refine cVal tt rfl (wNone rfl) rfl rfl rfl trivial ?_
 refine cNil ?_
 change VC _ _ _ _
 refine vSeq ?_
 refine vRegion ?_
 iterate 2 refine oVal tt rfl rfl rfl rfl rfl trivial ?_
 obtain ⟨hg5, h⟩ := grd_inv h
 refine oVal tt rfl rfl rfl rfl rfl hg5 ?_
 iterate 2 refine oVal tt rfl rfl rfl rfl rfl trivial ?_
 obtain ⟨hg6, h⟩ := grd_inv h
 refine oVal tt rfl rfl rfl rfl rfl hg6 ?_
 obtain ⟨hg7, h⟩ := grd_inv h
 refine oVal tt rfl rfl rfl rfl rfl hg7 ?_
 refine oVal tt rfl rfl rfl rfl rfl trivial ?_
 refine vNil ?_
 change VC _ _ _ _
 refine vRet ?_
 change ∃ _, _
 cases h
 exact ⟨[], _, rfl, trivial, rfl, (.eq rfl), rfl⟩
def I_IsPose_l1 (N : Nat) (l_0 : Lnk) (p_1 : List (Int × Int)) (k : Unit → Option (Bool)) : Nat → Int → Option (Bool)
 | 0, _ => none
 | n + 1, x19 =>
  cnd (decide (x19 < (l_0.f.g.bars.length : Int))) (
   grd (0 ≤ x19 ∧ x19 < (l_0.f.g.bars.length : Int)) <|
   (M_Framework_square N l_0.f ((l_0.f.g.bars.getD ((x19).toNat) (0, 0)).1) ((l_0.f.g.bars.getD ((x19).toNat) (0, 0)).2)).bind fun v22 =>
   (M_Framework_square N (⟨⟨(0 : Int), ([] : List (Int × Int))⟩, p_1⟩ : Frm) ((l_0.f.g.bars.getD ((x19).toNat) (0, 0)).1) ((l_0.f.g.bars.getD ((x19).toNat) (0, 0)).2)).bind fun v23 =>
   cnd (v22 != v23) (
    some false) (
    grd (Rg64 (x19 + (1 : Int))) <|
    I_IsPose_l1 N l_0 p_1 k n (x19 + (1 : Int)))) (
   k ())
def I_IsPose_l2 (N : Nat) (l_0 : Lnk) (p_1 : List (Int × Int)) (k : Unit → Option (Bool)) : Nat → Int → Option (Bool)
 | 0, _ => none
 | n + 1, x27 =>
  cnd (decide (x27 < (p_1.length : Int))) (
   grd (0 ≤ x27 ∧ x27 < (p_1.length : Int)) <|
   (I_isPlace N (p_1.getD ((x27).toNat) (0, 0))).bind fun v30 =>
   cnd (!v30) (
    some false) (
    (G_Contains_int N l_0.ground x27).bind fun v31 =>
    cnd v31 (
     grd (0 ≤ x27 ∧ x27 < (l_0.f.places.length : Int)) <|
     cnd (!(((p_1.getD ((x27).toNat) (0, 0)).1 == (l_0.f.places.getD ((x27).toNat) (0, 0)).1) && ((p_1.getD ((x27).toNat) (0, 0)).2 == (l_0.f.places.getD ((x27).toNat) (0, 0)).2))) (
      some false) (
      grd (Rg64 (x27 + (1 : Int))) <|
      I_IsPose_l2 N l_0 p_1 k n (x27 + (1 : Int)))) (
     grd (Rg64 (x27 + (1 : Int))) <|
     I_IsPose_l2 N l_0 p_1 k n (x27 + (1 : Int))))) (
   k ())
def I_IsPose (N : Nat) (l_0 : Lnk) (p_1 : List (Int × Int)) : Option (Bool) :=
 (I_IsLinkage N l_0).bind fun v1 =>
 cnd (!v1) (
  some false) (
  cnd ((p_1.length : Int) != (l_0.f.places.length : Int)) (
   some false) (
   I_IsPose_l2 N l_0 p_1 (fun (_ : Unit) =>
      I_IsPose_l1 N l_0 p_1 (fun (_ : Unit) =>
         some true) N (0 : Int)) N (0 : Int)))
set_option maxRecDepth 20000 in
set_option maxHeartbeats 1600000 in
theorem I_IsPose_w (N : Nat) (l_0 : Lnk) (p_1 : List (Int × Int)) (r : Bool) (h : I_IsPose N l_0 p_1 = some r) : PCall Tryz.prog 91 [lD l_0, .ro false (.pairs p_1)] [] (.bool r) := by
 unfold I_IsPose at h
 refine pcall_intro (TT := TT) tt Tryz.func91 rfl rfl Tryz.ntmps91 (congrArg Array.toList Tryz.results91) rfl rfl fun w0 => ?_
 refine vSeq ?_
 refine vRegion ?_
 refine oBox rfl rfl rfl rfl rfl rfl rfl rfl rfl ?_
 refine oVal tt rfl rfl rfl rfl rfl trivial ?_
 refine vNil ?_
 change VC _ _ _ _
 refine vSeq ?_
 refine vRegion ?_
 iterate 2 refine oVal tt rfl rfl rfl rfl rfl trivial ?_
 refine oAlloc tt rfl rfl rfl rfl rfl rfl rfl rfl rfl ?_
 refine oStore tt rfl rfl rfl rfl rfl rfl rfl rfl rfl rfl rfl ⟨trivial, trivial, trivial, trivial⟩ ?_
 refine vNil ?_
 change VC _ _ _ _
 iterate 2 refine vSeq ?_
 refine vRegion ?_
 refine oVal tt rfl rfl rfl rfl rfl trivial ?_
 obtain ⟨v1, hc1, h⟩ := bind_inv h
 refine oCall (I_IsLinkage_w N l_0 v1 hc1) rfl rfl rfl rfl rfl rfl rfl rfl ⟨⟨rfl, rfl, rfl, rfl, trivial⟩, trivial⟩ ?_
 iterate 2 refine oVal tt rfl rfl rfl rfl rfl trivial ?_
 refine oSplit rfl rfl rfl (fun hb2 => ?_) (fun hb2 => ?_)
 ·replace h := cnd_t hb2 h
  iterate 6 refine oNoF rfl rfl rfl rfl hb2 rfl rfl ?_
  refine oPick rfl rfl rfl rfl rfl hb2 rfl ?_
  refine vNil ?_
  change VC _ _ _ _
  refine vCondT rfl rfl ?_
  refine vSeq ?_
  refine vRegion ?_
  refine oVal tt rfl rfl rfl rfl rfl trivial ?_
  refine vNil ?_
  change VC _ _ _ _
  refine vRet ?_
  change ∃ _, _
  cases h
  exact ⟨[], _, rfl, trivial, rfl, (.eq rfl), rfl⟩
 ·replace h := cnd_f hb2 h
  iterate 6 refine oValG tt rfl rfl rfl rfl rfl hb2 rfl rfl rfl trivial ?_
  refine oPickF rfl rfl rfl rfl rfl hb2 rfl ?_
  refine vNil ?_
  change VC _ _ _ _
  refine vCond rfl (fun hb3 => ?_) (fun hb3 => ?_)
  ·replace h := cnd_t hb3 h
   refine vSeq ?_
   refine vRegion ?_
   refine oVal tt rfl rfl rfl rfl rfl trivial ?_
   refine vNil ?_
   change VC _ _ _ _
   refine vRet ?_
   change ∃ _, _
   cases h
   exact ⟨[], _, rfl, trivial, rfl, (.eq rfl), rfl⟩
  ·replace h := cnd_f hb3 h
   refine vSkip ?_
   change VC _ _ _ _
   iterate 2 refine vSeq ?_
   refine vRegion ?_
   iterate 3 refine oVal tt rfl rfl rfl rfl rfl trivial ?_
   refine vNil ?_
   change VC _ _ _ _
   refine vJoin (F := fun k => I_IsPose_l2 N l_0 p_1 k) h (α := Unit) (J := fun (_ : Unit) => (⟨[(1, .ro false (.pairs p_1)), (5, .ptr 5 0)], [], [(5, some [.int l_0.f.g.n, .ro false (.pairs l_0.f.g.bars), .ro false (.pairs l_0.f.places)])]⟩ : PS)) ?_ ?_
   ·rintro ⟨⟩ h
    show VC _ _ _ (⟨[(1, .ro false (.pairs p_1)), (5, .ptr 5 0)], [], [(5, some [.int l_0.f.g.n, .ro false (.pairs l_0.f.g.bars), .ro false (.pairs l_0.f.places)])]⟩ : PS)
    refine vSeq ?_
    refine vRegion ?_
    refine oVal tt rfl rfl rfl rfl rfl trivial ?_
    refine oPure (wNone rfl) (pBuild bld_impl_Framework rfl rfl) rfl rfl ?_
    refine oAlloc tt rfl rfl rfl rfl rfl rfl rfl rfl rfl ?_
    refine oStore tt rfl rfl rfl rfl rfl rfl rfl rfl rfl rfl rfl ⟨trivial, trivial, trivial, trivial⟩ ?_
    refine vNil ?_
    change VC _ _ _ _
    iterate 2 refine vSeq ?_
    refine vRegion ?_
    iterate 5 refine oVal tt rfl rfl rfl rfl rfl trivial ?_
    refine vNil ?_
    change VC _ _ _ _
    refine vJoin (F := fun k => I_IsPose_l1 N l_0 p_1 k) h (α := Unit) (J := fun (_ : Unit) => (⟨[], [], []⟩ : PS)) ?_ ?_
    ·rintro ⟨⟩ h
     show VC _ _ _ (⟨[], [], []⟩ : PS)
     refine vSeq ?_
     refine vRegion ?_
     refine oVal tt rfl rfl rfl rfl rfl trivial ?_
     refine vNil ?_
     change VC _ _ _ _
     refine vRet ?_
     change ∃ _, _
     cases h
     exact ⟨[], _, rfl, trivial, rfl, (.eq rfl), rfl⟩
    ·intro k h
     refine vBlock ?_
     refine vLoopS (α := Int) (fun (x19 : Int) => (⟨[(5, .ptr 5 0), (8, .ptr 8 0), (54, .ro false (.pairs l_0.f.g.bars)), (55, .int (l_0.f.g.bars.length : Int)), (56, .int x19)], [], [(5, some [.int l_0.f.g.n, .ro false (.pairs l_0.f.g.bars), .ro false (.pairs l_0.f.places)]), (8, some [.int (0 : Int), .nil, .ro false (.pairs p_1)])]⟩ : PS)) (I_IsPose_l1 N l_0 p_1 k) h (En.of ⟨rfl, rfl, rfl, rfl, rfl, trivial⟩ trivial ⟨rfl, rfl, trivial⟩) (fun _ => rfl) ?_
     rintro n x19 h
     rw [I_IsPose_l1] at h
     show VC _ _ _ (⟨[(5, .ptr 5 0), (8, .ptr 8 0), (54, .ro false (.pairs l_0.f.g.bars)), (55, .int (l_0.f.g.bars.length : Int)), (56, .int x19)], [], [(5, some [.int l_0.f.g.n, .ro false (.pairs l_0.f.g.bars), .ro false (.pairs l_0.f.places)]), (8, some [.int (0 : Int), .nil, .ro false (.pairs p_1)])]⟩ : PS)
     refine vSeq ?_
     refine vRegion ?_
     refine oVal tt rfl rfl rfl rfl rfl trivial ?_
     refine vNil ?_
     change VC _ _ _ _
     refine vSeq ?_
     refine vCond rfl (fun hb4 => ?_) (fun hb4 => ?_)
     ·replace h := cnd_t hb4 h
      refine vSkip ?_
      change VC _ _ _ _
      refine vSeq ?_
      refine vBlock ?_
      refine vSeq ?_
      refine vRegion ?_
      obtain ⟨hg5, h⟩ := grd_inv h
      refine oVal tt rfl rfl rfl rfl rfl hg5 ?_
      refine oVal tt rfl rfl rfl rfl rfl trivial ?_
      refine oAlloc tt rfl rfl rfl rfl rfl rfl rfl rfl rfl ?_
      refine oStore tt rfl rfl rfl rfl rfl rfl rfl rfl rfl rfl rfl ⟨trivial, trivial, trivial⟩ ?_
      refine vNil ?_
      change VC _ _ _ _
      refine vSeq ?_
      refine vRegionD (by kernel_rfl) (by kernel_rfl) ?_
      iterate 5 refine cVal tt rfl (wNone rfl) rfl rfl rfl trivial ?_
      obtain ⟨v22, hc6, h⟩ := bind_inv h
      refine cCall (M_Framework_square_w N l_0.f ((l_0.f.g.bars.getD ((x19).toNat) (0, 0)).1) ((l_0.f.g.bars.getD ((x19).toNat) (0, 0)).2) v22 hc6) rfl (wNone rfl) rfl rfl rfl rfl rfl rfl ⟨⟨rfl, rfl, rfl, trivial⟩, rfl, rfl, trivial⟩ ?_
      iterate 5 refine cVal tt rfl (wNone rfl) rfl rfl rfl trivial ?_
      obtain ⟨v23, hc7, h⟩ := bind_inv h
      refine cCall (M_Framework_square_w N (⟨⟨(0 : Int), ([] : List (Int × Int))⟩, p_1⟩ : Frm) ((l_0.f.g.bars.getD ((x19).toNat) (0, 0)).1) ((l_0.f.g.bars.getD ((x19).toNat) (0, 0)).2) v23 hc7) rfl (wNone rfl) rfl rfl rfl rfl rfl rfl ⟨⟨rfl, rfl, rfl, trivial⟩, rfl, rfl, trivial⟩ ?_
      refine cVal tt rfl (wNone rfl) rfl rfl rfl trivial ?_
      refine cNil ?_
      change VC _ _ _ _
      refine vCond rfl (fun hb8 => ?_) (fun hb8 => ?_)
      ·replace h := cnd_t hb8 h
       refine vSeq ?_
       refine vRegion ?_
       refine oVal tt rfl rfl rfl rfl rfl trivial ?_
       refine vNil ?_
       change VC _ _ _ _
       refine vRet ?_
       change ∃ _, _
       cases h
       exact ⟨[], _, rfl, trivial, rfl, (.eq rfl), rfl⟩
      ·replace h := cnd_f hb8 h
       refine vSkip ?_
       change VC _ _ _ _
       refine vRegion ?_
       obtain ⟨hg9, h⟩ := grd_inv h
       refine oVal tt rfl rfl rfl rfl rfl hg9 ?_
       refine oVal tt rfl rfl rfl rfl rfl trivial ?_
       refine vNil ?_
       change ∃ _, _
       exact ⟨(x19 + (1 : Int)), (En.of ⟨rfl, rfl, rfl, rfl, rfl, trivial⟩ trivial ⟨rfl, rfl, trivial⟩), h⟩
     ·replace h := cnd_f hb4 h
      refine vExit ?_
      change ∃ _, _
      exact ⟨(), (En.of trivial trivial trivial), h⟩
   ·intro k h
    refine vBlock ?_
    refine vLoopS (α := Int) (fun (x27 : Int) => (⟨[(1, .ro false (.pairs p_1)), (2, .ptr 2 0), (5, .ptr 5 0), (24, .ro false (.pairs p_1)), (25, .int (p_1.length : Int)), (26, .int x27)], [], [(2, some [.int l_0.f.g.n, .ro false (.pairs l_0.f.g.bars), .ro false (.pairs l_0.f.places), .ro false (.ints l_0.ground)]), (5, some [.int l_0.f.g.n, .ro false (.pairs l_0.f.g.bars), .ro false (.pairs l_0.f.places)])]⟩ : PS)) (I_IsPose_l2 N l_0 p_1 k) h (En.of ⟨rfl, rfl, rfl, rfl, rfl, rfl, trivial⟩ trivial ⟨rfl, rfl, trivial⟩) (fun _ => rfl) ?_
    rintro n x27 h
    rw [I_IsPose_l2] at h
    show VC _ _ _ (⟨[(1, .ro false (.pairs p_1)), (2, .ptr 2 0), (5, .ptr 5 0), (24, .ro false (.pairs p_1)), (25, .int (p_1.length : Int)), (26, .int x27)], [], [(2, some [.int l_0.f.g.n, .ro false (.pairs l_0.f.g.bars), .ro false (.pairs l_0.f.places), .ro false (.ints l_0.ground)]), (5, some [.int l_0.f.g.n, .ro false (.pairs l_0.f.g.bars), .ro false (.pairs l_0.f.places)])]⟩ : PS)
    refine vSeq ?_
    refine vRegion ?_
    refine oVal tt rfl rfl rfl rfl rfl trivial ?_
    refine vNil ?_
    change VC _ _ _ _
    refine vSeq ?_
    refine vCond rfl (fun hb10 => ?_) (fun hb10 => ?_)
    ·replace h := cnd_t hb10 h
     refine vSkip ?_
     change VC _ _ _ _
     refine vSeq ?_
     refine vBlock ?_
     refine vSeq ?_
     refine vRegion ?_
     refine oVal tt rfl rfl rfl rfl rfl trivial ?_
     obtain ⟨hg11, h⟩ := grd_inv h
     refine oVal tt rfl rfl rfl rfl rfl hg11 ?_
     refine oVal tt rfl rfl rfl rfl rfl trivial ?_
     refine oAlloc tt rfl rfl rfl rfl rfl rfl rfl rfl rfl ?_
     refine oVal tt rfl rfl rfl rfl rfl trivial ?_
     refine oStore tt rfl rfl rfl rfl rfl rfl rfl rfl rfl rfl rfl ⟨trivial, trivial, trivial⟩ ?_
     refine vNil ?_
     change VC _ _ _ _
     refine vSeq ?_
     refine vRegionD (by kernel_rfl) (by kernel_rfl) ?_
     refine cVal tt rfl (wNone rfl) rfl rfl rfl trivial ?_
     obtain ⟨v30, hc12, h⟩ := bind_inv h
     refine cCall (I_isPlace_w N (p_1.getD ((x27).toNat) (0, 0)) v30 hc12) rfl (wNone rfl) rfl rfl rfl rfl rfl rfl ⟨⟨rfl, rfl, trivial⟩, trivial⟩ ?_
     iterate 2 refine cVal tt rfl (wNone rfl) rfl rfl rfl trivial ?_
     refine cSplit rfl rfl rfl (fun hb13 => ?_) (fun hb13 => ?_)
     ·replace h := cnd_t hb13 h
      iterate 5 refine cNoF rfl rfl rfl rfl hb13 rfl rfl ?_
      iterate 7 refine cNoU rfl rfl rfl rfl rfl ?_
      refine cNoF rfl rfl rfl rfl hb13 rfl rfl ?_
      refine cPickT rfl (wNone rfl) rfl rfl rfl hb13 rfl ?_
      refine cNil ?_
      change VC _ _ _ _
      refine vCondT rfl rfl ?_
      refine vSeq ?_
      refine vRegion ?_
      refine oVal tt rfl rfl rfl rfl rfl trivial ?_
      refine vNil ?_
      change VC _ _ _ _
      refine vRet ?_
      change ∃ _, _
      cases h
      exact ⟨[], _, rfl, trivial, rfl, (.eq rfl), rfl⟩
     ·replace h := cnd_f hb13 h
      iterate 3 refine cVal tt rfl (wSome rfl rfl rfl rfl hb13) rfl rfl rfl trivial ?_
      obtain ⟨v31, hc14, h⟩ := bind_inv h
      refine cCall (G_Contains_int_w N l_0.ground x27 v31 hc14) rfl (wSome rfl rfl rfl rfl hb13) rfl rfl rfl rfl rfl rfl ⟨rfl, rfl, trivial⟩ ?_
      refine cVal tt rfl (wSome rfl rfl rfl rfl hb13) rfl rfl rfl trivial ?_
      refine cSplit rfl rfl rfl (fun hb15 => ?_) (fun hb15 => ?_)
      ·replace h := cnd_t hb15 h
       iterate 4 refine cVal tt rfl (wSome rfl rfl rfl rfl hb15) rfl rfl rfl trivial ?_
       obtain ⟨hg16, h⟩ := grd_inv h
       refine cVal tt rfl (wSome rfl rfl rfl rfl hb15) rfl rfl rfl hg16 ?_
       refine cVal tt rfl (wSome rfl rfl rfl rfl hb15) rfl rfl rfl trivial ?_
       refine cPure (wSome rfl rfl rfl rfl hb15) (pNeP eqP_impl_Place rfl rfl rfl) rfl rfl ?_
       refine cPickT rfl (wSome rfl rfl rfl rfl hb13) rfl rfl rfl hb15 rfl ?_
       refine cPickF rfl (wNone rfl) rfl rfl rfl hb13 rfl ?_
       refine cNil ?_
       change VC _ _ _ _
       refine vCond rfl (fun hb17 => ?_) (fun hb17 => ?_)
       ·replace h := cnd_t hb17 h
        refine vSeq ?_
        refine vRegion ?_
        refine oVal tt rfl rfl rfl rfl rfl trivial ?_
        refine vNil ?_
        change VC _ _ _ _
        refine vRet ?_
        change ∃ _, _
        cases h
        exact ⟨[], _, rfl, trivial, rfl, (.eq rfl), rfl⟩
       ·replace h := cnd_f hb17 h
        refine vSkip ?_
        change VC _ _ _ _
        refine vRegion ?_
        obtain ⟨hg18, h⟩ := grd_inv h
        refine oVal tt rfl rfl rfl rfl rfl hg18 ?_
        refine oVal tt rfl rfl rfl rfl rfl trivial ?_
        refine vNil ?_
        change ∃ _, _
        exact ⟨(x27 + (1 : Int)), (En.of ⟨rfl, rfl, rfl, rfl, rfl, rfl, trivial⟩ trivial ⟨rfl, rfl, trivial⟩), h⟩
      ·replace h := cnd_f hb15 h
       iterate 7 refine cNoT rfl rfl rfl rfl hb15 rfl rfl ?_
       refine cPickF rfl (wSome rfl rfl rfl rfl hb13) rfl rfl rfl hb15 rfl ?_
       refine cPickF rfl (wNone rfl) rfl rfl rfl hb13 rfl ?_
       refine cNil ?_
       change VC _ _ _ _
       refine vCondF rfl rfl ?_
       refine vSkip ?_
       change VC _ _ _ _
       refine vRegion ?_
       obtain ⟨hg19, h⟩ := grd_inv h
       refine oVal tt rfl rfl rfl rfl rfl hg19 ?_
       refine oVal tt rfl rfl rfl rfl rfl trivial ?_
       refine vNil ?_
       change ∃ _, _
       exact ⟨(x27 + (1 : Int)), (En.of ⟨rfl, rfl, rfl, rfl, rfl, rfl, trivial⟩ trivial ⟨rfl, rfl, trivial⟩), h⟩
    ·replace h := cnd_f hb10 h
     refine vExit ?_
     change ∃ _, _
     exact ⟨(), (En.of ⟨rfl, rfl, trivial⟩ trivial ⟨rfl, trivial⟩), h⟩
end Go.Proofs.YtmoamglpocjhgaaGreat
