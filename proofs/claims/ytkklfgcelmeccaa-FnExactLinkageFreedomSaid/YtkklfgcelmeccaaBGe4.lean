/- Texts that the proof needs, put together: G11 G12 G5 G14 G15 Pb G24 G26 Pmk Pc Pd Pe Pf G19 G20 Pj G64 M7 M8 M9. -/
import Derived.Test.YtkklfgcelmeccaaBGe3
set_option linter.unusedVariables false
set_option linter.unusedSimpArgs false
namespace Go.Proofs.Ytkklfgcelmeccaa
open Go.RowKit
def L_toPlaceS_l1 (N : Nat) (a_0 : List (Int × Int)) (k : (List (Int × Int)) → Option (List (Int × Int))) : Nat → ((List (Int × Int)) × Int) → Option (List (Int × Int))
 | 0, _ => none
 | n + 1, (l9, i10) =>
  cnd (decide (i10 < (a_0.length : Int))) (
   grd (0 ≤ i10 ∧ i10 < (a_0.length : Int)) <|
   (L_toPlace N (a_0.getD ((i10).toNat) (0, 0))).bind fun v12 =>
   grd (0 ≤ i10 ∧ i10 < ((List.replicate (((a_0.length : Int)).toNat) ((0, 0) : Int × Int)).length : Int)) <|
   grd (0 ≤ i10 ∧ i10 < (l9.length : Int)) <|
   grd (Rg64 (i10 + (1 : Int))) <|
   L_toPlaceS_l1 N a_0 k n (((l9.set ((i10).toNat) (v12.1, (l9.getD ((i10).toNat) (0, 0)).2)).set ((i10).toNat) (((l9.set ((i10).toNat) (v12.1, (l9.getD ((i10).toNat) (0, 0)).2)).getD ((i10).toNat) (0, 0)).1, v12.2)), (i10 + (1 : Int)))) (
   k l9)
def L_toPlaceS (N : Nat) (a_0 : List (Int × Int)) : Option (List (Int × Int)) :=
 grd (0 ≤ (a_0.length : Int) ∧ (a_0.length : Int) ≤ 4294967296) <|
 L_toPlaceS_l1 N a_0 (fun (l6 : List (Int × Int)) =>
    grd ((List.replicate (((a_0.length : Int)).toNat) ((0, 0) : Int × Int)).length = l6.length) <|
    some l6) N ((List.replicate (((a_0.length : Int)).toNat) ((0, 0) : Int × Int)), (0 : Int))
set_option maxRecDepth 20000 in
set_option maxHeartbeats 1600000 in
theorem L_toPlaceS_w (N : Nat) (a_0 : List (Int × Int)) (r : List (Int × Int)) (h : L_toPlaceS N a_0 = some r) : PCall Try.prog 80 [.ro false (.pairs a_0)] [(115, .pairs r)] (.row 0 0 r.length) := by
 unfold L_toPlaceS at h
 refine pcall_intro (TT := TT) tt Try.func80 rfl rfl Try.ntmps80 (congrArg Array.toList Try.results80) rfl rfl fun w0 => ?_
 refine vSeq ?_
 refine vRegion ?_
 refine oVal tt rfl rfl rfl rfl rfl trivial ?_
 refine vNil ?_
 change VC _ _ _ _
 refine vSeq ?_
 refine vRegion ?_
 iterate 2 refine oVal tt rfl rfl rfl rfl rfl trivial ?_
 obtain ⟨hg1, h⟩ := grd_inv h
 refine oMake tt rfl rfl rfl rfl rfl rfl rfl rfl rfl rfl rfl hg1 ?_
 refine oVal tt rfl rfl rfl rfl rfl trivial ?_
 refine vNil ?_
 change VC _ _ _ _
 iterate 2 refine vSeq ?_
 refine vRegion ?_
 refine oVal tt rfl rfl rfl rfl rfl trivial ?_
 refine vNil ?_
 change VC _ _ _ _
 refine vJoin (F := fun k => L_toPlaceS_l1 N a_0 k) h (α := List (Int × Int)) (J := fun (l6 : List (Int × Int)) => (⟨[(3, .row 7 0 ((List.replicate (((a_0.length : Int)).toNat) ((0, 0) : Int × Int)).length))], [(7, some (115, .pairs l6))], []⟩ : PS)) ?_ ?_
 ·rintro l6 h
  show VC _ _ _ (⟨[(3, .row 7 0 ((List.replicate (((a_0.length : Int)).toNat) ((0, 0) : Int × Int)).length))], [(7, some (115, .pairs l6))], []⟩ : PS)
  refine vSeq ?_
  refine vRegion ?_
  iterate 2 refine oVal tt rfl rfl rfl rfl rfl trivial ?_
  refine vNil ?_
  change VC _ _ _ _
  obtain ⟨hg2, h⟩ := grd_inv h
  refine vRet ?_
  change ∃ _, _
  cases h
  exact ⟨[7], _, rfl, ⟨rfl, trivial⟩, rfl, (.eq (by simp only [hg2]; rfl)), rfl⟩
 ·intro k h
  refine vBlock ?_
  refine vLoopS (α := (List (Int × Int)) × Int) (fun | (l9, i10) => (⟨[(0, .ro false (.pairs a_0)), (3, .row 7 0 ((List.replicate (((a_0.length : Int)).toNat) ((0, 0) : Int × Int)).length)), (4, .int i10)], [(7, some (115, .pairs l9))], []⟩ : PS)) (L_toPlaceS_l1 N a_0 k) h (En.of ⟨rfl, rfl, rfl, trivial⟩ ⟨rfl, trivial⟩ trivial) (fun _ => rfl) ?_
  rintro n ⟨l9, i10⟩ h
  rw [L_toPlaceS_l1] at h
  show VC _ _ _ (⟨[(0, .ro false (.pairs a_0)), (3, .row 7 0 ((List.replicate (((a_0.length : Int)).toNat) ((0, 0) : Int × Int)).length)), (4, .int i10)], [(7, some (115, .pairs l9))], []⟩ : PS)
  iterate 2 refine vSeq ?_
  refine vRegion ?_
  iterate 4 refine oVal tt rfl rfl rfl rfl rfl trivial ?_
  refine vNil ?_
  change VC _ _ _ _
  refine vCond rfl (fun hb3 => ?_) (fun hb3 => ?_)
  ·replace h := cnd_t hb3 h
   refine vSkip ?_
   change VC _ _ _ _
   refine vSeq ?_
   refine vBlock ?_
   refine vRegion ?_
   iterate 4 refine oVal tt rfl rfl rfl rfl rfl trivial ?_
   obtain ⟨hg4, h⟩ := grd_inv h
   refine oVal tt rfl rfl rfl rfl rfl hg4 ?_
   refine oVal tt rfl rfl rfl rfl rfl trivial ?_
   obtain ⟨v12, hc5, h⟩ := bind_inv h
   refine oCall (L_toPlace_w N (a_0.getD ((i10).toNat) (0, 0)) v12 hc5) rfl rfl rfl rfl rfl rfl rfl rfl ⟨⟨rfl, rfl, trivial⟩, trivial⟩ ?_
   obtain ⟨hg6, h⟩ := grd_inv h
   refine oVal tt rfl rfl rfl rfl rfl hg6 ?_
   obtain ⟨hg7, h⟩ := grd_inv h
   refine oStore tt rfl rfl rfl rfl rfl rfl rfl rfl rfl rfl ⟨_, _, rfl, hg7.1, hg7.2⟩ ⟨hg7, (by simpa [Sq.len] using hg7), trivial⟩ ?_
   refine vNil ?_
   change VC _ _ _ _
   refine vRegion ?_
   refine oVal tt rfl rfl rfl rfl rfl trivial ?_
   obtain ⟨hg8, h⟩ := grd_inv h
   refine oVal tt rfl rfl rfl rfl rfl hg8 ?_
   refine oVal tt rfl rfl rfl rfl rfl trivial ?_
   refine vNil ?_
   change ∃ _, _
   exact ⟨(((l9.set ((i10).toNat) (v12.1, (l9.getD ((i10).toNat) (0, 0)).2)).set ((i10).toNat) (((l9.set ((i10).toNat) (v12.1, (l9.getD ((i10).toNat) (0, 0)).2)).getD ((i10).toNat) (0, 0)).1, v12.2)), (i10 + (1 : Int))), (En.of ⟨rfl, rfl, rfl, trivial⟩ ⟨rfl, trivial⟩ trivial), h⟩
  ·replace h := cnd_f hb3 h
   refine vExit ?_
   change ∃ _, _
   exact ⟨l9, (En.of ⟨rfl, trivial⟩ ⟨rfl, trivial⟩ trivial), h⟩
def L_toFramework (N : Nat) (a_0 : Frm) : Option (Frm) :=
 (L_toGraph N a_0.g).bind fun v1 =>
 (L_toPlaceS N a_0.places).bind fun v2 =>
 some (⟨⟨v1.n, v1.bars⟩, v2⟩ : Frm)
set_option maxRecDepth 20000 in
set_option maxHeartbeats 1600000 in
theorem L_toFramework_w (N : Nat) (a_0 : Frm) (r : Frm) (h : L_toFramework N a_0 = some r) : PCall Try.prog 45 [fD a_0] [(113, .pairs r.g.bars), (115, .pairs r.places)] (.agg [.int r.g.n, .row 0 0 r.g.bars.length, .row 1 0 r.places.length]) := by
 unfold L_toFramework at h
 refine pcall_intro (TT := TT) tt Try.func45 rfl rfl Try.ntmps45 (congrArg Array.toList Try.results45) rfl rfl fun w0 => ?_
 refine vSeq ?_
 refine vRegion ?_
 refine oBox rfl rfl rfl rfl rfl rfl rfl rfl rfl ?_
 refine oAlloc tt rfl rfl rfl rfl rfl rfl rfl rfl rfl ?_
 refine vNil ?_
 change VC _ _ _ _
 refine vSeq ?_
 refine vRegion ?_
 refine oAlloc tt rfl rfl rfl rfl rfl rfl rfl rfl rfl ?_
 refine vNil ?_
 change VC _ _ _ _
 refine vSeq ?_
 refine vRegion ?_
 iterate 2 refine oVal tt rfl rfl rfl rfl rfl trivial ?_
 obtain ⟨v1, hc1, h⟩ := bind_inv h
 refine oCall (L_toGraph_w N a_0.g v1 hc1) rfl rfl rfl rfl rfl rfl rfl rfl ⟨⟨rfl, rfl, trivial⟩, trivial⟩ ?_
 refine oVal tt rfl rfl rfl rfl rfl trivial ?_
 refine oStore tt rfl rfl rfl rfl rfl rfl rfl rfl rfl rfl rfl ⟨trivial, trivial, trivial⟩ ?_
 refine vNil ?_
 change VC _ _ _ _
 refine vSeq ?_
 refine vRegion ?_
 iterate 2 refine oVal tt rfl rfl rfl rfl rfl trivial ?_
 obtain ⟨v2, hc2, h⟩ := bind_inv h
 refine oCall (L_toPlaceS_w N a_0.places v2 hc2) rfl rfl rfl rfl rfl rfl rfl rfl ⟨rfl, trivial⟩ ?_
 refine oVal tt rfl rfl rfl rfl rfl trivial ?_
 refine oStore tt rfl rfl rfl rfl rfl rfl rfl rfl rfl rfl rfl ⟨trivial, trivial⟩ ?_
 refine vNil ?_
 change VC _ _ _ _
 refine vSeq ?_
 refine vRegion ?_
 refine oVal tt rfl rfl rfl rfl rfl trivial ?_
 refine oStore tt rfl rfl rfl rfl rfl rfl rfl rfl rfl rfl rfl ⟨trivial, trivial, trivial, trivial⟩ ?_
 refine vNil ?_
 change VC _ _ _ _
 refine vRet ?_
 change ∃ _, _
 cases h
 exact ⟨[1060, 1100], _, rfl, ⟨rfl, rfl, trivial⟩, rfl, (.eq rfl), rfl⟩
def L_toLinkage (N : Nat) (a_0 : Lnk) : Option (Lnk) :=
 (L_toFramework N a_0.f).bind fun v1 =>
 (L_toIntS N a_0.ground).bind fun v2 =>
 some (⟨⟨⟨v1.g.n, v1.g.bars⟩, v1.places⟩, v2⟩ : Lnk)
set_option maxRecDepth 20000 in
set_option maxHeartbeats 1600000 in
theorem L_toLinkage_w (N : Nat) (a_0 : Lnk) (r : Lnk) (h : L_toLinkage N a_0 = some r) : PCall Try.prog 14 [lD a_0] [(113, .pairs r.f.g.bars), (115, .pairs r.f.places), (3, .ints r.ground)] (.agg [.int r.f.g.n, .row 0 0 r.f.g.bars.length, .row 1 0 r.f.places.length, .row 2 0 r.ground.length]) := by
 unfold L_toLinkage at h
 refine pcall_intro (TT := TT) tt Try.func14 rfl rfl Try.ntmps14 (congrArg Array.toList Try.results14) rfl rfl fun w0 => ?_
 refine vSeq ?_
 refine vRegion ?_
 refine oBox rfl rfl rfl rfl rfl rfl rfl rfl rfl ?_
 refine oAlloc tt rfl rfl rfl rfl rfl rfl rfl rfl rfl ?_
 refine vNil ?_
 change VC _ _ _ _
 refine vSeq ?_
 refine vRegion ?_
 refine oAlloc tt rfl rfl rfl rfl rfl rfl rfl rfl rfl ?_
 refine vNil ?_
 change VC _ _ _ _
 refine vSeq ?_
 refine vRegion ?_
 iterate 2 refine oVal tt rfl rfl rfl rfl rfl trivial ?_
 obtain ⟨v1, hc1, h⟩ := bind_inv h
 refine oCall (L_toFramework_w N a_0.f v1 hc1) rfl rfl rfl rfl rfl rfl rfl rfl ⟨⟨rfl, rfl, rfl, trivial⟩, trivial⟩ ?_
 refine oVal tt rfl rfl rfl rfl rfl trivial ?_
 refine oStore tt rfl rfl rfl rfl rfl rfl rfl rfl rfl rfl rfl ⟨trivial, trivial, trivial, trivial⟩ ?_
 refine vNil ?_
 change VC _ _ _ _
 refine vSeq ?_
 refine vRegion ?_
 iterate 2 refine oVal tt rfl rfl rfl rfl rfl trivial ?_
 obtain ⟨v2, hc2, h⟩ := bind_inv h
 refine oCall (L_toIntS_w N a_0.ground v2 hc2) rfl rfl rfl rfl rfl rfl rfl rfl ⟨rfl, trivial⟩ ?_
 refine oVal tt rfl rfl rfl rfl rfl trivial ?_
 refine oStore tt rfl rfl rfl rfl rfl rfl rfl rfl rfl rfl rfl ⟨trivial, trivial⟩ ?_
 refine vNil ?_
 change VC _ _ _ _
 refine vSeq ?_
 refine vRegion ?_
 refine oVal tt rfl rfl rfl rfl rfl trivial ?_
 refine oStore tt rfl rfl rfl rfl rfl rfl rfl rfl rfl rfl rfl ⟨trivial, trivial, trivial, trivial, trivial⟩ ?_
 refine vNil ?_
 change VC _ _ _ _
 refine vRet ?_
 change ∃ _, _
 cases h
 exact ⟨[1060, 1061, 1100], _, rfl, ⟨rfl, rfl, rfl, trivial⟩, rfl, (.eq rfl), rfl⟩
def I_isPlace (N : Nat) (p_0 : Int × Int) : Option (Bool) :=
 (I_within N p_0.1 (0 : Int) (4 : Int)).bind fun v1 =>
 cnd v1 (
  (I_within N p_0.2 (0 : Int) (4 : Int)).bind fun v2 =>
  some v2) (
  some false)
set_option maxRecDepth 20000 in
set_option maxHeartbeats 1600000 in
theorem I_isPlace_w (N : Nat) (p_0 : Int × Int) (r : Bool) (h : I_isPlace N p_0 = some r) : PCall Try.prog 106 [.agg [.int p_0.1, .int p_0.2]] [] (.bool r) := by
 unfold I_isPlace at h
 refine pcall_intro (TT := TT) tt Try.func106 rfl rfl Try.ntmps106 (congrArg Array.toList Try.results106) rfl rfl fun w0 => ?_
 refine vSeq ?_
 refine vRegion ?_
 refine oBox rfl rfl rfl rfl rfl rfl rfl rfl rfl ?_
 refine oVal tt rfl rfl rfl rfl rfl trivial ?_
 refine vNil ?_
 change VC _ _ _ _
 refine vSeq ?_
 refine vRegion ?_
 iterate 2 refine oVal tt rfl rfl rfl rfl rfl trivial ?_
 obtain ⟨v1, hc1, h⟩ := bind_inv h
 refine oCall (I_within_w N p_0.1 (0 : Int) (4 : Int) v1 hc1) rfl rfl rfl rfl rfl rfl rfl rfl ⟨rfl, rfl, rfl, trivial⟩ ?_
 refine oVal tt rfl rfl rfl rfl rfl trivial ?_
 refine oSplit rfl rfl rfl (fun hb2 => ?_) (fun hb2 => ?_)
 ·replace h := cnd_t hb2 h
  iterate 2 refine oValG tt rfl rfl rfl rfl rfl hb2 rfl rfl rfl trivial ?_
  obtain ⟨v2, hc3, h⟩ := bind_inv h
  refine oCallG (I_within_w N p_0.2 (0 : Int) (4 : Int) v2 hc3) rfl rfl rfl rfl hb2 rfl rfl rfl rfl rfl rfl rfl ⟨rfl, rfl, rfl, trivial⟩ ?_
  refine oPick rfl rfl rfl rfl rfl hb2 rfl ?_
  refine oVal tt rfl rfl rfl rfl rfl trivial ?_
  refine vNil ?_
  change VC _ _ _ _
  refine vRet ?_
  change ∃ _, _
  cases h
  exact ⟨[], _, rfl, trivial, rfl, (.eq rfl), rfl⟩
 ·replace h := cnd_f hb2 h
  iterate 3 refine oNoT rfl rfl rfl rfl hb2 rfl rfl ?_
  refine oPickF rfl rfl rfl rfl rfl hb2 rfl ?_
  refine oVal tt rfl rfl rfl rfl rfl trivial ?_
  refine vNil ?_
  change VC _ _ _ _
  refine vRet ?_
  change ∃ _, _
  cases h
  exact ⟨[], _, rfl, trivial, rfl, (.eq rfl), rfl⟩
def I_IsFramework_l1 (N : Nat) (f_0 : Frm) (k : Unit → Option (Bool)) : Nat → Int → Option (Bool)
 | 0, _ => none
 | n + 1, x8 =>
  cnd (decide (x8 < (f_0.g.bars.length : Int))) (
   grd (0 ≤ x8 ∧ x8 < (f_0.g.bars.length : Int)) <|
   cnd (decide (x8 > (0 : Int))) (
    grd (Rg64 (x8 - (1 : Int))) <|
    grd (0 ≤ (x8 - (1 : Int)) ∧ (x8 - (1 : Int)) < (f_0.g.bars.length : Int)) <|
    cnd (((f_0.g.bars.getD (((x8 - (1 : Int))).toNat) (0, 0)).1 == (f_0.g.bars.getD ((x8).toNat) (0, 0)).1) && ((f_0.g.bars.getD (((x8 - (1 : Int))).toNat) (0, 0)).2 == (f_0.g.bars.getD ((x8).toNat) (0, 0)).2)) (
     some false) (
     grd (0 ≤ ((f_0.g.bars.getD ((x8).toNat) (0, 0)).1) ∧ ((f_0.g.bars.getD ((x8).toNat) (0, 0)).1) < (f_0.places.length : Int)) <|
     grd (0 ≤ ((f_0.g.bars.getD ((x8).toNat) (0, 0)).2) ∧ ((f_0.g.bars.getD ((x8).toNat) (0, 0)).2) < (f_0.places.length : Int)) <|
     cnd (((f_0.places.getD (((f_0.g.bars.getD ((x8).toNat) (0, 0)).1).toNat) (0, 0)).1 == (f_0.places.getD (((f_0.g.bars.getD ((x8).toNat) (0, 0)).2).toNat) (0, 0)).1) && ((f_0.places.getD (((f_0.g.bars.getD ((x8).toNat) (0, 0)).1).toNat) (0, 0)).2 == (f_0.places.getD (((f_0.g.bars.getD ((x8).toNat) (0, 0)).2).toNat) (0, 0)).2)) (
      some false) (
      grd (Rg64 (x8 + (1 : Int))) <|
      I_IsFramework_l1 N f_0 k n (x8 + (1 : Int))))) (
    grd (0 ≤ ((f_0.g.bars.getD ((x8).toNat) (0, 0)).1) ∧ ((f_0.g.bars.getD ((x8).toNat) (0, 0)).1) < (f_0.places.length : Int)) <|
    grd (0 ≤ ((f_0.g.bars.getD ((x8).toNat) (0, 0)).2) ∧ ((f_0.g.bars.getD ((x8).toNat) (0, 0)).2) < (f_0.places.length : Int)) <|
    cnd (((f_0.places.getD (((f_0.g.bars.getD ((x8).toNat) (0, 0)).1).toNat) (0, 0)).1 == (f_0.places.getD (((f_0.g.bars.getD ((x8).toNat) (0, 0)).2).toNat) (0, 0)).1) && ((f_0.places.getD (((f_0.g.bars.getD ((x8).toNat) (0, 0)).1).toNat) (0, 0)).2 == (f_0.places.getD (((f_0.g.bars.getD ((x8).toNat) (0, 0)).2).toNat) (0, 0)).2)) (
     some false) (
     grd (Rg64 (x8 + (1 : Int))) <|
     I_IsFramework_l1 N f_0 k n (x8 + (1 : Int))))) (
   k ())
def I_IsFramework_l2 (N : Nat) (f_0 : Frm) (k : Unit → Option (Bool)) : Nat → Int → Option (Bool)
 | 0, _ => none
 | n + 1, x11 =>
  cnd (decide (x11 < (f_0.places.length : Int))) (
   grd (0 ≤ x11 ∧ x11 < (f_0.places.length : Int)) <|
   (I_isPlace N (f_0.places.getD ((x11).toNat) (0, 0))).bind fun v13 =>
   cnd (!v13) (
    some false) (
    grd (Rg64 (x11 + (1 : Int))) <|
    I_IsFramework_l2 N f_0 k n (x11 + (1 : Int)))) (
   k ())
def I_IsFramework (N : Nat) (f_0 : Frm) : Option (Bool) :=
 (I_IsGraph N f_0.g).bind fun v1 =>
 cnd (!v1) (
  some false) (
  cnd (decide (f_0.g.n > (6 : Int))) (
   some false) (
   cnd (decide ((f_0.g.bars.length : Int) > (15 : Int))) (
    some false) (
    cnd ((f_0.places.length : Int) != f_0.g.n) (
     some false) (
     I_IsFramework_l2 N f_0 (fun (_ : Unit) =>
        I_IsFramework_l1 N f_0 (fun (_ : Unit) =>
           some true) N (0 : Int)) N (0 : Int)))))
set_option maxRecDepth 20000 in
set_option maxHeartbeats 1600000 in
theorem I_IsFramework_w (N : Nat) (f_0 : Frm) (r : Bool) (h : I_IsFramework N f_0 = some r) : PCall Try.prog 81 [fD f_0] [] (.bool r) := by
 unfold I_IsFramework at h
 refine pcall_intro (TT := TT) tt Try.func81 rfl rfl Try.ntmps81 (congrArg Array.toList Try.results81) rfl rfl fun w0 => ?_
 refine vSeq ?_
 refine vRegion ?_
 refine oBox rfl rfl rfl rfl rfl rfl rfl rfl rfl ?_
 refine oVal tt rfl rfl rfl rfl rfl trivial ?_
 refine vNil ?_
 change VC _ _ _ _
 refine vSeq ?_
 refine vRegion ?_
 iterate 2 refine oVal tt rfl rfl rfl rfl rfl trivial ?_
 refine oAlloc tt rfl rfl rfl rfl rfl rfl rfl rfl rfl ?_
 refine oStore tt rfl rfl rfl rfl rfl rfl rfl rfl rfl rfl rfl ⟨trivial, trivial, trivial⟩ ?_
 refine vNil ?_
 change VC _ _ _ _
 iterate 2 refine vSeq ?_
 refine vRegion ?_
 refine oVal tt rfl rfl rfl rfl rfl trivial ?_
 obtain ⟨v1, hc1, h⟩ := bind_inv h
 refine oCall (I_IsGraph_w N f_0.g v1 hc1) rfl rfl rfl rfl rfl rfl rfl rfl ⟨⟨rfl, rfl, trivial⟩, trivial⟩ ?_
 iterate 2 refine oVal tt rfl rfl rfl rfl rfl trivial ?_
 refine oSplit rfl rfl rfl (fun hb2 => ?_) (fun hb2 => ?_)
 ·replace h := cnd_t hb2 h
  iterate 3 refine oNoF rfl rfl rfl rfl hb2 rfl rfl ?_
  refine oPick rfl rfl rfl rfl rfl hb2 rfl ?_
  refine oVal tt rfl rfl rfl rfl rfl trivial ?_
  iterate 4 refine oNoF rfl rfl rfl rfl rfl rfl rfl ?_
  refine oPick rfl rfl rfl rfl rfl rfl rfl ?_
  refine oVal tt rfl rfl rfl rfl rfl trivial ?_
  iterate 6 refine oNoF rfl rfl rfl rfl rfl rfl rfl ?_
  refine oPick rfl rfl rfl rfl rfl rfl rfl ?_
  refine vNil ?_
  change VC _ _ _ _
  refine vCondT rfl rfl ?_
  refine vSeq ?_
  refine vRegion ?_
  refine oVal tt rfl rfl rfl rfl rfl trivial ?_
  refine vNil ?_
  change VC _ _ _ _
  refine vRet ?_
  change ∃ _, _
  cases h
  exact ⟨[], _, rfl, trivial, rfl, (.eq rfl), rfl⟩
 ·replace h := cnd_f hb2 h
  iterate 3 refine oValG tt rfl rfl rfl rfl rfl hb2 rfl rfl rfl trivial ?_
  refine oPickF rfl rfl rfl rfl rfl hb2 rfl ?_
  refine oVal tt rfl rfl rfl rfl rfl trivial ?_
  refine oSplit rfl rfl rfl (fun hb3 => ?_) (fun hb3 => ?_)
  ·replace h := cnd_t hb3 h
   iterate 4 refine oNoF rfl rfl rfl rfl hb3 rfl rfl ?_
   refine oPick rfl rfl rfl rfl rfl hb3 rfl ?_
   refine oVal tt rfl rfl rfl rfl rfl trivial ?_
   iterate 6 refine oNoF rfl rfl rfl rfl rfl rfl rfl ?_
   refine oPick rfl rfl rfl rfl rfl rfl rfl ?_
   refine vNil ?_
   change VC _ _ _ _
   refine vCondT rfl rfl ?_
   refine vSeq ?_
   refine vRegion ?_
   refine oVal tt rfl rfl rfl rfl rfl trivial ?_
   refine vNil ?_
   change VC _ _ _ _
   refine vRet ?_
   change ∃ _, _
   cases h
   exact ⟨[], _, rfl, trivial, rfl, (.eq rfl), rfl⟩
  ·replace h := cnd_f hb3 h
   iterate 4 refine oValG tt rfl rfl rfl rfl rfl hb3 rfl rfl rfl trivial ?_
   refine oPickF rfl rfl rfl rfl rfl hb3 rfl ?_
   refine oVal tt rfl rfl rfl rfl rfl trivial ?_
   refine oSplit rfl rfl rfl (fun hb4 => ?_) (fun hb4 => ?_)
   ·replace h := cnd_t hb4 h
    iterate 6 refine oNoF rfl rfl rfl rfl hb4 rfl rfl ?_
    refine oPick rfl rfl rfl rfl rfl hb4 rfl ?_
    refine vNil ?_
    change VC _ _ _ _
    refine vCondT rfl rfl ?_
    refine vSeq ?_
    refine vRegion ?_
    refine oVal tt rfl rfl rfl rfl rfl trivial ?_
    refine vNil ?_
    change VC _ _ _ _
    refine vRet ?_
    change ∃ _, _
    cases h
    exact ⟨[], _, rfl, trivial, rfl, (.eq rfl), rfl⟩
   ·replace h := cnd_f hb4 h
    iterate 6 refine oValG tt rfl rfl rfl rfl rfl hb4 rfl rfl rfl trivial ?_
    refine oPickF rfl rfl rfl rfl rfl hb4 rfl ?_
    refine vNil ?_
    change VC _ _ _ _
    refine vCond rfl (fun hb5 => ?_) (fun hb5 => ?_)
    ·replace h := cnd_t hb5 h
     refine vSeq ?_
     refine vRegion ?_
     refine oVal tt rfl rfl rfl rfl rfl trivial ?_
     refine vNil ?_
     change VC _ _ _ _
     refine vRet ?_
     change ∃ _, _
     cases h
     exact ⟨[], _, rfl, trivial, rfl, (.eq rfl), rfl⟩
    ·replace h := cnd_f hb5 h
     refine vSkip ?_
     change VC _ _ _ _
     iterate 2 refine vSeq ?_
     refine vRegion ?_
     iterate 4 refine oVal tt rfl rfl rfl rfl rfl trivial ?_
     refine vNil ?_
     change VC _ _ _ _
     refine vJoin (F := fun k => I_IsFramework_l2 N f_0 k) h (α := Unit) (J := fun (_ : Unit) => (⟨[(1, .ptr 1 0), (3, .ptr 3 0)], [], [(1, some [.int f_0.g.n, .ro false (.pairs f_0.g.bars), .ro false (.pairs f_0.places)]), (3, some [.int f_0.g.n, .ro false (.pairs f_0.g.bars)])]⟩ : PS)) ?_ ?_
     ·rintro ⟨⟩ h
      show VC _ _ _ (⟨[(1, .ptr 1 0), (3, .ptr 3 0)], [], [(1, some [.int f_0.g.n, .ro false (.pairs f_0.g.bars), .ro false (.pairs f_0.places)]), (3, some [.int f_0.g.n, .ro false (.pairs f_0.g.bars)])]⟩ : PS)
      iterate 2 refine vSeq ?_
      refine vRegion ?_
      iterate 4 refine oVal tt rfl rfl rfl rfl rfl trivial ?_
      refine vNil ?_
      change VC _ _ _ _
      refine vJoin (F := fun k => I_IsFramework_l1 N f_0 k) h (α := Unit) (J := fun (_ : Unit) => (⟨[], [], []⟩ : PS)) ?_ ?_
      ·rintro ⟨⟩ h
       show VC _ _ _ (⟨[], [], []⟩ : PS)
       refine vSeq ?_
       refine vRegion ?_
       refine oVal tt rfl rfl rfl rfl rfl trivial ?_
       refine vNil ?_
       change VC _ _ _ _
       refine vRet ?_
       change ∃ _, _
       cases h
       exact ⟨[], _, rfl, trivial, rfl, (.eq rfl), rfl⟩
      ·intro k h
       refine vBlock ?_
       refine vLoopS (α := Int) (fun (x8 : Int) => (⟨[(1, .ptr 1 0), (3, .ptr 3 0), (44, .ro false (.pairs f_0.g.bars)), (45, .int (f_0.g.bars.length : Int)), (46, .int x8)], [], [(1, some [.int f_0.g.n, .ro false (.pairs f_0.g.bars), .ro false (.pairs f_0.places)]), (3, some [.int f_0.g.n, .ro false (.pairs f_0.g.bars)])]⟩ : PS)) (I_IsFramework_l1 N f_0 k) h (En.of ⟨rfl, rfl, rfl, rfl, rfl, trivial⟩ trivial ⟨rfl, rfl, trivial⟩) (fun _ => rfl) ?_
       rintro n x8 h
       rw [I_IsFramework_l1] at h
       show VC _ _ _ (⟨[(1, .ptr 1 0), (3, .ptr 3 0), (44, .ro false (.pairs f_0.g.bars)), (45, .int (f_0.g.bars.length : Int)), (46, .int x8)], [], [(1, some [.int f_0.g.n, .ro false (.pairs f_0.g.bars), .ro false (.pairs f_0.places)]), (3, some [.int f_0.g.n, .ro false (.pairs f_0.g.bars)])]⟩ : PS)
       refine vSeq ?_
       refine vRegion ?_
       refine oVal tt rfl rfl rfl rfl rfl trivial ?_
       refine vNil ?_
       change VC _ _ _ _
       refine vSeq ?_
       refine vCond rfl (fun hb6 => ?_) (fun hb6 => ?_)
       ·replace h := cnd_t hb6 h
        refine vSkip ?_
        change VC _ _ _ _
        refine vSeq ?_
        refine vBlock ?_
        refine vSeq ?_
        refine vRegion ?_
        refine oVal tt rfl rfl rfl rfl rfl trivial ?_
        obtain ⟨hg7, h⟩ := grd_inv h
        refine oVal tt rfl rfl rfl rfl rfl hg7 ?_
        refine oVal tt rfl rfl rfl rfl rfl trivial ?_
        refine oAlloc tt rfl rfl rfl rfl rfl rfl rfl rfl rfl ?_
        refine oVal tt rfl rfl rfl rfl rfl trivial ?_
        refine oStore tt rfl rfl rfl rfl rfl rfl rfl rfl rfl rfl rfl ⟨trivial, trivial, trivial⟩ ?_
        refine vNil ?_
        change VC _ _ _ _
        refine vSeq ?_
        refine vRegionD (by kernel_rfl) (by kernel_rfl) ?_
        iterate 3 refine cVal tt rfl (wNone rfl) rfl rfl rfl trivial ?_
        refine cSplit rfl rfl rfl (fun hb8 => ?_) (fun hb8 => ?_)
        ·replace h := cnd_t hb8 h
         iterate 3 refine cVal tt rfl (wSome rfl rfl rfl rfl hb8) rfl rfl rfl trivial ?_
         obtain ⟨hg9, h⟩ := grd_inv h
         refine cVal tt rfl (wSome rfl rfl rfl rfl hb8) rfl rfl rfl hg9 ?_
         obtain ⟨hg10, h⟩ := grd_inv h
         refine cVal tt rfl (wSome rfl rfl rfl rfl hb8) rfl rfl rfl hg10 ?_
         iterate 2 refine cVal tt rfl (wSome rfl rfl rfl rfl hb8) rfl rfl rfl trivial ?_
         refine cPure (wSome rfl rfl rfl rfl hb8) (pEqP eqP_impl_Bar rfl rfl rfl) rfl rfl ?_
         refine cPickT rfl (wNone rfl) rfl rfl rfl hb8 rfl ?_
         refine cVal tt rfl (wNone rfl) rfl rfl rfl trivial ?_
         refine cSplit rfl rfl rfl (fun hb11 => ?_) (fun hb11 => ?_)
         ·replace h := cnd_t hb11 h
          iterate 13 refine cNoF rfl rfl rfl rfl hb11 rfl rfl ?_
          refine cPickT rfl (wNone rfl) rfl rfl rfl hb11 rfl ?_
          refine cNil ?_
          change VC _ _ _ _
          refine vCondT rfl rfl ?_
          refine vSeq ?_
          refine vRegion ?_
          refine oVal tt rfl rfl rfl rfl rfl trivial ?_
          refine vNil ?_
          change VC _ _ _ _
          refine vRet ?_
          change ∃ _, _
          cases h
          exact ⟨[], _, rfl, trivial, rfl, (.eq rfl), rfl⟩
         ·replace h := cnd_f hb11 h
          iterate 4 refine cVal tt rfl (wSome rfl rfl rfl rfl hb11) rfl rfl rfl trivial ?_
          obtain ⟨hg12, h⟩ := grd_inv h
          refine cVal tt rfl (wSome rfl rfl rfl rfl hb11) rfl rfl rfl hg12 ?_
          iterate 5 refine cVal tt rfl (wSome rfl rfl rfl rfl hb11) rfl rfl rfl trivial ?_
          obtain ⟨hg13, h⟩ := grd_inv h
          refine cVal tt rfl (wSome rfl rfl rfl rfl hb11) rfl rfl rfl hg13 ?_
          refine cVal tt rfl (wSome rfl rfl rfl rfl hb11) rfl rfl rfl trivial ?_
          refine cPure (wSome rfl rfl rfl rfl hb11) (pEqP eqP_impl_Place rfl rfl rfl) rfl rfl ?_
          refine cPickF rfl (wNone rfl) rfl rfl rfl hb11 rfl ?_
          refine cNil ?_
          change VC _ _ _ _
          refine vCond rfl (fun hb14 => ?_) (fun hb14 => ?_)
          ·replace h := cnd_t hb14 h
           refine vSeq ?_
           refine vRegion ?_
           refine oVal tt rfl rfl rfl rfl rfl trivial ?_
           refine vNil ?_
           change VC _ _ _ _
           refine vRet ?_
           change ∃ _, _
           cases h
           exact ⟨[], _, rfl, trivial, rfl, (.eq rfl), rfl⟩
          ·replace h := cnd_f hb14 h
           refine vSkip ?_
           change VC _ _ _ _
           refine vRegion ?_
           obtain ⟨hg15, h⟩ := grd_inv h
           refine oVal tt rfl rfl rfl rfl rfl hg15 ?_
           refine oVal tt rfl rfl rfl rfl rfl trivial ?_
           refine vNil ?_
           change ∃ _, _
           exact ⟨(x8 + (1 : Int)), (En.of ⟨rfl, rfl, rfl, rfl, rfl, trivial⟩ trivial ⟨rfl, rfl, trivial⟩), h⟩
        ·replace h := cnd_f hb8 h
         iterate 8 refine cNoT rfl rfl rfl rfl hb8 rfl rfl ?_
         refine cPickF rfl (wNone rfl) rfl rfl rfl hb8 rfl ?_
         refine cVal tt rfl (wNone rfl) rfl rfl rfl trivial ?_
         iterate 4 refine cVal tt rfl (wSome rfl rfl rfl rfl rfl) rfl rfl rfl trivial ?_
         obtain ⟨hg16, h⟩ := grd_inv h
         refine cVal tt rfl (wSome rfl rfl rfl rfl rfl) rfl rfl rfl hg16 ?_
         iterate 5 refine cVal tt rfl (wSome rfl rfl rfl rfl rfl) rfl rfl rfl trivial ?_
         obtain ⟨hg17, h⟩ := grd_inv h
         refine cVal tt rfl (wSome rfl rfl rfl rfl rfl) rfl rfl rfl hg17 ?_
         refine cVal tt rfl (wSome rfl rfl rfl rfl rfl) rfl rfl rfl trivial ?_
         refine cPure (wSome rfl rfl rfl rfl rfl) (pEqP eqP_impl_Place rfl rfl rfl) rfl rfl ?_
         refine cPickF rfl (wNone rfl) rfl rfl rfl rfl rfl ?_
         refine cNil ?_
         change VC _ _ _ _
         refine vCond rfl (fun hb18 => ?_) (fun hb18 => ?_)
         ·replace h := cnd_t hb18 h
          refine vSeq ?_
          refine vRegion ?_
          refine oVal tt rfl rfl rfl rfl rfl trivial ?_
          refine vNil ?_
          change VC _ _ _ _
          refine vRet ?_
          change ∃ _, _
          cases h
          exact ⟨[], _, rfl, trivial, rfl, (.eq rfl), rfl⟩
         ·replace h := cnd_f hb18 h
          refine vSkip ?_
          change VC _ _ _ _
          refine vRegion ?_
          obtain ⟨hg19, h⟩ := grd_inv h
          refine oVal tt rfl rfl rfl rfl rfl hg19 ?_
          refine oVal tt rfl rfl rfl rfl rfl trivial ?_
          refine vNil ?_
          change ∃ _, _
          exact ⟨(x8 + (1 : Int)), (En.of ⟨rfl, rfl, rfl, rfl, rfl, trivial⟩ trivial ⟨rfl, rfl, trivial⟩), h⟩
       ·replace h := cnd_f hb6 h
        refine vExit ?_
        change ∃ _, _
        exact ⟨(), (En.of trivial trivial trivial), h⟩
     ·intro k h
      refine vBlock ?_
      refine vLoopS (α := Int) (fun (x11 : Int) => (⟨[(1, .ptr 1 0), (3, .ptr 3 0), (33, .ro false (.pairs f_0.places)), (34, .int (f_0.places.length : Int)), (35, .int x11)], [], [(1, some [.int f_0.g.n, .ro false (.pairs f_0.g.bars), .ro false (.pairs f_0.places)]), (3, some [.int f_0.g.n, .ro false (.pairs f_0.g.bars)])]⟩ : PS)) (I_IsFramework_l2 N f_0 k) h (En.of ⟨rfl, rfl, rfl, rfl, rfl, trivial⟩ trivial ⟨rfl, rfl, trivial⟩) (fun _ => rfl) ?_
      rintro n x11 h
      rw [I_IsFramework_l2] at h
      show VC _ _ _ (⟨[(1, .ptr 1 0), (3, .ptr 3 0), (33, .ro false (.pairs f_0.places)), (34, .int (f_0.places.length : Int)), (35, .int x11)], [], [(1, some [.int f_0.g.n, .ro false (.pairs f_0.g.bars), .ro false (.pairs f_0.places)]), (3, some [.int f_0.g.n, .ro false (.pairs f_0.g.bars)])]⟩ : PS)
      refine vSeq ?_
      refine vRegion ?_
      refine oVal tt rfl rfl rfl rfl rfl trivial ?_
      refine vNil ?_
      change VC _ _ _ _
      refine vSeq ?_
      refine vCond rfl (fun hb20 => ?_) (fun hb20 => ?_)
      ·replace h := cnd_t hb20 h
       refine vSkip ?_
       change VC _ _ _ _
       refine vSeq ?_
       refine vBlock ?_
       refine vSeq ?_
       refine vRegion ?_
       obtain ⟨hg21, h⟩ := grd_inv h
       refine oVal tt rfl rfl rfl rfl rfl hg21 ?_
       refine oVal tt rfl rfl rfl rfl rfl trivial ?_
       refine oAlloc tt rfl rfl rfl rfl rfl rfl rfl rfl rfl ?_
       refine oStore tt rfl rfl rfl rfl rfl rfl rfl rfl rfl rfl rfl ⟨trivial, trivial, trivial⟩ ?_
       refine vNil ?_
       change VC _ _ _ _
       refine vSeq ?_
       refine vRegion ?_
       refine oVal tt rfl rfl rfl rfl rfl trivial ?_
       obtain ⟨v13, hc22, h⟩ := bind_inv h
       refine oCall (I_isPlace_w N (f_0.places.getD ((x11).toNat) (0, 0)) v13 hc22) rfl rfl rfl rfl rfl rfl rfl rfl ⟨⟨rfl, rfl, trivial⟩, trivial⟩ ?_
       refine oVal tt rfl rfl rfl rfl rfl trivial ?_
       refine vNil ?_
       change VC _ _ _ _
       refine vCond rfl (fun hb23 => ?_) (fun hb23 => ?_)
       ·replace h := cnd_t hb23 h
        refine vSeq ?_
        refine vRegion ?_
        refine oVal tt rfl rfl rfl rfl rfl trivial ?_
        refine vNil ?_
        change VC _ _ _ _
        refine vRet ?_
        change ∃ _, _
        cases h
        exact ⟨[], _, rfl, trivial, rfl, (.eq rfl), rfl⟩
       ·replace h := cnd_f hb23 h
        refine vSkip ?_
        change VC _ _ _ _
        refine vRegion ?_
        obtain ⟨hg24, h⟩ := grd_inv h
        refine oVal tt rfl rfl rfl rfl rfl hg24 ?_
        refine oVal tt rfl rfl rfl rfl rfl trivial ?_
        refine vNil ?_
        change ∃ _, _
        exact ⟨(x11 + (1 : Int)), (En.of ⟨rfl, rfl, rfl, rfl, rfl, trivial⟩ trivial ⟨rfl, rfl, trivial⟩), h⟩
      ·replace h := cnd_f hb20 h
       refine vExit ?_
       change ∃ _, _
       exact ⟨(), (En.of ⟨rfl, rfl, trivial⟩ trivial ⟨rfl, rfl, trivial⟩), h⟩
def I_IsLinkage_l1 (N : Nat) (l_0 : Lnk) (k : Unit → Option (Bool)) : Nat → Int → Option (Bool)
 | 0, _ => none
 | n + 1, x8 =>
  cnd (decide (x8 < (l_0.ground.length : Int))) (
   grd (0 ≤ x8 ∧ x8 < (l_0.ground.length : Int)) <|
   (M_Graph_has N l_0.f.g (l_0.ground.getD ((x8).toNat) 0)).bind fun v10 =>
   cnd (!v10) (
    some false) (
    cnd (decide (x8 > (0 : Int))) (
     grd (Rg64 (x8 - (1 : Int))) <|
     grd (0 ≤ (x8 - (1 : Int)) ∧ (x8 - (1 : Int)) < (l_0.ground.length : Int)) <|
     cnd (decide ((l_0.ground.getD (((x8 - (1 : Int))).toNat) 0) ≥ (l_0.ground.getD ((x8).toNat) 0))) (
      some false) (
      grd (Rg64 (x8 + (1 : Int))) <|
      I_IsLinkage_l1 N l_0 k n (x8 + (1 : Int)))) (
     grd (Rg64 (x8 + (1 : Int))) <|
     I_IsLinkage_l1 N l_0 k n (x8 + (1 : Int))))) (
   k ())
def I_IsLinkage (N : Nat) (l_0 : Lnk) : Option (Bool) :=
 (I_IsFramework N l_0.f).bind fun v1 =>
 cnd (!v1) (
  some false) (
  cnd ((l_0.ground.length : Int) == (0 : Int)) (
   some false) (
   grd (Rg64 (l_0.f.g.n - (l_0.ground.length : Int))) <|
   cnd (decide ((l_0.f.g.n - (l_0.ground.length : Int)) > (2 : Int))) (
    some false) (
    I_IsLinkage_l1 N l_0 (fun (_ : Unit) =>
       some true) N (0 : Int))))
set_option maxRecDepth 20000 in
set_option maxHeartbeats 1600000 in
theorem I_IsLinkage_w (N : Nat) (l_0 : Lnk) (r : Bool) (h : I_IsLinkage N l_0 = some r) : PCall Try.prog 47 [lD l_0] [] (.bool r) := by
 unfold I_IsLinkage at h
 refine pcall_intro (TT := TT) tt Try.func47 rfl rfl Try.ntmps47 (congrArg Array.toList Try.results47) rfl rfl fun w0 => ?_
 refine vSeq ?_
 refine vRegion ?_
 refine oBox rfl rfl rfl rfl rfl rfl rfl rfl rfl ?_
 refine oVal tt rfl rfl rfl rfl rfl trivial ?_
 refine vNil ?_
 change VC _ _ _ _
 iterate 2 refine vSeq ?_
 refine vRegion ?_
 iterate 2 refine oVal tt rfl rfl rfl rfl rfl trivial ?_
 obtain ⟨v1, hc1, h⟩ := bind_inv h
 refine oCall (I_IsFramework_w N l_0.f v1 hc1) rfl rfl rfl rfl rfl rfl rfl rfl ⟨⟨rfl, rfl, rfl, trivial⟩, trivial⟩ ?_
 iterate 2 refine oVal tt rfl rfl rfl rfl rfl trivial ?_
 refine oSplit rfl rfl rfl (fun hb2 => ?_) (fun hb2 => ?_)
 ·replace h := cnd_t hb2 h
  iterate 4 refine oNoF rfl rfl rfl rfl hb2 rfl rfl ?_
  refine oPick rfl rfl rfl rfl rfl hb2 rfl ?_
  refine oVal tt rfl rfl rfl rfl rfl trivial ?_
  iterate 9 refine oNoF rfl rfl rfl rfl rfl rfl rfl ?_
  refine oPick rfl rfl rfl rfl rfl rfl rfl ?_
  refine vNil ?_
  change VC _ _ _ _
  refine vCondT rfl rfl ?_
  refine vSeq ?_
  refine vRegion ?_
  refine oVal tt rfl rfl rfl rfl rfl trivial ?_
  refine vNil ?_
  change VC _ _ _ _
  refine vRet ?_
  change ∃ _, _
  cases h
  exact ⟨[], _, rfl, trivial, rfl, (.eq rfl), rfl⟩
 ·replace h := cnd_f hb2 h
  iterate 4 refine oValG tt rfl rfl rfl rfl rfl hb2 rfl rfl rfl trivial ?_
  refine oPickF rfl rfl rfl rfl rfl hb2 rfl ?_
  refine oVal tt rfl rfl rfl rfl rfl trivial ?_
  refine oSplit rfl rfl rfl (fun hb3 => ?_) (fun hb3 => ?_)
  ·replace h := cnd_t hb3 h
   iterate 9 refine oNoF rfl rfl rfl rfl hb3 rfl rfl ?_
   refine oPick rfl rfl rfl rfl rfl hb3 rfl ?_
   refine vNil ?_
   change VC _ _ _ _
   refine vCondT rfl rfl ?_
   refine vSeq ?_
   refine vRegion ?_
   refine oVal tt rfl rfl rfl rfl rfl trivial ?_
   refine vNil ?_
   change VC _ _ _ _
   refine vRet ?_
   change ∃ _, _
   cases h
   exact ⟨[], _, rfl, trivial, rfl, (.eq rfl), rfl⟩
  ·replace h := cnd_f hb3 h
   iterate 7 refine oValG tt rfl rfl rfl rfl rfl hb3 rfl rfl rfl trivial ?_
   obtain ⟨hg4, h⟩ := grd_inv h
   refine oValG tt rfl rfl rfl rfl rfl hb3 rfl rfl rfl hg4 ?_
   refine oValG tt rfl rfl rfl rfl rfl hb3 rfl rfl rfl trivial ?_
   refine oPickF rfl rfl rfl rfl rfl hb3 rfl ?_
   refine vNil ?_
   change VC _ _ _ _
   refine vCond rfl (fun hb5 => ?_) (fun hb5 => ?_)
   ·replace h := cnd_t hb5 h
    refine vSeq ?_
    refine vRegion ?_
    refine oVal tt rfl rfl rfl rfl rfl trivial ?_
    refine vNil ?_
    change VC _ _ _ _
    refine vRet ?_
    change ∃ _, _
    cases h
    exact ⟨[], _, rfl, trivial, rfl, (.eq rfl), rfl⟩
   ·replace h := cnd_f hb5 h
    refine vSkip ?_
    change VC _ _ _ _
    iterate 2 refine vSeq ?_
    refine vRegion ?_
    iterate 4 refine oVal tt rfl rfl rfl rfl rfl trivial ?_
    refine vNil ?_
    change VC _ _ _ _
    refine vJoin (F := fun k => I_IsLinkage_l1 N l_0 k) h (α := Unit) (J := fun (_ : Unit) => (⟨[], [], []⟩ : PS)) ?_ ?_
    ·rintro ⟨⟩ h
     show VC _ _ _ (⟨[], [], []⟩ : PS)
     refine vSeq ?_
     refine vRegion ?_
     refine oVal tt rfl rfl rfl rfl rfl trivial ?_
     refine vNil ?_
     change VC _ _ _ _
     refine vRet ?_
     change ∃ _, _
     cases h
     exact ⟨[], _, rfl, trivial, rfl, (.eq rfl), rfl⟩
    ·intro k h
     refine vBlock ?_
     refine vLoopS (α := Int) (fun (x8 : Int) => (⟨[(1, .ptr 1 0), (27, .ro false (.ints l_0.ground)), (28, .int (l_0.ground.length : Int)), (29, .int x8)], [], [(1, some [.int l_0.f.g.n, .ro false (.pairs l_0.f.g.bars), .ro false (.pairs l_0.f.places), .ro false (.ints l_0.ground)])]⟩ : PS)) (I_IsLinkage_l1 N l_0 k) h (En.of ⟨rfl, rfl, rfl, rfl, trivial⟩ trivial ⟨rfl, trivial⟩) (fun _ => rfl) ?_
     rintro n x8 h
     rw [I_IsLinkage_l1] at h
     show VC _ _ _ (⟨[(1, .ptr 1 0), (27, .ro false (.ints l_0.ground)), (28, .int (l_0.ground.length : Int)), (29, .int x8)], [], [(1, some [.int l_0.f.g.n, .ro false (.pairs l_0.f.g.bars), .ro false (.pairs l_0.f.places), .ro false (.ints l_0.ground)])]⟩ : PS)
     refine vSeq ?_
     refine vRegion ?_
     refine oVal tt rfl rfl rfl rfl rfl trivial ?_
     refine vNil ?_
     change VC _ _ _ _
     refine vSeq ?_
     refine vCond rfl (fun hb6 => ?_) (fun hb6 => ?_)
     ·replace h := cnd_t hb6 h
      refine vSkip ?_
      change VC _ _ _ _
      refine vSeq ?_
      refine vBlock ?_
      refine vSeq ?_
      refine vRegion ?_
      refine oVal tt rfl rfl rfl rfl rfl trivial ?_
      obtain ⟨hg7, h⟩ := grd_inv h
      refine oVal tt rfl rfl rfl rfl rfl hg7 ?_
      iterate 3 refine oVal tt rfl rfl rfl rfl rfl trivial ?_
      refine vNil ?_
      change VC _ _ _ _
      refine vSeq ?_
      refine vRegion ?_
      iterate 4 refine oVal tt rfl rfl rfl rfl rfl trivial ?_
      obtain ⟨v10, hc8, h⟩ := bind_inv h
      refine oCall (M_Graph_has_w N l_0.f.g (l_0.ground.getD ((x8).toNat) 0) v10 hc8) rfl rfl rfl rfl rfl rfl rfl rfl ⟨⟨rfl, rfl, trivial⟩, rfl, trivial⟩ ?_
      iterate 2 refine oVal tt rfl rfl rfl rfl rfl trivial ?_
      refine oSplit rfl rfl rfl (fun hb9 => ?_) (fun hb9 => ?_)
      ·replace h := cnd_t hb9 h
       iterate 3 refine oNoF rfl rfl rfl rfl hb9 rfl rfl ?_
       iterate 8 refine oNoU rfl rfl rfl rfl rfl ?_
       refine oNoF rfl rfl rfl rfl hb9 rfl rfl ?_
       refine oPick rfl rfl rfl rfl rfl hb9 rfl ?_
       refine vNil ?_
       change VC _ _ _ _
       refine vCondT rfl rfl ?_
       refine vSeq ?_
       refine vRegion ?_
       refine oVal tt rfl rfl rfl rfl rfl trivial ?_
       refine vNil ?_
       change VC _ _ _ _
       refine vRet ?_
       change ∃ _, _
       cases h
       exact ⟨[], _, rfl, trivial, rfl, (.eq rfl), rfl⟩
      ·replace h := cnd_f hb9 h
       iterate 3 refine oValG tt rfl rfl rfl rfl rfl hb9 rfl rfl rfl trivial ?_
       refine oSplit rfl rfl rfl (fun hb10 => ?_) (fun hb10 => ?_)
       ·replace h := cnd_t hb10 h
        iterate 3 refine oValG tt rfl rfl rfl rfl rfl hb10 rfl rfl rfl trivial ?_
        obtain ⟨hg11, h⟩ := grd_inv h
        refine oValG tt rfl rfl rfl rfl rfl hb10 rfl rfl rfl hg11 ?_
        obtain ⟨hg12, h⟩ := grd_inv h
        refine oValG tt rfl rfl rfl rfl rfl hb10 rfl rfl rfl hg12 ?_
        iterate 3 refine oValG tt rfl rfl rfl rfl rfl hb10 rfl rfl rfl trivial ?_
        refine oPickGT rfl rfl rfl rfl hb9 rfl rfl rfl rfl hb10 rfl ?_
        refine oPickF rfl rfl rfl rfl rfl hb9 rfl ?_
        refine vNil ?_
        change VC _ _ _ _
        refine vCond rfl (fun hb13 => ?_) (fun hb13 => ?_)
        ·replace h := cnd_t hb13 h
         refine vSeq ?_
         refine vRegion ?_
         refine oVal tt rfl rfl rfl rfl rfl trivial ?_
         refine vNil ?_
         change VC _ _ _ _
         refine vRet ?_
         change ∃ _, _
         cases h
         exact ⟨[], _, rfl, trivial, rfl, (.eq rfl), rfl⟩
        ·replace h := cnd_f hb13 h
         refine vSkip ?_
         change VC _ _ _ _
         refine vRegion ?_
         obtain ⟨hg14, h⟩ := grd_inv h
         refine oVal tt rfl rfl rfl rfl rfl hg14 ?_
         refine oVal tt rfl rfl rfl rfl rfl trivial ?_
         refine vNil ?_
         change ∃ _, _
         exact ⟨(x8 + (1 : Int)), (En.of ⟨rfl, rfl, rfl, rfl, trivial⟩ trivial ⟨rfl, trivial⟩), h⟩
       ·replace h := cnd_f hb10 h
        iterate 8 refine oNoT rfl rfl rfl rfl hb10 rfl rfl ?_
        refine oPickGF rfl rfl rfl rfl hb9 rfl rfl rfl rfl hb10 rfl ?_
        refine oPickF rfl rfl rfl rfl rfl hb9 rfl ?_
        refine vNil ?_
        change VC _ _ _ _
        refine vCondF rfl rfl ?_
        refine vSkip ?_
        change VC _ _ _ _
        refine vRegion ?_
        obtain ⟨hg15, h⟩ := grd_inv h
        refine oVal tt rfl rfl rfl rfl rfl hg15 ?_
        refine oVal tt rfl rfl rfl rfl rfl trivial ?_
        refine vNil ?_
        change ∃ _, _
        exact ⟨(x8 + (1 : Int)), (En.of ⟨rfl, rfl, rfl, rfl, trivial⟩ trivial ⟨rfl, trivial⟩), h⟩
     ·replace h := cnd_f hb6 h
      refine vExit ?_
      change ∃ _, _
      exact ⟨(), (En.of trivial trivial trivial), h⟩
end Go.Proofs.Ytkklfgcelmeccaa
namespace Go.Proofs.Ytkklfgcelmeccaa
open Go.RowKit
def L_eqPlace (N : Nat) (a_0 : Int × Int) (b_1 : Int × Int) : Option (Bool) :=
 cnd (a_0.1 != b_1.1) (
  some false) (
  cnd (a_0.2 != b_1.2) (
   some false) (
   some true))
set_option maxRecDepth 20000 in
set_option maxHeartbeats 1600000 in
theorem L_eqPlace_w (N : Nat) (a_0 : Int × Int) (b_1 : Int × Int) (r : Bool) (h : L_eqPlace N a_0 b_1 = some r) : PCall Try.prog 109 [.agg [.int a_0.1, .int a_0.2], .agg [.int b_1.1, .int b_1.2]] [] (.bool r) := by
 unfold L_eqPlace at h
 refine pcall_intro (TT := TT) tt Try.func109 rfl rfl Try.ntmps109 (congrArg Array.toList Try.results109) rfl rfl fun w0 => ?_
 refine vSeq ?_
 refine vRegion ?_
 iterate 2 refine oBox rfl rfl rfl rfl rfl rfl rfl rfl rfl ?_
 refine oVal tt rfl rfl rfl rfl rfl trivial ?_
 refine vNil ?_
 change VC _ _ _ _
 iterate 2 refine vSeq ?_
 refine vRegion ?_
 iterate 5 refine oVal tt rfl rfl rfl rfl rfl trivial ?_
 refine vNil ?_
 change VC _ _ _ _
 refine vCond rfl (fun hb1 => ?_) (fun hb1 => ?_)
 ·replace h := cnd_t hb1 h
  refine vSeq ?_
  refine vRegion ?_
  refine oVal tt rfl rfl rfl rfl rfl trivial ?_
  refine vNil ?_
  change VC _ _ _ _
  refine vRet ?_
  change ∃ _, _
  cases h
  exact ⟨[], _, rfl, trivial, rfl, (.eq rfl), rfl⟩
 ·replace h := cnd_f hb1 h
  refine vSkip ?_
  change VC _ _ _ _
  iterate 2 refine vSeq ?_
  refine vRegion ?_
  iterate 5 refine oVal tt rfl rfl rfl rfl rfl trivial ?_
  refine vNil ?_
  change VC _ _ _ _
  refine vCond rfl (fun hb2 => ?_) (fun hb2 => ?_)
  ·replace h := cnd_t hb2 h
   refine vSeq ?_
   refine vRegion ?_
   refine oVal tt rfl rfl rfl rfl rfl trivial ?_
   refine vNil ?_
   change VC _ _ _ _
   refine vRet ?_
   change ∃ _, _
   cases h
   exact ⟨[], _, rfl, trivial, rfl, (.eq rfl), rfl⟩
  ·replace h := cnd_f hb2 h
   refine vSkip ?_
   change VC _ _ _ _
   refine vSeq ?_
   refine vRegion ?_
   refine oVal tt rfl rfl rfl rfl rfl trivial ?_
   refine vNil ?_
   change VC _ _ _ _
   refine vRet ?_
   change ∃ _, _
   cases h
   exact ⟨[], _, rfl, trivial, rfl, (.eq rfl), rfl⟩
def L_eqPlaceS_l1 (N : Nat) (a_0 : List (Int × Int)) (b_1 : List (Int × Int)) (k : Unit → Option (Bool)) : Nat → Int → Option (Bool)
 | 0, _ => none
 | n + 1, i7 =>
  cnd (decide (i7 < (a_0.length : Int))) (
   grd (0 ≤ i7 ∧ i7 < (a_0.length : Int)) <|
   grd (0 ≤ i7 ∧ i7 < (b_1.length : Int)) <|
   (L_eqPlace N (a_0.getD ((i7).toNat) (0, 0)) (b_1.getD ((i7).toNat) (0, 0))).bind fun v9 =>
   cnd (!v9) (
    some false) (
    grd (Rg64 (i7 + (1 : Int))) <|
    L_eqPlaceS_l1 N a_0 b_1 k n (i7 + (1 : Int)))) (
   k ())
def L_eqPlaceS (N : Nat) (a_0 : List (Int × Int)) (b_1 : List (Int × Int)) : Option (Bool) :=
 cnd ((a_0.length : Int) != (b_1.length : Int)) (
  some false) (
  L_eqPlaceS_l1 N a_0 b_1 (fun (_ : Unit) =>
     some true) N (0 : Int))
set_option maxRecDepth 20000 in
set_option maxHeartbeats 1600000 in
theorem L_eqPlaceS_w (N : Nat) (a_0 : List (Int × Int)) (b_1 : List (Int × Int)) (r : Bool) (h : L_eqPlaceS N a_0 b_1 = some r) : PCall Try.prog 84 [.ro false (.pairs a_0), .ro false (.pairs b_1)] [] (.bool r) := by
 unfold L_eqPlaceS at h
 refine pcall_intro (TT := TT) tt Try.func84 rfl rfl Try.ntmps84 (congrArg Array.toList Try.results84) rfl rfl fun w0 => ?_
 refine vSeq ?_
 refine vRegion ?_
 refine oVal tt rfl rfl rfl rfl rfl trivial ?_
 refine vNil ?_
 change VC _ _ _ _
 iterate 2 refine vSeq ?_
 refine vRegion ?_
 iterate 5 refine oVal tt rfl rfl rfl rfl rfl trivial ?_
 refine vNil ?_
 change VC _ _ _ _
 refine vCond rfl (fun hb1 => ?_) (fun hb1 => ?_)
 ·replace h := cnd_t hb1 h
  refine vSeq ?_
  refine vRegion ?_
  refine oVal tt rfl rfl rfl rfl rfl trivial ?_
  refine vNil ?_
  change VC _ _ _ _
  refine vRet ?_
  change ∃ _, _
  cases h
  exact ⟨[], _, rfl, trivial, rfl, (.eq rfl), rfl⟩
 ·replace h := cnd_f hb1 h
  refine vSkip ?_
  change VC _ _ _ _
  iterate 2 refine vSeq ?_
  refine vRegion ?_
  refine oVal tt rfl rfl rfl rfl rfl trivial ?_
  refine vNil ?_
  change VC _ _ _ _
  refine vJoin (F := fun k => L_eqPlaceS_l1 N a_0 b_1 k) h (α := Unit) (J := fun (_ : Unit) => (⟨[], [], []⟩ : PS)) ?_ ?_
  ·rintro ⟨⟩ h
   show VC _ _ _ (⟨[], [], []⟩ : PS)
   refine vSeq ?_
   refine vRegion ?_
   refine oVal tt rfl rfl rfl rfl rfl trivial ?_
   refine vNil ?_
   change VC _ _ _ _
   refine vRet ?_
   change ∃ _, _
   cases h
   exact ⟨[], _, rfl, trivial, rfl, (.eq rfl), rfl⟩
  ·intro k h
   refine vBlock ?_
   refine vLoopS (α := Int) (fun (i7 : Int) => (⟨[(0, .ro false (.pairs a_0)), (1, .ro false (.pairs b_1)), (5, .int i7)], [], []⟩ : PS)) (L_eqPlaceS_l1 N a_0 b_1 k) h (En.of ⟨rfl, rfl, rfl, trivial⟩ trivial trivial) (fun _ => rfl) ?_
   rintro n i7 h
   rw [L_eqPlaceS_l1] at h
   show VC _ _ _ (⟨[(0, .ro false (.pairs a_0)), (1, .ro false (.pairs b_1)), (5, .int i7)], [], []⟩ : PS)
   iterate 2 refine vSeq ?_
   refine vRegion ?_
   iterate 4 refine oVal tt rfl rfl rfl rfl rfl trivial ?_
   refine vNil ?_
   change VC _ _ _ _
   refine vCond rfl (fun hb2 => ?_) (fun hb2 => ?_)
   ·replace h := cnd_t hb2 h
    refine vSkip ?_
    change VC _ _ _ _
    refine vSeq ?_
    refine vBlock ?_
    refine vSeq ?_
    refine vRegionD (by kernel_rfl) (by kernel_rfl) ?_
    iterate 2 refine cVal tt rfl (wNone rfl) rfl rfl rfl trivial ?_
    obtain ⟨hg3, h⟩ := grd_inv h
    refine cVal tt rfl (wNone rfl) rfl rfl rfl hg3 ?_
    iterate 3 refine cVal tt rfl (wNone rfl) rfl rfl rfl trivial ?_
    obtain ⟨hg4, h⟩ := grd_inv h
    refine cVal tt rfl (wNone rfl) rfl rfl rfl hg4 ?_
    refine cVal tt rfl (wNone rfl) rfl rfl rfl trivial ?_
    obtain ⟨v9, hc5, h⟩ := bind_inv h
    refine cCall (L_eqPlace_w N (a_0.getD ((i7).toNat) (0, 0)) (b_1.getD ((i7).toNat) (0, 0)) v9 hc5) rfl (wNone rfl) rfl rfl rfl rfl rfl rfl ⟨⟨rfl, rfl, trivial⟩, ⟨rfl, rfl, trivial⟩, trivial⟩ ?_
    refine cVal tt rfl (wNone rfl) rfl rfl rfl trivial ?_
    refine cNil ?_
    change VC _ _ _ _
    refine vCond rfl (fun hb6 => ?_) (fun hb6 => ?_)
    ·replace h := cnd_t hb6 h
     refine vSeq ?_
     refine vRegion ?_
     refine oVal tt rfl rfl rfl rfl rfl trivial ?_
     refine vNil ?_
     change VC _ _ _ _
     refine vRet ?_
     change ∃ _, _
     cases h
     exact ⟨[], _, rfl, trivial, rfl, (.eq rfl), rfl⟩
    ·replace h := cnd_f hb6 h
     refine vSkip ?_
     change VC _ _ _ _
     refine vRegion ?_
     refine oVal tt rfl rfl rfl rfl rfl trivial ?_
     obtain ⟨hg7, h⟩ := grd_inv h
     refine oVal tt rfl rfl rfl rfl rfl hg7 ?_
     refine oVal tt rfl rfl rfl rfl rfl trivial ?_
     refine vNil ?_
     change ∃ _, _
     exact ⟨(i7 + (1 : Int)), (En.of ⟨rfl, rfl, rfl, trivial⟩ trivial trivial), h⟩
   ·replace h := cnd_f hb2 h
    refine vExit ?_
    change ∃ _, _
    exact ⟨(), (En.of trivial trivial trivial), h⟩
def L_eqFramework (N : Nat) (a_0 : Frm) (b_1 : Frm) : Option (Bool) :=
 (L_eqGraph N a_0.g b_1.g).bind fun v1 =>
 cnd (!v1) (
  some false) (
  (L_eqPlaceS N a_0.places b_1.places).bind fun v2 =>
  cnd (!v2) (
   some false) (
   some true))
set_option maxRecDepth 20000 in
set_option maxHeartbeats 1600000 in
theorem L_eqFramework_w (N : Nat) (a_0 : Frm) (b_1 : Frm) (r : Bool) (h : L_eqFramework N a_0 b_1 = some r) : PCall Try.prog 51 [fD a_0, fD b_1] [] (.bool r) := by
 unfold L_eqFramework at h
 refine pcall_intro (TT := TT) tt Try.func51 rfl rfl Try.ntmps51 (congrArg Array.toList Try.results51) rfl rfl fun w0 => ?_
 refine vSeq ?_
 refine vRegion ?_
 iterate 2 refine oBox rfl rfl rfl rfl rfl rfl rfl rfl rfl ?_
 refine oVal tt rfl rfl rfl rfl rfl trivial ?_
 refine vNil ?_
 change VC _ _ _ _
 iterate 2 refine vSeq ?_
 refine vRegion ?_
 iterate 4 refine oVal tt rfl rfl rfl rfl rfl trivial ?_
 obtain ⟨v1, hc1, h⟩ := bind_inv h
 refine oCall (L_eqGraph_w N a_0.g b_1.g v1 hc1) rfl rfl rfl rfl rfl rfl rfl rfl ⟨⟨rfl, rfl, trivial⟩, ⟨rfl, rfl, trivial⟩, trivial⟩ ?_
 refine oVal tt rfl rfl rfl rfl rfl trivial ?_
 refine vNil ?_
 change VC _ _ _ _
 refine vCond rfl (fun hb2 => ?_) (fun hb2 => ?_)
 ·replace h := cnd_t hb2 h
  refine vSeq ?_
  refine vRegion ?_
  refine oVal tt rfl rfl rfl rfl rfl trivial ?_
  refine vNil ?_
  change VC _ _ _ _
  refine vRet ?_
  change ∃ _, _
  cases h
  exact ⟨[], _, rfl, trivial, rfl, (.eq rfl), rfl⟩
 ·replace h := cnd_f hb2 h
  refine vSkip ?_
  change VC _ _ _ _
  iterate 2 refine vSeq ?_
  refine vRegion ?_
  iterate 4 refine oVal tt rfl rfl rfl rfl rfl trivial ?_
  obtain ⟨v2, hc3, h⟩ := bind_inv h
  refine oCall (L_eqPlaceS_w N a_0.places b_1.places v2 hc3) rfl rfl rfl rfl rfl rfl rfl rfl ⟨rfl, rfl, trivial⟩ ?_
  refine oVal tt rfl rfl rfl rfl rfl trivial ?_
  refine vNil ?_
  change VC _ _ _ _
  refine vCond rfl (fun hb4 => ?_) (fun hb4 => ?_)
  ·replace h := cnd_t hb4 h
   refine vSeq ?_
   refine vRegion ?_
   refine oVal tt rfl rfl rfl rfl rfl trivial ?_
   refine vNil ?_
   change VC _ _ _ _
   refine vRet ?_
   change ∃ _, _
   cases h
   exact ⟨[], _, rfl, trivial, rfl, (.eq rfl), rfl⟩
  ·replace h := cnd_f hb4 h
   refine vSkip ?_
   change VC _ _ _ _
   refine vSeq ?_
   refine vRegion ?_
   refine oVal tt rfl rfl rfl rfl rfl trivial ?_
   refine vNil ?_
   change VC _ _ _ _
   refine vRet ?_
   change ∃ _, _
   cases h
   exact ⟨[], _, rfl, trivial, rfl, (.eq rfl), rfl⟩
def L_eqLinkage (N : Nat) (a_0 : Lnk) (b_1 : Lnk) : Option (Bool) :=
 (L_eqFramework N a_0.f b_1.f).bind fun v1 =>
 cnd (!v1) (
  some false) (
  (L_eqIntS N a_0.ground b_1.ground).bind fun v2 =>
  cnd (!v2) (
   some false) (
   some true))
set_option maxRecDepth 20000 in
set_option maxHeartbeats 1600000 in
theorem L_eqLinkage_w (N : Nat) (a_0 : Lnk) (b_1 : Lnk) (r : Bool) (h : L_eqLinkage N a_0 b_1 = some r) : PCall Try.prog 16 [lD a_0, lD b_1] [] (.bool r) := by
 unfold L_eqLinkage at h
 refine pcall_intro (TT := TT) tt Try.func16 rfl rfl Try.ntmps16 (congrArg Array.toList Try.results16) rfl rfl fun w0 => ?_
 refine vSeq ?_
 refine vRegion ?_
 iterate 2 refine oBox rfl rfl rfl rfl rfl rfl rfl rfl rfl ?_
 refine oVal tt rfl rfl rfl rfl rfl trivial ?_
 refine vNil ?_
 change VC _ _ _ _
 iterate 2 refine vSeq ?_
 refine vRegion ?_
 iterate 4 refine oVal tt rfl rfl rfl rfl rfl trivial ?_
 obtain ⟨v1, hc1, h⟩ := bind_inv h
 refine oCall (L_eqFramework_w N a_0.f b_1.f v1 hc1) rfl rfl rfl rfl rfl rfl rfl rfl ⟨⟨rfl, rfl, rfl, trivial⟩, ⟨rfl, rfl, rfl, trivial⟩, trivial⟩ ?_
 refine oVal tt rfl rfl rfl rfl rfl trivial ?_
 refine vNil ?_
 change VC _ _ _ _
 refine vCond rfl (fun hb2 => ?_) (fun hb2 => ?_)
 ·replace h := cnd_t hb2 h
  refine vSeq ?_
  refine vRegion ?_
  refine oVal tt rfl rfl rfl rfl rfl trivial ?_
  refine vNil ?_
  change VC _ _ _ _
  refine vRet ?_
  change ∃ _, _
  cases h
  exact ⟨[], _, rfl, trivial, rfl, (.eq rfl), rfl⟩
 ·replace h := cnd_f hb2 h
  refine vSkip ?_
  change VC _ _ _ _
  iterate 2 refine vSeq ?_
  refine vRegion ?_
  iterate 4 refine oVal tt rfl rfl rfl rfl rfl trivial ?_
  obtain ⟨v2, hc3, h⟩ := bind_inv h
  refine oCall (L_eqIntS_w N a_0.ground b_1.ground v2 hc3) rfl rfl rfl rfl rfl rfl rfl rfl ⟨rfl, rfl, trivial⟩ ?_
  refine oVal tt rfl rfl rfl rfl rfl trivial ?_
  refine vNil ?_
  change VC _ _ _ _
  refine vCond rfl (fun hb4 => ?_) (fun hb4 => ?_)
  ·replace h := cnd_t hb4 h
   refine vSeq ?_
   refine vRegion ?_
   refine oVal tt rfl rfl rfl rfl rfl trivial ?_
   refine vNil ?_
   change VC _ _ _ _
   refine vRet ?_
   change ∃ _, _
   cases h
   exact ⟨[], _, rfl, trivial, rfl, (.eq rfl), rfl⟩
  ·replace h := cnd_f hb4 h
   refine vSkip ?_
   change VC _ _ _ _
   refine vSeq ?_
   refine vRegion ?_
   refine oVal tt rfl rfl rfl rfl rfl trivial ?_
   refine vNil ?_
   change VC _ _ _ _
   refine vRet ?_
   change ∃ _, _
   cases h
   exact ⟨[], _, rfl, trivial, rfl, (.eq rfl), rfl⟩
end Go.Proofs.Ytkklfgcelmeccaa
namespace Go.Proofs.Ytkklfgcelmeccaa
open Go.RowKit
def S_l2Has_l1 (N : Nat) (l_0 : List Int) (x_1 : Int) (k : Unit → Option (Bool)) : Nat → Int → Option (Bool)
 | 0, _ => none
 | n + 1, i3 =>
  cnd (decide (i3 < (l_0.length : Int))) (
   grd (0 ≤ i3 ∧ i3 < (l_0.length : Int)) <|
   cnd ((l_0.getD ((i3).toNat) 0) == x_1) (
    some true) (
    grd (Rg64 (i3 + (1 : Int))) <|
    S_l2Has_l1 N l_0 x_1 k n (i3 + (1 : Int)))) (
   k ())
def S_l2Has (N : Nat) (l_0 : List Int) (x_1 : Int) : Option (Bool) :=
 S_l2Has_l1 N l_0 x_1 (fun (_ : Unit) =>
    some false) N (0 : Int)
set_option maxRecDepth 20000 in
set_option maxHeartbeats 1600000 in
theorem S_l2Has_w (N : Nat) (l_0 : List Int) (x_1 : Int) (r : Bool) (h : S_l2Has N l_0 x_1 = some r) : PCall Try.prog 55 [.ro false (.ints l_0), .int x_1] [] (.bool r) := by
 unfold S_l2Has at h
 refine pcall_intro (TT := TT) tt Try.func55 rfl rfl Try.ntmps55 (congrArg Array.toList Try.results55) rfl rfl fun w0 => ?_
 refine vSeq ?_
 refine vRegion ?_
 refine oVal tt rfl rfl rfl rfl rfl trivial ?_
 refine vNil ?_
 change VC _ _ _ _
 iterate 2 refine vSeq ?_
 refine vRegion ?_
 refine oVal tt rfl rfl rfl rfl rfl trivial ?_
 refine vNil ?_
 change VC _ _ _ _
 refine vJoin (F := fun k => S_l2Has_l1 N l_0 x_1 k) h (α := Unit) (J := fun (_ : Unit) => (⟨[], [], []⟩ : PS)) ?_ ?_
 ·rintro ⟨⟩ h
  show VC _ _ _ (⟨[], [], []⟩ : PS)
  refine vSeq ?_
  refine vRegion ?_
  refine oVal tt rfl rfl rfl rfl rfl trivial ?_
  refine vNil ?_
  change VC _ _ _ _
  refine vRet ?_
  change ∃ _, _
  cases h
  exact ⟨[], _, rfl, trivial, rfl, (.eq rfl), rfl⟩
 ·intro k h
  refine vBlock ?_
  refine vLoopS (α := Int) (fun (i3 : Int) => (⟨[(0, .ro false (.ints l_0)), (1, .int x_1), (5, .int i3)], [], []⟩ : PS)) (S_l2Has_l1 N l_0 x_1 k) h (En.of ⟨rfl, rfl, rfl, trivial⟩ trivial trivial) (fun _ => rfl) ?_
  rintro n i3 h
  rw [S_l2Has_l1] at h
  show VC _ _ _ (⟨[(0, .ro false (.ints l_0)), (1, .int x_1), (5, .int i3)], [], []⟩ : PS)
  iterate 2 refine vSeq ?_
  refine vRegion ?_
  iterate 4 refine oVal tt rfl rfl rfl rfl rfl trivial ?_
  refine vNil ?_
  change VC _ _ _ _
  refine vCond rfl (fun hb1 => ?_) (fun hb1 => ?_)
  ·replace h := cnd_t hb1 h
   refine vSkip ?_
   change VC _ _ _ _
   refine vSeq ?_
   refine vBlock ?_
   refine vSeq ?_
   refine vRegion ?_
   iterate 2 refine oVal tt rfl rfl rfl rfl rfl trivial ?_
   obtain ⟨hg2, h⟩ := grd_inv h
   refine oVal tt rfl rfl rfl rfl rfl hg2 ?_
   iterate 3 refine oVal tt rfl rfl rfl rfl rfl trivial ?_
   refine vNil ?_
   change VC _ _ _ _
   refine vCond rfl (fun hb3 => ?_) (fun hb3 => ?_)
   ·replace h := cnd_t hb3 h
    refine vSeq ?_
    refine vRegion ?_
    refine oVal tt rfl rfl rfl rfl rfl trivial ?_
    refine vNil ?_
    change VC _ _ _ _
    refine vRet ?_
    change ∃ _, _
    cases h
    exact ⟨[], _, rfl, trivial, rfl, (.eq rfl), rfl⟩
   ·replace h := cnd_f hb3 h
    refine vSkip ?_
    change VC _ _ _ _
    refine vRegion ?_
    refine oVal tt rfl rfl rfl rfl rfl trivial ?_
    obtain ⟨hg4, h⟩ := grd_inv h
    refine oVal tt rfl rfl rfl rfl rfl hg4 ?_
    refine oVal tt rfl rfl rfl rfl rfl trivial ?_
    refine vNil ?_
    change ∃ _, _
    exact ⟨(i3 + (1 : Int)), (En.of ⟨rfl, rfl, rfl, trivial⟩ trivial trivial), h⟩
  ·replace h := cnd_f hb1 h
   refine vExit ?_
   change ∃ _, _
   exact ⟨(), (En.of trivial trivial trivial), h⟩
end Go.Proofs.Ytkklfgcelmeccaa
namespace Go.Proofs.Ytkklfgcelmeccaa
open Go.RowKit
def S_IsPinned_l1 (N : Nat) (p_0 : Pin) (k : Unit → Option (Bool)) : Nat → Int → Option (Bool)
 | 0, _ => none
 | n + 1, i13 =>
  cnd (decide (i13 < (p_0.g.bars.length : Int))) (
   grd (0 ≤ i13 ∧ i13 < (p_0.g.bars.length : Int)) <|
   (S_l2Has N p_0.ground ((p_0.g.bars.getD ((i13).toNat) (0, 0)).1)).bind fun v16 =>
   cnd v16 (
    (S_l2Has N p_0.ground ((p_0.g.bars.getD ((i13).toNat) (0, 0)).2)).bind fun v17 =>
    cnd v17 (
     some false) (
     grd (Rg64 (i13 + (1 : Int))) <|
     S_IsPinned_l1 N p_0 k n (i13 + (1 : Int)))) (
    grd (Rg64 (i13 + (1 : Int))) <|
    S_IsPinned_l1 N p_0 k n (i13 + (1 : Int)))) (
   k ())
def G_Index_int_l1 (N : Nat) (s_0 : List Int) (v_1 : Int) (k : Unit → Option (Int)) : Nat → Int → Option (Int)
 | 0, _ => none
 | n + 1, x3 =>
  cnd (decide (x3 < (s_0.length : Int))) (
   grd (0 ≤ x3 ∧ x3 < (s_0.length : Int)) <|
   cnd (v_1 == (s_0.getD ((x3).toNat) 0)) (
    some x3) (
    grd (Rg64 (x3 + (1 : Int))) <|
    G_Index_int_l1 N s_0 v_1 k n (x3 + (1 : Int)))) (
   k ())
def G_Index_int (N : Nat) (s_0 : List Int) (v_1 : Int) : Option (Int) :=
 G_Index_int_l1 N s_0 v_1 (fun (_ : Unit) =>
    some (-1 : Int)) N (0 : Int)
set_option maxRecDepth 20000 in
set_option maxHeartbeats 1600000 in
theorem G_Index_int_w (N : Nat) (s_0 : List Int) (v_1 : Int) (r : Int) (h : G_Index_int N s_0 v_1 = some r) : PCall Try.prog 92 [.ro false (.ints s_0), .int v_1] [] (.int r) := by
 unfold G_Index_int at h
 refine pcall_intro (TT := TT) tt Try.func92 rfl rfl Try.ntmps92 (congrArg Array.toList Try.results92) rfl rfl fun w0 => ?_
 refine vSeq ?_
 refine vRegion ?_
 refine oVal tt rfl rfl rfl rfl rfl trivial ?_
 refine vNil ?_
 change VC _ _ _ _
 iterate 2 refine vSeq ?_
 refine vRegion ?_
 iterate 3 refine oVal tt rfl rfl rfl rfl rfl trivial ?_
 refine vNil ?_
 change VC _ _ _ _
 refine vJoin (F := fun k => G_Index_int_l1 N s_0 v_1 k) h (α := Unit) (J := fun (_ : Unit) => (⟨[], [], []⟩ : PS)) ?_ ?_
 ·rintro ⟨⟩ h
  show VC _ _ _ (⟨[], [], []⟩ : PS)
  refine vSeq ?_
  refine vRegion ?_
  refine oVal tt rfl rfl rfl rfl rfl trivial ?_
  refine vNil ?_
  change VC _ _ _ _
  refine vRet ?_
  change ∃ _, _
  cases h
  exact ⟨[], _, rfl, trivial, rfl, (.eq rfl), rfl⟩
 ·intro k h
  refine vBlock ?_
  refine vLoopS (α := Int) (fun (x3 : Int) => (⟨[(0, .ro false (.ints s_0)), (1, .int v_1), (7, .int (s_0.length : Int)), (8, .int x3)], [], []⟩ : PS)) (G_Index_int_l1 N s_0 v_1 k) h (En.of ⟨rfl, rfl, rfl, rfl, trivial⟩ trivial trivial) (fun _ => rfl) ?_
  rintro n x3 h
  rw [G_Index_int_l1] at h
  show VC _ _ _ (⟨[(0, .ro false (.ints s_0)), (1, .int v_1), (7, .int (s_0.length : Int)), (8, .int x3)], [], []⟩ : PS)
  refine vSeq ?_
  refine vRegion ?_
  refine oVal tt rfl rfl rfl rfl rfl trivial ?_
  refine vNil ?_
  change VC _ _ _ _
  refine vSeq ?_
  refine vCond rfl (fun hb1 => ?_) (fun hb1 => ?_)
  ·replace h := cnd_t hb1 h
   refine vSkip ?_
   change VC _ _ _ _
   refine vSeq ?_
   refine vBlock ?_
   refine vSeq ?_
   refine vRegion ?_
   iterate 2 refine oVal tt rfl rfl rfl rfl rfl trivial ?_
   refine vNil ?_
   change VC _ _ _ _
   refine vSeq ?_
   refine vRegion ?_
   iterate 3 refine oVal tt rfl rfl rfl rfl rfl trivial ?_
   obtain ⟨hg2, h⟩ := grd_inv h
   refine oVal tt rfl rfl rfl rfl rfl hg2 ?_
   iterate 2 refine oVal tt rfl rfl rfl rfl rfl trivial ?_
   refine vNil ?_
   change VC _ _ _ _
   refine vCond rfl (fun hb3 => ?_) (fun hb3 => ?_)
   ·replace h := cnd_t hb3 h
    refine vSeq ?_
    refine vRegion ?_
    iterate 2 refine oVal tt rfl rfl rfl rfl rfl trivial ?_
    refine vNil ?_
    change VC _ _ _ _
    refine vRet ?_
    change ∃ _, _
    cases h
    exact ⟨[], _, rfl, trivial, rfl, (.eq rfl), rfl⟩
   ·replace h := cnd_f hb3 h
    refine vSkip ?_
    change VC _ _ _ _
    refine vRegion ?_
    obtain ⟨hg4, h⟩ := grd_inv h
    refine oVal tt rfl rfl rfl rfl rfl hg4 ?_
    refine oVal tt rfl rfl rfl rfl rfl trivial ?_
    refine vNil ?_
    change ∃ _, _
    exact ⟨(x3 + (1 : Int)), (En.of ⟨rfl, rfl, rfl, rfl, trivial⟩ trivial trivial), h⟩
  ·replace h := cnd_f hb1 h
   refine vExit ?_
   change ∃ _, _
   exact ⟨(), (En.of trivial trivial trivial), h⟩
end Go.Proofs.Ytkklfgcelmeccaa
namespace Go.Proofs.Ytkklfgcelmeccaa
open Go.RowKit
def G_Contains_int (N : Nat) (s_0 : List Int) (v_1 : Int) : Option (Bool) :=
 (G_Index_int N s_0 v_1).bind fun v1 =>
 some (decide (v1 ≥ (0 : Int)))
set_option maxRecDepth 20000 in
set_option maxHeartbeats 1600000 in
theorem G_Contains_int_w (N : Nat) (s_0 : List Int) (v_1 : Int) (r : Bool) (h : G_Contains_int N s_0 v_1 = some r) : PCall Try.prog 59 [.ro false (.ints s_0), .int v_1] [] (.bool r) := by
 unfold G_Contains_int at h
 refine pcall_intro (TT := TT) tt Try.func59 rfl rfl Try.ntmps59 (congrArg Array.toList Try.results59) rfl rfl fun w0 => ?_
 refine vSeq ?_
 refine vRegion ?_
 refine oVal tt rfl rfl rfl rfl rfl trivial ?_
 refine vNil ?_
 change VC _ _ _ _
 refine vSeq ?_
 refine vRegion ?_
 iterate 2 refine oVal tt rfl rfl rfl rfl rfl trivial ?_
 obtain ⟨v1, hc1, h⟩ := bind_inv h
 refine oCall (G_Index_int_w N s_0 v_1 v1 hc1) rfl rfl rfl rfl rfl rfl rfl rfl ⟨rfl, rfl, trivial⟩ ?_
 iterate 2 refine oVal tt rfl rfl rfl rfl rfl trivial ?_
 refine vNil ?_
 change VC _ _ _ _
 refine vRet ?_
 change ∃ _, _
 cases h
 exact ⟨[], _, rfl, trivial, rfl, (.eq rfl), rfl⟩
end Go.Proofs.Ytkklfgcelmeccaa
namespace Go.Proofs.Ytkklfgcelmeccaa
variable (N : Nat)
def szv (left : Int) (n : Nat) : Int := if left < n then -1 else left - n
theorem szv_big {left : Int} {n : Nat} (h : left < n) : szv left n = -1 := if_pos h
theorem szv_ok {left : Int} {n : Nat} (h : ¬ left < n) : szv left n = left - n := if_neg h
abbrev B63 (n : Nat) : Prop := n ≤ 9223372036854775807
theorem szIntS_s {a : List Int} (ha : B63 a.length) {left : Int} (h0 : 0 ≤ left) (h1 : left ≤ 1048576) : L_szIntS N a left = some (szv left a.length) := by
 unfold L_szIntS
 by_cases h : left < a.length
 ·rw [szv_big h]; simp (disch := omega) only [Int.toNat_natCast, tk0, List.length_cons, List.length_nil, grd_pos, grd_T, grd_R, cnd_dt, cnd_df, cnd_true, cnd_false, Option.bind_some]
 ·rw [szv_ok h]; simp (disch := omega) only [Int.toNat_natCast, tk0, List.length_cons, List.length_nil, grd_pos, grd_T, grd_R, cnd_dt, cnd_df, cnd_true, cnd_false, Option.bind_some]
theorem toIntS_l {a : List Int} (ha : a.length ≤ 1048576) (k : List Int → Option (List Int)) : ∀ n i : Nat, i ≤ a.length → a.length < n + i → L_toIntS_l1 N a k n (cpy a 0 i, (i : Int)) = k a := by
 intro n
 induction n with
 | zero => intro i h1 h2; omega
 | succ n ih =>
  intro i h1 h2
  have hl := cpy_len a 0 i
  rw [L_toIntS_l1]
  by_cases hi : i < a.length
  ·simp (disch := omega) only [Int.toNat_natCast, tk0, List.length_cons, List.length_nil, grd_pos, grd_T, grd_R, cnd_dt, cnd_df, cnd_true, cnd_false, Option.bind_some, List.length_replicate, hl]
   rw [cpy_set a 0 0 i hi rfl]
   exact ih (i + 1) (by omega) (by omega)
  ·simp (disch := omega) only [Int.toNat_natCast, tk0, List.length_cons, List.length_nil, grd_pos, grd_T, grd_R, cnd_dt, cnd_df, cnd_true, cnd_false, Option.bind_some]
   obtain rfl : i = a.length := by omega
   rw [cpy_full]
theorem toIntS_s (hN : 4000000 ≤ N) {a : List Int} (ha : a.length ≤ 1048576) : L_toIntS N a = some a := by
 unfold L_toIntS
 have h := toIntS_l N ha (fun l9 => grd ((List.replicate (((a.length : Int)).toNat) (0 : Int)).length = l9.length) <| some l9) N 0 (by omega) (by omega)
 simp only [Int.toNat_natCast, cpy_zero] at h ⊢
 simp (disch := omega) only [Int.toNat_natCast, tk0, List.length_cons, List.length_nil, grd_pos, grd_T, grd_R, cnd_dt, cnd_df, cnd_true, cnd_false, Option.bind_some]
 refine h.trans ?_
 simp (disch := omega) only [Int.toNat_natCast, tk0, List.length_cons, List.length_nil, grd_pos, grd_T, grd_R, cnd_dt, cnd_df, cnd_true, cnd_false, Option.bind_some, cpy_len]
theorem eqIntS_l {a : List Int} (ha : a.length ≤ 1048576) (k : Unit → Option Bool) : ∀ n i : Nat, i ≤ a.length → a.length < n + i → L_eqIntS_l1 N a a k n (i : Int) = k () := by
 intro n
 induction n with
 | zero => intro i h1 h2; omega
 | succ n ih =>
  intro i h1 h2
  rw [L_eqIntS_l1]
  by_cases hi : i < a.length
  ·simp (disch := omega) only [Int.toNat_natCast, tk0, List.length_cons, List.length_nil, grd_pos, grd_T, grd_R, cnd_dt, cnd_df, cnd_true, cnd_false, Option.bind_some, bne_self_eq_false]
   exact ih (i + 1) (by omega) (by omega)
  ·simp (disch := omega) only [Int.toNat_natCast, tk0, List.length_cons, List.length_nil, grd_pos, grd_T, grd_R, cnd_dt, cnd_df, cnd_true, cnd_false, Option.bind_some]
theorem eqIntS_s (hN : 4000000 ≤ N) {a : List Int} (ha : a.length ≤ 1048576) : L_eqIntS N a a = some true := by
 unfold L_eqIntS
 simp (disch := omega) only [Int.toNat_natCast, tk0, List.length_cons, List.length_nil, grd_pos, grd_T, grd_R, cnd_dt, cnd_df, cnd_true, cnd_false, Option.bind_some, bne_self_eq_false]
 exact eqIntS_l N ha (fun _ => some true) N 0 (by omega) (by omega)
theorem szBarS_s {a : List (Int × Int)} (ha : B63 a.length) {left : Int} (h0 : 0 ≤ left) (h1 : left ≤ 1048576) : L_szBarS N a left = some (szv left a.length) := by
 unfold L_szBarS
 by_cases h : left < a.length
 ·rw [szv_big h]; simp (disch := omega) only [Int.toNat_natCast, tk0, List.length_cons, List.length_nil, grd_pos, grd_T, grd_R, cnd_dt, cnd_df, cnd_true, cnd_false, Option.bind_some]
 ·rw [szv_ok h]; simp (disch := omega) only [Int.toNat_natCast, tk0, List.length_cons, List.length_nil, grd_pos, grd_T, grd_R, cnd_dt, cnd_df, cnd_true, cnd_false, Option.bind_some]
theorem toBar_s (x : Int × Int) : L_toBar N x = some x := rfl
theorem toBarS_l {a : List (Int × Int)} (ha : a.length ≤ 1048576) (k : List (Int × Int) → Option (List (Int × Int))) : ∀ n i : Nat, i ≤ a.length → a.length < n + i → L_toBarS_l1 N a k n (cpy a (0, 0) i, (i : Int)) = k a := by
 intro n
 induction n with
 | zero => intro i h1 h2; omega
 | succ n ih =>
  intro i h1 h2
  have hl := cpy_len a (0, 0) i
  rw [L_toBarS_l1]
  by_cases hi : i < a.length
  ·simp (disch := omega) only [Int.toNat_natCast, tk0, List.length_cons, List.length_nil, grd_pos, grd_T, grd_R, cnd_dt, cnd_df, cnd_true, cnd_false, Option.bind_some, List.length_replicate, hl, toBar_s]
   rw [set_pair _ _ _ _ (by omega), cpy_set a (0, 0) (0, 0) i hi rfl]
   exact ih (i + 1) (by omega) (by omega)
  ·simp (disch := omega) only [Int.toNat_natCast, tk0, List.length_cons, List.length_nil, grd_pos, grd_T, grd_R, cnd_dt, cnd_df, cnd_true, cnd_false, Option.bind_some]
   obtain rfl : i = a.length := by omega
   rw [cpy_full]
theorem toBarS_s (hN : 4000000 ≤ N) {a : List (Int × Int)} (ha : a.length ≤ 1048576) : L_toBarS N a = some a := by
 unfold L_toBarS
 have h := toBarS_l N ha (fun l9 => grd ((List.replicate (((a.length : Int)).toNat) ((0, 0) : Int × Int)).length = l9.length) <| some l9) N 0 (by omega) (by omega)
 simp only [Int.toNat_natCast, cpy_zero] at h ⊢
 simp (disch := omega) only [Int.toNat_natCast, tk0, List.length_cons, List.length_nil, grd_pos, grd_T, grd_R, cnd_dt, cnd_df, cnd_true, cnd_false, Option.bind_some]
 refine h.trans ?_
 simp (disch := omega) only [Int.toNat_natCast, tk0, List.length_cons, List.length_nil, grd_pos, grd_T, grd_R, cnd_dt, cnd_df, cnd_true, cnd_false, Option.bind_some, cpy_len]
theorem eqBar_s (x : Int × Int) : L_eqBar N x x = some true := by
 unfold L_eqBar
 simp (disch := omega) only [Int.toNat_natCast, tk0, List.length_cons, List.length_nil, grd_pos, grd_T, grd_R, cnd_dt, cnd_df, cnd_true, cnd_false, Option.bind_some, bne_self_eq_false]
theorem eqBarS_l {a : List (Int × Int)} (ha : a.length ≤ 1048576) (k : Unit → Option Bool) : ∀ n i : Nat, i ≤ a.length → a.length < n + i → L_eqBarS_l1 N a a k n (i : Int) = k () := by
 intro n
 induction n with
 | zero => intro i h1 h2; omega
 | succ n ih =>
  intro i h1 h2
  rw [L_eqBarS_l1]
  by_cases hi : i < a.length
  ·simp (disch := omega) only [Int.toNat_natCast, tk0, List.length_cons, List.length_nil, grd_pos, grd_T, grd_R, cnd_dt, cnd_df, cnd_true, cnd_false, Option.bind_some, bne_self_eq_false, eqBar_s, Bool.not_true]
   exact ih (i + 1) (by omega) (by omega)
  ·simp (disch := omega) only [Int.toNat_natCast, tk0, List.length_cons, List.length_nil, grd_pos, grd_T, grd_R, cnd_dt, cnd_df, cnd_true, cnd_false, Option.bind_some]
theorem eqBarS_s (hN : 4000000 ≤ N) {a : List (Int × Int)} (ha : a.length ≤ 1048576) : L_eqBarS N a a = some true := by
 unfold L_eqBarS
 simp (disch := omega) only [Int.toNat_natCast, tk0, List.length_cons, List.length_nil, grd_pos, grd_T, grd_R, cnd_dt, cnd_df, cnd_true, cnd_false, Option.bind_some, bne_self_eq_false]
 exact eqBarS_l N ha (fun _ => some true) N 0 (by omega) (by omega)
theorem szPlaceS_s {a : List (Int × Int)} (ha : B63 a.length) {left : Int} (h0 : 0 ≤ left) (h1 : left ≤ 1048576) : L_szPlaceS N a left = some (szv left a.length) := by
 unfold L_szPlaceS
 by_cases h : left < a.length
 ·rw [szv_big h]; simp (disch := omega) only [Int.toNat_natCast, tk0, List.length_cons, List.length_nil, grd_pos, grd_T, grd_R, cnd_dt, cnd_df, cnd_true, cnd_false, Option.bind_some]
 ·rw [szv_ok h]; simp (disch := omega) only [Int.toNat_natCast, tk0, List.length_cons, List.length_nil, grd_pos, grd_T, grd_R, cnd_dt, cnd_df, cnd_true, cnd_false, Option.bind_some]
theorem toPlace_s (x : Int × Int) : L_toPlace N x = some x := rfl
theorem toPlaceS_l {a : List (Int × Int)} (ha : a.length ≤ 1048576) (k : List (Int × Int) → Option (List (Int × Int))) : ∀ n i : Nat, i ≤ a.length → a.length < n + i → L_toPlaceS_l1 N a k n (cpy a (0, 0) i, (i : Int)) = k a := by
 intro n
 induction n with
 | zero => intro i h1 h2; omega
 | succ n ih =>
  intro i h1 h2
  have hl := cpy_len a (0, 0) i
  rw [L_toPlaceS_l1]
  by_cases hi : i < a.length
  ·simp (disch := omega) only [Int.toNat_natCast, tk0, List.length_cons, List.length_nil, grd_pos, grd_T, grd_R, cnd_dt, cnd_df, cnd_true, cnd_false, Option.bind_some, List.length_replicate, hl, toPlace_s]
   rw [set_pair _ _ _ _ (by omega), cpy_set a (0, 0) (0, 0) i hi rfl]
   exact ih (i + 1) (by omega) (by omega)
  ·simp (disch := omega) only [Int.toNat_natCast, tk0, List.length_cons, List.length_nil, grd_pos, grd_T, grd_R, cnd_dt, cnd_df, cnd_true, cnd_false, Option.bind_some]
   obtain rfl : i = a.length := by omega
   rw [cpy_full]
theorem toPlaceS_s (hN : 4000000 ≤ N) {a : List (Int × Int)} (ha : a.length ≤ 1048576) : L_toPlaceS N a = some a := by
 unfold L_toPlaceS
 have h := toPlaceS_l N ha (fun l9 => grd ((List.replicate (((a.length : Int)).toNat) ((0, 0) : Int × Int)).length = l9.length) <| some l9) N 0 (by omega) (by omega)
 simp only [Int.toNat_natCast, cpy_zero] at h ⊢
 simp (disch := omega) only [Int.toNat_natCast, tk0, List.length_cons, List.length_nil, grd_pos, grd_T, grd_R, cnd_dt, cnd_df, cnd_true, cnd_false, Option.bind_some]
 refine h.trans ?_
 simp (disch := omega) only [Int.toNat_natCast, tk0, List.length_cons, List.length_nil, grd_pos, grd_T, grd_R, cnd_dt, cnd_df, cnd_true, cnd_false, Option.bind_some, cpy_len]
theorem eqPlace_s (x : Int × Int) : L_eqPlace N x x = some true := by
 unfold L_eqPlace
 simp (disch := omega) only [Int.toNat_natCast, tk0, List.length_cons, List.length_nil, grd_pos, grd_T, grd_R, cnd_dt, cnd_df, cnd_true, cnd_false, Option.bind_some, bne_self_eq_false]
theorem eqPlaceS_l {a : List (Int × Int)} (ha : a.length ≤ 1048576) (k : Unit → Option Bool) : ∀ n i : Nat, i ≤ a.length → a.length < n + i → L_eqPlaceS_l1 N a a k n (i : Int) = k () := by
 intro n
 induction n with
 | zero => intro i h1 h2; omega
 | succ n ih =>
  intro i h1 h2
  rw [L_eqPlaceS_l1]
  by_cases hi : i < a.length
  ·simp (disch := omega) only [Int.toNat_natCast, tk0, List.length_cons, List.length_nil, grd_pos, grd_T, grd_R, cnd_dt, cnd_df, cnd_true, cnd_false, Option.bind_some, bne_self_eq_false, eqPlace_s, Bool.not_true]
   exact ih (i + 1) (by omega) (by omega)
  ·simp (disch := omega) only [Int.toNat_natCast, tk0, List.length_cons, List.length_nil, grd_pos, grd_T, grd_R, cnd_dt, cnd_df, cnd_true, cnd_false, Option.bind_some]
theorem eqPlaceS_s (hN : 4000000 ≤ N) {a : List (Int × Int)} (ha : a.length ≤ 1048576) : L_eqPlaceS N a a = some true := by
 unfold L_eqPlaceS
 simp (disch := omega) only [Int.toNat_natCast, tk0, List.length_cons, List.length_nil, grd_pos, grd_T, grd_R, cnd_dt, cnd_df, cnd_true, cnd_false, Option.bind_some, bne_self_eq_false]
 exact eqPlaceS_l N ha (fun _ => some true) N 0 (by omega) (by omega)
abbrev lnGraph (a : Grf) : Nat := a.bars.length
abbrev BGraph (a : Grf) : Prop := B63 a.bars.length
theorem szGraph_s {a : Grf} (ha : BGraph a) {left : Int} (h0 : 0 ≤ left) (h1 : left ≤ 1048576) : L_szGraph N a left = some (szv left (lnGraph a)) := by
 unfold L_szGraph
 rw [szBarS_s N ha h0 h1]
 by_cases h : left < a.bars.length
 ·rw [szv_big h]; simp (disch := omega) only [Int.toNat_natCast, tk0, List.length_cons, List.length_nil, grd_pos, grd_T, grd_R, cnd_dt, cnd_df, cnd_true, cnd_false, Option.bind_some]
 ·rw [szv_ok h]; simp (disch := omega) only [Int.toNat_natCast, tk0, List.length_cons, List.length_nil, grd_pos, grd_T, grd_R, cnd_dt, cnd_df, cnd_true, cnd_false, Option.bind_some]
theorem toGraph_s (hN : 4000000 ≤ N) {a : Grf} (ha : lnGraph a ≤ 1048576) : L_toGraph N a = some a := by
 unfold L_toGraph
 rw [toBarS_s N hN (a := a.bars) (by have := ha; simp only [lnGraph] at this; omega)]
 rfl
theorem eqGraph_s (hN : 4000000 ≤ N) {a : Grf} (ha : lnGraph a ≤ 1048576) : L_eqGraph N a a = some true := by
 unfold L_eqGraph
 rw [eqBarS_s N hN (a := a.bars) (by have := ha; simp only [lnGraph] at this; omega)]
 simp only [bne_self_eq_false]; rfl
abbrev lnRaise (a : Rse) : Nat := a.bars.length
abbrev lnPinned (a : Pin) : Nat := a.g.bars.length + a.ground.length
abbrev lnFramework (a : Frm) : Nat := a.g.bars.length + a.places.length
abbrev BFramework (a : Frm) : Prop := B63 a.g.bars.length ∧ B63 a.places.length
theorem szFramework_s {a : Frm} (ha : BFramework a) {left : Int} (h0 : 0 ≤ left) (h1 : left ≤ 1048576) : L_szFramework N a left = some (szv left (lnFramework a)) := by
 unfold L_szFramework
 have e : lnFramework a = (lnGraph a.g) + a.places.length := rfl
 rw [szGraph_s N ha.1 h0 h1]
 by_cases h : left < (lnGraph a.g)
 ·rw [szv_big h, szv_big (by omega)]; simp (disch := omega) only [Int.toNat_natCast, tk0, List.length_cons, List.length_nil, grd_pos, grd_T, grd_R, cnd_dt, cnd_df, cnd_true, cnd_false, Option.bind_some]
 ·rw [szv_ok h]
  simp (disch := omega) only [Int.toNat_natCast, tk0, List.length_cons, List.length_nil, grd_pos, grd_T, grd_R, cnd_dt, cnd_df, cnd_true, cnd_false, Option.bind_some]
  rw [szPlaceS_s N ha.2 (by omega) (by omega)]
  by_cases h' : left - (lnGraph a.g) < a.places.length
  ·rw [szv_big h', szv_big (by omega)]; simp (disch := omega) only [Int.toNat_natCast, tk0, List.length_cons, List.length_nil, grd_pos, grd_T, grd_R, cnd_dt, cnd_df, cnd_true, cnd_false, Option.bind_some]
  ·rw [szv_ok h', szv_ok (by omega)]
   simp (disch := omega) only [Int.toNat_natCast, tk0, List.length_cons, List.length_nil, grd_pos, grd_T, grd_R, cnd_dt, cnd_df, cnd_true, cnd_false, Option.bind_some]
   congr 1; omega
theorem toFramework_s (hN : 4000000 ≤ N) {a : Frm} (ha : lnFramework a ≤ 1048576) : L_toFramework N a = some a := by
 unfold L_toFramework
 rw [toGraph_s N hN (a := a.g) (by have := ha; simp only [lnFramework] at this; simp only [lnGraph]; omega), Option.bind_some, toPlaceS_s N hN (a := a.places) (by have := ha; simp only [lnFramework] at this; omega)]
 rfl
theorem eqFramework_s (hN : 4000000 ≤ N) {a : Frm} (ha : lnFramework a ≤ 1048576) : L_eqFramework N a a = some true := by
 unfold L_eqFramework
 rw [eqGraph_s N hN (a := a.g) (by have := ha; simp only [lnFramework] at this; simp only [lnGraph]; omega), Option.bind_some, eqPlaceS_s N hN (a := a.places) (by have := ha; simp only [lnFramework] at this; omega)]
 rfl
abbrev lnLinkage (a : Lnk) : Nat := a.f.g.bars.length + a.f.places.length + a.ground.length
abbrev BLinkage (a : Lnk) : Prop := B63 a.f.g.bars.length ∧ B63 a.f.places.length ∧ B63 a.ground.length
theorem szLinkage_s {a : Lnk} (ha : BLinkage a) {left : Int} (h0 : 0 ≤ left) (h1 : left ≤ 1048576) : L_szLinkage N a left = some (szv left (lnLinkage a)) := by
 unfold L_szLinkage
 have e : lnLinkage a = (lnFramework a.f) + a.ground.length := rfl
 rw [szFramework_s N ⟨ha.1, ha.2.1⟩ h0 h1]
 by_cases h : left < (lnFramework a.f)
 ·rw [szv_big h, szv_big (by omega)]; simp (disch := omega) only [Int.toNat_natCast, tk0, List.length_cons, List.length_nil, grd_pos, grd_T, grd_R, cnd_dt, cnd_df, cnd_true, cnd_false, Option.bind_some]
 ·rw [szv_ok h]
  simp (disch := omega) only [Int.toNat_natCast, tk0, List.length_cons, List.length_nil, grd_pos, grd_T, grd_R, cnd_dt, cnd_df, cnd_true, cnd_false, Option.bind_some]
  rw [szIntS_s N ha.2.2 (by omega) (by omega)]
  by_cases h' : left - (lnFramework a.f) < a.ground.length
  ·rw [szv_big h', szv_big (by omega)]; simp (disch := omega) only [Int.toNat_natCast, tk0, List.length_cons, List.length_nil, grd_pos, grd_T, grd_R, cnd_dt, cnd_df, cnd_true, cnd_false, Option.bind_some]
  ·rw [szv_ok h', szv_ok (by omega)]
   simp (disch := omega) only [Int.toNat_natCast, tk0, List.length_cons, List.length_nil, grd_pos, grd_T, grd_R, cnd_dt, cnd_df, cnd_true, cnd_false, Option.bind_some]
   congr 1; omega
theorem toLinkage_s (hN : 4000000 ≤ N) {a : Lnk} (ha : lnLinkage a ≤ 1048576) : L_toLinkage N a = some a := by
 unfold L_toLinkage
 rw [toFramework_s N hN (a := a.f) (by have := ha; simp only [lnLinkage] at this; simp only [lnFramework]; omega), Option.bind_some, toIntS_s N hN (a := a.ground) (by have := ha; simp only [lnLinkage] at this; omega)]
 rfl
theorem eqLinkage_s (hN : 4000000 ≤ N) {a : Lnk} (ha : lnLinkage a ≤ 1048576) : L_eqLinkage N a a = some true := by
 unfold L_eqLinkage
 rw [eqFramework_s N hN (a := a.f) (by have := ha; simp only [lnLinkage] at this; simp only [lnFramework]; omega), Option.bind_some, eqIntS_s N hN (a := a.ground) (by have := ha; simp only [lnLinkage] at this; omega)]
 rfl
end Go.Proofs.Ytkklfgcelmeccaa
namespace Go.Proofs.Ytkklfgcelmeccaa
open Go.RowKit
end Go.Proofs.Ytkklfgcelmeccaa
namespace Go.Proofs.Ytkklfgcelmeccaa
open Go.RowKit
end Go.Proofs.Ytkklfgcelmeccaa
namespace Go.Proofs.Ytkklfgcelmeccaa
variable {N : Nat}
end Go.Proofs.Ytkklfgcelmeccaa
namespace Go.Proofs.Ytkklfgcelmeccaa
variable {R σ : Type}
theorem srchA {F : Nat → Int → Option R} {len : Nat} {ok : Nat → Bool} {bad fin : Option R}
  (hs : ∀ n i : Nat, i < len → (∀ j, j < i → ok j = true) → F (n + 1) (i : Int) = cnd (ok i) (F n ((i + 1 : Nat) : Int)) bad) (hf : ∀ n : Nat, (∀ j, j < len → ok j = true) → F (n + 1) (len : Int) = fin) :
  ∀ n i : Nat, i ≤ len → len < n + i → (∀ j, j < i → ok j = true) → F n (i : Int) = cnd ((List.range len).all ok) fin bad := by
 intro n
 induction n with
 | zero => intro i h1 h2; omega
 | succ n ih =>
  intro i h1 h2 h3
  by_cases hi : i < len
  ·rw [hs n i hi h3]
   cases ho : ok i with
   | true =>
    exact ih (i + 1) (by omega) (by omega) fun j hj => by
     rcases Nat.lt_or_ge j i with h | h
     ·exact h3 j h
     ·rw [show j = i by omega]; exact ho
   | false =>
    have : (List.range len).all ok = false := by
     rw [List.all_eq_false]; exact ⟨i, by simpa using hi, by simp [ho]⟩
    rw [this]; rfl
  ·obtain rfl : i = len := by omega
   rw [hf n h3]
   have : (List.range i).all ok = true := by
    rw [List.all_eq_true]; intro j hj; exact h3 j (by simpa using hj)
   rw [this]; rfl
theorem srch {F : Nat → Int → Option R} {N len : Nat} {ok : Nat → Bool} {bad fin : Option R} (hN : len < N)
  (hs : ∀ n i : Nat, i < len → (∀ j, j < i → ok j = true) → F (n + 1) (i : Int) = cnd (ok i) (F n ((i + 1 : Nat) : Int)) bad) (hf : ∀ n : Nat, (∀ j, j < len → ok j = true) → F (n + 1) (len : Int) = fin) :
  F N (0 : Int) = cnd ((List.range len).all ok) fin bad :=
 srchA hs hf N 0 (by omega) (by omega) (by omega)
theorem foldA {F : Nat → σ × Int → Option R} {len : Nat} {st : Nat → σ} {fin : Option R} (hs : ∀ n i : Nat, i < len → F (n + 1) (st i, (i : Int)) = F n (st (i + 1), ((i + 1 : Nat) : Int))) (hf : ∀ n : Nat, F (n + 1) (st len, (len : Int)) = fin) :
  ∀ n i : Nat, i ≤ len → len < n + i → F n (st i, (i : Int)) = fin := by
 intro n
 induction n with
 | zero => intro i h1 h2; omega
 | succ n ih =>
  intro i h1 h2
  by_cases hi : i < len
  ·rw [hs n i hi]; exact ih (i + 1) (by omega) (by omega)
  ·obtain rfl : i = len := by omega
   exact hf n
theorem fold {F : Nat → σ × Int → Option R} {N len : Nat} {st : Nat → σ} {fin : Option R} (hN : len < N) (hs : ∀ n i : Nat, i < len → F (n + 1) (st i, (i : Int)) = F n (st (i + 1), ((i + 1 : Nat) : Int))) (hf : ∀ n : Nat, F (n + 1) (st len, (len : Int)) = fin) :
  F N (st 0, (0 : Int)) = fin := foldA hs hf N 0 (by omega) (by omega)
theorem cnd_congr {α : Type} {a b : Bool} (h : a = b) (x y : α) : cnd a x y = cnd b x y := by rw [h]
theorem cnd_congr' {α : Type} {a b : Bool} (h : a = !b) (x y : α) : cnd a x y = cnd b y x := by subst h; cases b <;> rfl
theorem succ_cast (i : Nat) : ((i : Int) + 1) = ((i + 1 : Nat) : Int) := rfl
theorem range_all_not_contains (l : List Int) (x : Int) : ((List.range l.length).all fun i => !(l.getD i 0 == x)) = !l.contains x := by
 rw [Bool.eq_iff_iff, List.all_eq_true]
 simp only [List.mem_range, Bool.not_eq_true', beq_eq_false_iff_ne, List.contains_eq_mem, decide_eq_false_iff_not]
 constructor
 ·intro h hx
  obtain ⟨i, hi, he⟩ := List.mem_iff_getElem.1 hx
  exact h i hi (by simp [List.getD_eq_getElem?_getD, hi, he])
 ·intro h i hi he
  exact h (List.mem_iff_getElem.2 ⟨i, hi, by simpa [List.getD_eq_getElem?_getD, hi] using he⟩)
end Go.Proofs.Ytkklfgcelmeccaa
namespace Go.Proofs.Ytkklfgcelmeccaa
variable (N : Nat)
theorem l1In_s (x lo hi : Int) : S_l1In N x lo hi = some (inB x lo hi) := by
 unfold S_l1In inB
 rw [cnd_some]
 show some (cnd (decide (lo ≤ x)) _ _) = _
 cases decide (lo ≤ x) <;> rfl
theorem within_s (x lo hi : Int) : I_within N x lo hi = some (inB x lo hi) := by
 unfold I_within inB
 rw [cnd_some]
 show some (cnd (decide (lo ≤ x)) _ _) = _
 cases decide (lo ≤ x) <;> rfl
theorem l2Has_s (hN : 4000000 ≤ N) {l : List Int} (hl : l.length ≤ 3000000) (x : Int) : S_l2Has N l x = some (l.contains x) := by
 unfold S_l2Has
 refine (srch (len := l.length) (ok := fun i => !(l.getD i 0 == x)) (bad := some true) (fin := some false) (by omega) ?_ ?_).trans ?_
 ·intro n i hi _
  rw [S_l2Has_l1]
  simp (disch := omega) only [Int.toNat_natCast, tk0, List.length_cons, List.length_nil, grd_pos, grd_T, grd_R, cnd_dt, cnd_df, cnd_true, cnd_false, Option.bind_some, cnd_not, succ_cast]
 ·intro n _
  rw [S_l2Has_l1]
  simp (disch := omega) only [Int.toNat_natCast, tk0, List.length_cons, List.length_nil, grd_pos, grd_T, grd_R, cnd_dt, cnd_df, cnd_true, cnd_false, Option.bind_some]
 ·rw [range_all_not_contains, cnd_some]; cases l.contains x <;> rfl
theorem indexInt_l (hN : 4000000 ≤ N) {l : List Int} (hl : l.length ≤ 3000000) (x : Int) : ∀ n i : Nat, i ≤ l.length → l.length < n + i → ∃ r : Int, G_Index_int_l1 N l x (fun _ => some (-1)) n (i : Int) = some r ∧ (decide (r ≥ 0) = (l.drop i).contains x) := by
 intro n
 induction n with
 | zero => intro i h1 h2; omega
 | succ n ih =>
  intro i h1 h2
  rw [G_Index_int_l1]
  by_cases hi : i < l.length
  ·simp (disch := omega) only [Int.toNat_natCast, tk0, List.length_cons, List.length_nil, grd_pos, grd_T, grd_R, cnd_dt, cnd_df, cnd_true, cnd_false, Option.bind_some]
   rw [List.drop_eq_getElem_cons hi, List.contains_cons]
   have e : l.getD i 0 = l[i] := by simp [List.getD_eq_getElem?_getD, hi]
   rw [e]
   cases h : x == l[i] with
   | true => exact ⟨i, rfl, by simp⟩
   | false =>
    obtain ⟨r, h1, h2⟩ := ih (i + 1) (by omega) (by omega)
    exact ⟨r, h1, by rw [h2]; rfl⟩
  ·simp (disch := omega) only [Int.toNat_natCast, tk0, List.length_cons, List.length_nil, grd_pos, grd_T, grd_R, cnd_dt, cnd_df, cnd_true, cnd_false, Option.bind_some]
   exact ⟨-1, rfl, by rw [List.drop_eq_nil_of_le (by omega)]; rfl⟩
theorem contains_s (hN : 4000000 ≤ N) {l : List Int} (hl : l.length ≤ 3000000) (x : Int) : G_Contains_int N l x = some (l.contains x) := by
 unfold G_Contains_int G_Index_int
 obtain ⟨r, h1, h2⟩ := indexInt_l N hN hl x N 0 (by omega) (by omega)
 rw [show (0 : Int) = ((0 : Nat) : Int) from rfl, h1]
 show some (decide (r ≥ 0)) = _
 rw [h2]; rfl
theorem l2After_s (a b : Int × Int) : S_l2After N a b = some (barLeB a b) := by
 unfold S_l2After barLeB
 simp only [cnd_some]
 cases decide (a.1 < b.1) <;> cases a.1 == b.1 <;> rfl
theorem compareInts_s (a b : Int) : I_compareInts N a b = some (cmpI a b) := by
 unfold I_compareInts cmpI
 by_cases h : a < b
 ·simp (disch := omega) only [Int.toNat_natCast, tk0, List.length_cons, List.length_nil, grd_pos, grd_T, grd_R, cnd_dt, cnd_df, cnd_true, cnd_false, Option.bind_some, if_pos h]
 ·by_cases h' : b < a
  ·simp (disch := omega) only [Int.toNat_natCast, tk0, List.length_cons, List.length_nil, grd_pos, grd_T, grd_R, cnd_dt, cnd_df, cnd_true, cnd_false, Option.bind_some, if_neg h, if_pos h', gt_iff_lt]
  ·simp (disch := omega) only [Int.toNat_natCast, tk0, List.length_cons, List.length_nil, grd_pos, grd_T, grd_R, cnd_dt, cnd_df, cnd_true, cnd_false, Option.bind_some, if_neg h, if_neg h', gt_iff_lt]
theorem compareBars_s (a b : Int × Int) : I_compareBars N a b = some (cmpBar a b) := by
 unfold I_compareBars cmpBar
 simp only [compareInts_s, Option.bind_some]
 by_cases h : cmpI a.1 b.1 = 0
 ·rw [if_pos h, cnd_nef h]
 ·rw [if_neg h, cnd_net h]
theorem cmpBar_gt (a b : Int × Int) : decide (cmpBar a b > 0) = !barLeB a b := by
 have := cmpBar_pos a b
 cases h : barLeB a b with
 | true => rw [h] at this; simp at this; simp; omega
 | false => rw [h] at this; simp at this; simp; omega
theorem isGraphS_s (hN : 4000000 ≤ N) {g : Grf} : S_IsGraph N g = some (isGraph g) := by
 unfold S_IsGraph isGraph
 rw [l1In_s, Option.bind_some, cnd_not]
 cases h1 : inB g.n 1 8 with
 | false => rfl
 | true =>
  by_cases h2 : g.bars.length ≤ 24
  ·simp (disch := omega) only [Int.toNat_natCast, tk0, List.length_cons, List.length_nil, grd_pos, grd_T, grd_R, cnd_dt, cnd_df, cnd_true, cnd_false, Option.bind_some]
   refine (srch (len := g.bars.length) (ok := barAt g.n g.bars) (bad := some false) (fin := some true) (by omega) ?_ ?_).trans ?_
   ·intro n i hi _
    rw [S_IsGraph_l1]
    by_cases h0 : i = 0
    ·subst h0
     simp (disch := omega) only [Int.toNat_natCast, tk0, List.length_cons, List.length_nil, grd_pos, grd_T, grd_R, cnd_dt, cnd_df, cnd_true, cnd_false, Option.bind_some, l2After_s, cnd_or, cnd_and, succ_cast]
     refine cnd_congr' ?_ _ _
     simp only [barAt, barOkB]
     rw [Bool.eq_iff_iff]; simp; omega
    ·simp (disch := omega) only [Int.toNat_natCast, tk0, List.length_cons, List.length_nil, grd_pos, grd_T, grd_R, cnd_dt, cnd_df, cnd_true, cnd_false, Option.bind_some, l2After_s, cnd_or, cnd_and, succ_cast, show ((i : Int) - 1).toNat = i - 1 from by omega]
     refine cnd_congr' ?_ _ _
     simp only [barAt, barOkB, decide_eq_false h0, Bool.false_or]
     cases barLeB (g.bars.getD (i - 1) (0, 0)) (g.bars.getD i (0, 0)) <;> (rw [Bool.eq_iff_iff]; simp; try omega)
   ·intro n _
    rw [S_IsGraph_l1]
    simp (disch := omega) only [Int.toNat_natCast, tk0, List.length_cons, List.length_nil, grd_pos, grd_T, grd_R, cnd_dt, cnd_df, cnd_true, cnd_false, Option.bind_some]
   ·rw [cnd_some, cnd_bool]; simp [h2]
  ·simp (disch := omega) only [Int.toNat_natCast, tk0, List.length_cons, List.length_nil, grd_pos, grd_T, grd_R, cnd_dt, cnd_df, cnd_true, cnd_false, Option.bind_some]
   simp [h2]
theorem isGraphI_s (hN : 4000000 ≤ N) {g : Grf} : I_IsGraph N g = some (isGraph g) := by
 unfold I_IsGraph isGraph
 rw [within_s, Option.bind_some, cnd_not]
 cases h1 : inB g.n 1 8 with
 | false => rfl
 | true =>
  by_cases h2 : g.bars.length ≤ 24
  ·simp (disch := omega) only [Int.toNat_natCast, tk0, List.length_cons, List.length_nil, grd_pos, grd_T, grd_R, cnd_dt, cnd_df, cnd_true, cnd_false, Option.bind_some]
   refine (srch (len := g.bars.length) (ok := barAt g.n g.bars) (bad := some false) (fin := some true) (by omega) ?_ ?_).trans ?_
   ·intro n i hi _
    rw [I_IsGraph_l1]
    by_cases h0 : i = 0
    ·subst h0
     simp (disch := omega) only [Int.toNat_natCast, tk0, List.length_cons, List.length_nil, grd_pos, grd_T, grd_R, cnd_dt, cnd_df, cnd_true, cnd_false, Option.bind_some, compareBars_s, cmpBar_gt, cnd_or, cnd_and, succ_cast]
     refine cnd_congr' ?_ _ _
     simp only [barAt, barOkB]
     rw [Bool.eq_iff_iff]; simp; omega
    ·simp (disch := omega) only [Int.toNat_natCast, tk0, List.length_cons, List.length_nil, grd_pos, grd_T, grd_R, cnd_dt, cnd_df, cnd_true, cnd_false, Option.bind_some, compareBars_s, cmpBar_gt, cnd_or, cnd_and, succ_cast, show ((i : Int) - 1).toNat = i - 1 from by omega]
     refine cnd_congr' ?_ _ _
     simp only [barAt, barOkB, decide_eq_false h0, Bool.false_or]
     cases barLeB (g.bars.getD (i - 1) (0, 0)) (g.bars.getD i (0, 0)) <;> (rw [Bool.eq_iff_iff]; simp; try omega)
   ·intro n _
    rw [I_IsGraph_l1]
    simp (disch := omega) only [Int.toNat_natCast, tk0, List.length_cons, List.length_nil, grd_pos, grd_T, grd_R, cnd_dt, cnd_df, cnd_true, cnd_false, Option.bind_some]
   ·rw [cnd_some, cnd_bool]; simp [h2]
  ·simp (disch := omega) only [Int.toNat_natCast, tk0, List.length_cons, List.length_nil, grd_pos, grd_T, grd_R, cnd_dt, cnd_df, cnd_true, cnd_false, Option.bind_some]
   simp [h2]
end Go.Proofs.Ytkklfgcelmeccaa
namespace Go.Proofs.Ytkklfgcelmeccaa
variable (N : Nat)
theorem pair_eq (a b : Int × Int) : ((a.1 == b.1) && (a.2 == b.2)) = (a == b) := by
 obtain ⟨x, y⟩ := a; obtain ⟨u, v⟩ := b; rfl
theorem ghas_s {g : Grf} (h : 0 ≤ g.n) (h' : g.n ≤ 1048576) (x : Int) : M_Graph_has N g x = some (inB x 0 (g.n - 1)) := by
 unfold M_Graph_has
 rw [w64_id (by omega) (by omega)]
 simp (disch := omega) only [Int.toNat_natCast, tk0, List.length_cons, List.length_nil, grd_pos, grd_T, grd_R, cnd_dt, cnd_df, cnd_true, cnd_false, Option.bind_some, within_s]
end Go.Proofs.Ytkklfgcelmeccaa
namespace Go.Proofs.Ytkklfgcelmeccaa
variable (N : Nat)
def outside (ground : List Int) (n : Nat) : List Int := ((List.range n).map Int.ofNat).filter fun i => !ground.contains i
theorem outside_succ (g : List Int) (n : Nat) : outside g (n + 1) = cnd (g.contains (n : Int)) (outside g n) (outside g n ++ [(n : Int)]) := by
 unfold outside
 rw [List.range_succ, List.map_append, List.filter_append]
 simp only [List.map_cons, List.map_nil, List.filter_cons, List.filter_nil]
 cases h : g.contains (n : Int) <;> simp_all
theorem outside_len (g : List Int) (n : Nat) : (outside g n).length ≤ n := by
 unfold outside
 exact Nat.le_trans (List.length_filter_le _ _) (by simp)
theorem outside_mem (g : List Int) (n : Nat) (x : Int) : (outside g n).contains x = (inB x 0 ((n : Int) - 1) && !g.contains x) := by
 rw [Bool.eq_iff_iff]
 simp only [List.contains_eq_mem, decide_eq_true_eq, outside, List.mem_filter, List.mem_map, List.mem_range, inB, Bool.and_eq_true]
 constructor
 ·rintro ⟨⟨i, hi, rfl⟩, h⟩
  refine ⟨⟨?_, ?_⟩, h⟩
  ·show (0 : Int) ≤ (i : Int); omega
  ·show (i : Int) ≤ _; omega
 ·rintro ⟨⟨h1, h2⟩, h⟩
  exact ⟨⟨x.toNat, by omega, by show ((x.toNat : Nat) : Int) = x; omega⟩, h⟩
end Go.Proofs.Ytkklfgcelmeccaa
namespace Go.Proofs.Ytkklfgcelmeccaa
open Go.RowKit
end Go.Proofs.Ytkklfgcelmeccaa
namespace Go.Proofs.Ytkklfgcelmeccaa
open Go.RowKit
end Go.Proofs.Ytkklfgcelmeccaa
namespace Go.Proofs.Ytkklfgcelmeccaa
variable (N : Nat)
def onGrid (p : Int × Int) : Bool := inB p.1 0 4 && inB p.2 0 4
theorem onGrid_bd {p : Int × Int} (h : onGrid p = true) : 0 ≤ p.1 ∧ p.1 ≤ 4 ∧ 0 ≤ p.2 ∧ p.2 ≤ 4 := by
 rw [onGrid, Bool.and_eq_true] at h
 have h1 := inB_true.1 h.1
 have h2 := inB_true.1 h.2
 omega
theorem isPlace_s (p : Int × Int) : I_isPlace N p = some (onGrid p) := by
 unfold I_isPlace onGrid
 simp only [within_s, Option.bind_some, cnd_some]
 cases inB p.1 0 4 <;> rfl
abbrev pl0 (l : List (Int × Int)) (x : Int) : Int × Int := l.getD x.toNat (0, 0)
def frAt (f : Frm) (i : Nat) : Bool := !(pl0 f.places (f.g.bars.getD i (0, 0)).1 == pl0 f.places (f.g.bars.getD i (0, 0)).2) && !doubleAt f.g.bars i
def gridAt (l : List (Int × Int)) (i : Nat) : Bool := onGrid (l.getD i (0, 0))
def isFr (f : Frm) : Bool := isGraph f.g && (decide (f.g.n ≤ 6) && (decide ((f.places.length : Int) = f.g.n) && (decide (f.g.bars.length ≤ 15) && ((List.range f.places.length).all (gridAt f.places) && (List.range f.g.bars.length).all (frAt f)))))
theorem isGraph_nn {g : Grf} (h : isGraph g = true) : 1 ≤ g.n ∧ g.n ≤ 8 ∧ g.bars.length ≤ 24 := by
 have := isGraph_parts h; omega
theorem bar_bdd {g : Grf} (hg : isGraph g = true) {i : Nat} (hi : i < g.bars.length) : 0 ≤ (g.bars.getD i (0, 0)).1 ∧ (g.bars.getD i (0, 0)).1 < g.n ∧ 0 ≤ (g.bars.getD i (0, 0)).2 ∧ (g.bars.getD i (0, 0)).2 < g.n ∧ g.n ≤ 8 := by
 have h2 := isGraph_bar hg (List.getElem_mem hi)
 have h3 := isGraph_nn hg
 simp [List.getD_eq_getElem?_getD, hi]
 omega
theorem isFrS_s (hN : 4000000 ≤ N) {f : Frm} (hp : f.places.length ≤ 3000000) : S_IsFramework N f = some (isFr f) := by
 unfold S_IsFramework isFr
 rw [isGraphS_s N hN, Option.bind_some, cnd_not]
 cases hg : isGraph f.g with
 | false => rfl
 | true =>
  have hn := isGraph_nn hg
  rw [cnd_true]
  by_cases h1 : f.g.n ≤ 6
  ·by_cases h2 : (f.places.length : Int) = f.g.n
   ·by_cases h3 : f.g.bars.length ≤ 15
    ·rw [cnd_df (by omega), cnd_nef h2, cnd_df (by omega), decide_eq_true h1, decide_eq_true h2, decide_eq_true h3]
     refine (srch (len := f.places.length) (ok := gridAt f.places) (bad := some false) (fin := some ((List.range f.g.bars.length).all (frAt f))) (by omega) ?_ ?_).trans ?_
     ·intro n i hi _
      rw [S_IsFramework_l2]
      simp (disch := omega) only [Int.toNat_natCast, tk0, List.length_cons, List.length_nil, grd_pos, grd_T, grd_R, cnd_dt, cnd_df, cnd_true, cnd_false, Option.bind_some, l1In_s, cnd_or, succ_cast]
      refine cnd_congr' ?_ _ _
      simp [gridAt, onGrid]
     ·intro n _
      rw [S_IsFramework_l2]
      simp (disch := omega) only [Int.toNat_natCast, tk0, List.length_cons, List.length_nil, grd_pos, grd_T, grd_R, cnd_dt, cnd_df, cnd_true, cnd_false, Option.bind_some]
      refine (srch (len := f.g.bars.length) (ok := frAt f) (bad := some false) (fin := some true) (by omega) ?_ ?_).trans (by rw [cnd_some, cnd_bool])
      ·intro n i hi _
       have hb := bar_bdd hg hi
       rw [S_IsFramework_l1]
       by_cases h0 : i = 0
       ·subst h0
        simp (disch := omega) only [Int.toNat_natCast, tk0, List.length_cons, List.length_nil, grd_pos, grd_T, grd_R, cnd_dt, cnd_df, cnd_true, cnd_false, Option.bind_some, pair_eq, cnd_or, succ_cast]
        refine cnd_congr' ?_ _ _
        simp [frAt, doubleAt]
       ·simp (disch := omega) only [Int.toNat_natCast, tk0, List.length_cons, List.length_nil, grd_pos, grd_T, grd_R, cnd_dt, cnd_df, cnd_true, cnd_false, Option.bind_some, pair_eq, cnd_or, succ_cast, show ((i : Int) - 1).toNat = i - 1 from by omega]
        refine cnd_congr' ?_ _ _
        unfold frAt doubleAt
        rw [decide_eq_true (show 0 < i by omega)]
        cases (pl0 f.places (f.g.bars.getD i (0, 0)).1 == pl0 f.places (f.g.bars.getD i (0, 0)).2) <;> simp
      ·intro n _
       rw [S_IsFramework_l1]
       simp (disch := omega) only [Int.toNat_natCast, tk0, List.length_cons, List.length_nil, grd_pos, grd_T, grd_R, cnd_dt, cnd_df, cnd_true, cnd_false, Option.bind_some]
     ·rw [cnd_some]; cases (List.range f.places.length).all (gridAt f.places) <;> rfl
    ·rw [cnd_df (by omega), cnd_nef h2, cnd_dt (by omega), decide_eq_false h3]; simp
   ·rw [cnd_df (by omega), cnd_net h2, decide_eq_false h2]; simp
  ·rw [cnd_dt (by omega), decide_eq_false h1]; rfl
theorem isFrI_s (hN : 4000000 ≤ N) {f : Frm} (hp : f.places.length ≤ 3000000) : I_IsFramework N f = some (isFr f) := by
 unfold I_IsFramework isFr
 rw [isGraphI_s N hN, Option.bind_some, cnd_not]
 cases hg : isGraph f.g with
 | false => rfl
 | true =>
  have hn := isGraph_nn hg
  rw [cnd_true]
  by_cases h1 : f.g.n ≤ 6
  ·by_cases h2 : (f.places.length : Int) = f.g.n
   ·by_cases h3 : f.g.bars.length ≤ 15
    ·rw [cnd_df (by omega), cnd_df (by omega), cnd_nef h2, decide_eq_true h1, decide_eq_true h2, decide_eq_true h3]
     refine (srch (len := f.places.length) (ok := gridAt f.places) (bad := some false) (fin := some ((List.range f.g.bars.length).all (frAt f))) (by omega) ?_ ?_).trans ?_
     ·intro n i hi _
      rw [I_IsFramework_l2]
      simp (disch := omega) only [Int.toNat_natCast, tk0, List.length_cons, List.length_nil, grd_pos, grd_T, grd_R, cnd_dt, cnd_df, cnd_true, cnd_false, Option.bind_some, isPlace_s, cnd_not, succ_cast]
      rfl
     ·intro n _
      rw [I_IsFramework_l2]
      simp (disch := omega) only [Int.toNat_natCast, tk0, List.length_cons, List.length_nil, grd_pos, grd_T, grd_R, cnd_dt, cnd_df, cnd_true, cnd_false, Option.bind_some]
      refine (srch (len := f.g.bars.length) (ok := frAt f) (bad := some false) (fin := some true) (by omega) ?_ ?_).trans (by rw [cnd_some, cnd_bool])
      ·intro n i hi _
       have hb := bar_bdd hg hi
       rw [I_IsFramework_l1]
       by_cases h0 : i = 0
       ·subst h0
        simp (disch := omega) only [Int.toNat_natCast, tk0, List.length_cons, List.length_nil, grd_pos, grd_T, grd_R, cnd_dt, cnd_df, cnd_true, cnd_false, Option.bind_some, pair_eq, cnd_or, succ_cast]
        refine cnd_congr' ?_ _ _
        simp [frAt, doubleAt]
       ·simp (disch := omega) only [Int.toNat_natCast, tk0, List.length_cons, List.length_nil, grd_pos, grd_T, grd_R, cnd_dt, cnd_df, cnd_true, cnd_false, Option.bind_some, pair_eq, cnd_or, succ_cast, show ((i : Int) - 1).toNat = i - 1 from by omega]
        refine cnd_congr' ?_ _ _
        unfold frAt doubleAt
        rw [decide_eq_true (show 0 < i by omega)]
        cases (pl0 f.places (f.g.bars.getD i (0, 0)).1 == pl0 f.places (f.g.bars.getD i (0, 0)).2) <;> simp
      ·intro n _
       rw [I_IsFramework_l1]
       simp (disch := omega) only [Int.toNat_natCast, tk0, List.length_cons, List.length_nil, grd_pos, grd_T, grd_R, cnd_dt, cnd_df, cnd_true, cnd_false, Option.bind_some]
     ·rw [cnd_some]; cases (List.range f.places.length).all (gridAt f.places) <;> rfl
    ·rw [cnd_df (by omega), cnd_dt (by omega), decide_eq_false h3]; simp
   ·by_cases h3 : f.g.bars.length ≤ 15
    ·rw [cnd_df (by omega), cnd_df (by omega), cnd_net h2, decide_eq_false h2]; simp
    ·rw [cnd_df (by omega), cnd_dt (by omega), decide_eq_false h2]; simp
  ·rw [cnd_dt (by omega), decide_eq_false h1]; rfl
theorem isFr_parts {f : Frm} (h : isFr f = true) : isGraph f.g = true ∧ f.g.n ≤ 6 ∧ (f.places.length : Int) = f.g.n ∧ f.g.bars.length ≤ 15 ∧ (∀ i, i < f.places.length → gridAt f.places i = true) ∧ ∀ i, i < f.g.bars.length → frAt f i = true := by
 simp only [isFr, Bool.and_eq_true, decide_eq_true_eq, List.all_eq_true, List.mem_range] at h
 exact ⟨h.1, h.2.1, h.2.2.1, h.2.2.2.1, h.2.2.2.2.1, h.2.2.2.2.2⟩
def isLk (l : Lnk) : Bool := isFr l.f && (decide (0 < l.ground.length) && (decide (l.f.g.n - (l.ground.length : Int) ≤ 2) && asc l.f.g.n l.ground))
theorem isLkS_s (hN : 4000000 ≤ N) {l : Lnk} (hp : l.f.places.length ≤ 3000000) (hg : l.ground.length ≤ 3000000) : S_IsLinkage N l = some (isLk l) := by
 unfold S_IsLinkage isLk
 simp (disch := omega) only [Int.toNat_natCast, tk0, List.length_cons, List.length_nil, grd_pos, grd_T, grd_R, cnd_dt, cnd_df, cnd_true, cnd_false, Option.bind_some]
 refine (srch (len := l.ground.length) (ok := ascAt (l.f.places.length : Int) l.ground) (bad := some false) (fin := some (isFr l.f && (inB ((l.f.places.length : Int) - (l.ground.length : Int)) 0 2 && decide (0 < l.ground.length)))) (by omega) ?_ ?_).trans ?_
 ·intro n i hi _
  rw [S_IsLinkage_l1]
  by_cases h0 : i = 0
  ·subst h0
   simp (disch := omega) only [Int.toNat_natCast, tk0, List.length_cons, List.length_nil, grd_pos, grd_T, grd_R, cnd_dt, cnd_df, cnd_true, cnd_false, Option.bind_some, cnd_or, succ_cast]
   refine cnd_congr' ?_ _ _
   simp only [ascAt, inB]
   rw [Bool.eq_iff_iff]; simp; omega
  ·simp (disch := omega) only [Int.toNat_natCast, tk0, List.length_cons, List.length_nil, grd_pos, grd_T, grd_R, cnd_dt, cnd_df, cnd_true, cnd_false, Option.bind_some, succ_cast, cnd_or, show ((i : Int) - 1).toNat = i - 1 from by omega]
   refine cnd_congr' ?_ _ _
   simp only [ascAt, inB, decide_eq_false h0, Bool.false_or]
   rw [Bool.eq_iff_iff]; simp; omega
 ·intro n _
  rw [S_IsLinkage_l1]
  simp (disch := omega) only [Int.toNat_natCast, tk0, List.length_cons, List.length_nil, grd_pos, grd_T, grd_R, cnd_dt, cnd_df, cnd_true, cnd_false, Option.bind_some, isFrS_s N hN hp, l1In_s]
  simp only [cnd_some]
  rw [show decide ((l.ground.length : Int) > 0) = decide (0 < l.ground.length) from by rw [Bool.eq_iff_iff]; simp]
  cases isFr l.f <;> cases inB ((l.f.places.length : Int) - (l.ground.length : Int)) 0 2 <;> rfl
 ·rw [show (List.range l.ground.length).all (ascAt (l.f.places.length : Int) l.ground) = asc (l.f.places.length : Int) l.ground from rfl, cnd_some]
  congr 1
  cases hf : isFr l.f with
  | false => simp [cnd_same]
  | true =>
   obtain ⟨h1, h2, h3, h4, h5⟩ := isFr_parts hf
   rw [h3]
   cases ha : asc l.f.g.n l.ground with
   | false => simp
   | true =>
    have := asc_len ha (by omega)
    rw [cnd_true, Bool.eq_iff_iff]
    simp [inB]; omega
theorem isLkI_s (hN : 4000000 ≤ N) {l : Lnk} (hp : l.f.places.length ≤ 3000000) (hg : l.ground.length ≤ 3000000) : I_IsLinkage N l = some (isLk l) := by
 unfold I_IsLinkage isLk
 rw [isFrI_s N hN hp, Option.bind_some, cnd_not]
 cases hf : isFr l.f with
 | false => rfl
 | true =>
  obtain ⟨h1, h2, h3, h4, h5⟩ := isFr_parts hf
  have hn := isGraph_nn h1
  rw [cnd_true]
  by_cases hl : 0 < l.ground.length
  ·by_cases hd : l.f.g.n - (l.ground.length : Int) ≤ 2
   ·rw [cnd_eqf (by omega), decide_eq_true hl, decide_eq_true hd]
    simp (disch := omega) only [Int.toNat_natCast, tk0, List.length_cons, List.length_nil, grd_pos, grd_T, grd_R, cnd_dt, cnd_df, cnd_true, cnd_false, Option.bind_some]
    refine (srch (len := l.ground.length) (ok := ascAt l.f.g.n l.ground) (bad := some false) (fin := some true) (by omega) ?_ ?_).trans (by rw [cnd_some, cnd_bool, show (List.range l.ground.length).all (ascAt l.f.g.n l.ground) = asc l.f.g.n l.ground from rfl, Bool.true_and, Bool.true_and, Bool.true_and])
    ·intro n i hi _
     rw [I_IsLinkage_l1]
     by_cases h0 : i = 0
     ·subst h0
      simp (disch := omega) only [Int.toNat_natCast, tk0, List.length_cons, List.length_nil, grd_pos, grd_T, grd_R, cnd_dt, cnd_df, cnd_true, cnd_false, Option.bind_some, ghas_s N (by omega : 0 ≤ l.f.g.n) (by omega), cnd_not, succ_cast]
      refine cnd_congr ?_ _ _
      simp [ascAt]
     ·simp (disch := omega) only [Int.toNat_natCast, tk0, List.length_cons, List.length_nil, grd_pos, grd_T, grd_R, cnd_dt, cnd_df, cnd_true, cnd_false, Option.bind_some, ghas_s N (by omega : 0 ≤ l.f.g.n) (by omega), succ_cast, cnd_or, show ((i : Int) - 1).toNat = i - 1 from by omega]
      refine cnd_congr' ?_ _ _
      simp only [ascAt, decide_eq_false h0, Bool.false_or]
      cases inB (l.ground.getD i 0) 0 (l.f.g.n - 1) <;> (rw [Bool.eq_iff_iff]; simp)
    ·intro n _
     rw [I_IsLinkage_l1]
     simp (disch := omega) only [Int.toNat_natCast, tk0, List.length_cons, List.length_nil, grd_pos, grd_T, grd_R, cnd_dt, cnd_df, cnd_true, cnd_false, Option.bind_some]
   ·rw [cnd_eqf (by omega), decide_eq_false hd]
    simp (disch := omega) only [Int.toNat_natCast, tk0, List.length_cons, List.length_nil, grd_pos, grd_T, grd_R, cnd_dt, cnd_df, cnd_true, cnd_false, Option.bind_some]
    simp
  ·rw [cnd_eqt (by omega), decide_eq_false hl]; rfl
theorem isLk_parts {l : Lnk} (h : isLk l = true) : isFr l.f = true ∧ 0 < l.ground.length ∧ l.f.g.n - (l.ground.length : Int) ≤ 2 ∧ asc l.f.g.n l.ground = true := by
 simp only [isLk, Bool.and_eq_true, decide_eq_true_eq] at h
 exact ⟨h.1, h.2.1, h.2.2.1, h.2.2.2⟩
end Go.Proofs.Ytkklfgcelmeccaa
namespace Go.Proofs.Ytkklfgcelmeccaa
open Go.RowKit
def S_RigidityMatrix_l1 (N : Nat) (f_0 : Frm) (k : (List (List Int)) → Option (List (List Int))) : Nat → ((List (List Int)) × Int) → Option (List (List Int))
 | 0, _ => none
 | n + 1, (l11, i12) =>
  cnd (decide (i12 < (f_0.g.bars.length : Int))) (
   (S_IsFramework N f_0).bind fun v14 =>
   cnd v14 (
    grd (0 ≤ i12 ∧ i12 < (f_0.g.bars.length : Int)) <|
    grd (Rg64 ((2 : Int) * f_0.g.n)) <|
    grd (0 ≤ ((2 : Int) * f_0.g.n) ∧ ((2 : Int) * f_0.g.n) ≤ 4294967296) <|
    grd (0 ≤ ((f_0.g.bars.getD ((i12).toNat) (0, 0)).1) ∧ ((f_0.g.bars.getD ((i12).toNat) (0, 0)).1) < (f_0.places.length : Int)) <|
    grd (0 ≤ ((f_0.g.bars.getD ((i12).toNat) (0, 0)).2) ∧ ((f_0.g.bars.getD ((i12).toNat) (0, 0)).2) < (f_0.places.length : Int)) <|
    grd (Rg64 (((f_0.places.getD (((f_0.g.bars.getD ((i12).toNat) (0, 0)).1).toNat) (0, 0)).1) - ((f_0.places.getD (((f_0.g.bars.getD ((i12).toNat) (0, 0)).2).toNat) (0, 0)).1))) <|
    grd (Rg64 (((f_0.places.getD (((f_0.g.bars.getD ((i12).toNat) (0, 0)).1).toNat) (0, 0)).2) - ((f_0.places.getD (((f_0.g.bars.getD ((i12).toNat) (0, 0)).2).toNat) (0, 0)).2))) <|
    grd (Rg64 ((2 : Int) * ((f_0.g.bars.getD ((i12).toNat) (0, 0)).1))) <|
    grd (0 ≤ ((2 : Int) * ((f_0.g.bars.getD ((i12).toNat) (0, 0)).1)) ∧ ((2 : Int) * ((f_0.g.bars.getD ((i12).toNat) (0, 0)).1)) < ((List.replicate ((((2 : Int) * f_0.g.n)).toNat) (0 : Int)).length : Int)) <|
    grd (Rg64 (((2 : Int) * ((f_0.g.bars.getD ((i12).toNat) (0, 0)).1)) + (1 : Int))) <|
    grd (0 ≤ (((2 : Int) * ((f_0.g.bars.getD ((i12).toNat) (0, 0)).1)) + (1 : Int)) ∧ (((2 : Int) * ((f_0.g.bars.getD ((i12).toNat) (0, 0)).1)) + (1 : Int)) < ((List.replicate ((((2 : Int) * f_0.g.n)).toNat) (0 : Int)).length : Int)) <|
    grd (0 ≤ (((2 : Int) * ((f_0.g.bars.getD ((i12).toNat) (0, 0)).1)) + (1 : Int)) ∧ (((2 : Int) * ((f_0.g.bars.getD ((i12).toNat) (0, 0)).1)) + (1 : Int)) < (((List.replicate ((((2 : Int) * f_0.g.n)).toNat) (0 : Int)).set ((((2 : Int) * ((f_0.g.bars.getD ((i12).toNat) (0, 0)).1))).toNat) (((f_0.places.getD (((f_0.g.bars.getD ((i12).toNat) (0, 0)).1).toNat) (0, 0)).1) - ((f_0.places.getD (((f_0.g.bars.getD ((i12).toNat) (0, 0)).2).toNat) (0, 0)).1))).length : Int)) <|
    grd (Rg64 ((2 : Int) * ((f_0.g.bars.getD ((i12).toNat) (0, 0)).2))) <|
    grd (Rg64 (-(((f_0.places.getD (((f_0.g.bars.getD ((i12).toNat) (0, 0)).1).toNat) (0, 0)).1) - ((f_0.places.getD (((f_0.g.bars.getD ((i12).toNat) (0, 0)).2).toNat) (0, 0)).1)))) <|
    grd (0 ≤ ((2 : Int) * ((f_0.g.bars.getD ((i12).toNat) (0, 0)).2)) ∧ ((2 : Int) * ((f_0.g.bars.getD ((i12).toNat) (0, 0)).2)) < ((List.replicate ((((2 : Int) * f_0.g.n)).toNat) (0 : Int)).length : Int)) <|
    grd (0 ≤ ((2 : Int) * ((f_0.g.bars.getD ((i12).toNat) (0, 0)).2)) ∧ ((2 : Int) * ((f_0.g.bars.getD ((i12).toNat) (0, 0)).2)) < ((((List.replicate ((((2 : Int) * f_0.g.n)).toNat) (0 : Int)).set ((((2 : Int) * ((f_0.g.bars.getD ((i12).toNat) (0, 0)).1))).toNat) (((f_0.places.getD (((f_0.g.bars.getD ((i12).toNat) (0, 0)).1).toNat) (0, 0)).1) - ((f_0.places.getD (((f_0.g.bars.getD ((i12).toNat) (0, 0)).2).toNat) (0, 0)).1))).set (((((2 : Int) * ((f_0.g.bars.getD ((i12).toNat) (0, 0)).1)) + (1 : Int))).toNat) (((f_0.places.getD (((f_0.g.bars.getD ((i12).toNat) (0, 0)).1).toNat) (0, 0)).2) - ((f_0.places.getD (((f_0.g.bars.getD ((i12).toNat) (0, 0)).2).toNat) (0, 0)).2))).length : Int)) <|
    grd (Rg64 (((2 : Int) * ((f_0.g.bars.getD ((i12).toNat) (0, 0)).2)) + (1 : Int))) <|
    grd (Rg64 (-(((f_0.places.getD (((f_0.g.bars.getD ((i12).toNat) (0, 0)).1).toNat) (0, 0)).2) - ((f_0.places.getD (((f_0.g.bars.getD ((i12).toNat) (0, 0)).2).toNat) (0, 0)).2)))) <|
    grd (0 ≤ (((2 : Int) * ((f_0.g.bars.getD ((i12).toNat) (0, 0)).2)) + (1 : Int)) ∧ (((2 : Int) * ((f_0.g.bars.getD ((i12).toNat) (0, 0)).2)) + (1 : Int)) < ((List.replicate ((((2 : Int) * f_0.g.n)).toNat) (0 : Int)).length : Int)) <|
    grd (0 ≤ (((2 : Int) * ((f_0.g.bars.getD ((i12).toNat) (0, 0)).2)) + (1 : Int)) ∧ (((2 : Int) * ((f_0.g.bars.getD ((i12).toNat) (0, 0)).2)) + (1 : Int)) < (((((List.replicate ((((2 : Int) * f_0.g.n)).toNat) (0 : Int)).set ((((2 : Int) * ((f_0.g.bars.getD ((i12).toNat) (0, 0)).1))).toNat) (((f_0.places.getD (((f_0.g.bars.getD ((i12).toNat) (0, 0)).1).toNat) (0, 0)).1) - ((f_0.places.getD (((f_0.g.bars.getD ((i12).toNat) (0, 0)).2).toNat) (0, 0)).1))).set (((((2 : Int) * ((f_0.g.bars.getD ((i12).toNat) (0, 0)).1)) + (1 : Int))).toNat) (((f_0.places.getD (((f_0.g.bars.getD ((i12).toNat) (0, 0)).1).toNat) (0, 0)).2) - ((f_0.places.getD (((f_0.g.bars.getD ((i12).toNat) (0, 0)).2).toNat) (0, 0)).2))).set ((((2 : Int) * ((f_0.g.bars.getD ((i12).toNat) (0, 0)).2))).toNat) (-(((f_0.places.getD (((f_0.g.bars.getD ((i12).toNat) (0, 0)).1).toNat) (0, 0)).1) - ((f_0.places.getD (((f_0.g.bars.getD ((i12).toNat) (0, 0)).2).toNat) (0, 0)).1)))).length : Int)) <|
    grd ((List.replicate ((((2 : Int) * f_0.g.n)).toNat) (0 : Int)).length = (((((List.replicate ((((2 : Int) * f_0.g.n)).toNat) (0 : Int)).set ((((2 : Int) * ((f_0.g.bars.getD ((i12).toNat) (0, 0)).1))).toNat) (((f_0.places.getD (((f_0.g.bars.getD ((i12).toNat) (0, 0)).1).toNat) (0, 0)).1) - ((f_0.places.getD (((f_0.g.bars.getD ((i12).toNat) (0, 0)).2).toNat) (0, 0)).1))).set (((((2 : Int) * ((f_0.g.bars.getD ((i12).toNat) (0, 0)).1)) + (1 : Int))).toNat) (((f_0.places.getD (((f_0.g.bars.getD ((i12).toNat) (0, 0)).1).toNat) (0, 0)).2) - ((f_0.places.getD (((f_0.g.bars.getD ((i12).toNat) (0, 0)).2).toNat) (0, 0)).2))).set ((((2 : Int) * ((f_0.g.bars.getD ((i12).toNat) (0, 0)).2))).toNat) (-(((f_0.places.getD (((f_0.g.bars.getD ((i12).toNat) (0, 0)).1).toNat) (0, 0)).1) - ((f_0.places.getD (((f_0.g.bars.getD ((i12).toNat) (0, 0)).2).toNat) (0, 0)).1)))).set (((((2 : Int) * ((f_0.g.bars.getD ((i12).toNat) (0, 0)).2)) + (1 : Int))).toNat) (-(((f_0.places.getD (((f_0.g.bars.getD ((i12).toNat) (0, 0)).1).toNat) (0, 0)).2) - ((f_0.places.getD (((f_0.g.bars.getD ((i12).toNat) (0, 0)).2).toNat) (0, 0)).2)))).length) <|
    grd (l11.length + 1 ≤ 4294967296) <|
    grd (Rg64 (i12 + (1 : Int))) <|
    S_RigidityMatrix_l1 N f_0 k n ((l11 ++ ([(((((List.replicate ((((2 : Int) * f_0.g.n)).toNat) (0 : Int)).set ((((2 : Int) * ((f_0.g.bars.getD ((i12).toNat) (0, 0)).1))).toNat) (((f_0.places.getD (((f_0.g.bars.getD ((i12).toNat) (0, 0)).1).toNat) (0, 0)).1) - ((f_0.places.getD (((f_0.g.bars.getD ((i12).toNat) (0, 0)).2).toNat) (0, 0)).1))).set (((((2 : Int) * ((f_0.g.bars.getD ((i12).toNat) (0, 0)).1)) + (1 : Int))).toNat) (((f_0.places.getD (((f_0.g.bars.getD ((i12).toNat) (0, 0)).1).toNat) (0, 0)).2) - ((f_0.places.getD (((f_0.g.bars.getD ((i12).toNat) (0, 0)).2).toNat) (0, 0)).2))).set ((((2 : Int) * ((f_0.g.bars.getD ((i12).toNat) (0, 0)).2))).toNat) (-(((f_0.places.getD (((f_0.g.bars.getD ((i12).toNat) (0, 0)).1).toNat) (0, 0)).1) - ((f_0.places.getD (((f_0.g.bars.getD ((i12).toNat) (0, 0)).2).toNat) (0, 0)).1)))).set (((((2 : Int) * ((f_0.g.bars.getD ((i12).toNat) (0, 0)).2)) + (1 : Int))).toNat) (-(((f_0.places.getD (((f_0.g.bars.getD ((i12).toNat) (0, 0)).1).toNat) (0, 0)).2) - ((f_0.places.getD (((f_0.g.bars.getD ((i12).toNat) (0, 0)).2).toNat) (0, 0)).2))))] : List (List Int))), (i12 + (1 : Int)))) (
    k l11)) (
   k l11)
def S_RigidityMatrix (N : Nat) (f_0 : Frm) : Option (List (List Int)) :=
 S_RigidityMatrix_l1 N f_0 (fun (l7 : List (List Int)) =>
    some l7) N (([] : List (List Int)), (0 : Int))
set_option maxRecDepth 20000 in
set_option maxHeartbeats 1600000 in
theorem S_RigidityMatrix_w (N : Nat) (f_0 : Frm) (r : List (List Int)) (h : S_RigidityMatrix N f_0 = some r) : PCall Try.prog 42 [fD f_0] [(35, .intss r)] (.row 0 0 r.length) := by
 unfold S_RigidityMatrix at h
 refine pcall_intro (TT := TT) tt Try.func42 rfl rfl Try.ntmps42 (congrArg Array.toList Try.results42) rfl rfl fun w0 => ?_
 refine vSeq ?_
 refine vRegion ?_
 refine oBox rfl rfl rfl rfl rfl rfl rfl rfl rfl ?_
 refine oVal tt rfl rfl rfl rfl rfl trivial ?_
 refine vNil ?_
 change VC _ _ _ _
 refine vSeq ?_
 refine vRegion ?_
 refine oEmpty tt (wNone rfl) rfl rfl rfl rfl ?_
 refine oVal tt rfl rfl rfl rfl rfl trivial ?_
 refine vNil ?_
 change VC _ _ _ _
 iterate 2 refine vSeq ?_
 refine vRegion ?_
 refine oVal tt rfl rfl rfl rfl rfl trivial ?_
 refine vNil ?_
 change VC _ _ _ _
 refine vJoin (F := fun k => S_RigidityMatrix_l1 N f_0 k) h (α := List (List Int)) (J := fun (l7 : List (List Int)) => (⟨[(3, .row 94 0 l7.length)], [(94, some (35, .intss l7))], []⟩ : PS)) ?_ ?_
 ·rintro l7 h
  show VC _ _ _ (⟨[(3, .row 94 0 l7.length)], [(94, some (35, .intss l7))], []⟩ : PS)
  refine vSeq ?_
  refine vRegion ?_
  iterate 2 refine oVal tt rfl rfl rfl rfl rfl trivial ?_
  refine vNil ?_
  change VC _ _ _ _
  refine vRet ?_
  change ∃ _, _
  cases h
  exact ⟨[94], _, rfl, ⟨rfl, trivial⟩, rfl, (.eq rfl), rfl⟩
 ·intro k h
  refine vBlock ?_
  refine vNilT 3 94 35 (.intss []) rfl rfl rfl rfl ?_
  refine vLoopS (α := (List (List Int)) × Int) (fun | (l11, i12) => (⟨[(1, .ptr 1 0), (3, .row 94 0 l11.length), (4, .int i12)], [(94, some (35, .intss l11))], [(1, some [.int f_0.g.n, .ro false (.pairs f_0.g.bars), .ro false (.pairs f_0.places)])]⟩ : PS)) (S_RigidityMatrix_l1 N f_0 k) h (En.of ⟨rfl, rfl, rfl, trivial⟩ ⟨rfl, trivial⟩ ⟨rfl, trivial⟩) (fun _ => rfl) ?_
  rintro n ⟨l11, i12⟩ h
  rw [S_RigidityMatrix_l1] at h
  show VC _ _ _ (⟨[(1, .ptr 1 0), (3, .row 94 0 l11.length), (4, .int i12)], [(94, some (35, .intss l11))], [(1, some [.int f_0.g.n, .ro false (.pairs f_0.g.bars), .ro false (.pairs f_0.places)])]⟩ : PS)
  iterate 2 refine vSeq ?_
  refine vRegion ?_
  iterate 7 refine oVal tt rfl rfl rfl rfl rfl trivial ?_
  refine oSplit rfl rfl rfl (fun hb1 => ?_) (fun hb1 => ?_)
  ·replace h := cnd_t hb1 h
   refine oValG tt rfl rfl rfl rfl rfl hb1 rfl rfl rfl trivial ?_
   obtain ⟨v14, hc2, h⟩ := bind_inv h
   refine oCallG (S_IsFramework_w N f_0 v14 hc2) rfl rfl rfl rfl hb1 rfl rfl rfl rfl rfl rfl rfl ⟨⟨rfl, rfl, rfl, trivial⟩, trivial⟩ ?_
   refine oPick rfl rfl rfl rfl rfl hb1 rfl ?_
   refine vNil ?_
   change VC _ _ _ _
   refine vCond rfl (fun hb3 => ?_) (fun hb3 => ?_)
   ·replace h := cnd_t hb3 h
    refine vSkip ?_
    change VC _ _ _ _
    refine vSeq ?_
    refine vBlock ?_
    refine vSeq ?_
    refine vRegion ?_
    iterate 4 refine oVal tt rfl rfl rfl rfl rfl trivial ?_
    obtain ⟨hg4, h⟩ := grd_inv h
    refine oVal tt rfl rfl rfl rfl rfl hg4 ?_
    refine oVal tt rfl rfl rfl rfl rfl trivial ?_
    refine oAlloc tt rfl rfl rfl rfl rfl rfl rfl rfl rfl ?_
    refine oStore tt rfl rfl rfl rfl rfl rfl rfl rfl rfl rfl rfl ⟨trivial, trivial, trivial⟩ ?_
    refine vNil ?_
    change VC _ _ _ _
    refine vSeq ?_
    refine vRegion ?_
    iterate 3 refine oVal tt rfl rfl rfl rfl rfl trivial ?_
    obtain ⟨hg5, h⟩ := grd_inv h
    refine oVal tt rfl rfl rfl rfl rfl hg5 ?_
    obtain ⟨hg6, h⟩ := grd_inv h
    refine oMake tt rfl rfl rfl rfl rfl rfl rfl rfl rfl rfl rfl hg6 ?_
    refine oVal tt rfl rfl rfl rfl rfl trivial ?_
    refine vNil ?_
    change VC _ _ _ _
    refine vSeq ?_
    refine vRegionD (by kernel_rfl) (by kernel_rfl) ?_
    iterate 4 refine cVal tt rfl (wNone rfl) rfl rfl rfl trivial ?_
    obtain ⟨hg7, h⟩ := grd_inv h
    refine cVal tt rfl (wNone rfl) rfl rfl rfl hg7 ?_
    iterate 6 refine cVal tt rfl (wNone rfl) rfl rfl rfl trivial ?_
    obtain ⟨hg8, h⟩ := grd_inv h
    refine cVal tt rfl (wNone rfl) rfl rfl rfl hg8 ?_
    iterate 2 refine cVal tt rfl (wNone rfl) rfl rfl rfl trivial ?_
    obtain ⟨hg9, h⟩ := grd_inv h
    refine cVal tt rfl (wNone rfl) rfl rfl rfl hg9 ?_
    refine cVal tt rfl (wNone rfl) rfl rfl rfl trivial ?_
    refine cNil ?_
    change VC _ _ _ _
    refine vSeq ?_
    refine vRegionD (by kernel_rfl) (by kernel_rfl) ?_
    iterate 4 refine cVal tt rfl (wNone rfl) rfl rfl rfl trivial ?_
    refine cVal tt rfl (wNone rfl) rfl rfl rfl hg7 ?_
    iterate 6 refine cVal tt rfl (wNone rfl) rfl rfl rfl trivial ?_
    refine cVal tt rfl (wNone rfl) rfl rfl rfl hg8 ?_
    iterate 2 refine cVal tt rfl (wNone rfl) rfl rfl rfl trivial ?_
    obtain ⟨hg10, h⟩ := grd_inv h
    refine cVal tt rfl (wNone rfl) rfl rfl rfl hg10 ?_
    refine cVal tt rfl (wNone rfl) rfl rfl rfl trivial ?_
    refine cNil ?_
    change VC _ _ _ _
    refine vSeq ?_
    refine vRegion ?_
    iterate 3 refine oVal tt rfl rfl rfl rfl rfl trivial ?_
    obtain ⟨hg11, h⟩ := grd_inv h
    refine oVal tt rfl rfl rfl rfl rfl hg11 ?_
    refine oVal tt rfl rfl rfl rfl rfl trivial ?_
    obtain ⟨hg12, h⟩ := grd_inv h
    refine oVal tt rfl rfl rfl rfl rfl hg12 ?_
    refine oStore tt rfl rfl rfl rfl rfl rfl rfl rfl rfl rfl ⟨_, _, rfl, hg12.1, hg12.2⟩ ⟨hg12, trivial⟩ ?_
    refine vNil ?_
    change VC _ _ _ _
    refine vSeq ?_
    refine vRegion ?_
    iterate 3 refine oVal tt rfl rfl rfl rfl rfl trivial ?_
    refine oVal tt rfl rfl rfl rfl rfl hg11 ?_
    obtain ⟨hg13, h⟩ := grd_inv h
    refine oVal tt rfl rfl rfl rfl rfl hg13 ?_
    refine oVal tt rfl rfl rfl rfl rfl trivial ?_
    obtain ⟨hg14, h⟩ := grd_inv h
    refine oVal tt rfl rfl rfl rfl rfl hg14 ?_
    obtain ⟨hg15, h⟩ := grd_inv h
    refine oStore tt rfl rfl rfl rfl rfl rfl rfl rfl rfl rfl ⟨_, _, rfl, hg15.1, hg15.2⟩ ⟨hg15, trivial⟩ ?_
    refine vNil ?_
    change VC _ _ _ _
    refine vSeq ?_
    refine vRegion ?_
    iterate 3 refine oVal tt rfl rfl rfl rfl rfl trivial ?_
    obtain ⟨hg16, h⟩ := grd_inv h
    refine oVal tt rfl rfl rfl rfl rfl hg16 ?_
    refine oVal tt rfl rfl rfl rfl rfl trivial ?_
    obtain ⟨hg17, h⟩ := grd_inv h
    refine oVal tt rfl rfl rfl rfl rfl hg17 ?_
    obtain ⟨hg18, h⟩ := grd_inv h
    refine oVal tt rfl rfl rfl rfl rfl hg18 ?_
    obtain ⟨hg19, h⟩ := grd_inv h
    refine oStore tt rfl rfl rfl rfl rfl rfl rfl rfl rfl rfl ⟨_, _, rfl, hg19.1, hg19.2⟩ ⟨hg19, trivial⟩ ?_
    refine vNil ?_
    change VC _ _ _ _
    refine vSeq ?_
    refine vRegion ?_
    iterate 3 refine oVal tt rfl rfl rfl rfl rfl trivial ?_
    refine oVal tt rfl rfl rfl rfl rfl hg16 ?_
    obtain ⟨hg20, h⟩ := grd_inv h
    refine oVal tt rfl rfl rfl rfl rfl hg20 ?_
    refine oVal tt rfl rfl rfl rfl rfl trivial ?_
    obtain ⟨hg21, h⟩ := grd_inv h
    refine oVal tt rfl rfl rfl rfl rfl hg21 ?_
    obtain ⟨hg22, h⟩ := grd_inv h
    refine oVal tt rfl rfl rfl rfl rfl hg22 ?_
    obtain ⟨hg23, h⟩ := grd_inv h
    refine oStore tt rfl rfl rfl rfl rfl rfl rfl rfl rfl rfl ⟨_, _, rfl, hg23.1, hg23.2⟩ ⟨hg23, trivial⟩ ?_
    refine vNil ?_
    change VC _ _ _ _
    refine vRegion ?_
    iterate 2 refine oVal tt rfl rfl rfl rfl rfl trivial ?_
    obtain ⟨hg24, h⟩ := grd_inv h
    refine oFreeze (t := 92) rfl rfl rfl hg24 ?_
    refine oBuild tt rfl rfl rfl rfl rfl rfl rfl rfl rfl rfl rfl ?_
    obtain ⟨hg25, h⟩ := grd_inv h
    refine oAppend tt rfl rfl rfl rfl rfl rfl rfl rfl rfl rfl rfl rfl rfl rfl rfl rfl (Nat.le_of_eq (Nat.zero_add _)) hg25 ?_
    refine oVal tt rfl rfl rfl rfl rfl trivial ?_
    refine vNil ?_
    change VC _ _ _ _
    refine vRegion ?_
    refine oVal tt rfl rfl rfl rfl rfl trivial ?_
    obtain ⟨hg26, h⟩ := grd_inv h
    refine oVal tt rfl rfl rfl rfl rfl hg26 ?_
    refine oVal tt rfl rfl rfl rfl rfl trivial ?_
    refine vNil ?_
    change ∃ _, _
    exact ⟨((l11 ++ ([(((((List.replicate ((((2 : Int) * f_0.g.n)).toNat) (0 : Int)).set ((((2 : Int) * ((f_0.g.bars.getD ((i12).toNat) (0, 0)).1))).toNat) (((f_0.places.getD (((f_0.g.bars.getD ((i12).toNat) (0, 0)).1).toNat) (0, 0)).1) - ((f_0.places.getD (((f_0.g.bars.getD ((i12).toNat) (0, 0)).2).toNat) (0, 0)).1))).set (((((2 : Int) * ((f_0.g.bars.getD ((i12).toNat) (0, 0)).1)) + (1 : Int))).toNat) (((f_0.places.getD (((f_0.g.bars.getD ((i12).toNat) (0, 0)).1).toNat) (0, 0)).2) - ((f_0.places.getD (((f_0.g.bars.getD ((i12).toNat) (0, 0)).2).toNat) (0, 0)).2))).set ((((2 : Int) * ((f_0.g.bars.getD ((i12).toNat) (0, 0)).2))).toNat) (-(((f_0.places.getD (((f_0.g.bars.getD ((i12).toNat) (0, 0)).1).toNat) (0, 0)).1) - ((f_0.places.getD (((f_0.g.bars.getD ((i12).toNat) (0, 0)).2).toNat) (0, 0)).1)))).set (((((2 : Int) * ((f_0.g.bars.getD ((i12).toNat) (0, 0)).2)) + (1 : Int))).toNat) (-(((f_0.places.getD (((f_0.g.bars.getD ((i12).toNat) (0, 0)).1).toNat) (0, 0)).2) - ((f_0.places.getD (((f_0.g.bars.getD ((i12).toNat) (0, 0)).2).toNat) (0, 0)).2))))] : List (List Int))), (i12 + (1 : Int))), (En.of ⟨rfl, rfl, rfl, trivial⟩ ⟨rfl, trivial⟩ ⟨rfl, trivial⟩), h⟩
   ·replace h := cnd_f hb3 h
    refine vExit ?_
    change ∃ _, _
    exact ⟨l11, (En.of ⟨rfl, trivial⟩ ⟨rfl, trivial⟩ trivial), h⟩
  ·replace h := cnd_f hb1 h
   iterate 2 refine oNoT rfl rfl rfl rfl hb1 rfl rfl ?_
   refine oPickF rfl rfl rfl rfl rfl hb1 rfl ?_
   refine vNil ?_
   change VC _ _ _ _
   refine vCondF rfl rfl ?_
   refine vExit ?_
   change ∃ _, _
   exact ⟨l11, (En.of ⟨rfl, trivial⟩ ⟨rfl, trivial⟩ trivial), h⟩
def S_GcdOf_l1 (N : Nat) (k : Int → Option (Int)) : Nat → (Int × Int) → Option (Int)
 | 0, _ => none
 | n + 1, (a7, b8) =>
  cnd (decide (b8 > (0 : Int))) (
   grd (b8 ≠ 0) <|
   S_GcdOf_l1 N k n (b8, (Int.tmod a7 b8))) (
   k a7)
def S_GcdOf (N : Nat) (a_0 : Int) (b_1 : Int) : Option (Int) :=
 (S_l1In N a_0 (-9000000000000000000 : Int) (9000000000000000000 : Int)).bind fun v1 =>
 cnd (!v1) (
  some (0 : Int)) (
  (S_l1In N b_1 (-9000000000000000000 : Int) (9000000000000000000 : Int)).bind fun v2 =>
  cnd (!v2) (
   some (0 : Int)) (
   grd (Rg64 (-a_0)) <|
   grd (Rg64 (-b_1)) <|
   S_GcdOf_l1 N (fun (a5 : Int) =>
      some a5) N ((max a_0 (-a_0)), (max b_1 (-b_1)))))
set_option maxRecDepth 20000 in
set_option maxHeartbeats 1600000 in
theorem S_GcdOf_w (N : Nat) (a_0 : Int) (b_1 : Int) (r : Int) (h : S_GcdOf N a_0 b_1 = some r) : PCall Try.prog 104 [.int a_0, .int b_1] [] (.int r) := by
 unfold S_GcdOf at h
 refine pcall_intro (TT := TT) tt Try.func104 rfl rfl Try.ntmps104 (congrArg Array.toList Try.results104) rfl rfl fun w0 => ?_
 refine vSeq ?_
 refine vRegion ?_
 refine oVal tt rfl rfl rfl rfl rfl trivial ?_
 refine vNil ?_
 change VC _ _ _ _
 iterate 2 refine vSeq ?_
 refine vRegion ?_
 refine oVal tt rfl rfl rfl rfl rfl trivial ?_
 obtain ⟨v1, hc1, h⟩ := bind_inv h
 refine oCall (S_l1In_w N a_0 (-9000000000000000000 : Int) (9000000000000000000 : Int) v1 hc1) rfl rfl rfl rfl rfl rfl rfl rfl ⟨rfl, rfl, rfl, trivial⟩ ?_
 iterate 2 refine oVal tt rfl rfl rfl rfl rfl trivial ?_
 refine oSplit rfl rfl rfl (fun hb2 => ?_) (fun hb2 => ?_)
 ·replace h := cnd_t hb2 h
  iterate 3 refine oNoF rfl rfl rfl rfl hb2 rfl rfl ?_
  refine oPick rfl rfl rfl rfl rfl hb2 rfl ?_
  refine vNil ?_
  change VC _ _ _ _
  refine vCondT rfl rfl ?_
  refine vSeq ?_
  refine vRegion ?_
  refine oVal tt rfl rfl rfl rfl rfl trivial ?_
  refine vNil ?_
  change VC _ _ _ _
  refine vRet ?_
  change ∃ _, _
  cases h
  exact ⟨[], _, rfl, trivial, rfl, (.eq rfl), rfl⟩
 ·replace h := cnd_f hb2 h
  refine oValG tt rfl rfl rfl rfl rfl hb2 rfl rfl rfl trivial ?_
  obtain ⟨v2, hc3, h⟩ := bind_inv h
  refine oCallG (S_l1In_w N b_1 (-9000000000000000000 : Int) (9000000000000000000 : Int) v2 hc3) rfl rfl rfl rfl hb2 rfl rfl rfl rfl rfl rfl rfl ⟨rfl, rfl, rfl, trivial⟩ ?_
  refine oValG tt rfl rfl rfl rfl rfl hb2 rfl rfl rfl trivial ?_
  refine oPickF rfl rfl rfl rfl rfl hb2 rfl ?_
  refine vNil ?_
  change VC _ _ _ _
  refine vCond rfl (fun hb4 => ?_) (fun hb4 => ?_)
  ·replace h := cnd_t hb4 h
   refine vSeq ?_
   refine vRegion ?_
   refine oVal tt rfl rfl rfl rfl rfl trivial ?_
   refine vNil ?_
   change VC _ _ _ _
   refine vRet ?_
   change ∃ _, _
   cases h
   exact ⟨[], _, rfl, trivial, rfl, (.eq rfl), rfl⟩
  ·replace h := cnd_f hb4 h
   refine vSkip ?_
   change VC _ _ _ _
   refine vSeq ?_
   refine vRegion ?_
   iterate 2 refine oVal tt rfl rfl rfl rfl rfl trivial ?_
   obtain ⟨hg5, h⟩ := grd_inv h
   refine oVal tt rfl rfl rfl rfl rfl hg5 ?_
   iterate 2 refine oVal tt rfl rfl rfl rfl rfl trivial ?_
   refine vNil ?_
   change VC _ _ _ _
   refine vSeq ?_
   refine vRegion ?_
   iterate 2 refine oVal tt rfl rfl rfl rfl rfl trivial ?_
   obtain ⟨hg6, h⟩ := grd_inv h
   refine oVal tt rfl rfl rfl rfl rfl hg6 ?_
   iterate 2 refine oVal tt rfl rfl rfl rfl rfl trivial ?_
   refine vNil ?_
   change VC _ _ _ _
   refine vSeq ?_
   refine vJoin (F := fun k => S_GcdOf_l1 N k) h (α := Int) (J := fun (a5 : Int) => (⟨[(0, .int a5)], [], []⟩ : PS)) ?_ ?_
   ·rintro a5 h
    show VC _ _ _ (⟨[(0, .int a5)], [], []⟩ : PS)
    refine vSeq ?_
    refine vRegion ?_
    iterate 2 refine oVal tt rfl rfl rfl rfl rfl trivial ?_
    refine vNil ?_
    change VC _ _ _ _
    refine vRet ?_
    change ∃ _, _
    cases h
    exact ⟨[], _, rfl, trivial, rfl, (.eq rfl), rfl⟩
   ·intro k h
    refine vBlock ?_
    refine vLoopS (α := Int × Int) (fun | (a7, b8) => (⟨[(0, .int a7), (1, .int b8)], [], []⟩ : PS)) (S_GcdOf_l1 N k) h (En.of ⟨rfl, rfl, trivial⟩ trivial trivial) (fun _ => rfl) ?_
    rintro n ⟨a7, b8⟩ h
    rw [S_GcdOf_l1] at h
    show VC _ _ _ (⟨[(0, .int a7), (1, .int b8)], [], []⟩ : PS)
    iterate 2 refine vSeq ?_
    refine vRegion ?_
    iterate 2 refine oVal tt rfl rfl rfl rfl rfl trivial ?_
    refine vNil ?_
    change VC _ _ _ _
    refine vCond rfl (fun hb7 => ?_) (fun hb7 => ?_)
    ·replace h := cnd_t hb7 h
     refine vSkip ?_
     change VC _ _ _ _
     refine vBlock ?_
     refine vSeq ?_
     refine vRegion ?_
     iterate 2 refine oVal tt rfl rfl rfl rfl rfl trivial ?_
     obtain ⟨hg8, h⟩ := grd_inv h
     refine oVal tt rfl rfl rfl rfl rfl hg8 ?_
     refine oVal tt rfl rfl rfl rfl rfl trivial ?_
     refine vNil ?_
     change VC _ _ _ _
     refine vSeq ?_
     refine vRegion ?_
     iterate 2 refine oVal tt rfl rfl rfl rfl rfl trivial ?_
     refine vNil ?_
     change VC _ _ _ _
     refine vRegion ?_
     iterate 2 refine oVal tt rfl rfl rfl rfl rfl trivial ?_
     refine vNil ?_
     change ∃ _, _
     exact ⟨(b8, (Int.tmod a7 b8)), (En.of ⟨rfl, rfl, trivial⟩ trivial trivial), h⟩
    ·replace h := cnd_f hb7 h
     refine vExit ?_
     change ∃ _, _
     exact ⟨a7, (En.of ⟨rfl, trivial⟩ trivial trivial), h⟩
def S_PrimitiveVector_l1 (N : Nat) (v_0 : List Int) (g13 : Int) (k : (List Int) → Option (List Int)) : Nat → ((List Int) × Int) → Option (List Int)
 | 0, _ => none
 | n + 1, (l18, i19) =>
  cnd (decide (i19 < (v_0.length : Int))) (
   grd (0 ≤ i19 ∧ i19 < (v_0.length : Int)) <|
   grd (g13 ≠ 0 ∧ Rg64 (Int.tdiv (v_0.getD ((i19).toNat) 0) g13)) <|
   grd (l18.length + 1 ≤ 4294967296) <|
   grd (Rg64 (i19 + (1 : Int))) <|
   S_PrimitiveVector_l1 N v_0 g13 k n ((l18 ++ ([(Int.tdiv (v_0.getD ((i19).toNat) 0) g13)] : List Int)), (i19 + (1 : Int)))) (
   k l18)
def S_PrimitiveVector_l2 (N : Nat) (v_0 : List Int) (k : Int → Option (List Int)) : Nat → (Int × Int) → Option (List Int)
 | 0, _ => none
 | n + 1, (first22, i23) =>
  cnd (decide (i23 < (v_0.length : Int))) (
   cnd (first22 == (0 : Int)) (
    grd (0 ≤ i23 ∧ i23 < (v_0.length : Int)) <|
    grd (Rg64 (i23 + (1 : Int))) <|
    S_PrimitiveVector_l2 N v_0 k n ((v_0.getD ((i23).toNat) 0), (i23 + (1 : Int)))) (
    grd (Rg64 (i23 + (1 : Int))) <|
    S_PrimitiveVector_l2 N v_0 k n (first22, (i23 + (1 : Int))))) (
   k first22)
def S_PrimitiveVector_l3 (N : Nat) (v_0 : List Int) (k : Int → Option (List Int)) : Nat → (Int × Int) → Option (List Int)
 | 0, _ => none
 | n + 1, (g27, i28) =>
  cnd (decide (i28 < (v_0.length : Int))) (
   grd (0 ≤ i28 ∧ i28 < (v_0.length : Int)) <|
   (S_l1In N (v_0.getD ((i28).toNat) 0) (-9000000000000000000 : Int) (9000000000000000000 : Int)).bind fun v31 =>
   cnd (!v31) (
    grd (v_0.length ≤ 4294967296) <|
    some (([] : List Int) ++ v_0)) (
    (S_GcdOf N g27 (v_0.getD ((i28).toNat) 0)).bind fun v32 =>
    grd (Rg64 (i28 + (1 : Int))) <|
    S_PrimitiveVector_l3 N v_0 k n (v32, (i28 + (1 : Int))))) (
   k g27)
def S_PrimitiveVector (N : Nat) (v_0 : List Int) : Option (List Int) :=
 S_PrimitiveVector_l3 N v_0 (fun (g9 : Int) =>
    cnd (g9 == (0 : Int)) (
     grd (v_0.length ≤ 4294967296) <|
     some (([] : List Int) ++ v_0)) (
     S_PrimitiveVector_l2 N v_0 (fun (first12 : Int) =>
        jn (fun (g13 : Int) =>
           S_PrimitiveVector_l1 N v_0 g13 (fun (l16 : List Int) =>
              some l16) N (([] : List Int), (0 : Int))) fun k20 =>
         cnd (decide (first12 < (0 : Int))) (
          grd (Rg64 (-g9)) <|
          k20 (-g9)) (
          k20 g9)) N ((0 : Int), (0 : Int)))) N ((0 : Int), (0 : Int))
set_option maxRecDepth 20000 in
set_option maxHeartbeats 1600000 in
theorem S_PrimitiveVector_w (N : Nat) (v_0 : List Int) (r : List Int) (h : S_PrimitiveVector N v_0 = some r) : PCall Try.prog 103 [.ro false (.ints v_0)] [(3, .ints r)] (.row 0 0 r.length) := by
 unfold S_PrimitiveVector at h
 refine pcall_intro (TT := TT) tt Try.func103 rfl rfl Try.ntmps103 (congrArg Array.toList Try.results103) rfl rfl fun w0 => ?_
 refine vSeq ?_
 refine vRegion ?_
 refine oVal tt rfl rfl rfl rfl rfl trivial ?_
 refine vNil ?_
 change VC _ _ _ _
 refine vSeq ?_
 refine vRegion ?_
 refine oVal tt rfl rfl rfl rfl rfl trivial ?_
 refine vNil ?_
 change VC _ _ _ _
 iterate 2 refine vSeq ?_
 refine vRegion ?_
 refine oVal tt rfl rfl rfl rfl rfl trivial ?_
 refine vNil ?_
 change VC _ _ _ _
 refine vJoin (F := fun k => S_PrimitiveVector_l3 N v_0 k) h (α := Int) (J := fun (g9 : Int) => (⟨[(0, .ro false (.ints v_0)), (3, .int g9)], [], []⟩ : PS)) ?_ ?_
 ·rintro g9 h
  show VC _ _ _ (⟨[(0, .ro false (.ints v_0)), (3, .int g9)], [], []⟩ : PS)
  iterate 2 refine vSeq ?_
  refine vRegion ?_
  iterate 2 refine oVal tt rfl rfl rfl rfl rfl trivial ?_
  refine vNil ?_
  change VC _ _ _ _
  refine vCond rfl (fun hb1 => ?_) (fun hb1 => ?_)
  ·replace h := cnd_t hb1 h
   refine vSeq ?_
   refine vRegion ?_
   refine oEmpty tt (wNone rfl) rfl rfl rfl rfl ?_
   refine oVal tt rfl rfl rfl rfl rfl trivial ?_
   obtain ⟨hg2, h⟩ := grd_inv h
   refine oAppNil tt (wNone rfl) rfl rfl rfl rfl rfl rfl rfl (fun _ => rfl) rfl rfl rfl rfl rfl hg2 ?_
   refine oVal tt rfl rfl rfl rfl rfl trivial ?_
   refine vNil ?_
   change VC _ _ _ _
   refine vRet ?_
   change ∃ _, _
   cases h
   exact ⟨[34], _, rfl, ⟨rfl, trivial⟩, rfl, (.eq rfl), rfl⟩
  ·replace h := cnd_f hb1 h
   refine vSkip ?_
   change VC _ _ _ _
   refine vSeq ?_
   refine vRegion ?_
   refine oVal tt rfl rfl rfl rfl rfl trivial ?_
   refine vNil ?_
   change VC _ _ _ _
   iterate 2 refine vSeq ?_
   refine vRegion ?_
   refine oVal tt rfl rfl rfl rfl rfl trivial ?_
   refine vNil ?_
   change VC _ _ _ _
   refine vJoin (F := fun k => S_PrimitiveVector_l2 N v_0 k) h (α := Int) (J := fun (first12 : Int) => (⟨[(0, .ro false (.ints v_0)), (3, .int g9), (5, .int first12)], [], []⟩ : PS)) ?_ ?_
   ·rintro first12 h
    show VC _ _ _ (⟨[(0, .ro false (.ints v_0)), (3, .int g9), (5, .int first12)], [], []⟩ : PS)
    iterate 2 refine vSeq ?_
    refine vRegion ?_
    iterate 2 refine oVal tt rfl rfl rfl rfl rfl trivial ?_
    refine vNil ?_
    change VC _ _ _ _
    refine vJoinN h (α := Int) (J := fun (g13 : Int) => (⟨[(0, .ro false (.ints v_0)), (3, .int g13)], [], []⟩ : PS)) ?_ ?_
    ·rintro g13 h
     show VC _ _ _ (⟨[(0, .ro false (.ints v_0)), (3, .int g13)], [], []⟩ : PS)
     refine vSeq ?_
     refine vRegion ?_
     refine oEmpty tt (wNone rfl) rfl rfl rfl rfl ?_
     refine oVal tt rfl rfl rfl rfl rfl trivial ?_
     refine vNil ?_
     change VC _ _ _ _
     iterate 2 refine vSeq ?_
     refine vRegion ?_
     refine oVal tt rfl rfl rfl rfl rfl trivial ?_
     refine vNil ?_
     change VC _ _ _ _
     refine vJoin (F := fun k => S_PrimitiveVector_l1 N v_0 g13 k) h (α := List Int) (J := fun (l16 : List Int) => (⟨[(7, .row 66 0 l16.length)], [(66, some (3, .ints l16))], []⟩ : PS)) ?_ ?_
     ·rintro l16 h
      show VC _ _ _ (⟨[(7, .row 66 0 l16.length)], [(66, some (3, .ints l16))], []⟩ : PS)
      refine vSeq ?_
      refine vRegion ?_
      iterate 2 refine oVal tt rfl rfl rfl rfl rfl trivial ?_
      refine vNil ?_
      change VC _ _ _ _
      refine vRet ?_
      change ∃ _, _
      cases h
      exact ⟨[66], _, rfl, ⟨rfl, trivial⟩, rfl, (.eq rfl), rfl⟩
     ·intro k h
      refine vBlock ?_
      refine vNilT 7 66 3 (.ints []) rfl rfl rfl rfl ?_
      refine vLoopS (α := (List Int) × Int) (fun | (l18, i19) => (⟨[(0, .ro false (.ints v_0)), (3, .int g13), (7, .row 66 0 l18.length), (8, .int i19)], [(66, some (3, .ints l18))], []⟩ : PS)) (S_PrimitiveVector_l1 N v_0 g13 k) h (En.of ⟨rfl, rfl, rfl, rfl, trivial⟩ ⟨rfl, trivial⟩ trivial) (fun _ => rfl) ?_
      rintro n ⟨l18, i19⟩ h
      rw [S_PrimitiveVector_l1] at h
      show VC _ _ _ (⟨[(0, .ro false (.ints v_0)), (3, .int g13), (7, .row 66 0 l18.length), (8, .int i19)], [(66, some (3, .ints l18))], []⟩ : PS)
      iterate 2 refine vSeq ?_
      refine vRegion ?_
      iterate 4 refine oVal tt rfl rfl rfl rfl rfl trivial ?_
      refine vNil ?_
      change VC _ _ _ _
      refine vCond rfl (fun hb3 => ?_) (fun hb3 => ?_)
      ·replace h := cnd_t hb3 h
       refine vSkip ?_
       change VC _ _ _ _
       refine vSeq ?_
       refine vBlock ?_
       refine vRegion ?_
       iterate 3 refine oVal tt rfl rfl rfl rfl rfl trivial ?_
       obtain ⟨hg4, h⟩ := grd_inv h
       refine oVal tt rfl rfl rfl rfl rfl hg4 ?_
       iterate 2 refine oVal tt rfl rfl rfl rfl rfl trivial ?_
       obtain ⟨hg5, h⟩ := grd_inv h
       refine oVal tt rfl rfl rfl rfl rfl hg5 ?_
       refine oBuild tt rfl rfl rfl rfl rfl rfl rfl rfl rfl rfl rfl ?_
       obtain ⟨hg6, h⟩ := grd_inv h
       refine oAppend tt rfl rfl rfl rfl rfl rfl rfl rfl rfl rfl rfl rfl rfl rfl rfl rfl (Nat.le_of_eq (Nat.zero_add _)) hg6 ?_
       refine oVal tt rfl rfl rfl rfl rfl trivial ?_
       refine vNil ?_
       change VC _ _ _ _
       refine vRegion ?_
       refine oVal tt rfl rfl rfl rfl rfl trivial ?_
       obtain ⟨hg7, h⟩ := grd_inv h
       refine oVal tt rfl rfl rfl rfl rfl hg7 ?_
       refine oVal tt rfl rfl rfl rfl rfl trivial ?_
       refine vNil ?_
       change ∃ _, _
       exact ⟨((l18 ++ ([(Int.tdiv (v_0.getD ((i19).toNat) 0) g13)] : List Int)), (i19 + (1 : Int))), (En.of ⟨rfl, rfl, rfl, rfl, trivial⟩ ⟨rfl, trivial⟩ trivial), h⟩
      ·replace h := cnd_f hb3 h
       refine vExit ?_
       change ∃ _, _
       exact ⟨l18, (En.of ⟨rfl, trivial⟩ ⟨rfl, trivial⟩ trivial), h⟩
    ·intro k20 h
     refine vCond rfl (fun hb8 => ?_) (fun hb8 => ?_)
     ·replace h := cnd_t hb8 h
      refine vRegion ?_
      refine oVal tt rfl rfl rfl rfl rfl trivial ?_
      obtain ⟨hg9, h⟩ := grd_inv h
      refine oVal tt rfl rfl rfl rfl rfl hg9 ?_
      refine oVal tt rfl rfl rfl rfl rfl trivial ?_
      refine vNil ?_
      change ∃ _, _
      exact ⟨(-g9), (En.of ⟨rfl, rfl, trivial⟩ trivial trivial), h⟩
     ·replace h := cnd_f hb8 h
      refine vSkip ?_
      change ∃ _, _
      exact ⟨g9, (En.of ⟨rfl, rfl, trivial⟩ trivial trivial), h⟩
   ·intro k h
    refine vBlock ?_
    refine vLoopS (α := Int × Int) (fun | (first22, i23) => (⟨[(0, .ro false (.ints v_0)), (3, .int g9), (5, .int first22), (6, .int i23)], [], []⟩ : PS)) (S_PrimitiveVector_l2 N v_0 k) h (En.of ⟨rfl, rfl, rfl, rfl, trivial⟩ trivial trivial) (fun _ => rfl) ?_
    rintro n ⟨first22, i23⟩ h
    rw [S_PrimitiveVector_l2] at h
    show VC _ _ _ (⟨[(0, .ro false (.ints v_0)), (3, .int g9), (5, .int first22), (6, .int i23)], [], []⟩ : PS)
    iterate 2 refine vSeq ?_
    refine vRegion ?_
    iterate 4 refine oVal tt rfl rfl rfl rfl rfl trivial ?_
    refine vNil ?_
    change VC _ _ _ _
    refine vCond rfl (fun hb10 => ?_) (fun hb10 => ?_)
    ·replace h := cnd_t hb10 h
     refine vSkip ?_
     change VC _ _ _ _
     refine vSeq ?_
     refine vBlock ?_
     refine vSeq ?_
     refine vRegion ?_
     iterate 2 refine oVal tt rfl rfl rfl rfl rfl trivial ?_
     refine vNil ?_
     change VC _ _ _ _
     refine vCond rfl (fun hb11 => ?_) (fun hb11 => ?_)
     ·replace h := cnd_t hb11 h
      refine vRegion ?_
      iterate 2 refine oVal tt rfl rfl rfl rfl rfl trivial ?_
      obtain ⟨hg12, h⟩ := grd_inv h
      refine oVal tt rfl rfl rfl rfl rfl hg12 ?_
      iterate 2 refine oVal tt rfl rfl rfl rfl rfl trivial ?_
      refine vNil ?_
      change VC _ _ _ _
      refine vRegion ?_
      refine oVal tt rfl rfl rfl rfl rfl trivial ?_
      obtain ⟨hg13, h⟩ := grd_inv h
      refine oVal tt rfl rfl rfl rfl rfl hg13 ?_
      refine oVal tt rfl rfl rfl rfl rfl trivial ?_
      refine vNil ?_
      change ∃ _, _
      exact ⟨((v_0.getD ((i23).toNat) 0), (i23 + (1 : Int))), (En.of ⟨rfl, rfl, rfl, rfl, trivial⟩ trivial trivial), h⟩
     ·replace h := cnd_f hb11 h
      refine vSkip ?_
      change VC _ _ _ _
      refine vRegion ?_
      refine oVal tt rfl rfl rfl rfl rfl trivial ?_
      obtain ⟨hg14, h⟩ := grd_inv h
      refine oVal tt rfl rfl rfl rfl rfl hg14 ?_
      refine oVal tt rfl rfl rfl rfl rfl trivial ?_
      refine vNil ?_
      change ∃ _, _
      exact ⟨(first22, (i23 + (1 : Int))), (En.of ⟨rfl, rfl, rfl, rfl, trivial⟩ trivial trivial), h⟩
    ·replace h := cnd_f hb10 h
     refine vExit ?_
     change ∃ _, _
     exact ⟨first22, (En.of ⟨rfl, rfl, rfl, trivial⟩ trivial trivial), h⟩
 ·intro k h
  refine vBlock ?_
  refine vLoopS (α := Int × Int) (fun | (g27, i28) => (⟨[(0, .ro false (.ints v_0)), (3, .int g27), (4, .int i28)], [], []⟩ : PS)) (S_PrimitiveVector_l3 N v_0 k) h (En.of ⟨rfl, rfl, rfl, trivial⟩ trivial trivial) (fun _ => rfl) ?_
  rintro n ⟨g27, i28⟩ h
  rw [S_PrimitiveVector_l3] at h
  show VC _ _ _ (⟨[(0, .ro false (.ints v_0)), (3, .int g27), (4, .int i28)], [], []⟩ : PS)
  iterate 2 refine vSeq ?_
  refine vRegion ?_
  iterate 4 refine oVal tt rfl rfl rfl rfl rfl trivial ?_
  refine vNil ?_
  change VC _ _ _ _
  refine vCond rfl (fun hb15 => ?_) (fun hb15 => ?_)
  ·replace h := cnd_t hb15 h
   refine vSkip ?_
   change VC _ _ _ _
   refine vSeq ?_
   refine vBlock ?_
   iterate 2 refine vSeq ?_
   refine vRegion ?_
   iterate 2 refine oVal tt rfl rfl rfl rfl rfl trivial ?_
   obtain ⟨hg16, h⟩ := grd_inv h
   refine oVal tt rfl rfl rfl rfl rfl hg16 ?_
   refine oVal tt rfl rfl rfl rfl rfl trivial ?_
   obtain ⟨v31, hc17, h⟩ := bind_inv h
   refine oCall (S_l1In_w N (v_0.getD ((i28).toNat) 0) (-9000000000000000000 : Int) (9000000000000000000 : Int) v31 hc17) rfl rfl rfl rfl rfl rfl rfl rfl ⟨rfl, rfl, rfl, trivial⟩ ?_
   refine oVal tt rfl rfl rfl rfl rfl trivial ?_
   refine vNil ?_
   change VC _ _ _ _
   refine vCond rfl (fun hb18 => ?_) (fun hb18 => ?_)
   ·replace h := cnd_t hb18 h
    refine vSeq ?_
    refine vRegion ?_
    refine oEmpty tt (wNone rfl) rfl rfl rfl rfl ?_
    refine oVal tt rfl rfl rfl rfl rfl trivial ?_
    obtain ⟨hg19, h⟩ := grd_inv h
    refine oAppNil tt (wNone rfl) rfl rfl rfl rfl rfl rfl rfl (fun _ => rfl) rfl rfl rfl rfl rfl hg19 ?_
    refine oVal tt rfl rfl rfl rfl rfl trivial ?_
    refine vNil ?_
    change VC _ _ _ _
    refine vRet ?_
    change ∃ _, _
    cases h
    exact ⟨[23], _, rfl, ⟨rfl, trivial⟩, rfl, (.eq rfl), rfl⟩
   ·replace h := cnd_f hb18 h
    refine vSkip ?_
    change VC _ _ _ _
    refine vRegion ?_
    iterate 3 refine oVal tt rfl rfl rfl rfl rfl trivial ?_
    refine oVal tt rfl rfl rfl rfl rfl hg16 ?_
    refine oVal tt rfl rfl rfl rfl rfl trivial ?_
    obtain ⟨v32, hc20, h⟩ := bind_inv h
    refine oCall (S_GcdOf_w N g27 (v_0.getD ((i28).toNat) 0) v32 hc20) rfl rfl rfl rfl rfl rfl rfl rfl ⟨rfl, rfl, trivial⟩ ?_
    refine oVal tt rfl rfl rfl rfl rfl trivial ?_
    refine vNil ?_
    change VC _ _ _ _
    refine vRegion ?_
    refine oVal tt rfl rfl rfl rfl rfl trivial ?_
    obtain ⟨hg21, h⟩ := grd_inv h
    refine oVal tt rfl rfl rfl rfl rfl hg21 ?_
    refine oVal tt rfl rfl rfl rfl rfl trivial ?_
    refine vNil ?_
    change ∃ _, _
    exact ⟨(v32, (i28 + (1 : Int))), (En.of ⟨rfl, rfl, rfl, trivial⟩ trivial trivial), h⟩
  ·replace h := cnd_f hb15 h
   refine vExit ?_
   change ∃ _, _
   exact ⟨g27, (En.of ⟨rfl, rfl, trivial⟩ trivial trivial), h⟩
def S_l9Clean (N : Nat) (row_0 : List Int) : Option (List Int) :=
 (S_PrimitiveVector N row_0).bind fun v1 =>
 some v1
set_option maxRecDepth 20000 in
set_option maxHeartbeats 1600000 in
theorem S_l9Clean_w (N : Nat) (row_0 : List Int) (r : List Int) (h : S_l9Clean N row_0 = some r) : PCall Try.prog 78 [.ro false (.ints row_0)] [(3, .ints r)] (.row 0 0 r.length) := by
 unfold S_l9Clean at h
 refine pcall_intro (TT := TT) tt Try.func78 rfl rfl Try.ntmps78 (congrArg Array.toList Try.results78) rfl rfl fun w0 => ?_
 refine vSeq ?_
 refine vRegion ?_
 refine oVal tt rfl rfl rfl rfl rfl trivial ?_
 refine vNil ?_
 change VC _ _ _ _
 refine vSeq ?_
 refine vRegion ?_
 refine oVal tt rfl rfl rfl rfl rfl trivial ?_
 obtain ⟨v1, hc1, h⟩ := bind_inv h
 refine oCall (S_PrimitiveVector_w N row_0 v1 hc1) rfl rfl rfl rfl rfl rfl rfl rfl ⟨rfl, trivial⟩ ?_
 refine oVal tt rfl rfl rfl rfl rfl trivial ?_
 refine vNil ?_
 change VC _ _ _ _
 refine vRet ?_
 change ∃ _, _
 cases h
 exact ⟨[1040], _, rfl, ⟨rfl, trivial⟩, rfl, (.eq rfl), rfl⟩
def S_l9Without_l1 (N : Nat) (a_0 : List Int) (row_1 : List Int) (j_2 : Int) (v1 : Int) (k : (List Int) → Option (List Int)) : Nat → ((List Int) × Int) → Option (List Int)
 | 0, _ => none
 | n + 1, (l7, k8) =>
  cnd (decide (k8 < (a_0.length : Int))) (
   grd (0 ≤ k8 ∧ k8 < (a_0.length : Int)) <|
   grd (Rg64 ((a_0.getD ((k8).toNat) 0) * (Int.tdiv (row_1.getD ((j_2).toNat) 0) v1))) <|
   grd (0 ≤ k8 ∧ k8 < (row_1.length : Int)) <|
   grd (Rg64 ((row_1.getD ((k8).toNat) 0) * (Int.tdiv (a_0.getD ((j_2).toNat) 0) v1))) <|
   grd (Rg64 (((a_0.getD ((k8).toNat) 0) * (Int.tdiv (row_1.getD ((j_2).toNat) 0) v1)) - ((row_1.getD ((k8).toNat) 0) * (Int.tdiv (a_0.getD ((j_2).toNat) 0) v1)))) <|
   grd (l7.length + 1 ≤ 4294967296) <|
   grd (Rg64 (k8 + (1 : Int))) <|
   S_l9Without_l1 N a_0 row_1 j_2 v1 k n ((l7 ++ ([(((a_0.getD ((k8).toNat) 0) * (Int.tdiv (row_1.getD ((j_2).toNat) 0) v1)) - ((row_1.getD ((k8).toNat) 0) * (Int.tdiv (a_0.getD ((j_2).toNat) 0) v1)))] : List Int)), (k8 + (1 : Int)))) (
   k l7)
def S_l9Without (N : Nat) (a_0 : List Int) (row_1 : List Int) (j_2 : Int) : Option (List Int) :=
 grd (0 ≤ j_2 ∧ j_2 < (a_0.length : Int)) <|
 grd (0 ≤ j_2 ∧ j_2 < (row_1.length : Int)) <|
 (S_GcdOf N (a_0.getD ((j_2).toNat) 0) (row_1.getD ((j_2).toNat) 0)).bind fun v1 =>
 grd (v1 ≠ 0 ∧ Rg64 (Int.tdiv (row_1.getD ((j_2).toNat) 0) v1)) <|
 grd (v1 ≠ 0 ∧ Rg64 (Int.tdiv (a_0.getD ((j_2).toNat) 0) v1)) <|
 S_l9Without_l1 N a_0 row_1 j_2 v1 (fun (l4 : List Int) =>
    (S_l9Clean N l4).bind fun v5 =>
    some v5) N (([] : List Int), (0 : Int))
set_option maxRecDepth 20000 in
set_option maxHeartbeats 1600000 in
theorem S_l9Without_w (N : Nat) (a_0 : List Int) (row_1 : List Int) (j_2 : Int) (r : List Int) (h : S_l9Without N a_0 row_1 j_2 = some r) : PCall Try.prog 79 [.ro false (.ints a_0), .ro false (.ints row_1), .int j_2] [(3, .ints r)] (.row 0 0 r.length) := by
 unfold S_l9Without at h
 refine pcall_intro (TT := TT) tt Try.func79 rfl rfl Try.ntmps79 (congrArg Array.toList Try.results79) rfl rfl fun w0 => ?_
 refine vSeq ?_
 refine vRegion ?_
 refine oVal tt rfl rfl rfl rfl rfl trivial ?_
 refine vNil ?_
 change VC _ _ _ _
 refine vSeq ?_
 refine vRegionD (by kernel_rfl) (by kernel_rfl) ?_
 iterate 2 refine cVal tt rfl (wNone rfl) rfl rfl rfl trivial ?_
 obtain ⟨hg1, h⟩ := grd_inv h
 refine cVal tt rfl (wNone rfl) rfl rfl rfl hg1 ?_
 iterate 3 refine cVal tt rfl (wNone rfl) rfl rfl rfl trivial ?_
 obtain ⟨hg2, h⟩ := grd_inv h
 refine cVal tt rfl (wNone rfl) rfl rfl rfl hg2 ?_
 refine cVal tt rfl (wNone rfl) rfl rfl rfl trivial ?_
 obtain ⟨v1, hc3, h⟩ := bind_inv h
 refine cCall (S_GcdOf_w N (a_0.getD ((j_2).toNat) 0) (row_1.getD ((j_2).toNat) 0) v1 hc3) rfl (wNone rfl) rfl rfl rfl rfl rfl rfl ⟨rfl, rfl, trivial⟩ ?_
 refine cVal tt rfl (wNone rfl) rfl rfl rfl trivial ?_
 refine cNil ?_
 change VC _ _ _ _
 refine vSeq ?_
 refine vRegion ?_
 iterate 2 refine oVal tt rfl rfl rfl rfl rfl trivial ?_
 refine oVal tt rfl rfl rfl rfl rfl hg2 ?_
 iterate 2 refine oVal tt rfl rfl rfl rfl rfl trivial ?_
 obtain ⟨hg4, h⟩ := grd_inv h
 refine oVal tt rfl rfl rfl rfl rfl hg4 ?_
 refine oVal tt rfl rfl rfl rfl rfl trivial ?_
 refine vNil ?_
 change VC _ _ _ _
 refine vSeq ?_
 refine vRegion ?_
 iterate 2 refine oVal tt rfl rfl rfl rfl rfl trivial ?_
 refine oVal tt rfl rfl rfl rfl rfl hg1 ?_
 iterate 2 refine oVal tt rfl rfl rfl rfl rfl trivial ?_
 obtain ⟨hg5, h⟩ := grd_inv h
 refine oVal tt rfl rfl rfl rfl rfl hg5 ?_
 refine oVal tt rfl rfl rfl rfl rfl trivial ?_
 refine vNil ?_
 change VC _ _ _ _
 refine vSeq ?_
 refine vRegion ?_
 refine oEmpty tt (wNone rfl) rfl rfl rfl rfl ?_
 refine oVal tt rfl rfl rfl rfl rfl trivial ?_
 refine vNil ?_
 change VC _ _ _ _
 iterate 2 refine vSeq ?_
 refine vRegion ?_
 refine oVal tt rfl rfl rfl rfl rfl trivial ?_
 refine vNil ?_
 change VC _ _ _ _
 refine vJoin (F := fun k => S_l9Without_l1 N a_0 row_1 j_2 v1 k) h (α := List Int) (J := fun (l4 : List Int) => (⟨[(10, .row 55 0 l4.length)], [(55, some (3, .ints l4))], []⟩ : PS)) ?_ ?_
 ·rintro l4 h
  show VC _ _ _ (⟨[(10, .row 55 0 l4.length)], [(55, some (3, .ints l4))], []⟩ : PS)
  refine vSeq ?_
  refine vRegion ?_
  refine oVal tt rfl rfl rfl rfl rfl trivial ?_
  obtain ⟨v5, hc6, h⟩ := bind_inv h
  refine oCall (S_l9Clean_w N l4 v5 hc6) rfl rfl rfl rfl rfl rfl rfl rfl ⟨(.inl ⟨rfl, rfl⟩), trivial⟩ ?_
  refine oVal tt rfl rfl rfl rfl rfl trivial ?_
  refine vNil ?_
  change VC _ _ _ _
  refine vRet ?_
  change ∃ _, _
  cases h
  exact ⟨[1570], _, rfl, ⟨rfl, trivial⟩, rfl, (.eq rfl), rfl⟩
 ·intro k h
  refine vBlock ?_
  refine vNilT 10 55 3 (.ints []) rfl rfl rfl rfl ?_
  refine vLoopS (α := (List Int) × Int) (fun | (l7, k8) => (⟨[(0, .ro false (.ints a_0)), (1, .ro false (.ints row_1)), (8, .int (Int.tdiv (row_1.getD ((j_2).toNat) 0) v1)), (9, .int (Int.tdiv (a_0.getD ((j_2).toNat) 0) v1)), (10, .row 55 0 l7.length), (11, .int k8)], [(55, some (3, .ints l7))], []⟩ : PS)) (S_l9Without_l1 N a_0 row_1 j_2 v1 k) h (En.of ⟨rfl, rfl, rfl, rfl, rfl, rfl, trivial⟩ ⟨rfl, trivial⟩ trivial) (fun _ => rfl) ?_
  rintro n ⟨l7, k8⟩ h
  rw [S_l9Without_l1] at h
  show VC _ _ _ (⟨[(0, .ro false (.ints a_0)), (1, .ro false (.ints row_1)), (8, .int (Int.tdiv (row_1.getD ((j_2).toNat) 0) v1)), (9, .int (Int.tdiv (a_0.getD ((j_2).toNat) 0) v1)), (10, .row 55 0 l7.length), (11, .int k8)], [(55, some (3, .ints l7))], []⟩ : PS)
  iterate 2 refine vSeq ?_
  refine vRegion ?_
  iterate 4 refine oVal tt rfl rfl rfl rfl rfl trivial ?_
  refine vNil ?_
  change VC _ _ _ _
  refine vCond rfl (fun hb7 => ?_) (fun hb7 => ?_)
  ·replace h := cnd_t hb7 h
   refine vSkip ?_
   change VC _ _ _ _
   refine vSeq ?_
   refine vBlock ?_
   refine vRegionN 15 [14] [0, 0, 0, 6, 14, 0, 62, 0, 0, 384, 896, 0, 3968, 8190, 16382, 32767, 65535] (by kernel_rfl) (by kernel_rfl) (by kernel_rfl) (by kernel_rfl) (by kernel_rfl) rfl (by rfl) ?_
   iterate 3 refine nVal tt rfl (wNone rfl) rfl rfl rfl rfl rfl trivial ?_
   obtain ⟨hg8, h⟩ := grd_inv h
   refine nVal tt rfl (wNone rfl) rfl rfl rfl rfl rfl hg8 ?_
   iterate 2 refine nVal tt rfl (wNone rfl) rfl rfl rfl rfl rfl trivial ?_
   obtain ⟨hg9, h⟩ := grd_inv h
   refine nVal tt rfl (wNone rfl) rfl rfl rfl rfl rfl hg9 ?_
   iterate 2 refine nVal tt rfl (wNone rfl) rfl rfl rfl rfl rfl trivial ?_
   obtain ⟨hg10, h⟩ := grd_inv h
   refine nVal tt rfl (wNone rfl) rfl rfl rfl rfl rfl hg10 ?_
   iterate 2 refine nVal tt rfl (wNone rfl) rfl rfl rfl rfl rfl trivial ?_
   obtain ⟨hg11, h⟩ := grd_inv h
   refine nVal tt rfl (wNone rfl) rfl rfl rfl rfl rfl hg11 ?_
   obtain ⟨hg12, h⟩ := grd_inv h
   refine nVal tt rfl (wNone rfl) rfl rfl rfl rfl rfl hg12 ?_
   refine nBuild tt (wNone rfl) rfl rfl rfl rfl rfl rfl rfl rfl rfl rfl rfl rfl ?_
   refine nNil ?_
   change VO _ _ _ _ _
   obtain ⟨hg13, h⟩ := grd_inv h
   refine oAppend tt rfl rfl rfl rfl rfl rfl rfl rfl rfl rfl rfl rfl rfl rfl rfl rfl (Nat.le_of_eq (Nat.zero_add _)) hg13 ?_
   refine oVal tt rfl rfl rfl rfl rfl trivial ?_
   refine vNil ?_
   change VC _ _ _ _
   refine vRegion ?_
   refine oVal tt rfl rfl rfl rfl rfl trivial ?_
   obtain ⟨hg14, h⟩ := grd_inv h
   refine oVal tt rfl rfl rfl rfl rfl hg14 ?_
   refine oVal tt rfl rfl rfl rfl rfl trivial ?_
   refine vNil ?_
   change ∃ _, _
   exact ⟨((l7 ++ ([(((a_0.getD ((k8).toNat) 0) * (Int.tdiv (row_1.getD ((j_2).toNat) 0) v1)) - ((row_1.getD ((k8).toNat) 0) * (Int.tdiv (a_0.getD ((j_2).toNat) 0) v1)))] : List Int)), (k8 + (1 : Int))), (En.of ⟨rfl, rfl, rfl, rfl, rfl, rfl, trivial⟩ ⟨rfl, trivial⟩ trivial), h⟩
  ·replace h := cnd_f hb7 h
   refine vExit ?_
   change ∃ _, _
   exact ⟨l7, (En.of ⟨rfl, trivial⟩ ⟨rfl, trivial⟩ trivial), h⟩
end Go.Proofs.Ytkklfgcelmeccaa
namespace Go.Proofs.Ytkklfgcelmeccaa
open Go.RowKit Go.Deep
section
variable {C : Cx} {ops : Array Oper} {K : PS → Prop} {l : List Oper} {s s' : PS} {TT : List (Nat × Ty)} {tm : List (Nat × D)} {rw' : List (Nat × Option (TypeId × Sq))} {bx : List (Nat × Option (List D))}
theorem vEnO (hl : En C s s') (h : VO C ops K l s') : VO C ops K l s := ⟨fun M a w Q hr hk => by
 obtain ⟨M', h'⟩ := hl.out M a w hr
 exact h.out M' a w Q h' hk⟩
end
section
end
section
variable {C : Cx} {ops : Array Oper} {K : PS → Prop} {l : List Oper} {s s' : PS} {TT : List (Nat × Ty)} {tm : List (Nat × D)} {rw' : List (Nat × Option (TypeId × Sq))} {bx : List (Nat × Option (List D))}
variable {o : Oper} {rest : List Oper} {rk rids bk bids pids : List Nat}
end
section
end
section
variable {C : Cx} {ops : Array Oper} {K : PS → Prop} {o : Oper} {rest : List Oper} {s s' : PS} {TT : List (Nat × Ty)} {tm : List (Nat × D)} {rw' : List (Nat × Option (TypeId × Sq))} {bx : List (Nat × Option (List D))} {cr B : List Nat} {j : Nat}
end
end Go.Proofs.Ytkklfgcelmeccaa
namespace Go.Proofs.Ytkklfgcelmeccaa
open Go.RowKit Go.Deep
def klXS (r : Nat) : D → D
 | .row x o n => match (Nat.beq x r || !notF x) with | true => .dead | false => .row x o n
 | .eptr x i o => match (Nat.beq x r || !notF x) with | true => .dead | false => .eptr x i o
 | .agg _ | .tup _ | .irow _ _ _ | .iptr _ _ _ _ => .dead
 | d => d
def klXA (r : Nat) : D → D
 | .agg l => .agg (l.map (klXS r))
 | d => klXS r d
def klX (r : Nat) : D → D
 | .tup l => .tup (l.map (klXA r))
 | d => klXA r d
def PS.killX (s : PS) (r : Nat) : PS := ⟨s.tmp.map fun p => (p.1, klX r p.2), s.row, s.box.map fun p => (p.1, p.2.map fun cs => cs.map (klXS r))⟩
section
variable {M M' : Mp} {A A' : Bool → Nat → Prop} {w w' : World} {r : Nat} {s : PS}
theorem VR.klXS (hA : ∀ f b, b < w.heap.size → A f b → A' f b ∧ b < w'.heap.size ∧ w'.heap[b]? = w.heap[b]?) (hγ : ∀ x y, x ≠ r → notF x = true → M'.γ x = some y → M.γ x = some y) (hβ : ∀ b k, M'.β b = some k → M.β b = some k)
  {d : D} {v : Value} (h : VR M A w d v) : VR M' A' w' (klXS r d) v := by
 cases h with
 | dead v => exact .dead v
 | int n => exact .int n
 | bool b => exact .bool b
 | val v h => exact .val v h
 | nil ao => exact .nil ao
 | ro f q ao cap b o u hn hc hao hu hv => exact VR.ro_any (.ro f q ao cap b o u hn hc hao hu hv) hA
 | row x off n v h1 h =>
  simp only [Ytkklfgcelmeccaa.klXS]
  split
  ·exact .dead _
  ·rename_i hx
   rw [Bool.or_eq_false_iff] at hx
   exact .row _ off n v h1 fun y hy => h y (hγ _ y (fun e => by subst e; rw [Nat.beq_refl] at hx; cases hx.1) (by simpa using hx.2) hy)
 | ptr b off v h1 h => exact .ptr _ off v h1 fun k hk => h k (hβ b k hk)
 | eptr x i off v h =>
  simp only [Ytkklfgcelmeccaa.klXS]
  split
  ·exact .dead _
  ·rename_i hx
   rw [Bool.or_eq_false_iff] at hx
   exact .eptr _ i off v fun g c z hg => h g c z (hγ _ _ (fun e => by subst e; rw [Nat.beq_refl] at hx; cases hx.1) (by simpa using hx.2) hg)
 | rptr f q i off b o u hb hA' hu hv => exact VR.rptr_any (.rptr f q i off b o u hb hA' hu hv) hA
 | agg l us hl h => exact .dead _
 | tup l us hl h => exact .dead _
 | clo f bs v h1 h => exact .clo f bs v h1 fun ks hk => h ks (capsOf_mono' (fun b _ => hβ b) hk)
 | map k l es clock h hl hk => obtain ⟨a1, a2, a3⟩ := hA _ k (heap_lt h) hk; exact .map k l es clock (a3.trans h) hl a1
 | any v h1 => exact .any v h1
 | irow F k n v h1 h => exact .dead _
 | iptr F k i off v h => exact .dead _
 | fam te q v => exact .fam te q v
theorem VR.klXA (hA : ∀ f b, b < w.heap.size → A f b → A' f b ∧ b < w'.heap.size ∧ w'.heap[b]? = w.heap[b]?) (hγ : ∀ x y, x ≠ r → notF x = true → M'.γ x = some y → M.γ x = some y) (hβ : ∀ b k, M'.β b = some k → M.β b = some k)
  {d : D} {v : Value} (h : VR M A w d v) : VR M' A' w' (klXA r d) v := by
 cases d with
 | agg l =>
  cases h with | agg _ us hl h =>
  refine .agg _ us (by simpa using hl) fun i d hd => ?_
  rw [List.getElem?_map] at hd
  obtain ⟨d0, h0, rfl⟩ := Option.map_eq_some_iff.1 hd
  exact (h i d0 h0).klXS hA hγ hβ
 | _ => exact VR.klXS hA hγ hβ h
theorem VR.klX (hA : ∀ f b, b < w.heap.size → A f b → A' f b ∧ b < w'.heap.size ∧ w'.heap[b]? = w.heap[b]?) (hγ : ∀ x y, x ≠ r → notF x = true → M'.γ x = some y → M.γ x = some y) (hβ : ∀ b k, M'.β b = some k → M.β b = some k)
  {d : D} {v : Value} (h : VR M A w d v) : VR M' A' w' (klX r d) v := by
 cases d with
 | tup l =>
  cases h with | tup _ us hl h =>
  refine .tup _ us (by simpa using hl) fun i d hd => ?_
  rw [List.getElem?_map] at hd
  obtain ⟨d0, h0, rfl⟩ := Option.map_eq_some_iff.1 hd
  exact (h i d0 h0).klXA hA hγ hβ
 | _ => exact VR.klXA hA hγ hβ h
theorem PS.t_killX (s : PS) (r t : Nat) : (s.killX r).t t = klX r (s.t t) := by
 unfold PS.t PS.killX
 simp only [look_map (klX r)]
 cases look s.tmp t <;> rfl
theorem PS.b_killX (s : PS) (r b : Nat) : (s.killX r).b b = (s.b b).map fun cs => cs.map (klXS r) := by
 unfold PS.b PS.killX
 simp only [look_map (fun (x : Option (List D)) => x.map fun cs => cs.map (Ytkklfgcelmeccaa.klXS r))]
 cases look s.box b <;> rfl
end
def lone (s : PS) (R F : Nat) : Bool := s.row.all fun p => Nat.beq p.1 R || (match s.r p.1 with | some (_, q) => (match q.refF with | some G => !Nat.beq G F && Nat.blt G 4294967296 | none => true) | none => true)
theorem lone_ok {s : PS} {R F : Nat} (hl : lone s R F = true) {x : Nat} {e : TypeId} {q : Sq} {G : Nat} (hx : s.r x = some (e, q)) (hG : q.refF = some G) : x = R ∨ (G ≠ F ∧ G < 4294967296) := by
 cases hb : Nat.ble BIG x with
 | true =>
  rw [PS.r_hi _ hb] at hx
  have := famr_flat hx
  cases q <;> simp [Sq.refF, Sq.isRefs] at hG this
 | false =>
  have hx' := hx
  rw [PS.r_lo _ hb] at hx'
  split at hx'
  ·rename_i y hy
   have := (List.all_eq_true.1 hl) _ (look_mem hy)
   simp only [hx, hG, Bool.or_eq_true, Bool.and_eq_true, Bool.not_eq_true', Nat.blt_eq] at this
   rcases this with h1 | ⟨h1, h2⟩
   ·exact .inl (Nat.eq_of_beq_eq_true h1)
   ·exact .inr ⟨fun e => (by rw [e, Nat.beq_refl] at h1; cases h1), h2⟩
  ·cases hx'
section
variable {w0 : World} {O0 : Hd} {n : Nat} {M : Mp} {s : PS} {a : Act} {w : World}
theorem Rel.remap (h : Rel w0 O0 n M s a w) {M' : Mp} {s' : PS} (r F : Nat) (hF : F < 4294967296) (hβ : ∀ b, M'.β b = M.β b) (hsub : ∀ x k c z, M'.γ x = some (some (k, c, z)) → ∃ y, M.γ y = some (some (k, c, z)))
  (hinj : ∀ x y k c z c' z', M'.γ x = some (some (k, c, z)) → M'.γ y = some (some (k, c', z')) → x = y)
  (hγ' : ∀ x y, x ≠ r → notF x = true → M'.γ x = some y → M.γ x = some y) (hγk : ∀ x y, x ≠ FK + F → notF x = false → Nat.ble BIG x = false → M'.γ x = some y → M.γ x = some y) (hrr : r < 1000000 ∨ M'.γ r = none) (hfk : ∀ u u', O0.fr (FK + F) = some u → M'.γ (FK + F) = some u' → u' = u)
  (hbg : ∀ G k y, G < 4294967296 → G ≠ F → M'.γ (inn G k) = some y → M.γ (inn G k) = some y)
  (ht : ∀ t, VR M' (Ow (Fs w0 O0) M') w (s'.t t) (a.tmps.getD t undef)) (hb : ∀ b, s'.b b = (s.b b).map fun cs => cs.map (klXS r))
  (hrow : ∀ x e q, s'.r x = some (e, q) → (s.r x = some (e, q) ∧ M'.γ x = M.γ x ∧ ∀ G, q.refF = some G → G ≠ F ∧ G < 4294967296) ∨ RowAt (Fs w0 O0) M' w x e q) (hrown : ∀ x, s'.r x = none → M'.γ x = none) : Rel w0 O0 n M' s' a w := by
 have hown : ∀ k, M'.owned k → M.owned k := by
  rintro k (⟨b, hb⟩ | ⟨y, c, z, hy⟩)
  ·exact .inl ⟨b, by rw [← hβ]; exact hb⟩
  ·obtain ⟨x, hx⟩ := hsub _ _ _ _ hy; exact .inr ⟨x, c, z, hx⟩
 have hA : ∀ f b, b < w.heap.size → Ow (Fs w0 O0) M f b → Ow (Fs w0 O0) M' f b ∧ b < w.heap.size ∧ w.heap[b]? = w.heap[b]? := fun f b h1 h2 => ⟨⟨fun h3 => h2.1 (hown b h3), h2.2⟩, h1, rfl⟩
 refine ⟨h.fr, h.dfr, h.sz, ht, fun b cs hx => ?_, fun b hx => ?_, fun x e q hx => ?_, hrown, fun k hk => h.low k (hown k hk), fun b b' k h1 h2 => h.inj1 b b' k (by rw [← hβ]; exact h1) (by rw [← hβ]; exact h2), hinj, fun b x k c z h1 h2 => ?_, h.nle, fun b k k' h1 h2 => h.fxb b k k' h1 (by rw [← hβ]; exact h2), fun x u u' h1 h2 => ?_⟩
 ·rw [hb] at hx
  obtain ⟨cs0, h0, rfl⟩ := Option.map_eq_some_iff.1 hx
  obtain ⟨k, cur, e2, a1, a2, a3, a4⟩ := h.box b cs0 h0
  refine ⟨k, cur, e2, by rw [hβ]; exact a1, a2, by simpa using a3, fun j d hd => ?_⟩
  rw [List.getElem?_map] at hd
  obtain ⟨d0, h1, rfl⟩ := Option.map_eq_some_iff.1 hd
  exact VR.klXS hA hγ' (fun b k hk => by rw [← hβ]; exact hk) (a4 j d0 h1)
 ·rw [hb] at hx
  rw [hβ]; exact h.boxn b (by simpa using hx)
 ·rcases hrow x e q hx with ⟨h1, h2, h3⟩ | h1
  ·rcases h.row x e q h1 with ⟨g1, g2⟩ | ⟨g, cap, cur, g1, g2, g3, g4, g5, g6⟩
   ·exact .inl ⟨h2.trans g1, g2⟩
   ·refine .inr ⟨g, cap, cur, h2.trans g1, g2, g3, g4, g5, fun i j d hi hd => (g6 i j d hi hd).relem_any2 hd hA fun G hG k y hy => ?_⟩
    exact hbg G k y (h3 G hG).2 (h3 G hG).1 hy
  ·exact h1
 ·obtain ⟨y, hy⟩ := hsub _ _ _ _ h2
  exact h.inj3 _ _ _ _ _ (by rw [← hβ]; exact h1) hy
 ·obtain ⟨h3, h4⟩ := O0.lor x u h1
  have hb1 : Nat.ble BIG x = false := by
   cases hb : Nat.ble BIG x with
   | false => rfl
   | true => have := Nat.le_of_ble_eq_true hb; omega
  by_cases hxr : x = r
  ·subst hxr
   rcases hrr with h5 | h5
   ·omega
   ·rw [h5] at h2; cases h2
  ·cases hn : notF x with
   | true => exact h.fxr x u u' h1 (hγ' x u' hxr hn h2)
   | false =>
    by_cases hxf : x = FK + F
    ·rw [hxf] at h1 h2; exact hfk u u' h1 h2
    ·exact h.fxr x u u' h1 (hγk x u' hxf hn hb1 h2)
end
end Go.Proofs.Ytkklfgcelmeccaa
namespace Go.Proofs.Ytkklfgcelmeccaa
open Go.RowKit Go.Deep
def Fq.len : Fq → Nat
 | .ints L => L.length | .pairs L => L.length | .bools L => L.length
def Fq.push : Fq → Sq → Option Fq
 | .ints L, .ints c => some (.ints (L ++ [some c])) | .pairs L, .pairs c => some (.pairs (L ++ [some c])) | .bools L, .bools c => some (.bools (L ++ [some c]))
 | _, _ => none
def Fq.hole : Fq → Nat → Fq
 | .ints L, k => .ints (L.set k none) | .pairs L, k => .pairs (L.set k none) | .bools L, k => .bools (L.set k none)
theorem getD_snoc {α : Type} (L : List (Option α)) (c : α) (k : Nat) : (L ++ [some c]).getD k none = if k = L.length then some c else L.getD k none := by
 by_cases h : k = L.length
 ·subst h; simp
 ·rw [if_neg h]
  by_cases h2 : k < L.length
  ·simp [List.getElem?_append_left h2]
  ·have h3 : L.length < k := by omega
   simp [List.getElem?_append_right (show L.length ≤ k by omega), List.getElem?_eq_none (show L.length ≤ k by omega), List.getElem?_eq_none (show [some c].length ≤ k - L.length by simp; omega)]
theorem Fq.get_push {fq fq' : Fq} {c : Sq} (h : fq.push c = some fq') (k : Nat) : fq'.get k = if k = fq.len then some c else fq.get k := by
 cases fq <;> cases c <;> simp only [Fq.push, reduceCtorEq, Option.some.injEq] at h <;> subst h <;> simp only [Fq.get, Fq.len, getD_snoc] <;> (rename_i L l; by_cases hk : k = L.length <;> simp [hk])
theorem getD_hole {α : Type} (L : List (Option α)) (k j : Nat) : (L.set k none).getD j none = if j = k then none else L.getD j none := by
 by_cases h : j = k
 ·subst h
  simp only [if_true, List.getD_eq_getElem?_getD, List.getElem?_set]
  split <;> simp
 ·simp [h, List.getD_eq_getElem?_getD, List.getElem?_set, Ne.symm h]
theorem Fq.get_hole (fq : Fq) (k j : Nat) : (fq.hole k).get j = if j = k then none else fq.get j := by
 cases fq <;> simp only [Fq.hole, Fq.get, getD_hole] <;> split <;> split <;> simp_all
theorem Fq.get_flat {fq : Fq} {k : Nat} {c : Sq} (h : fq.get k = some c) : c.isRefs = false := by
 cases fq <;> simp only [Fq.get] at h <;> split at h <;> first | (cases h; done) | (cases h; rfl)
theorem inn_of {x : Nat} (h : Nat.ble BIG x = true) : inn (unF x) (unK x) = x := by
 have h1 := Nat.le_of_ble_eq_true h
 have e : ∀ y : Nat, y / 4294967296 * 4294967296 + y % 4294967296 % 4294967296 = y := fun y => by omega
 have := e (x - BIG)
 unfold inn unF unK
 rw [this]
 omega
theorem fam_r {s : PS} {F : Nat} (hF : F < 4294967296) {te : TypeId} {fq : Fq} (hf : s.r (FK + F) = some (te, .fam fq)) (i : Nat) : s.r (inn F i) = match fq.get i with | some c => some (te, c) | none => none := by
 rw [PS.r_hi _ (inn_hi F i), PS.inn_r, fk_unF hF, hf, unK_inn]
 rfl
def famM (M : Mp) (r F : Nat) (fq : Fq) (g : Nat → Nat) : Mp := ⟨M.β, fun x => match Nat.ble BIG x with
 | true => if unF x = F then (match fq.get (unK x) with | some _ => M.γ (g (unK x)) | none => none) else M.γ x
 | false => if x = r then none else M.γ x⟩
theorem famM_hi (M : Mp) (r F : Nat) (fq : Fq) (g : Nat → Nat) {x : Nat} (hb : Nat.ble BIG x = true) (hu : unF x = F) : (famM M r F fq g).γ x = match fq.get (unK x) with | some _ => M.γ (g (unK x)) | none => none := by
 simp only [famM]
 rw [hb]
 simp [hu]
theorem famM_hi2 (M : Mp) (r F : Nat) (fq : Fq) (g : Nat → Nat) {x : Nat} (hb : Nat.ble BIG x = true) (hu : unF x ≠ F) : (famM M r F fq g).γ x = M.γ x := by
 simp only [famM]
 rw [hb]
 simp [hu]
theorem famM_inn (M : Mp) (r F : Nat) (fq : Fq) (g : Nat → Nat) (hF : F < 4294967296) (k : Nat) : (famM M r F fq g).γ (inn F k) = match fq.get k with | some _ => M.γ (g k) | none => none := by
 have := famM_hi M r F fq g (inn_hi F k) (by rw [unF_inn, Nat.mod_eq_of_lt hF])
 rw [unK_inn] at this
 exact this
theorem famM_inn2 (M : Mp) (r F : Nat) (fq : Fq) (g : Nat → Nat) {G : Nat} (hG : G < 4294967296) (hne : G ≠ F) (k : Nat) : (famM M r F fq g).γ (inn G k) = M.γ (inn G k) :=
 famM_hi2 M r F fq g (inn_hi G k) (by rw [unF_inn, Nat.mod_eq_of_lt hG]; exact hne)
theorem famM_lo (M : Mp) (r F : Nat) (fq : Fq) (g : Nat → Nat) {x : Nat} (hb : Nat.ble BIG x = false) (hx : x ≠ r) : (famM M r F fq g).γ x = M.γ x := by
 simp only [famM]
 rw [hb]
 simp [hx]
theorem famM_r (M : Mp) (r F : Nat) (fq : Fq) (g : Nat → Nat) (hb : Nat.ble BIG r = false) : (famM M r F fq g).γ r = none := by
 simp only [famM]
 rw [hb]
 simp
theorem VR.irow_mv {M M' : Mp} {A A' : Bool → Nat → Prop} {w w' : World} {F F' k k' n : Nat} {v : Value} (hv : VR M A w (.irow F k n) v) (h : ∀ x, M'.γ (inn F' k') = some x → M.γ (inn F k) = some x) : VR M' A' w' (.irow F' k' n) v := by
 cases hv with | irow _ _ _ _ h1 h2 => exact .irow _ _ _ _ h1 fun x hx => h2 x (h x hx)
theorem VR.irow_of {M M' : Mp} {A A' : Bool → Nat → Prop} {w w' : World} {F' r k' n : Nat} {v : Value} (hv : VR M A w (.row r 0 n) v) (h : ∀ x, M'.γ (inn F' k') = some x → M.γ r = some x) : VR M' A' w' (.irow F' k' n) v := by
 cases hv with | row _ _ _ _ h1 h2 => exact .irow _ _ _ _ h1 fun x hx => h2 x (h x hx)
theorem RowAt.mv {F : Bool → Nat → Prop} {M M' : Mp} {w : World} {x y : Nat} {e : TypeId} {q : Sq} (h : RowAt F M w x e q) (hq : q.isRefs = false) (hγ : M'.γ y = M.γ x) (hA : ∀ f b, b < w.heap.size → Ow F M f b → Ow F M' f b ∧ b < w.heap.size ∧ w.heap[b]? = w.heap[b]?) : RowAt F M' w y e q := by
 rcases h with ⟨g1, g2⟩ | ⟨g, cap, cur, g1, g2, g3, g4, g5, g6⟩
 ·exact .inl ⟨hγ.trans g1, g2⟩
 ·refine .inr ⟨g, cap, cur, hγ.trans g1, g2, g3, g4, g5, fun i j d hi hd => ?_⟩
  have hd' := hd
  rw [Sq.relem_eq hq] at hd'
  exact (g6 i j d hi hd).elem_any hd' hA
section
variable {w0 : World} {O0 : Hd} {n : Nat} {M : Mp} {s : PS} {a : Act} {w : World}
theorem Rel.refam (h : Rel w0 O0 n M s a w) {s' : PS} (r R F : Nat) (hF : F < 4294967296) {te : TypeId} {fq fq' : Fq} (g : Nat → Nat) {yR : Option (TypeId × Sq)}
  (hr : r < 1000000) (hR : notF R = true) (hrR : r ≠ R) (hf : s.r (FK + F) = some (te, .fam fq)) (hl : lone s R F = true)
  (hg : ∀ k c, fq'.get k = some c → s.r (g k) = some (te, c)) (hinj : ∀ k k' c c', fq'.get k = some c → fq'.get k' = some c' → g k = g k' → k = k') (hsrc : ∀ k c, fq'.get k = some c → g k = r ∨ ∃ j, g k = inn F j)
  (hs : ∀ x, s'.r x = match Nat.ble BIG x with | true => (if unF x = F then famr (some (some (te, .fam fq'))) (unK x) else s.r x) | false => if x = r then none else if x = FK + F then some (te, .fam fq') else if x = R then yR else s.r x)
  (hyR : ∀ e q, yR = some (e, q) → RowAt (Fs w0 O0) (famM M r F fq' g) w R e q) (hyn : yR = none → M.γ R = none)
  (ht : ∀ t, VR (famM M r F fq' g) (Ow (Fs w0 O0) (famM M r F fq' g)) w (s'.t t) (a.tmps.getD t undef)) (hb : ∀ b, s'.b b = (s.b b).map fun cs => cs.map (klXS r)) : Rel w0 O0 n (famM M r F fq' g) s' a w := by
 have hrb : Nat.ble BIG r = false := notF_big (notF_lo hr)
 have hRb : Nat.ble BIG R = false := notF_big hR
 have hfr : FK + F ≠ r := fun e => by have := notF_lo hr; rw [← e] at this; have h2 := notF_fk (inn F 0); rw [fk_unF hF] at h2; rw [h2] at this; cases this
 have hfR : FK + F ≠ R := fun e => by rw [← e] at hR; have h2 := notF_fk (inn F 0); rw [fk_unF hF] at h2; rw [h2] at hR; cases hR
 have cases3 : ∀ x y, (famM M r F fq' g).γ x = some y → (∃ k c, x = inn F k ∧ fq'.get k = some c ∧ M.γ (g k) = some y) ∨ (M.γ x = some y ∧ x ≠ r ∧ ∀ j, x ≠ inn F j) := fun x y hx => by
  cases hbx : Nat.ble BIG x with
  | true =>
   by_cases hu : unF x = F
   ·have hxe : x = inn F (unK x) := by rw [← hu]; exact (inn_of hbx).symm
    rw [hxe, famM_inn _ _ _ _ _ hF] at hx
    split at hx
    ·rename_i c hc; exact .inl ⟨_, c, hxe, hc, hx⟩
    ·cases hx
   ·simp only [famM, hbx, hu, if_false] at hx
    refine .inr ⟨hx, fun e => (by rw [e, hrb] at hbx; cases hbx), fun j e => hu (by rw [e, unF_inn, Nat.mod_eq_of_lt hF])⟩
  | false =>
   simp only [famM, hbx] at hx
   split at hx
   ·cases hx
   ·rename_i hxr
    exact .inr ⟨hx, hxr, fun j e => by rw [e, inn_hi] at hbx; cases hbx⟩
 have hsub : ∀ x k c z, (famM M r F fq' g).γ x = some (some (k, c, z)) → ∃ y, M.γ y = some (some (k, c, z)) := fun x k c z hx => by
  rcases cases3 x _ hx with ⟨_, _, _, _, h1⟩ | ⟨h1, _⟩
  ·exact ⟨_, h1⟩
  ·exact ⟨_, h1⟩
 have hown : ∀ k, (famM M r F fq' g).owned k → M.owned k := by
  rintro k (⟨b, hb⟩ | ⟨y, c, z, hy⟩)
  ·exact .inl ⟨b, hb⟩
  ·obtain ⟨x, hx⟩ := hsub _ _ _ _ hy; exact .inr ⟨x, c, z, hx⟩
 have hA : ∀ f b, b < w.heap.size → Ow (Fs w0 O0) M f b → Ow (Fs w0 O0) (famM M r F fq' g) f b ∧ b < w.heap.size ∧ w.heap[b]? = w.heap[b]? := fun f b h1 h2 => ⟨⟨fun h3 => h2.1 (hown b h3), h2.2⟩, h1, rfl⟩
 refine h.remap (s' := s') r F hF (fun _ => rfl) hsub (fun x y k c z c' z' h1 h2 => ?_) (fun x y h1 h2 h3 => ?_) (fun x y h1 h2 h3 h4 => ?_) (.inl hr) (fun u u' h1 h2 => ?_) (fun G k y h1 h2 h3 => ?_) ht hb (fun x e q hx => ?_) fun x hx => ?_
 ·rcases cases3 x _ h1 with ⟨k1, c1, rfl, g1, g2⟩ | ⟨g1, g2, g3⟩
  ·rcases cases3 y _ h2 with ⟨k2, c2, rfl, g4, g5⟩ | ⟨g4, g5, g6⟩
   ·have := h.inj2 _ _ _ _ _ _ _ g2 g5
    rw [hinj k1 k2 c1 c2 g1 g4 this]
   ·exfalso
    have := h.inj2 _ _ _ _ _ _ _ g2 g4
    rcases hsrc k1 c1 g1 with h5 | ⟨j, h5⟩
    ·exact g5 (by rw [← this, h5])
    ·exact g6 j (by rw [← this, h5])
  ·rcases cases3 y _ h2 with ⟨k2, c2, rfl, g4, g5⟩ | ⟨g4, g5, g6⟩
   ·exfalso
    have := h.inj2 _ _ _ _ _ _ _ g1 g5
    rcases hsrc k2 c2 g4 with h5 | ⟨j, h5⟩
    ·exact g2 (by rw [this, h5])
    ·exact g3 j (by rw [this, h5])
   ·exact h.inj2 _ _ _ _ _ _ _ g1 g4
 ·rw [famM_lo _ _ _ _ _ (notF_big h2) h1] at h3; exact h3
 ·by_cases hxr : x = r
  ·rw [hxr, famM_r _ _ _ _ _ hrb] at h4; cases h4
  ·rw [famM_lo _ _ _ _ _ h3 hxr] at h4; exact h4
 ·rw [famM_lo _ _ _ _ _ (fk_lo hF) hfr] at h2
  exact h.fxr _ _ _ h1 h2
 ·rw [famM_inn2 _ _ _ _ _ h1 h2] at h3; exact h3
 ·rw [hs] at hx
  cases hbx : Nat.ble BIG x with
  | true =>
   rw [hbx] at hx
   by_cases hu : unF x = F
   ·have hxe : x = inn F (unK x) := by rw [← hu]; exact (inn_of hbx).symm
    simp only [hu, if_true, famr] at hx
    split at hx
    ·rename_i c hc
     cases hx
     right
     have h1 := h.row _ _ _ (hg _ _ hc)
     refine h1.mv (Fq.get_flat hc) ?_ hA
     rw [hxe, famM_inn _ _ _ _ _ hF, unK_inn, hc]
    ·cases hx
   ·simp only [hu, if_false] at hx
    refine .inl ⟨hx, by simp only [famM, hbx, hu, if_false], fun G hG => ?_⟩
    rcases lone_ok hl hx hG with h1 | h1
    ·rw [h1, hRb] at hbx; cases hbx
    ·exact h1
  | false =>
   rw [hbx] at hx
   simp only at hx
   split at hx
   ·cases hx
   rename_i hxr
   split at hx
   ·rename_i hxf
    cases hx
    right
    rcases h.row _ _ _ hf with ⟨g1, g2⟩ | ⟨gg, cap, cur, g1, g2, g3, g4, g5, g6⟩
    ·exact .inl ⟨by rw [hxf, famM_lo _ _ _ _ _ (fk_lo hF) hfr]; exact g1, rfl⟩
    ·exact .inr ⟨gg, cap, cur, by rw [hxf, famM_lo _ _ _ _ _ (fk_lo hF) hfr]; exact g1, g2, Nat.zero_le _, g4, g5, fun i j d hi hd => absurd hi (Nat.not_lt_zero _)⟩
   rename_i hxf
   split at hx
   ·rename_i hxR
    right
    rw [hxR]; exact hyR e q hx
   rename_i hxR
   refine .inl ⟨hx, famM_lo _ _ _ _ _ hbx hxr, fun G hG => ?_⟩
   rcases lone_ok hl hx hG with h1 | h1
   ·exact absurd h1 hxR
   ·exact h1
 ·rw [hs] at hx
  cases hbx : Nat.ble BIG x with
  | true =>
   rw [hbx] at hx
   by_cases hu : unF x = F
   ·have hxe : x = inn F (unK x) := by rw [← hu]; exact (inn_of hbx).symm
    simp only [hu, if_true, famr] at hx
    rw [hxe, famM_inn _ _ _ _ _ hF]
    split at hx
    ·cases hx
    ·rename_i hc; rw [hc]
   ·simp only [hu, if_false] at hx
    simp only [famM, hbx, hu, if_false]
    exact h.rown x hx
  | false =>
   rw [hbx] at hx
   simp only at hx
   split at hx
   ·rename_i hxr; rw [hxr]; exact famM_r _ _ _ _ _ hrb
   rename_i hxr
   split at hx
   ·cases hx
   rename_i hxf
   split at hx
   ·rename_i hxR
    rw [hxR, famM_lo _ _ _ _ _ hRb (Ne.symm hrR)]; exact hyn hx
   rename_i hxR
   rw [famM_lo _ _ _ _ _ hbx hxr]; exact h.rown x hx
end
end Go.Proofs.Ytkklfgcelmeccaa
namespace Go.Proofs.Ytkklfgcelmeccaa
open Go.RowKit Go.Deep
theorem PS.r_app {s s' : PS} {l : List (Nat × Option (TypeId × Sq))} (h : s'.row = l ++ s.row) (x : Nat) : s'.r x = match Nat.ble BIG x with | true => (match look l (FK + unF x) with | some y => famr (some y) (unK x) | none => s.r x) | false => (match look l x with | some y => y | none => s.r x) := by
 cases hb : Nat.ble BIG x with
 | true =>
  rw [PS.r_hi _ hb, PS.r_hi _ hb]
  unfold PS.inn
  rw [h, look_append]
  cases look l (FK + unF x) <;> rfl
 | false =>
  rw [PS.r_lo _ hb, PS.r_lo _ hb, h, look_append]
  cases look l x <;> rfl
def famOf : Sq → Fq
 | .intss X => .ints (X.map some) | .pairss X => .pairs (X.map some) | .boolss X => .bools (X.map some) | .raises X => .ints (X.map fun x => some x.2) | _ => .ints []
theorem dF_fam (q : Sq) : dF q = .fam (famOf q) := by cases q <;> rfl
theorem famOf_get {q : Sq} (hq : q.deep = true) (i : Nat) : (famOf q).get i = if i < q.len then some (q.nn i) else none := by
 have := famr_dF hq 0 i
 rw [dF_fam] at this
 simp only [famr] at this
 cases h : (famOf q).get i with
 | none => rw [h] at this; split at this <;> simp_all
 | some c => rw [h] at this; split at this <;> simp_all
theorem fk_ne {F r : Nat} (hF : F < 4294967296) (hr : notF r = true) : FK + F ≠ r := fun e => by
 have h2 := notF_fk (inn F 0)
 rw [fk_unF hF, e] at h2
 rw [h2] at hr; cases hr
theorem look_one' {α : Type} (k : Nat) (x : α) (i : Nat) : look [(k, x)] i = if k = i then some x else none := by
 by_cases h : k = i
 ·subst h; rw [look_cons_self, if_pos rfl]
 ·rw [look_cons_ne h, if_neg h]; rfl
theorem look_two' {α : Type} (k l : Nat) (x y : α) (i : Nat) : look [(k, x), (l, y)] i = if k = i then some x else if l = i then some y else none := by
 by_cases h : k = i
 ·subst h; rw [look_cons_self, if_pos rfl]
 ·rw [look_cons_ne h, if_neg h]; exact look_one' l y i
section
variable {C : Cx} {tm : List (Nat × D)} {rw' : List (Nat × Option (TypeId × Sq))} {bx : List (Nat × Option (List D))} {s' : PS}
theorem En.newFam (F : Nat) (te : TypeId) (fq : Fq) (h0 : fq.len = 0) (hl : lone ⟨tm, rw', bx⟩ 999999 F = true) (hl2 : PS.r ⟨tm, rw', bx⟩ 999999 = none) (hN : PS.r ⟨tm, rw', bx⟩ (FK + F) = none) (hO : ∀ u, C.O0.fr (FK + F) ≠ some u)
  (hnf : nf ⟨(PS.killX ⟨tm, rw', bx⟩ 999999).tmp, (FK + F, some (te, .fam fq)) :: rw', (PS.killX ⟨tm, rw', bx⟩ 999999).box⟩ = some s') (hF : Nat.blt F 4294967296 = true := by rfl) : En C ⟨tm, rw', bx⟩ s' := ⟨fun M a w h => by
 rw [nf_ok hnf]
 rw [Nat.blt_eq] at hF
 have hget : ∀ k, fq.get k = none := fun k => by
  cases fq <;> simp only [Fq.len, List.length_eq_zero_iff] at h0 <;> subst h0 <;> rfl
 let M' : Mp := ⟨M.β, fun x => if x = FK + F then some none else M.γ x⟩
 have hMi : ∀ G k, M'.γ (inn G k) = M.γ (inn G k) := fun G k => by
  have : inn G k ≠ FK + F := fun e => by have h1 := inn_hi G k; rw [e, fk_lo hF] at h1; cases h1
  simp [M', this]
 have hsub : ∀ x k c z, M'.γ x = some (some (k, c, z)) → M.γ x = some (some (k, c, z)) := fun x k c z hx => by
  simp only [M'] at hx
  split at hx
  ·cases hx
  ·exact hx
 have hown : ∀ k, M'.owned k → M.owned k := by
  rintro k (⟨b, hb⟩ | ⟨y, c, z, hy⟩)
  ·exact .inl ⟨b, hb⟩
  ·exact .inr ⟨y, c, z, hsub _ _ _ _ hy⟩
 have hA : ∀ f b, b < w.heap.size → Ow (Fs C.w0 C.O0) M f b → Ow (Fs C.w0 C.O0) M' f b ∧ b < w.heap.size ∧ w.heap[b]? = w.heap[b]? := fun f b h1 h2 => ⟨⟨fun h3 => h2.1 (hown b h3), h2.2⟩, h1, rfl⟩
 have hγ' : ∀ x y, x ≠ 999999 → notF x = true → M'.γ x = some y → M.γ x = some y := fun x y _ h2 h3 => by
  simp only [M'] at h3
  rw [if_neg (fun e => fk_ne hF h2 e.symm)] at h3
  exact h3
 refine ⟨M', h.remap 999999 F hF (fun _ => rfl) (fun x k c z hx => ⟨x, hsub _ _ _ _ hx⟩) (fun x y k c z c' z' h1 h2 => h.inj2 _ _ _ _ _ _ _ (hsub _ _ _ _ h1) (hsub _ _ _ _ h2)) hγ' (fun x y h1 h2 h3 h4 => ?_) (.inl (by decide)) (fun u u' h1 _ => absurd h1 (hO u)) (fun G k y _ _ h3 => by rw [← hMi]; exact h3) (fun t => ?_) (fun b => ?_) (fun x e q hx => ?_) fun x hx => ?_⟩
 ·simp only [M'] at h4
  rw [if_neg h1] at h4
  exact h4
 ·have : PS.t ⟨(PS.killX ⟨tm, rw', bx⟩ 999999).tmp, (FK + F, some (te, .fam fq)) :: rw', (PS.killX ⟨tm, rw', bx⟩ 999999).box⟩ t = klX 999999 (PS.t ⟨tm, rw', bx⟩ t) := PS.t_killX ⟨tm, rw', bx⟩ 999999 t
  rw [this]
  exact VR.klX hA hγ' (fun _ _ h => h) (h.tmp t)
 ·exact PS.b_killX ⟨tm, rw', bx⟩ 999999 b
 ·rw [PS.r_app (s := ⟨tm, rw', bx⟩) (l := [(FK + F, some (te, .fam fq))]) rfl, look_one', look_one'] at hx
  cases hbx : Nat.ble BIG x with
  | true =>
   rw [hbx] at hx
   have hxf : x ≠ FK + F := fun e => by rw [e, fk_lo hF] at hbx; cases hbx
   have hMx : M'.γ x = M.γ x := by simp [M', hxf]
   by_cases hu : FK + F = FK + unF x
   ·simp only [hu, if_true, famr, hget] at hx
    cases hx
   ·simp only [hu, if_false] at hx
    refine .inl ⟨hx, hMx, fun G hG => ?_⟩
    rcases lone_ok hl hx hG with h1 | h1
    ·rw [h1, hl2] at hx; cases hx
    ·exact h1
  | false =>
   rw [hbx] at hx
   by_cases hxf : FK + F = x
   ·subst hxf
    simp only [if_true] at hx
    cases hx
    exact .inr (.inl ⟨by simp [M'], rfl⟩)
   ·simp only [hxf, if_false] at hx
    refine .inl ⟨hx, by simp [M', Ne.symm hxf], fun G hG => ?_⟩
    rcases lone_ok hl hx hG with h1 | h1
    ·rw [h1, hl2] at hx; cases hx
    ·exact h1
 ·rw [PS.r_app (s := ⟨tm, rw', bx⟩) (l := [(FK + F, some (te, .fam fq))]) rfl, look_one', look_one'] at hx
  cases hbx : Nat.ble BIG x with
  | true =>
   rw [hbx] at hx
   have hxf : x ≠ FK + F := fun e => by rw [e, fk_lo hF] at hbx; cases hbx
   have hMx : M'.γ x = M.γ x := by simp [M', hxf]
   rw [hMx]
   refine h.rown x ?_
   by_cases hu : FK + F = FK + unF x
   ·rw [PS.r_hi _ hbx, PS.inn_r, ← hu, hN]; rfl
   ·simp only [hu, if_false] at hx; exact hx
  | false =>
   rw [hbx] at hx
   by_cases hxf : FK + F = x
   ·simp only [hxf, if_true] at hx; cases hx
   ·simp only [hxf, if_false] at hx
    simp only [M', Ne.symm hxf, if_false]
    exact h.rown x hx⟩
theorem En.asRefs (R F : Nat) {et : TypeId} {q qR : Sq} (hR : PS.r ⟨tm, rw', bx⟩ R = some (et, q)) (h0 : q.len = 0) (h1 : qR.len = 0) (hz : qR.sz = q.sz) (hFR : notF R = true := by rfl) : En C ⟨tm, rw', bx⟩ ⟨tm, (R, some (et, qR)) :: rw', bx⟩ := ⟨fun M a w h => by
 have hPS : ∀ x, PS.r ⟨tm, (R, some (et, qR)) :: rw', bx⟩ x = if R = x then some (et, qR) else PS.r ⟨tm, rw', bx⟩ x := fun x => PS.r_setR ⟨tm, rw', bx⟩ R (some (et, qR)) x hFR
 refine ⟨M, h.fr, h.dfr, h.sz, h.tmp, h.box, h.boxn, fun x e p hx => ?_, fun x hx => ?_, h.low, h.inj1, h.inj2, h.inj3, h.nle, h.fxb, h.fxr⟩
 ·rw [hPS] at hx
  split at hx
  ·rename_i hxR
   cases hx
   subst hxR
   rcases h.row _ _ _ hR with ⟨g1, g2⟩ | ⟨g, cap, cur, g1, g2, g3, g4, g5, g6⟩
   ·exact .inl ⟨g1, h1⟩
   ·exact .inr ⟨g, cap, cur, by rw [hz]; exact g1, g2, by omega, g4, by rw [hz]; exact g5, fun i j d hi hd => by omega⟩
  ·exact h.row x e p hx
 ·rw [hPS] at hx
  split at hx
  ·cases hx
  ·exact h.rown x hx⟩
theorem En.adopt (t r R F : Nat) {n : Nat} {et te : TypeId} {c q : Sq} {fq fq' : Fq} (ht : PS.t ⟨tm, rw', bx⟩ t = .row r 0 n) (hr : PS.r ⟨tm, rw', bx⟩ r = some (te, c)) (hn : n = c.len) (hf : PS.r ⟨tm, rw', bx⟩ (FK + F) = some (te, .fam fq)) (hR : PS.r ⟨tm, rw', bx⟩ R = some (et, dR F q))
  (hq : q.deep = true) (hlen : q.len = fq.len) (hp : fq.push c = some fq') (hl : lone ⟨tm, rw', bx⟩ R F = true) {d' : D} (hd' : d' = .irow F fq.len n)
  (hnf : nf ⟨(t, d') :: (PS.killX ⟨tm, rw', bx⟩ r).tmp, (r, none) :: (FK + F, some (te, .fam fq')) :: rw', (PS.killX ⟨tm, rw', bx⟩ r).box⟩ = some s') (hF : Nat.blt F 4294967296 = true := by rfl) (hr1 : Nat.blt r 1000000 = true := by rfl) (hFR : notF R = true := by rfl) (hrR : Nat.beq r R = false := by rfl) : En C ⟨tm, rw', bx⟩ s' := ⟨fun M a w h => by
 rw [nf_ok hnf]
 rw [Nat.blt_eq] at hF hr1
 subst hn hd'
 have hne : r ≠ R := fun e => by subst e; rw [Nat.beq_refl] at hrR; cases hrR
 have hget := Fq.get_push hp
 have hrn := notF_lo hr1
 let g : Nat → Nat := fun k => if k = fq.len then r else inn F k
 have hinnr : ∀ k, inn F k ≠ r := fun k e => by have := inn_hi F k; rw [e, notF_big hrn] at this; cases this
 have hown : ∀ k, (famM M r F fq' g).owned k → M.owned k := by
  rintro k (⟨b, hb⟩ | ⟨y, c, z, hy⟩)
  ·exact .inl ⟨b, hb⟩
  ·simp only [famM] at hy
   split at hy
   ·split at hy
    ·split at hy
     ·exact .inr ⟨_, c, z, hy⟩
     ·cases hy
    ·exact .inr ⟨_, c, z, hy⟩
   ·split at hy
    ·cases hy
    ·exact .inr ⟨_, c, z, hy⟩
 have hA : ∀ f b, b < w.heap.size → Ow (Fs C.w0 C.O0) M f b → Ow (Fs C.w0 C.O0) (famM M r F fq' g) f b ∧ b < w.heap.size ∧ w.heap[b]? = w.heap[b]? := fun f b h1 h2 => ⟨⟨fun h3 => h2.1 (hown b h3), h2.2⟩, h1, rfl⟩
 have hγ' : ∀ x y, x ≠ r → notF x = true → (famM M r F fq' g).γ x = some y → M.γ x = some y := fun x y h1 h2 h3 => by rw [famM_lo _ _ _ _ _ (notF_big h2) h1] at h3; exact h3
 have hgM : ∀ k, k ≠ fq.len → ∀ y, (famM M r F fq' g).γ (inn F k) = some y → M.γ (inn F k) = some y := fun k hk y hy => by
  rw [famM_inn _ _ _ _ _ hF] at hy
  split at hy
  ·simpa [g, hk] using hy
  ·cases hy
 refine ⟨_, h.refam r R F hF (fq' := fq') g (yR := some (et, dR F q)) hr1 hFR hne hf hl (fun k c' hc => ?_) (fun k k' c1 c2 h1 h2 h3 => ?_) (fun k c' hc => ?_) (fun x => ?_) (fun e p hx => ?_) (fun hx => by cases hx) (fun t' => ?_) fun b => ?_⟩
 ·rw [hget] at hc
  by_cases hk : k = fq.len
  ·rw [if_pos hk] at hc
   cases hc
   simp [g, hk, hr]
  ·rw [if_neg hk] at hc
   simp only [g, hk, if_false]
   rw [fam_r hF hf, hc]
 ·simp only [g] at h3
  split at h3 <;> split at h3
  ·omega
  ·exact absurd h3.symm (hinnr _)
  ·exact absurd h3 (hinnr _)
  ·exact (inn_inj h3).2
 ·by_cases hk : k = fq.len
  ·exact .inl (by simp [g, hk])
  ·exact .inr ⟨k, by simp [g, hk]⟩
 ·rw [PS.r_app (s := ⟨tm, rw', bx⟩) (l := [(r, none), (FK + F, some (te, .fam fq'))]) rfl, look_two', look_two']
  cases hbx : Nat.ble BIG x with
  | true =>
   have h1 : r ≠ FK + unF x := fun e => by have := notF_fk x; rw [← e, hrn] at this; cases this
   simp only [h1, if_false]
   by_cases hu : unF x = F
   ·simp [hu]
   ·simp [hu, Ne.symm hu]
  | false =>
   simp only
   by_cases hxr : r = x
   ·simp [hxr]
   ·simp only [hxr, if_false, Ne.symm hxr]
    by_cases hxf : FK + F = x
    ·simp [hxf]
    ·simp only [hxf, if_false, Ne.symm hxf]
     by_cases hxR : x = R
     ·simp [hxR, hR]
     ·simp [hxR]
 ·cases hx
  rcases h.row _ _ _ hR with ⟨g1, g2⟩ | ⟨gg, cap, cur, g1, g2, g3, g4, g5, g6⟩
  ·exact .inl ⟨by rw [famM_lo _ _ _ _ _ (notF_big hFR) (Ne.symm hne)]; exact g1, g2⟩
  ·refine .inr ⟨gg, cap, cur, by rw [famM_lo _ _ _ _ _ (notF_big hFR) (Ne.symm hne)]; exact g1, g2, g3, g4, g5, fun i j d hi hd => ?_⟩
   have hv := g6 i j d hi hd
   rw [dR_len] at hi
   rcases dR_relem hq hi hd with ⟨rfl, _⟩ | ⟨x, rfl, _⟩
   ·exact hv.irow_mv (hgM i (by omega))
   ·rw [hv.int_inv]; exact .int _
 ·have hk := PS.t_killX ⟨tm, rw', bx⟩ r t'
  by_cases htt : t = t'
  ·subst htt
   have : PS.t ⟨(t, .irow F fq.len c.len) :: (PS.killX ⟨tm, rw', bx⟩ r).tmp, (r, none) :: (FK + F, some (te, .fam fq')) :: rw', (PS.killX ⟨tm, rw', bx⟩ r).box⟩ t = .irow F fq.len c.len := by simp [PS.t, look_cons_self]
   rw [this]
   have hv := h.tmp t
   rw [ht] at hv
   refine hv.irow_of fun x hx => ?_
   rw [famM_inn _ _ _ _ _ hF] at hx
   split at hx
   ·simpa [g] using hx
   ·cases hx
  ·have : PS.t ⟨(t, .irow F fq.len c.len) :: (PS.killX ⟨tm, rw', bx⟩ r).tmp, (r, none) :: (FK + F, some (te, .fam fq')) :: rw', (PS.killX ⟨tm, rw', bx⟩ r).box⟩ t' = PS.t (PS.killX ⟨tm, rw', bx⟩ r) t' := by simp [PS.t, look_cons_ne htt]
   rw [this, hk]
   exact VR.klX hA hγ' (fun _ _ h => h) (h.tmp t')
 ·exact PS.b_killX ⟨tm, rw', bx⟩ r b⟩
end
end Go.Proofs.Ytkklfgcelmeccaa
namespace Go.Proofs.Ytkklfgcelmeccaa
open Go.RowKit Go.Deep
structure ReOK (F : Nat) (qR : Sq) (fq : Fq) (q' : Sq) : Prop where
 deep : q'.deep = true
 len : q'.len = qR.len
 sz : q'.sz = qR.sz
 κ : ∃ κ : Nat → Nat, (∀ i, i < q'.len → fq.get (κ i) = some (q'.nn i)) ∧ (∀ i j, i < q'.len → j < q'.len → κ i = κ j → i = j) ∧
  ∀ (i j n : Nat), i < q'.len → (((dR F q').relem i)[j]? = some (D.irow F i n) → (qR.relem i)[j]? = some (D.irow F (κ i) n)) ∧ ∀ x : Int, ((dR F q').relem i)[j]? = some (D.int x) → (qR.relem i)[j]? = some (D.int x)
section
variable {C : Cx} {tm : List (Nat × D)} {rw' : List (Nat × Option (TypeId × Sq))} {bx : List (Nat × Option (List D))} {s' : PS}
theorem En.re (R F : Nat) {et te : TypeId} {qR q' : Sq} {fq : Fq} (hR : PS.r ⟨tm, rw', bx⟩ R = some (et, qR)) (hf : PS.r ⟨tm, rw', bx⟩ (FK + F) = some (te, .fam fq)) (hre : ReOK F qR fq q') (hl : lone ⟨tm, rw', bx⟩ R F = true) (h9 : PS.r ⟨tm, rw', bx⟩ 999999 = none)
  (hnf : nf ⟨(PS.killX ⟨tm, rw', bx⟩ 999999).tmp, (R, some (et, dR F q')) :: (FK + F, some (te, dF q')) :: rw', (PS.killX ⟨tm, rw', bx⟩ 999999).box⟩ = some s') (hF : Nat.blt F 4294967296 = true := by rfl) (hFR : notF R = true := by rfl) (hrR : Nat.beq R 999999 = false := by rfl) : En C ⟨tm, rw', bx⟩ s' := ⟨fun M a w h => by
 rw [nf_ok hnf]
 rw [Nat.blt_eq] at hF
 obtain ⟨hq, hlen, hsz, κ, k1, k2, k3⟩ := hre
 have hne : (999999 : Nat) ≠ R := fun e => by rw [← e, Nat.beq_refl] at hrR; cases hrR
 have h9n : notF 999999 = true := notF_lo (by decide)
 let g : Nat → Nat := fun k => inn F (κ k)
 have hget := famOf_get hq
 have hown : ∀ k, (famM M 999999 F (famOf q') g).owned k → M.owned k := by
  rintro k (⟨b, hb⟩ | ⟨y, c, z, hy⟩)
  ·exact .inl ⟨b, hb⟩
  ·simp only [famM] at hy
   split at hy
   ·split at hy
    ·split at hy
     ·exact .inr ⟨_, c, z, hy⟩
     ·cases hy
    ·exact .inr ⟨_, c, z, hy⟩
   ·split at hy
    ·cases hy
    ·exact .inr ⟨_, c, z, hy⟩
 have hA : ∀ f b, b < w.heap.size → Ow (Fs C.w0 C.O0) M f b → Ow (Fs C.w0 C.O0) (famM M 999999 F (famOf q') g) f b ∧ b < w.heap.size ∧ w.heap[b]? = w.heap[b]? := fun f b h1 h2 => ⟨⟨fun h3 => h2.1 (hown b h3), h2.2⟩, h1, rfl⟩
 have hγ' : ∀ x y, x ≠ 999999 → notF x = true → (famM M 999999 F (famOf q') g).γ x = some y → M.γ x = some y := fun x y h1 h2 h3 => by rw [famM_lo _ _ _ _ _ (notF_big h2) h1] at h3; exact h3
 rw [dF_fam]
 refine ⟨_, h.refam 999999 R F hF (fq' := famOf q') g (yR := some (et, dR F q')) (by decide) hFR hne hf hl (fun k c' hc => ?_) (fun k k' c1 c2 h1 h2 h3 => ?_) (fun k c' hc => .inr ⟨κ k, rfl⟩) (fun x => ?_) (fun e p hx => ?_) (fun hx => by cases hx) (fun t' => ?_) fun b => ?_⟩
 ·rw [hget] at hc
  split at hc
  ·rename_i hk
   cases hc
   show PS.r _ (inn F (κ k)) = _
   rw [fam_r hF hf, k1 k hk]
  ·cases hc
 ·rw [hget] at h1 h2
  split at h1
  ·split at h2
   ·rename_i a1 a2; exact k2 k k' a1 a2 (inn_inj h3).2
   ·cases h2
  ·cases h1
 ·rw [PS.r_app (s := ⟨tm, rw', bx⟩) (l := [(R, some (et, dR F q')), (FK + F, some (te, .fam (famOf q')))]) rfl, look_two', look_two']
  cases hbx : Nat.ble BIG x with
  | true =>
   have h1 : R ≠ FK + unF x := fun e => by have := notF_fk x; rw [← e, hFR] at this; cases this
   simp only [h1, if_false]
   by_cases hu : unF x = F
   ·simp [hu]
   ·simp [hu, Ne.symm hu]
  | false =>
   simp only
   by_cases hx9 : x = 999999
   ·subst hx9
    have h2 : FK + F ≠ 999999 := fk_ne hF h9n
    simp [Ne.symm hne, h2, h9]
   ·simp only [hx9, if_false]
    by_cases hxR : R = x
    ·subst hxR
     have h2 : R ≠ FK + F := Ne.symm (fk_ne hF hFR)
     simp [h2]
    ·simp only [hxR, if_false, Ne.symm hxR]
     by_cases hxf : FK + F = x
     ·simp [hxf]
     ·simp [hxf, Ne.symm hxf]
 ·cases hx
  rcases h.row _ _ _ hR with ⟨g1, g2⟩ | ⟨gg, cap, cur, g1, g2, g3, g4, g5, g6⟩
  ·exact .inl ⟨by rw [famM_lo _ _ _ _ _ (notF_big hFR) (Ne.symm hne)]; exact g1, by rw [dR_len, hlen]; exact g2⟩
  ·refine .inr ⟨gg, cap, cur, by rw [famM_lo _ _ _ _ _ (notF_big hFR) (Ne.symm hne), dR_sz, hsz]; exact g1, g2, by rw [dR_len, hlen]; exact g3, g4, by rw [dR_sz, hsz]; exact g5, fun i j d hi hd => ?_⟩
   rw [dR_len] at hi
   rw [dR_sz, hsz]
   rcases dR_relem hq hi hd with ⟨rfl, _⟩ | ⟨x, rfl, _⟩
   ·have h1 := (k3 i j _ hi).1 hd
    have hv := g6 i j _ (by omega) h1
    refine hv.irow_mv fun x hx => ?_
    rw [famM_inn _ _ _ _ _ hF, hget, if_pos hi] at hx
    exact hx
   ·have h1 := (k3 i j 0 hi).2 x hd
    rw [(g6 i j _ (by omega) h1).int_inv]; exact .int _
 ·have : PS.t ⟨(PS.killX ⟨tm, rw', bx⟩ 999999).tmp, (R, some (et, dR F q')) :: (FK + F, some (te, .fam (famOf q'))) :: rw', (PS.killX ⟨tm, rw', bx⟩ 999999).box⟩ t' = klX 999999 (PS.t ⟨tm, rw', bx⟩ t') := PS.t_killX ⟨tm, rw', bx⟩ 999999 t'
  rw [this]
  exact VR.klX hA hγ' (fun _ _ h => h) (h.tmp t')
 ·exact PS.b_killX ⟨tm, rw', bx⟩ 999999 b⟩
theorem En.pull (t r F k : Nat) {n : Nat} {te : TypeId} {c : Sq} {fq : Fq} (ht : PS.t ⟨tm, rw', bx⟩ t = .irow F k n) (hn : n = c.len) (hc : fq.get k = some c) (hf : PS.r ⟨tm, rw', bx⟩ (FK + F) = some (te, .fam fq)) (hfr : frB ⟨tm, rw', bx⟩ noB (isR r) = true) (hrn : PS.r ⟨tm, rw', bx⟩ r = none)
  (hnf : nf ⟨(t, .row r 0 n) :: (PS.killX ⟨tm, rw', bx⟩ r).tmp, (r, some (te, c)) :: (FK + F, some (te, .fam (fq.hole k))) :: rw', (PS.killX ⟨tm, rw', bx⟩ r).box⟩ = some s') (hF : Nat.blt F 4294967296 = true := by rfl) (hr1 : Nat.blt r 1000000 = true := by rfl) : En C ⟨tm, rw', bx⟩ s' := ⟨fun M a w h => by
 rw [nf_ok hnf]
 rw [Nat.blt_eq] at hF hr1
 subst hn
 have hrn' := notF_lo hr1
 have hrb := notF_big hrn'
 have hget := Fq.get_hole fq k
 have hfr' : FK + F ≠ r := fk_ne hF hrn'
 have hir : ∀ G l, inn G l ≠ r := fun G l e => by have := inn_hi G l; rw [e, hrb] at this; cases this
 have hinn := fam_r hF hf k
 rw [hc] at hinn
 let M' : Mp := ⟨M.β, fun x => if x = r then M.γ (inn F k) else if x = inn F k then none else M.γ x⟩
 have m1 : M'.γ r = M.γ (inn F k) := by simp [M']
 have m2 : ∀ x, x ≠ r → x ≠ inn F k → M'.γ x = M.γ x := fun x h1 h2 => by simp [M', h1, h2]
 have m3 : M'.γ (inn F k) = none := by simp [M', hir]
 have m4 : ∀ x y, x ≠ r → M'.γ x = some y → M.γ x = some y := fun x y h1 h2 => by
  by_cases hx : x = inn F k
  ·rw [hx, m3] at h2; cases h2
  ·rw [m2 x h1 hx] at h2; exact h2
 have hsub : ∀ x k c z, M'.γ x = some (some (k, c, z)) → ∃ y, M.γ y = some (some (k, c, z)) := fun x k' c z hx => by
  by_cases h1 : x = r
  ·rw [h1, m1] at hx; exact ⟨_, hx⟩
  ·exact ⟨x, m4 x _ h1 hx⟩
 have hown : ∀ k, M'.owned k → M.owned k := by
  rintro k' (⟨b, hb⟩ | ⟨y, c, z, hy⟩)
  ·exact .inl ⟨b, hb⟩
  ·obtain ⟨x, hx⟩ := hsub _ _ _ _ hy; exact .inr ⟨x, c, z, hx⟩
 have hA : ∀ f b, b < w.heap.size → Ow (Fs C.w0 C.O0) M f b → Ow (Fs C.w0 C.O0) M' f b ∧ b < w.heap.size ∧ w.heap[b]? = w.heap[b]? := fun f b h1 h2 => ⟨⟨fun h3 => h2.1 (hown b h3), h2.2⟩, h1, rfl⟩
 have hγ' : ∀ x y, x ≠ r → notF x = true → M'.γ x = some y → M.γ x = some y := fun x y h1 _ h3 => m4 x y h1 h3
 have hrow0 : ∀ x e q, s'.r x = some (e, q) → True := fun _ _ _ _ => trivial
 have mvrow : ∀ x e q, PS.r ⟨tm, rw', bx⟩ x = some (e, q) → x ≠ r → x ≠ inn F k → RowAt (Fs C.w0 C.O0) M' w x e q := fun x e q hx h1 h2 => by
  rcases h.row x e q hx with ⟨g1, g2⟩ | ⟨g, cap, cur, g1, g2, g3, g4, g5, g6⟩
  ·exact .inl ⟨(m2 x h1 h2).trans g1, g2⟩
  ·exact .inr ⟨g, cap, cur, (m2 x h1 h2).trans g1, g2, g3, g4, g5, fun i j d hi hd => (g6 i j d hi hd).relem_any2 hd hA fun G _ l y hy => m4 _ y (hir G l) hy⟩
 refine ⟨M', h.remap r F hF (fun _ => rfl) hsub (fun x y k' c z c' z' h1 h2 => ?_) hγ' (fun x y h1 h2 h3 h4 => ?_) (.inl hr1) (fun u u' h1 h2 => ?_) (fun G l y _ _ h3 => m4 _ y (hir G l) h3) (fun t' => ?_) (fun b => ?_) (fun x e q hx => .inr ?_) fun x hx => ?_⟩
 ·by_cases hx : x = r
  ·by_cases hy : y = r
   ·rw [hx, hy]
   ·rw [hx, m1] at h1
    by_cases hyk : y = inn F k
    ·rw [hyk, m3] at h2; cases h2
    ·rw [m2 y hy hyk] at h2
     exact absurd (h.inj2 _ _ _ _ _ _ _ h1 h2).symm hyk
  ·by_cases hy : y = r
   ·rw [hy, m1] at h2
    by_cases hxk : x = inn F k
    ·rw [hxk, m3] at h1; cases h1
    ·rw [m2 x hx hxk] at h1
     exact absurd (h.inj2 _ _ _ _ _ _ _ h1 h2) hxk
   ·exact h.inj2 _ _ _ _ _ _ _ (m4 _ _ hx h1) (m4 _ _ hy h2)
 ·by_cases hx : x = r
  ·rw [hx, hrn'] at h2; cases h2
  ·exact m4 x y hx h4
 ·exact h.fxr _ _ _ h1 (m4 _ _ hfr' h2)
 ·have hk := PS.t_killX ⟨tm, rw', bx⟩ r t'
  by_cases htt : t = t'
  ·subst htt
   have : PS.t ⟨(t, .row r 0 c.len) :: (PS.killX ⟨tm, rw', bx⟩ r).tmp, (r, some (te, c)) :: (FK + F, some (te, .fam (fq.hole k))) :: rw', (PS.killX ⟨tm, rw', bx⟩ r).box⟩ t = .row r 0 c.len := by simp [PS.t, look_cons_self]
   rw [this]
   have hv := h.tmp t
   rw [ht] at hv
   generalize a.tmps.getD t undef = v at hv
   cases hv with
   | irow _ _ _ _ g1 g2 => exact .row _ _ _ _ g1 fun x hx => g2 x (by rw [← m1]; exact hx)
  ·have : PS.t ⟨(t, .row r 0 c.len) :: (PS.killX ⟨tm, rw', bx⟩ r).tmp, (r, some (te, c)) :: (FK + F, some (te, .fam (fq.hole k))) :: rw', (PS.killX ⟨tm, rw', bx⟩ r).box⟩ t' = PS.t (PS.killX ⟨tm, rw', bx⟩ r) t' := by simp [PS.t, look_cons_ne htt]
   rw [this, hk]
   exact VR.klX hA hγ' (fun _ _ h => h) (h.tmp t')
 ·exact PS.b_killX ⟨tm, rw', bx⟩ r b
 ·rw [PS.r_app (s := ⟨tm, rw', bx⟩) (l := [(r, some (te, c)), (FK + F, some (te, .fam (fq.hole k)))]) rfl, look_two', look_two'] at hx
  cases hbx : Nat.ble BIG x with
  | true =>
   rw [hbx] at hx
   have h1 : r ≠ FK + unF x := fun e => by have := notF_fk x; rw [← e, hrn'] at this; cases this
   have hxr : x ≠ r := fun e => by rw [e, hrb] at hbx; cases hbx
   simp only [h1, if_false] at hx
   by_cases hu : unF x = F
   ·have hxe : x = inn F (unK x) := by rw [← hu]; exact (inn_of hbx).symm
    simp only [hu, if_true, famr, hget] at hx
    by_cases hk : unK x = k
    ·simp only [hk, if_true] at hx; cases hx
    ·simp only [hk, if_false] at hx
     split at hx
     ·rename_i c' hc'
      cases hx
      refine mvrow x _ _ ?_ hxr (fun e => hk (by rw [e, unK_inn]))
      rw [hxe, fam_r hF hf, hc']
     ·cases hx
   ·simp only [Ne.symm hu, Nat.add_left_cancel_iff, if_false] at hx
    exact mvrow x e q hx hxr (fun e' => hu (by rw [e', unF_inn, Nat.mod_eq_of_lt hF]))
  | false =>
   rw [hbx] at hx
   have hxk : x ≠ inn F k := fun e => by rw [e, inn_hi] at hbx; cases hbx
   by_cases hxr : r = x
   ·subst hxr
    simp only [if_true] at hx
    cases hx
    exact (h.row _ _ _ hinn).mv (Fq.get_flat hc) m1 hA
   ·simp only [hxr, if_false] at hx
    by_cases hxf : FK + F = x
    ·subst hxf
     simp only [if_true] at hx
     cases hx
     rcases h.row _ _ _ hf with ⟨g1, g2⟩ | ⟨gg, cap, cur, g1, g2, g3, g4, g5, g6⟩
     ·exact .inl ⟨(m2 _ hfr' hxk).trans g1, rfl⟩
     ·exact .inr ⟨gg, cap, cur, (m2 _ hfr' hxk).trans g1, g2, Nat.zero_le _, g4, g5, fun i j d hi hd => absurd hi (Nat.not_lt_zero _)⟩
    ·simp only [hxf, if_false] at hx
     exact mvrow x e q hx (Ne.symm hxr) hxk
 ·rw [PS.r_app (s := ⟨tm, rw', bx⟩) (l := [(r, some (te, c)), (FK + F, some (te, .fam (fq.hole k)))]) rfl, look_two', look_two'] at hx
  cases hbx : Nat.ble BIG x with
  | true =>
   rw [hbx] at hx
   have h1 : r ≠ FK + unF x := fun e => by have := notF_fk x; rw [← e, hrn'] at this; cases this
   have hxr : x ≠ r := fun e => by rw [e, hrb] at hbx; cases hbx
   simp only [h1, if_false] at hx
   by_cases hxk : x = inn F k
   ·rw [hxk]; exact m3
   rw [m2 x hxr hxk]
   refine h.rown x ?_
   by_cases hu : unF x = F
   ·have hxe : x = inn F (unK x) := by rw [← hu]; exact (inn_of hbx).symm
    simp only [hu, if_true, famr, hget] at hx
    have hk : unK x ≠ k := fun e => hxk (by rw [hxe, e])
    simp only [hk, if_false] at hx
    rw [hxe, fam_r hF hf]
    split at hx
    ·cases hx
    ·rename_i hc'; rw [hc']
   ·simp only [Ne.symm hu, Nat.add_left_cancel_iff, if_false] at hx
    exact hx
  | false =>
   rw [hbx] at hx
   have hxk : x ≠ inn F k := fun e => by rw [e, inn_hi] at hbx; cases hbx
   by_cases hxr : r = x
   ·simp only [hxr, if_true] at hx; cases hx
   ·simp only [hxr, if_false] at hx
    by_cases hxf : FK + F = x
    ·simp only [hxf, if_true] at hx; cases hx
    ·simp only [hxf, if_false] at hx
     rw [m2 x (Ne.symm hxr) hxk]; exact h.rown x hx⟩
theorem En.freezeD (t R F : Nat) {n : Nat} {et te : TypeId} {q : Sq} (ht : PS.t ⟨tm, rw', bx⟩ t = .row R 0 n) (hR : PS.r ⟨tm, rw', bx⟩ R = some (et, dR F q)) (hf : PS.r ⟨tm, rw', bx⟩ (FK + F) = some (te, dF q)) (hq : q.deep = true) (hn : n = q.len) (hl : lone ⟨tm, rw', bx⟩ R F = true)
  (hnf : nf ⟨(t, .ro true q) :: (PS.killX ⟨tm, rw', bx⟩ R).tmp, (R, none) :: (FK + F, none) :: rw', (PS.killX ⟨tm, rw', bx⟩ R).box⟩ = some s') (hF : Nat.blt F 4294967296 = true := by rfl) (hr1 : Nat.blt R 1000000 = true := by rfl) : En C ⟨tm, rw', bx⟩ s' := ⟨fun M a w h => by
 rw [nf_ok hnf]
 rw [Nat.blt_eq] at hF hr1
 subst hn
 have hrn' := notF_lo hr1
 have hrb := notF_big hrn'
 have hfr' : FK + F ≠ R := fk_ne hF hrn'
 let M' : Mp := ⟨M.β, fun x => if x = R ∨ x = FK + F ∨ (Nat.ble BIG x = true ∧ unF x = F) then none else M.γ x⟩
 have m4 : ∀ x y, M'.γ x = some y → M.γ x = some y ∧ x ≠ R ∧ x ≠ FK + F ∧ ¬ (Nat.ble BIG x = true ∧ unF x = F) := fun x y h2 => by
  simp only [M'] at h2
  split at h2
  ·cases h2
  ·rename_i hno
   simp only [not_or] at hno
   exact ⟨h2, hno.1, hno.2.1, hno.2.2⟩
 have hown : ∀ k, M'.owned k → M.owned k := by
  rintro k' (⟨b, hb⟩ | ⟨y, c, z, hy⟩)
  ·exact .inl ⟨b, hb⟩
  ·exact .inr ⟨y, c, z, (m4 _ _ hy).1⟩
 have hA : ∀ f b, b < w.heap.size → Ow (Fs C.w0 C.O0) M f b → Ow (Fs C.w0 C.O0) M' f b ∧ b < w.heap.size ∧ w.heap[b]? = w.heap[b]? := fun f b h1 h2 => ⟨⟨fun h3 => h2.1 (hown b h3), h2.2⟩, h1, rfl⟩
 have hγ' : ∀ x y, x ≠ R → notF x = true → M'.γ x = some y → M.γ x = some y := fun x y h1 _ h3 => (m4 x y h3).1
 have hgone : ∀ x g cp z, M.γ x = some (some (g, cp, z)) → M'.γ x = none → Ow (Fs C.w0 C.O0) M' true g := fun x g cp z hx hx' => by
  refine ⟨?_, (h.low g (.inr ⟨x, cp, z, hx⟩)).imp_right (C.O0.sub true g)⟩
  rintro (⟨b, hb⟩ | ⟨y, c, z', hy⟩)
  ·exact h.inj3 _ _ _ _ _ hb hx
  ·have := h.inj2 _ _ _ _ _ _ _ (m4 _ _ hy).1 hx
   rw [this, hx'] at hy; cases hy
 refine ⟨M', h.remap R F hF (fun _ => rfl) (fun x k c z hx => ⟨x, (m4 _ _ hx).1⟩) (fun x y k' c z c' z' h1 h2 => h.inj2 _ _ _ _ _ _ _ (m4 _ _ h1).1 (m4 _ _ h2).1) hγ' (fun x y _ _ _ h4 => (m4 _ _ h4).1) (.inl hr1) (fun u u' h1 h2 => absurd rfl (m4 _ _ h2).2.2.1) (fun G l y _ _ h3 => (m4 _ y h3).1) (fun t' => ?_) (fun b => ?_) (fun x e p hx => ?_) fun x hx => ?_⟩
 ·have hk := PS.t_killX ⟨tm, rw', bx⟩ R t'
  by_cases htt : t = t'
  ·subst htt
   have : PS.t ⟨(t, .ro true q) :: (PS.killX ⟨tm, rw', bx⟩ R).tmp, (R, none) :: (FK + F, none) :: rw', (PS.killX ⟨tm, rw', bx⟩ R).box⟩ t = .ro true q := by simp [PS.t, look_cons_self]
   rw [this]
   have hv := h.tmp t
   rw [ht] at hv
   exact deep_ro h hF hq hR hf hv true (fun g cp z hg => hgone R g cp z hg (by simp [M'])) (fun i g cp z hg => hgone _ g cp z hg (by
    show (if inn F i = R ∨ inn F i = FK + F ∨ (Nat.ble BIG (inn F i) = true ∧ unF (inn F i) = F) then none else M.γ (inn F i)) = none
    rw [if_pos (.inr (.inr ⟨inn_hi F i, by rw [unF_inn, Nat.mod_eq_of_lt hF]⟩))])) hA
  ·have : PS.t ⟨(t, .ro true q) :: (PS.killX ⟨tm, rw', bx⟩ R).tmp, (R, none) :: (FK + F, none) :: rw', (PS.killX ⟨tm, rw', bx⟩ R).box⟩ t' = PS.t (PS.killX ⟨tm, rw', bx⟩ R) t' := by simp [PS.t, look_cons_ne htt]
   rw [this, hk]
   exact VR.klX hA hγ' (fun _ _ h => h) (h.tmp t')
 ·exact PS.b_killX ⟨tm, rw', bx⟩ R b
 ·rw [PS.r_app (s := ⟨tm, rw', bx⟩) (l := [(R, none), (FK + F, none)]) rfl, look_two', look_two'] at hx
  left
  have key : PS.r ⟨tm, rw', bx⟩ x = some (e, p) ∧ x ≠ R ∧ x ≠ FK + F ∧ ¬ (Nat.ble BIG x = true ∧ unF x = F) := by
   cases hbx : Nat.ble BIG x with
   | true =>
    rw [hbx] at hx
    have h1 : R ≠ FK + unF x := fun e => by have := notF_fk x; rw [← e, hrn'] at this; cases this
    simp only [h1, if_false] at hx
    by_cases hu : unF x = F
    ·simp only [hu, if_true, famr] at hx; cases hx
    ·simp only [Ne.symm hu, Nat.add_left_cancel_iff, if_false] at hx
     exact ⟨hx, fun e => (by rw [e, hrb] at hbx; cases hbx), fun e => (by rw [e, fk_lo hF] at hbx; cases hbx), fun h => hu h.2⟩
   | false =>
    rw [hbx] at hx
    by_cases hxr : R = x
    ·simp only [hxr, if_true] at hx; cases hx
    ·simp only [hxr, if_false] at hx
     by_cases hxf : FK + F = x
     ·simp only [hxf, if_true] at hx; cases hx
     ·simp only [hxf, if_false] at hx
      exact ⟨hx, Ne.symm hxr, Ne.symm hxf, fun h => by cases h.1⟩
  obtain ⟨k1, k2, k3, k4⟩ := key
  refine ⟨k1, ?_, fun G hG => (lone_ok hl k1 hG).resolve_left k2⟩
  show (if x = R ∨ x = FK + F ∨ (Nat.ble BIG x = true ∧ unF x = F) then none else M.γ x) = M.γ x
  rw [if_neg]
  rintro (h1 | h1 | h1)
  ·exact k2 h1
  ·exact k3 h1
  ·exact k4 h1
 ·cases hx' : M'.γ x with
  | none => rfl
  | some y =>
   exfalso
   obtain ⟨k1, k2, k3, k4⟩ := m4 x y hx'
   rw [PS.r_app (s := ⟨tm, rw', bx⟩) (l := [(R, none), (FK + F, none)]) rfl, look_two', look_two'] at hx
   have hn : PS.r ⟨tm, rw', bx⟩ x = none := by
    cases hbx : Nat.ble BIG x with
    | true =>
     rw [hbx] at hx
     have h1 : R ≠ FK + unF x := fun e => by have := notF_fk x; rw [← e, hrn'] at this; cases this
     have hu : unF x ≠ F := fun e => k4 ⟨hbx, e⟩
     simp only [h1, Ne.symm hu, Nat.add_left_cancel_iff, if_false] at hx
     exact hx
    | false =>
     rw [hbx] at hx
     simp only [Ne.symm k2, Ne.symm k3, if_false] at hx
     exact hx
   rw [h.rown x hn] at k1
   cases k1⟩
end
end Go.Proofs.Ytkklfgcelmeccaa
namespace Go.Proofs.Ytkklfgcelmeccaa
open Go.RowKit Go.Deep
section
variable {w0 : World} {O0 : Hd} {n : Nat} {M : Mp} {s : PS} {a : Act} {w : World}
theorem Rel.newRowR (h : Rel w0 O0 n M s a w) {r m : Nat} {e : TypeId} {q : Sq} {cur : Array Value} (hq : q.len = m) (hm : m ≤ maxLen) (hc : cur.size = m * q.sz)
  (hv : ∀ i j d, i < m → (q.relem i)[j]? = some d → VR M (Ow (Fs w0 O0) M) w d (cur.getD (i * q.sz + j) undef)) (hf : Fresh s noB (isR r)) (hlo : r < 1000000) :
  ∃ M', Rel w0 O0 n M' (s.setR r (some (e, q))) a (w.alloc (.cells cur e)) ∧ VR M' (Ow (Fs w0 O0) M') (w.alloc (.cells cur e)) (.row r 0 m) (.slice (some ⟨w.heap.size, 0, none⟩) m m) := by
 have hF := notF_lo hlo
 let M' : Mp := ⟨M.β, fun x => if x = r then some (some (w.heap.size, m, q.sz)) else M.γ x⟩
 have m1 : M'.γ r = some (some (w.heap.size, m, q.sz)) := by simp [M']
 have m2 : ∀ x, x ≠ r → M'.γ x = M.γ x := fun x hx => by simp [M', hx]
 have hown : ∀ k, M'.owned k → M.owned k ∨ k = w.heap.size := by
  rintro k (⟨x, hx⟩ | ⟨y, c, z, hy⟩)
  ·exact .inl (.inl ⟨x, hx⟩)
  ·by_cases hyr : y = r
   ·rw [hyr, m1] at hy; cases hy; exact .inr rfl
   ·rw [m2 y hyr] at hy; exact .inl (.inr ⟨y, c, z, hy⟩)
 have hA : ∀ f k, k < w.heap.size → Ow (Fs w0 O0) M f k → Ow (Fs w0 O0) M' f k ∧ k < (w.alloc (.cells cur e)).heap.size ∧ (w.alloc (.cells cur e)).heap[k]? = w.heap[k]? := fun f k h1 h2 =>
  ⟨⟨fun h3 => by rcases hown k h3 with h4 | h4; exact h2.1 h4; omega, h2.2⟩, by simp; omega, Below.heap_alloc w _ k h1⟩
 have hγ : ∀ x y, isR r x = false → M'.γ x = some y → M.γ x = some y := fun x y h1 h2 => by
  rw [m2 x (fun e => by subst e; simp [isR, Nat.beq_refl] at h1)] at h2; exact h2
 have hrb := notF_big hF
 have hbig : ∀ x y, BIG ≤ x → M'.γ x = some y → M.γ x = some y := fun x y hx h2 => by
  rw [m2 x (fun e => by rw [← e, Nat.ble_eq_true_of_le hx] at hrb; cases hrb)] at h2; exact h2
 have hno : ∀ y c z, M.γ y ≠ some (some (w.heap.size, c, z)) := fun y c z hy => by have := h.lt _ (.inr ⟨y, c, z, hy⟩); omega
 refine ⟨M', ⟨?_, h.dfr, h.sz, fun t => ?_, fun x ds hx => ?_, fun x hx => h.boxn x hx, fun x e' p hx => ?_, fun x hx => ?_, fun k hk => ?_, h.inj1, fun x y k c z c' z' h1 h2 => ?_, fun x y k c z h1 h2 => ?_, h.nle, h.fxb, fun x u u' h1 h2 => ?_⟩, ?_⟩
 ·exact h.fr.step rfl rfl rfl (by simp) fun k h1 _ => Below.heap_alloc w _ k (Nat.lt_of_lt_of_le h1 h.fr.size)
 ·exact VR.new (b := noB) (r := isR r) hA hγ (fun _ _ _ h => h) (hf.t t) (h.tmp t) (hi := fun _ => hbig)
 ·obtain ⟨k, cur', e', h1, h2, h3, h4⟩ := h.box x ds hx
  have hlt := (Array.getElem?_eq_some_iff.1 h2).1
  exact ⟨k, cur', e', h1, (Below.heap_alloc w _ k hlt).trans h2, h3, fun j d hd => VR.newS (b := noB) (r := isR r) hA hγ (fun _ _ _ h => h) (hf.b _ _ hx d (List.mem_of_getElem? hd)) (h4 j d hd) (hi := fun _ => hbig)⟩
 ·rw [PS.r_setR _ _ _ _ hF] at hx
  by_cases hxr : r = x
  ·subst hxr
   rw [if_pos rfl] at hx
   cases hx
   exact .inr ⟨w.heap.size, m, cur, m1, heap_alloc_new w _, by omega, hm, hc, fun i j d hi hd => (hv i j d (by omega) hd).relem_any hd hA hbig⟩
  ·rw [if_neg hxr] at hx
   rcases h.row x e' p hx with ⟨h1, h2⟩ | ⟨g, cap, cur', h1, h2, h3, h4, h5, h6⟩
   ·exact .inl ⟨(m2 x (Ne.symm hxr)).trans h1, h2⟩
   ·have hlt := (Array.getElem?_eq_some_iff.1 h2).1
    exact .inr ⟨g, cap, cur', (m2 x (Ne.symm hxr)).trans h1, (Below.heap_alloc w _ g hlt).trans h2, h3, h4, h5, fun i j d hi hd => (h6 i j d hi hd).relem_any hd hA hbig⟩
 ·rw [PS.r_setR _ _ _ _ hF] at hx
  by_cases hxr : r = x
  ·rw [if_pos hxr] at hx; cases hx
  ·rw [if_neg hxr] at hx; exact (m2 x (Ne.symm hxr)).trans (h.rown x hx)
 ·rcases hown k hk with h1 | rfl
  ·exact h.low k h1
  ·exact .inl h.fr.size
 ·by_cases hx : x = r
  ·by_cases hy : y = r
   ·rw [hx, hy]
   ·rw [hx, m1] at h1; cases h1; rw [m2 y hy] at h2; exact absurd h2 (hno _ _ _)
  ·by_cases hy : y = r
   ·rw [hy, m1] at h2; cases h2; rw [m2 x hx] at h1; exact absurd h1 (hno _ _ _)
   ·rw [m2 x hx] at h1; rw [m2 y hy] at h2; exact h.inj2 _ _ _ _ _ _ _ h1 h2
 ·by_cases hy : y = r
  ·rw [hy, m1] at h2; cases h2
   have := h.lt _ (.inl ⟨x, h1⟩); omega
  ·rw [m2 y hy] at h2; exact h.inj3 _ _ _ _ _ h1 h2
 ·have h3 := (O0.lor x u h1).1
  rw [m2 x (by omega)] at h2
  exact h.fxr x u u' h1 h2
 ·exact .row _ _ _ _ rfl fun x hx => by rw [m1] at hx; cases hx; exact ⟨by omega, _, by rw [Nat.sub_zero], fun _ => by rw [Nat.zero_mul]⟩
end
def refOf : D → Option Sq
 | .irow F k n => some (.irefs F [(k, n)])
 | .agg [.int p, .irow F k n] => some (.rrefs F [(p, k, n)])
 | _ => none
theorem refOf_ok {d : D} {q : Sq} (h : refOf d = some q) : d.flat = true ∧ d.cells = q.relem 0 ∧ q.len = 1 := by
 unfold refOf at h
 split at h
 ·cases h; exact ⟨rfl, rfl, rfl⟩
 ·cases h; exact ⟨rfl, rfl, rfl⟩
 ·cases h
section
variable {C : Cx} {ops : Array Oper} {K : PS → Prop} {o : Oper} {rest : List Oper} {s : PS} {TT : List (Nat × Ty)} {tm : List (Nat × D)} {rw' : List (Nat × Option (TypeId × Sq))} {bx : List (Nat × Option (List D))}
theorem oBuildI (hT : TTOK C.P TT) (hg : o.guard = none) {t e : TypeId} {k q : Sq} {by' b : Nat} {x : Operand} {d : D} (hop : o.op = .buildSlice t 1 #[(0, x)]) (hd : o.dst = some b) (hy : look TT t = some (.sl e k by')) (hx : (PS.ev ⟨tm, rw', bx⟩ x) = d)
  (hq : refOf d = some q) (hz : Nat.beq k.sz q.sz = true) (hbig : Nat.ble (1 * k.sz) 16777216 = true) (hn : Nat.blt b C.n = true) (hf : frB ⟨tm, rw', bx⟩ noB (isR b) = true) (h : VO C ops K rest ⟨(b, .row b 0 1) :: tm, (b, some (e, q)) :: rw', bx⟩) : VO C ops K (o :: rest) ⟨tm, rw', bx⟩ := by
 refine vOp hg ⟨fun M a w Q K' hrl hk => ?_⟩
 have hev := hrl.ev x
 rw [hx] at hev
 obtain ⟨r1, r2, r3⟩ := refOf_ok hq
 have hz' := Nat.eq_of_beq_eq_true hz
 obtain ⟨c1, c2, _⟩ := hev.cells r1
 rw [r2, Sq.relem_len, ← hz'] at c1
 have hvs : ∀ v ∈ [a.eval x], v.cells.size = k.sz := by intro v hv; simp at hv; subst hv; exact c1.symm
 have hbig' := Nat.le_of_ble_eq_true hbig
 have hfill : ∀ cells : Array Value, cells.size = 1 * k.sz → Instr.fill (fun i => some (i * k.sz, k.sz)) cells (idxL 0 [a.eval x]) = some ([a.eval x].flatMap fun v => v.cells.toList).toArray := fun cells hc => by
  have := fill_all k.sz [a.eval x] 0 cells hvs (by rw [hc]; rfl)
  simpa using this
 have hrun : (execOp a.eval o).run C.P w = .ok (.value (.slice (some ⟨w.heap.size, 0, none⟩) 1 1)) (w.alloc (.cells ([a.eval x].flatMap fun v => v.cells.toList).toArray e)) := by
  have hparts : ((#[(0, x)] : Array (Nat × Operand)).map fun (p : Nat × Operand) => (p.1, a.eval p.2)).toList = idxL 0 [a.eval x] := by simp [idxL]
  have := run_buildSlice (hT t _ hy) w 1 _ ([a.eval x].flatMap fun v => v.cells.toList).toArray (by omega) (fun cells hc => by rw [hparts]; exact hfill cells hc)
  unfold execOp
  rw [hop]
  simp only [Sem.run_bind, this, Result.andThen_ok]
  rfl
 obtain ⟨M', h1, h2⟩ := hrl.newRowR (r := b) (m := 1) (e := e) (q := q) (cur := ([a.eval x].flatMap fun v => v.cells.toList).toArray) r3 (by unfold maxLen; omega)
  (by simp only [List.size_toArray]; rw [flatMap_len _ hvs, ← hz']; rfl) (fun i j d' hi hd' => by
   obtain rfl : i = 0 := by omega
   have := c2 j d' (by rw [r2]; exact hd')
   simpa using this) (frB_ok hf) (by have h1000 := hrl.nle; rw [Nat.blt_eq] at hn; omega)
 unfold Oper.wp
 rw [hrun]
 refine hk M' _ _ _ h ?_
 rw [hd]
 exact h1.put (o := some b) hn h2
end
end Go.Proofs.Ytkklfgcelmeccaa
