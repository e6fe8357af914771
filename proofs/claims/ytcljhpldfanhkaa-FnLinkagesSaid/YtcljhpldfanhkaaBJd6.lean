/- Texts that the proof needs, put together: G68 Ql Qm M17 M18 M19 M20 M21 G30 G32 G31 G33 G34 G35 G40 G38 G56 G24 G71 G72 G119 Shc G120 Da Pp Pq Pr Pw Ps Qs Db G81 G83 G115 G121 G122 M22 G58 G60 G62 G123 G41 G44 G48 G124. -/
import Derived.Laws.Strings
import Derived.Laws.BytesArg
import Derived.Test.YtcljhpldfanhkaaBJd3
import Derived.Test.YtcljhpldfanhkaaBJd4
import Derived.Test.YtcljhpldfanhkaaBJd5
set_option linter.unusedVariables false
set_option linter.unusedSimpArgs false
namespace Go.Proofs.Ytcljhpldfanhkaa
open Go.RowKit
def S_IndexOfPose_l2 (N : Nat) (l_0 : List (List (Int × Int))) (p_1 : List (Int × Int)) (i27 : Int) (k : Bool → Option (Int)) : Nat → (Bool × Int) → Option (Int)
 | 0, _ => none
 | n + 1, (same38, k39) =>
  cnd (decide (k39 < (p_1.length : Int))) (
   cnd same38 (
    grd (0 ≤ k39 ∧ k39 < ((l_0.getD ((i27).toNat) []).length : Int)) <|
    grd (0 ≤ k39 ∧ k39 < (p_1.length : Int)) <|
    grd (Rg64 (k39 + (1 : Int))) <|
    S_IndexOfPose_l2 N l_0 p_1 i27 k n (((((l_0.getD ((i27).toNat) []).getD ((k39).toNat) (0, 0)).1 == (p_1.getD ((k39).toNat) (0, 0)).1) && (((l_0.getD ((i27).toNat) []).getD ((k39).toNat) (0, 0)).2 == (p_1.getD ((k39).toNat) (0, 0)).2)), (k39 + (1 : Int)))) (
    k same38)) (
   k same38)
def S_IndexOfPose_l1 (N : Nat) (l_0 : List (List (Int × Int))) (p_1 : List (Int × Int)) (k : Unit → Option (Int)) : Nat → Int → Option (Int)
 | 0, _ => none
 | n + 1, i27 =>
  cnd (decide (i27 < (l_0.length : Int))) (
   grd (0 ≤ i27 ∧ i27 < (l_0.length : Int)) <|
   S_IndexOfPose_l2 N l_0 p_1 i27 (fun (same36 : Bool) =>
      cnd same36 (
       some i27) (
       grd (Rg64 (i27 + (1 : Int))) <|
       S_IndexOfPose_l1 N l_0 p_1 k n (i27 + (1 : Int)))) N ((((l_0.getD ((i27).toNat) []).length : Int) == (p_1.length : Int)), (0 : Int))) (
   k ())
def S_IndexOfPose (N : Nat) (l_0 : List (List (Int × Int))) (p_1 : List (Int × Int)) : Option (Int) :=
 S_IndexOfPose_l1 N l_0 p_1 (fun (_ : Unit) =>
    some (-1 : Int)) N (0 : Int)
set_option maxRecDepth 20000 in
set_option maxHeartbeats 1600000 in
theorem S_IndexOfPose_w (N : Nat) (l_0 : List (List (Int × Int))) (p_1 : List (Int × Int)) (r : Int) (h : S_IndexOfPose N l_0 p_1 = some r) : PCall Try.prog 93 [.ro false (.pairss l_0), .ro false (.pairs p_1)] [] (.int r) := by
 unfold S_IndexOfPose at h
 refine pcall_intro (TT := TT) tt Try.func93 rfl rfl Try.ntmps93 (congrArg Array.toList Try.results93) rfl rfl fun w0 => ?_
 refine vSeq ?_
 refine vRegion ?_
 refine oVal tt rfl rfl rfl rfl rfl trivial ?_
 refine vNil ?_
 change VC _ _ _ _
 iterate 2 refine vSeq ?_
 refine vRegion ?_
 refine oVal tt rfl rfl rfl rfl rfl trivial ?_
 refine vNil ?_
 change VC _ _ _ _
 refine vJoin (F := fun k => S_IndexOfPose_l1 N l_0 p_1 k) h (α := Unit) (J := fun (_ : Unit) => (⟨[], [], []⟩ : PS)) ?_ ?_
 ·rintro ⟨⟩ h
  show VC _ _ _ (⟨[], [], []⟩ : PS)
  refine vSeq ?_
  refine vRegion ?_
  refine oVal tt rfl rfl rfl rfl rfl trivial ?_
  refine vNil ?_
  change VC _ _ _ _
  refine vRet ?_
  change ∃ _, _
  cases h
  exact ⟨[], _, rfl, trivial, rfl, (.eq rfl), rfl⟩
 ·intro k h
  refine vBlock ?_
  refine vLoopS (α := Int) (fun (i27 : Int) => (⟨[(0, .ro false (.pairss l_0)), (1, .ro false (.pairs p_1)), (5, .int i27)], [], []⟩ : PS)) (S_IndexOfPose_l1 N l_0 p_1 k) h (En.of ⟨rfl, rfl, rfl, trivial⟩ trivial trivial) (fun _ => rfl) ?_
  rintro n i27 h
  rw [S_IndexOfPose_l1] at h
  show VC _ _ _ (⟨[(0, .ro false (.pairss l_0)), (1, .ro false (.pairs p_1)), (5, .int i27)], [], []⟩ : PS)
  iterate 2 refine vSeq ?_
  refine vRegion ?_
  iterate 4 refine oVal tt rfl rfl rfl rfl rfl trivial ?_
  refine vNil ?_
  change VC _ _ _ _
  refine vCond rfl (fun hb1 => ?_) (fun hb1 => ?_)
  ·replace h := cnd_t hb1 h
   refine vSkip ?_
   change VC _ _ _ _
   refine vSeq ?_
   refine vBlock ?_
   refine vSeq ?_
   refine vRegion ?_
   iterate 2 refine oVal tt rfl rfl rfl rfl rfl trivial ?_
   obtain ⟨hg2, h⟩ := grd_inv h
   refine oVal tt rfl rfl rfl rfl rfl hg2 ?_
   iterate 6 refine oVal tt rfl rfl rfl rfl rfl trivial ?_
   refine vNil ?_
   change VC _ _ _ _
   iterate 2 refine vSeq ?_
   refine vRegion ?_
   refine oVal tt rfl rfl rfl rfl rfl trivial ?_
   refine vNil ?_
   change VC _ _ _ _
   refine vJoin (F := fun k => S_IndexOfPose_l2 N l_0 p_1 i27 k) h (α := Bool) (J := fun (same36 : Bool) => (⟨[(0, .ro false (.pairss l_0)), (1, .ro false (.pairs p_1)), (5, .int i27), (6, .bool same36)], [], []⟩ : PS)) ?_ ?_
   ·rintro same36 h
    show VC _ _ _ (⟨[(0, .ro false (.pairss l_0)), (1, .ro false (.pairs p_1)), (5, .int i27), (6, .bool same36)], [], []⟩ : PS)
    refine vSeq ?_
    refine vRegion ?_
    refine oVal tt rfl rfl rfl rfl rfl trivial ?_
    refine vNil ?_
    change VC _ _ _ _
    refine vCond rfl (fun hb3 => ?_) (fun hb3 => ?_)
    ·replace h := cnd_t hb3 h
     refine vSeq ?_
     refine vRegion ?_
     iterate 2 refine oVal tt rfl rfl rfl rfl rfl trivial ?_
     refine vNil ?_
     change VC _ _ _ _
     refine vRet ?_
     change ∃ _, _
     cases h
     exact ⟨[], _, rfl, trivial, rfl, (.eq rfl), rfl⟩
    ·replace h := cnd_f hb3 h
     refine vSkip ?_
     change VC _ _ _ _
     refine vRegion ?_
     refine oVal tt rfl rfl rfl rfl rfl trivial ?_
     obtain ⟨hg4, h⟩ := grd_inv h
     refine oVal tt rfl rfl rfl rfl rfl hg4 ?_
     refine oVal tt rfl rfl rfl rfl rfl trivial ?_
     refine vNil ?_
     change ∃ _, _
     exact ⟨(i27 + (1 : Int)), (En.of ⟨rfl, rfl, rfl, trivial⟩ trivial trivial), h⟩
   ·intro k h
    refine vBlock ?_
    refine vLoopS (α := Bool × Int) (fun | (same38, k39) => (⟨[(0, .ro false (.pairss l_0)), (1, .ro false (.pairs p_1)), (5, .int i27), (6, .bool same38), (7, .int k39)], [], []⟩ : PS)) (S_IndexOfPose_l2 N l_0 p_1 i27 k) h (En.of ⟨rfl, rfl, rfl, rfl, rfl, trivial⟩ trivial trivial) (fun _ => rfl) ?_
    rintro n ⟨same38, k39⟩ h
    rw [S_IndexOfPose_l2] at h
    show VC _ _ _ (⟨[(0, .ro false (.pairss l_0)), (1, .ro false (.pairs p_1)), (5, .int i27), (6, .bool same38), (7, .int k39)], [], []⟩ : PS)
    iterate 2 refine vSeq ?_
    refine vRegion ?_
    iterate 5 refine oVal tt rfl rfl rfl rfl rfl trivial ?_
    refine oSplit rfl rfl rfl (fun hb5 => ?_) (fun hb5 => ?_)
    ·replace h := cnd_t hb5 h
     refine oValG tt rfl rfl rfl rfl rfl hb5 rfl rfl rfl trivial ?_
     refine oPick rfl rfl rfl rfl rfl hb5 rfl ?_
     refine vNil ?_
     change VC _ _ _ _
     refine vCond rfl (fun hb6 => ?_) (fun hb6 => ?_)
     ·replace h := cnd_t hb6 h
      refine vSkip ?_
      change VC _ _ _ _
      refine vSeq ?_
      refine vBlock ?_
      refine vRegionD (by kernel_rfl) (by kernel_rfl) ?_
      iterate 2 refine cVal tt rfl (wNone rfl) rfl rfl rfl trivial ?_
      refine cVal tt rfl (wNone rfl) rfl rfl rfl hg2 ?_
      iterate 2 refine cVal tt rfl (wNone rfl) rfl rfl rfl trivial ?_
      obtain ⟨hg7, h⟩ := grd_inv h
      refine cVal tt rfl (wNone rfl) rfl rfl rfl hg7 ?_
      iterate 3 refine cVal tt rfl (wNone rfl) rfl rfl rfl trivial ?_
      obtain ⟨hg8, h⟩ := grd_inv h
      refine cVal tt rfl (wNone rfl) rfl rfl rfl hg8 ?_
      refine cVal tt rfl (wNone rfl) rfl rfl rfl trivial ?_
      refine cPure (wNone rfl) (pEqP eqP_impl_Place rfl rfl rfl) rfl rfl ?_
      refine cVal tt rfl (wNone rfl) rfl rfl rfl trivial ?_
      refine cNil ?_
      change VC _ _ _ _
      refine vRegion ?_
      refine oVal tt rfl rfl rfl rfl rfl trivial ?_
      obtain ⟨hg9, h⟩ := grd_inv h
      refine oVal tt rfl rfl rfl rfl rfl hg9 ?_
      refine oVal tt rfl rfl rfl rfl rfl trivial ?_
      refine vNil ?_
      change ∃ _, _
      exact ⟨(((((l_0.getD ((i27).toNat) []).getD ((k39).toNat) (0, 0)).1 == (p_1.getD ((k39).toNat) (0, 0)).1) && (((l_0.getD ((i27).toNat) []).getD ((k39).toNat) (0, 0)).2 == (p_1.getD ((k39).toNat) (0, 0)).2)), (k39 + (1 : Int))), (En.of ⟨rfl, rfl, rfl, rfl, rfl, trivial⟩ trivial trivial), h⟩
     ·replace h := cnd_f hb6 h
      refine vExit ?_
      change ∃ _, _
      exact ⟨same38, (En.of ⟨rfl, rfl, rfl, rfl, trivial⟩ trivial trivial), h⟩
    ·replace h := cnd_f hb5 h
     refine oNoT rfl rfl rfl rfl hb5 rfl rfl ?_
     refine oPickF rfl rfl rfl rfl rfl hb5 rfl ?_
     refine vNil ?_
     change VC _ _ _ _
     refine vCondF rfl rfl ?_
     refine vExit ?_
     change ∃ _, _
     exact ⟨same38, (En.of ⟨rfl, rfl, rfl, rfl, trivial⟩ trivial trivial), h⟩
  ·replace h := cnd_f hb1 h
   refine vExit ?_
   change ∃ _, _
   exact ⟨(), (En.of trivial trivial trivial), h⟩
def G_Equal_Place_l1 (N : Nat) (s1_0 : List (Int × Int)) (s2_1 : List (Int × Int)) (k : Unit → Option (Bool)) : Nat → Int → Option (Bool)
 | 0, _ => none
 | n + 1, x3 =>
  cnd (decide (x3 < (s1_0.length : Int))) (
   grd (0 ≤ x3 ∧ x3 < (s1_0.length : Int)) <|
   grd (0 ≤ x3 ∧ x3 < (s2_1.length : Int)) <|
   cnd (!(((s1_0.getD ((x3).toNat) (0, 0)).1 == (s2_1.getD ((x3).toNat) (0, 0)).1) && ((s1_0.getD ((x3).toNat) (0, 0)).2 == (s2_1.getD ((x3).toNat) (0, 0)).2))) (
    some false) (
    grd (Rg64 (x3 + (1 : Int))) <|
    G_Equal_Place_l1 N s1_0 s2_1 k n (x3 + (1 : Int)))) (
   k ())
def G_Equal_Place (N : Nat) (s1_0 : List (Int × Int)) (s2_1 : List (Int × Int)) : Option (Bool) :=
 cnd ((s1_0.length : Int) != (s2_1.length : Int)) (
  some false) (
  G_Equal_Place_l1 N s1_0 s2_1 (fun (_ : Unit) =>
     some true) N (0 : Int))
set_option maxRecDepth 20000 in
set_option maxHeartbeats 1600000 in
theorem G_Equal_Place_w (N : Nat) (s1_0 : List (Int × Int)) (s2_1 : List (Int × Int)) (r : Bool) (h : G_Equal_Place N s1_0 s2_1 = some r) : PCall Try.prog 162 [.ro false (.pairs s1_0), .ro false (.pairs s2_1)] [] (.bool r) := by
 unfold G_Equal_Place at h
 refine pcall_intro (TT := TT) tt Try.func162 rfl rfl Try.ntmps162 (congrArg Array.toList Try.results162) rfl rfl fun w0 => ?_
 refine vSeq ?_
 refine vRegion ?_
 refine oVal tt rfl rfl rfl rfl rfl trivial ?_
 refine vNil ?_
 change VC _ _ _ _
 iterate 2 refine vSeq ?_
 refine vRegion ?_
 iterate 5 refine oVal tt rfl rfl rfl rfl rfl trivial ?_
 refine vNil ?_
 change VC _ _ _ _
 refine vCond rfl (fun hb1 => ?_) (fun hb1 => ?_)
 ·replace h := cnd_t hb1 h
  refine vSeq ?_
  refine vRegion ?_
  refine oVal tt rfl rfl rfl rfl rfl trivial ?_
  refine vNil ?_
  change VC _ _ _ _
  refine vRet ?_
  change ∃ _, _
  cases h
  exact ⟨[], _, rfl, trivial, rfl, (.eq rfl), rfl⟩
 ·replace h := cnd_f hb1 h
  refine vSkip ?_
  change VC _ _ _ _
  iterate 2 refine vSeq ?_
  refine vRegion ?_
  iterate 3 refine oVal tt rfl rfl rfl rfl rfl trivial ?_
  refine vNil ?_
  change VC _ _ _ _
  refine vJoin (F := fun k => G_Equal_Place_l1 N s1_0 s2_1 k) h (α := Unit) (J := fun (_ : Unit) => (⟨[], [], []⟩ : PS)) ?_ ?_
  ·rintro ⟨⟩ h
   show VC _ _ _ (⟨[], [], []⟩ : PS)
   refine vSeq ?_
   refine vRegion ?_
   refine oVal tt rfl rfl rfl rfl rfl trivial ?_
   refine vNil ?_
   change VC _ _ _ _
   refine vRet ?_
   change ∃ _, _
   cases h
   exact ⟨[], _, rfl, trivial, rfl, (.eq rfl), rfl⟩
  ·intro k h
   refine vBlock ?_
   refine vLoopS (α := Int) (fun (x3 : Int) => (⟨[(0, .ro false (.pairs s1_0)), (1, .ro false (.pairs s2_1)), (12, .int (s1_0.length : Int)), (13, .int x3)], [], []⟩ : PS)) (G_Equal_Place_l1 N s1_0 s2_1 k) h (En.of ⟨rfl, rfl, rfl, rfl, trivial⟩ trivial trivial) (fun _ => rfl) ?_
   rintro n x3 h
   rw [G_Equal_Place_l1] at h
   show VC _ _ _ (⟨[(0, .ro false (.pairs s1_0)), (1, .ro false (.pairs s2_1)), (12, .int (s1_0.length : Int)), (13, .int x3)], [], []⟩ : PS)
   refine vSeq ?_
   refine vRegion ?_
   refine oVal tt rfl rfl rfl rfl rfl trivial ?_
   refine vNil ?_
   change VC _ _ _ _
   refine vSeq ?_
   refine vCond rfl (fun hb2 => ?_) (fun hb2 => ?_)
   ·replace h := cnd_t hb2 h
    refine vSkip ?_
    change VC _ _ _ _
    refine vSeq ?_
    refine vBlock ?_
    refine vSeq ?_
    refine vRegion ?_
    iterate 2 refine oVal tt rfl rfl rfl rfl rfl trivial ?_
    refine vNil ?_
    change VC _ _ _ _
    refine vSeq ?_
    refine vRegionD (by kernel_rfl) (by kernel_rfl) ?_
    iterate 2 refine cVal tt rfl (wNone rfl) rfl rfl rfl trivial ?_
    obtain ⟨hg3, h⟩ := grd_inv h
    refine cVal tt rfl (wNone rfl) rfl rfl rfl hg3 ?_
    iterate 3 refine cVal tt rfl (wNone rfl) rfl rfl rfl trivial ?_
    obtain ⟨hg4, h⟩ := grd_inv h
    refine cVal tt rfl (wNone rfl) rfl rfl rfl hg4 ?_
    refine cVal tt rfl (wNone rfl) rfl rfl rfl trivial ?_
    refine cPure (wNone rfl) (pNeP eqP_impl_Place rfl rfl rfl) rfl rfl ?_
    refine cNil ?_
    change VC _ _ _ _
    refine vCond rfl (fun hb5 => ?_) (fun hb5 => ?_)
    ·replace h := cnd_t hb5 h
     refine vSeq ?_
     refine vRegion ?_
     refine oVal tt rfl rfl rfl rfl rfl trivial ?_
     refine vNil ?_
     change VC _ _ _ _
     refine vRet ?_
     change ∃ _, _
     cases h
     exact ⟨[], _, rfl, trivial, rfl, (.eq rfl), rfl⟩
    ·replace h := cnd_f hb5 h
     refine vSkip ?_
     change VC _ _ _ _
     refine vRegion ?_
     obtain ⟨hg6, h⟩ := grd_inv h
     refine oVal tt rfl rfl rfl rfl rfl hg6 ?_
     refine oVal tt rfl rfl rfl rfl rfl trivial ?_
     refine vNil ?_
     change ∃ _, _
     exact ⟨(x3 + (1 : Int)), (En.of ⟨rfl, rfl, rfl, rfl, trivial⟩ trivial trivial), h⟩
   ·replace h := cnd_f hb2 h
    refine vExit ?_
    change ∃ _, _
    exact ⟨(), (En.of trivial trivial trivial), h⟩
def I_IndexOfPose_l1 (N : Nat) (l_0 : List (List (Int × Int))) (p_1 : List (Int × Int)) (k : Unit → Option (Int)) : Nat → Int → Option (Int)
 | 0, _ => none
 | n + 1, x7 =>
  cnd (decide (x7 < (l_0.length : Int))) (
   grd (0 ≤ x7 ∧ x7 < (l_0.length : Int)) <|
   (G_Equal_Place N (l_0.getD ((x7).toNat) []) p_1).bind fun v9 =>
   cnd v9 (
    some x7) (
    grd (Rg64 (x7 + (1 : Int))) <|
    I_IndexOfPose_l1 N l_0 p_1 k n (x7 + (1 : Int)))) (
   k ())
def I_IndexOfPose (N : Nat) (l_0 : List (List (Int × Int))) (p_1 : List (Int × Int)) : Option (Int) :=
 I_IndexOfPose_l1 N l_0 p_1 (fun (_ : Unit) =>
    some (-1 : Int)) N (0 : Int)
set_option maxRecDepth 20000 in
set_option maxHeartbeats 1600000 in
theorem I_IndexOfPose_w (N : Nat) (l_0 : List (List (Int × Int))) (p_1 : List (Int × Int)) (r : Int) (h : I_IndexOfPose N l_0 p_1 = some r) : PCall Try.prog 89 [.ro false (.pairss l_0), .ro false (.pairs p_1)] [] (.int r) := by
 unfold I_IndexOfPose at h
 refine pcall_intro (TT := TT) tt Try.func89 rfl rfl Try.ntmps89 (congrArg Array.toList Try.results89) rfl rfl fun w0 => ?_
 refine vSeq ?_
 refine vRegion ?_
 refine oVal tt rfl rfl rfl rfl rfl trivial ?_
 refine vNil ?_
 change VC _ _ _ _
 iterate 2 refine vSeq ?_
 refine vRegion ?_
 iterate 3 refine oVal tt rfl rfl rfl rfl rfl trivial ?_
 refine vNil ?_
 change VC _ _ _ _
 refine vJoin (F := fun k => I_IndexOfPose_l1 N l_0 p_1 k) h (α := Unit) (J := fun (_ : Unit) => (⟨[], [], []⟩ : PS)) ?_ ?_
 ·rintro ⟨⟩ h
  show VC _ _ _ (⟨[], [], []⟩ : PS)
  refine vSeq ?_
  refine vRegion ?_
  refine oVal tt rfl rfl rfl rfl rfl trivial ?_
  refine vNil ?_
  change VC _ _ _ _
  refine vRet ?_
  change ∃ _, _
  cases h
  exact ⟨[], _, rfl, trivial, rfl, (.eq rfl), rfl⟩
 ·intro k h
  refine vBlock ?_
  refine vLoopS (α := Int) (fun (x7 : Int) => (⟨[(1, .ro false (.pairs p_1)), (7, .ro false (.pairss l_0)), (8, .int (l_0.length : Int)), (9, .int x7)], [], []⟩ : PS)) (I_IndexOfPose_l1 N l_0 p_1 k) h (En.of ⟨rfl, rfl, rfl, rfl, trivial⟩ trivial trivial) (fun _ => rfl) ?_
  rintro n x7 h
  rw [I_IndexOfPose_l1] at h
  show VC _ _ _ (⟨[(1, .ro false (.pairs p_1)), (7, .ro false (.pairss l_0)), (8, .int (l_0.length : Int)), (9, .int x7)], [], []⟩ : PS)
  refine vSeq ?_
  refine vRegion ?_
  refine oVal tt rfl rfl rfl rfl rfl trivial ?_
  refine vNil ?_
  change VC _ _ _ _
  refine vSeq ?_
  refine vCond rfl (fun hb1 => ?_) (fun hb1 => ?_)
  ·replace h := cnd_t hb1 h
   refine vSkip ?_
   change VC _ _ _ _
   refine vSeq ?_
   refine vBlock ?_
   refine vSeq ?_
   refine vRegion ?_
   refine oVal tt rfl rfl rfl rfl rfl trivial ?_
   obtain ⟨hg2, h⟩ := grd_inv h
   refine oVal tt rfl rfl rfl rfl rfl hg2 ?_
   iterate 3 refine oVal tt rfl rfl rfl rfl rfl trivial ?_
   refine vNil ?_
   change VC _ _ _ _
   refine vSeq ?_
   refine vRegion ?_
   iterate 2 refine oVal tt rfl rfl rfl rfl rfl trivial ?_
   obtain ⟨v9, hc3, h⟩ := bind_inv h
   refine oCall (G_Equal_Place_w N (l_0.getD ((x7).toNat) []) p_1 v9 hc3) rfl rfl rfl rfl rfl rfl rfl rfl ⟨rfl, rfl, trivial⟩ ?_
   refine vNil ?_
   change VC _ _ _ _
   refine vCond rfl (fun hb4 => ?_) (fun hb4 => ?_)
   ·replace h := cnd_t hb4 h
    refine vSeq ?_
    refine vRegion ?_
    iterate 2 refine oVal tt rfl rfl rfl rfl rfl trivial ?_
    refine vNil ?_
    change VC _ _ _ _
    refine vRet ?_
    change ∃ _, _
    cases h
    exact ⟨[], _, rfl, trivial, rfl, (.eq rfl), rfl⟩
   ·replace h := cnd_f hb4 h
    refine vSkip ?_
    change VC _ _ _ _
    refine vRegion ?_
    obtain ⟨hg5, h⟩ := grd_inv h
    refine oVal tt rfl rfl rfl rfl rfl hg5 ?_
    refine oVal tt rfl rfl rfl rfl rfl trivial ?_
    refine vNil ?_
    change ∃ _, _
    exact ⟨(x7 + (1 : Int)), (En.of ⟨rfl, rfl, rfl, rfl, trivial⟩ trivial trivial), h⟩
  ·replace h := cnd_f hb1 h
   refine vExit ?_
   change ∃ _, _
   exact ⟨(), (En.of trivial trivial trivial), h⟩
end Go.Proofs.Ytcljhpldfanhkaa
namespace Go.Proofs.Ytcljhpldfanhkaa
variable {N : Nat}
def stepB (p q : Int × Int) : Bool := onGrid p && (onGrid q && (inB (p.1 - q.1) (-1) 1 && inB (p.2 - q.2) (-1) 1))
end Go.Proofs.Ytcljhpldfanhkaa
namespace Go.Proofs.Ytcljhpldfanhkaa
variable {N : Nat}
theorem equalPl_s (hN : 4000000 ≤ N) {a b : List (Int × Int)} (ha : a.length ≤ 3000000) : G_Equal_Place N a b = some (decide (a = b)) := by
 unfold G_Equal_Place
 by_cases h : a.length = b.length
 ·rw [cnd_nef (by omega)]
  refine (srch (len := a.length) (ok := fun i => a.getD i (0, 0) == b.getD i (0, 0)) (bad := some false) (fin := some true) (by omega) ?_ ?_).trans ?_
  ·intro n i hi _
   have e : ((i : Int)).toNat = i := by omega
   rw [G_Equal_Place_l1, cnd_dt (by omega), grd_pos (by omega), grd_pos (by omega), e, pair_eq, cnd_not, grd_R (by omega) (by omega), succ_cast]
  ·intro n _
   rw [G_Equal_Place_l1, cnd_df (by omega)]
  ·rw [cnd_some, cnd_bool]
   congr 1
   rw [Bool.eq_iff_iff, List.all_eq_true, decide_eq_true_eq]
   constructor
   ·intro hh
    apply List.ext_getElem h
    intro i h1 h2
    have := hh i (by simpa using h1)
    simpa [List.getD_eq_getElem?_getD, h1, h2] using this
   ·intro hh i hi; rw [hh]; simp
 ·rw [cnd_net (by omega), decide_eq_false (fun e => h (by rw [e]))]
def idxP (P : List (List (Int × Int))) (p : List (Int × Int)) : Nat → Nat → Int
 | 0, _ => -1
 | f + 1, i => cnd (decide (i < P.length)) (cnd (decide (P.getD i [] = p)) (i : Int) (idxP P p f (i + 1))) (-1)
theorem idxI_s (hN : 4000000 ≤ N) {P : List (List (Int × Int))} (hP : P.length ≤ 1000) (hPl : ∀ x ∈ P, x.length ≤ 3000000) (p : List (Int × Int)) : I_IndexOfPose N P p = some (idxP P p (P.length + 1) 0) := by
 have key : ∀ (fuel g i : Nat), i ≤ P.length → P.length < fuel + i → P.length < g + i → I_IndexOfPose_l1 N P p (fun (_ : Unit) => some (-1 : Int)) fuel (i : Int) = some (idxP P p g i) := by
  intro fuel
  induction fuel with
  | zero => intro g i h1 h2; omega
  | succ fuel ih =>
   intro g i h1 h2 h3
   obtain ⟨g, rfl⟩ : ∃ g', g = g' + 1 := ⟨g - 1, by omega⟩
   rw [I_IndexOfPose_l1, idxP]
   by_cases hi : i < P.length
   ·have e : ((i : Int)).toNat = i := by omega
    rw [cnd_dt (by omega), cnd_dt hi, grd_pos (by omega), e, equalPl_s hN (hPl _ (getD_mem hi)), Option.bind_some]
    by_cases hq : P.getD i [] = p
    ·rw [cnd_dt hq, cnd_dt hq]
    ·rw [cnd_df hq, cnd_df hq, grd_R (by omega) (by omega), succ_cast]
     exact ih g (i + 1) (by omega) (by omega) (by omega)
   ·rw [cnd_df (by omega), cnd_df hi]
 exact key N _ 0 (by omega) (by omega) (by omega)
theorem idxS_s (hN : 4000000 ≤ N) {P : List (List (Int × Int))} (hP : P.length ≤ 1000) (p : List (Int × Int)) (hp : p.length ≤ 3000000) : S_IndexOfPose N P p = some (idxP P p (P.length + 1) 0) := by
 have l2 : ∀ (i : Nat) (hi : i < P.length) (kk : Bool → Option Int), S_IndexOfPose_l2 N P p (i : Int) kk N (((((P.getD ((i : Int)).toNat []).length : Int)) == (p.length : Int)), (0 : Int)) = kk (decide (P.getD i [] = p)) := by
  intro i hi kk
  have e : ((i : Int)).toNat = i := by omega
  rw [e]
  by_cases hl : (P.getD i []).length = p.length
  ·have hb : ((((P.getD i []).length : Int)) == (p.length : Int)) = true := by rw [beq_iff_eq]; omega
   rw [hb]
   have key : ∀ (fuel k : Nat) (sm : Bool), k ≤ p.length → p.length < fuel + k → sm = ((List.range k).all fun j => (P.getD i []).getD j (0, 0) == p.getD j (0, 0)) → S_IndexOfPose_l2 N P p (i : Int) kk fuel (sm, (k : Int)) = kk ((List.range p.length).all fun j => (P.getD i []).getD j (0, 0) == p.getD j (0, 0)) := by
    intro fuel
    induction fuel with
    | zero => intro k sm h1 h2; omega
    | succ fuel ih =>
     intro k sm h1 h2 hs
     rw [S_IndexOfPose_l2]
     by_cases hk : k < p.length
     ·have e2 : ((k : Int)).toNat = k := by omega
      rw [cnd_dt (by omega)]
      cases sm with
      | true =>
       rw [cnd_true, e, e2, grd_pos (by omega), grd_pos (by omega), grd_R (by omega) (by omega), succ_cast, pair_eq]
       refine ih (k + 1) _ (by omega) (by omega) ?_
       rw [List.range_succ, List.all_append, ← hs]; simp
      | false =>
       rw [cnd_false]
       congr 1
       rw [eq_comm, List.all_eq_false]
       rw [eq_comm, List.all_eq_false] at hs
       obtain ⟨j, hj, hj2⟩ := hs
       exact ⟨j, by simp at hj ⊢; omega, hj2⟩
     ·obtain rfl : k = p.length := by omega
      rw [cnd_df (by omega), hs]
   refine (key N 0 true (by omega) (by omega) (by simp)).trans ?_
   congr 1
   rw [Bool.eq_iff_iff, List.all_eq_true, decide_eq_true_eq]
   constructor
   ·intro hh
    apply List.ext_getElem hl
    intro j h1 h2
    have := hh j (by simpa using h2)
    have g1 : (P.getD i []).getD j (0, 0) = (P.getD i [])[j] := by rw [List.getD_eq_getElem?_getD, List.getElem?_eq_getElem h1]; rfl
    have g2 : p.getD j (0, 0) = p[j] := by rw [List.getD_eq_getElem?_getD, List.getElem?_eq_getElem h2]; rfl
    rw [g1, g2] at this
    simpa using this
   ·intro hh j hj; rw [hh]; simp
  ·have hb : ((((P.getD i []).length : Int)) == (p.length : Int)) = false := by rw [beq_eq_false_iff_ne]; omega
   rw [hb, decide_eq_false (fun e => hl (by rw [e]))]
   obtain ⟨M, rfl⟩ : ∃ M, N = M + 1 := ⟨N - 1, by omega⟩
   rw [S_IndexOfPose_l2, cnd_false, cnd_same]
 have key : ∀ (fuel g i : Nat), i ≤ P.length → P.length < fuel + i → P.length < g + i → S_IndexOfPose_l1 N P p (fun (_ : Unit) => some (-1 : Int)) fuel (i : Int) = some (idxP P p g i) := by
  intro fuel
  induction fuel with
  | zero => intro g i h1 h2; omega
  | succ fuel ih =>
   intro g i h1 h2 h3
   obtain ⟨g, rfl⟩ : ∃ g', g = g' + 1 := ⟨g - 1, by omega⟩
   rw [S_IndexOfPose_l1, idxP]
   by_cases hi : i < P.length
   ·rw [cnd_dt (by omega), cnd_dt hi, grd_pos (by omega), l2 i hi]
    by_cases hq : P.getD i [] = p
    ·rw [cnd_dt hq, cnd_dt hq]
    ·rw [cnd_df hq, cnd_df hq, grd_R (by omega) (by omega), succ_cast]
     exact ih g (i + 1) (by omega) (by omega) (by omega)
   ·rw [cnd_df (by omega), cnd_df hi]
 exact key N _ 0 (by omega) (by omega) (by omega)
end Go.Proofs.Ytcljhpldfanhkaa
namespace Go.Proofs.Ytcljhpldfanhkaa
open Go.RowKit Go.Deep
section
variable {C : Cx} {o : Oper} {s : PS}
end
end Go.Proofs.Ytcljhpldfanhkaa
namespace Go.Proofs.Ytcljhpldfanhkaa
open Go.RowKit Go.Deep
section
variable {C : Cx} {ops : Array Oper} {K : PS → Prop} {o : Oper} {rest : List Oper} {s : PS} {TT : List (Nat × Ty)} {tm : List (Nat × D)} {rw' : List (Nat × Option (TypeId × Sq))} {bx : List (Nat × Option (List D))} {cr B : List Nat} {j : Nat}
theorem pConvI {src dst : TypeId} {x : Operand} {n : Int} {dsrc : TypeDesc} (hs : C.P.underlying src = some dsrc) (hd : C.P.underlying dst = some (.int .i64)) (hop : o.op = .convert src dst x) (hx : s.ev x = .val (.int .u8 n)) (hn : 0 ≤ n ∧ n < 256) : Pur C o s (.int n) :=
 ⟨fun s1 hs1 M ac w hr' => by
  have h1 := hr'.ev x
  rw [hs1 x (by rw [hop]; simp [Op.operands]), hx] at h1
  have e1 : ac.eval x = .int .u8 n := by generalize ac.eval x = v at h1; cases h1; rfl
  have hw : IntKind.i64.wrap n = n := by
   have h2 : (2 : Int) ^ IntKind.i64.bits = 18446744073709551616 := by decide
   have h3 : (2 : Int) ^ (IntKind.i64.bits - 1) = 9223372036854775808 := by decide
   simp only [IntKind.wrap, h2, h3]
   have h4 : n % 18446744073709551616 = n := by omega
   rw [h4, if_neg]
   simp; intro; omega
  refine ⟨.int .i64 n, ?_, .int _⟩
  have hrun : (convert src dst (ac.eval x)).run C.P w = .ok (.int .i64 n) w := by
   rw [e1]
   cases dsrc <;> simp [convert, Go.run_underlying hs, Go.run_underlying hd, Conv.intToInt, go_sem, hw]
  unfold execOp
  rw [hop]
  show ((do pure (Next.value (← convert src dst (ac.eval x))) : Sem Next)).run C.P w = _
  rw [Sem.run_bind, hrun]; rfl⟩
def updR (i off : Nat) : Sq → Nat → List D → Option Sq
 | q, _, [] => some q
 | q, k, d :: l => match d.one with | true => (match q.set i (off + k) d with | some q' => updR i off q' (k + 1) l | none => none) | false => none
theorem updR_ok {r off : Nat} {i : Int} {e : TypeId} (hF : notF r = true) : ∀ {l : List D} {q q' : Sq} {k : Nat} {s : PS}, s.r r = some (e, q) → 0 ≤ i ∧ i < q.len → updR i.toNat off q k l = some q' → ∃ (ob : Prop) (s' : PS), ob ∧ wrL s (.eptr r i off) k l = some (ob, s') ∧ (∀ x, s'.t x = s.t x) ∧ (∀ x, s'.r x = if r = x then some (e, q') else s.r x) ∧ ∀ b, s'.b b = s.b b
 | [], q, q', k, s, hr, hi, h => by
  simp only [updR, Option.some.injEq] at h
  subst h
  refine ⟨True, s, trivial, rfl, fun _ => rfl, fun x => ?_, fun _ => rfl⟩
  split
  ·rename_i he; subst he; exact hr
  ·rfl
 | d :: l, q, q', k, s, hr, hi, h => by
  simp only [updR] at h
  split at h
  ·rename_i h1
   split at h
   ·rename_i q1 h2
    have hl := (Sq.set_ok h2).1
    obtain ⟨ob, s', g1, g2, g3, g4, g5⟩ := updR_ok hF (s := s.setR r (some (e, q1))) (i := i) (by rw [PS.r_setR _ _ _ _ hF, if_pos rfl]) (by rw [hl]; exact hi) h
    refine ⟨(0 ≤ i ∧ i < q.len) ∧ ob, s', ⟨hi, g1⟩, ?_, g3, fun x => ?_, g5⟩
    ·simp only [wrL, wr, h1, hF, hr, h2, g2]
    ·rw [g4 x, PS.r_setR _ _ _ _ hF]
     split <;> rfl
   ·cases h
  ·cases h
theorem PS.ap_eq0 (s : PS) (d : D) (rows : List (Nat × Option (TypeId × Sq))) (boxes : List (Nat × Option (List D))) (h : rowsN rows = rows) : s.ap none ⟨d, rows, boxes⟩ = ⟨s.tmp, rows ++ s.row, boxes ++ s.box⟩ := by
 unfold PS.ap Ef.rn
 rw [show (Ef.mk d rows boxes).rows = rows from rfl, h]
theorem nStoreR (hT : TTOK C.P TT) (hw : Wanted C ops o ⟨tm, rw', bx⟩) {t e : TypeId} {p x : Operand} {y : Ty} {r off : Nat} {i : Int} {d : D} {q q1 q' : Sq} (hop : o.op = .store t p x) (hd : o.dst = none) (hy : look TT t = some y) (hp : (PS.ev ⟨tm, rw', bx⟩ p) = .eptr r i off) (hx : (fcD (PS.ev ⟨tm, rw', bx⟩ x) some) = some d) (hfl : d.flat = true) (hsz : Nat.beq d.cells.length (tySize y) = true)
  (hr : (PS.r ⟨tm, rw', bx⟩ r) = some (e, q)) (hu : updR i.toNat off q 0 d.cells = some q1) (hq : fcQ q1 some = some q') (hvis : visB ops cr B j ⟨tm, rw', bx⟩ [p] = true) (hck : chkE ops cr B j ⟨.tup [], [(r, some (e, q'))], []⟩ = true) (hF : notF r = true) (hi : 0 ≤ i ∧ i < q.len)
  (h : QN C ops cr B K (j + 1) rest ⟨tm, (r, some (e, q')) :: rw', bx⟩) : QN C ops cr B K j (o :: rest) ⟨tm, rw', bx⟩ := by
 rw [fcD_eq] at hx
 rw [fcQ_eq] at hq
 cases hx
 cases hq
 refine nStep (e := ⟨.tup [], [(r, some (e, _))], []⟩) hw hck (fun s1 hag => ?_) (by rw [hd, PS.ap_eq0 _ _ _ _ (rowsN_one hF)]; exact h)
 have e1 := hag.ev p (by rw [hop]; simp [Op.operands])
 have e2 := hag.ev x (by rw [hop]; simp [Op.operands])
 have s1p := hag.same hvis p (by simp)
 rw [hp] at s1p
 have hr1 : s1.r r = some (e, q) := by rw [s1p.eptr]; exact hr
 obtain ⟨ob, s', g1, g2, g3, g4, g5⟩ := updR_ok hF (s := s1) (off := off) hr1 hi hu
 refine Step.same (sStore hT hop hd hy (e1.trans hp) e2 hfl hsz g2 ⟨e, q, hr1, hi.1, hi.2⟩ g1 ⟨_, rfl, fun x => ?_, fun r' => ?_, fun c => ?_⟩)
 ·rw [PS.t_ap, hd]; exact (g3 x).symm
 ·rw [hd, PS.ap_eq0 _ _ _ _ (rowsN_one hF), g4]
  exact PS.r_setR s1 r (some (e, q1)) r' hF
 ·rw [PS.b_ap, g5]; rfl
end
end Go.Proofs.Ytcljhpldfanhkaa
namespace Go.Proofs.Ytcljhpldfanhkaa
open Go.RowKit Go.Deep
section
variable {C : Cx} {ops : Array Oper} {K : PS → Prop} {o : Oper} {rest : List Oper} {s s' : PS} {TT : List (Nat × Ty)} {tm : List (Nat × D)} {rw' : List (Nat × Option (TypeId × Sq))} {bx : List (Nat × Option (List D))} {cr B : List Nat} {j : Nat}
theorem swI (F : Nat) (X : List (List Int)) {i k : Nat} (hi : i < X.length) (hk : k < X.length) : ReOK F (.irefs F (((idn X).set i (k, (X.getD k []).length)).set k (i, (X.getD i []).length))) (.ints (X.map some)) (.intss ((X.set i (X.getD k [])).set k (X.getD i []))) := by
 have hraw : ∀ p, (((idn X).set i (k, (X.getD k []).length)).set k (i, (X.getD i []).length)).getD p (NIL, 0) = if p = k then (i, (X.getD i []).length) else if p = i then (k, (X.getD k []).length) else (idn X).getD p (NIL, 0) := fun p => by
  rw [getD_set_eq _ _ _ _ _ (by rw [List.length_set, idn_len]; exact hk), getD_set_eq _ _ _ _ _ (by rw [idn_len]; exact hi)]
 have hX : ∀ p, ((X.set i (X.getD k [])).set k (X.getD i [])).getD p [] = X.getD (if p = k then i else if p = i then k else p) [] := fun p => by
  rw [getD_set_eq _ _ _ _ _ (by rw [List.length_set]; exact hk), getD_set_eq _ _ _ _ _ hi]
  split
  ·rfl
  ·split <;> rfl
 have hlen : ((X.set i (X.getD k [])).set k (X.getD i [])).length = X.length := by simp
 refine ⟨rfl, by simp [Sq.len, idn_len], rfl, fun p => if p = k then i else if p = i then k else p, fun p hp => ?_, fun p p' hp hp' e => ?_, fun p x nn hp => ?_⟩
 ·have hp : p < ((X.set i (X.getD k [])).set k (X.getD i [])).length := hp
  rw [hlen] at hp
  have g1 : (if p = k then i else if p = i then k else p) < X.length := by
   split
   ·exact hi
   ·split
    ·exact hk
    ·exact hp
  simp only [Fq.get, Sq.nn]
  rw [getD_map_some, hX p, List.getElem?_eq_getElem g1, List.getD_eq_getElem?_getD, List.getElem?_eq_getElem g1]
  rfl
 ·dsimp only at e
  split at e <;> split at e <;> (try split at e) <;> (try split at e) <;> omega
 ·have hp : p < ((X.set i (X.getD k [])).set k (X.getD i [])).length := hp
  have a1 : (Sq.irefs F (((idn X).set i (k, (X.getD k []).length)).set k (i, (X.getD i []).length))).relem p = [.irow F (if p = k then i else if p = i then k else p) (X.getD (if p = k then i else if p = i then k else p) []).length] := by
   simp only [Sq.relem]
   rw [hraw p]
   split
   ·rfl
   ·split
    ·rfl
    ·rw [idn_get X _ (by rw [hlen] at hp; exact hp)]
  have a2 : (dR F (.intss ((X.set i (X.getD k [])).set k (X.getD i [])))).relem p = [.irow F p (X.getD (if p = k then i else if p = i then k else p) []).length] := by
   simp only [dR, Sq.relem]
   rw [idn_get _ _ hp, hX p]
  rw [a1, a2]
  cases x with
  | zero => exact ⟨fun h => by simp at h ⊢; exact h, fun x h => by simp at h⟩
  | succ x => exact ⟨fun h => by simp at h, fun x h => by simp at h⟩
end
end Go.Proofs.Ytcljhpldfanhkaa
namespace Go.Proofs.Ytcljhpldfanhkaa
open Go.RowKit Go.Deep
structure PCallB (P : Program) (f : FuncId) (ds cs : List D) : Prop where
 enter : ∀ args w, (callFunc f args).run P w = .ok (.enter f args) w
 noc : (cs.all fun d => !mentS (fun _ => true) (fun _ => true) d) = true
 run : ∀ w args (A : Bool → Nat → Prop), (∀ k, A true k → A false k) → ArgsM A M0 w ds args → Calls P f args w fun e w' => ∃ k cur et, e = .returned (.pointer (some ⟨k, 0, none⟩)) ∧ w.heap.size ≤ k ∧ w'.heap[k]? = some (.cells cur et (0, 0)) ∧ cs.length = cur.size ∧
  (∀ j d, cs[j]? = some d → VR M0 (fun f b => (A f b ∨ w.heap.size ≤ b) ∧ b ≠ k) w' d (cur.getD j undef)) ∧ w'.os = w.os ∧ w'.tape = w.tape ∧ w'.output = w.output ∧ w.heap.size ≤ w'.heap.size ∧ ∀ i, i < w.heap.size → w'.heap[i]? = w.heap[i]?
section
variable {w0 : World} {O0 : Hd} {n : Nat} {M : Mp} {s : PS} {a : Act} {w w' : World}
theorem Rel.newBoxAt (h : Rel w0 O0 n M s a w) {b k0 : Nat} {cs : List D} {cur : Array Value} {e : TypeId} (hsz : w.heap.size ≤ w'.heap.size) (hblk : ∀ k, k < w.heap.size → w'.heap[k]? = w.heap[k]?) (hos : w'.os = w.os) (htp : w'.tape = w.tape) (hout : w'.output = w.output) (hk0 : w.heap.size ≤ k0) (hcell : w'.heap[k0]? = some (.cells cur e (0, 0)))
  (hf : Fresh s (fun x => Nat.beq x b) (fun _ => false)) (hl : cs.length = cur.size) (hc : ∀ j d, cs[j]? = some d → VR M0 (fun f k => (Ow (Fs w0 O0) M f k ∨ w.heap.size ≤ k) ∧ k ≠ k0) w' d (cur.getD j undef)) (hm : ∀ d ∈ cs, mentS (fun _ => true) (fun _ => true) d = false) (hlo : b < 1000000) :
  ∃ M', Rel w0 O0 n M' (s.addBox b cs) a w' ∧ M'.β b = some k0 := by
 let M' : Mp := ⟨fun x => if x = b then some k0 else M.β x, M.γ⟩
 have hown : ∀ k, M'.owned k → M.owned k ∨ k = k0 := by
  rintro k (⟨x, hx⟩ | ⟨r, c, z, hr⟩)
  ·simp only [M'] at hx
   split at hx
   ·cases hx; exact .inr rfl
   ·exact .inl (.inl ⟨x, hx⟩)
  ·exact .inl (.inr ⟨r, c, z, hr⟩)
 have hA : ∀ f k, k < w.heap.size → Ow (Fs w0 O0) M f k → Ow (Fs w0 O0) M' f k ∧ k < w'.heap.size ∧ w'.heap[k]? = w.heap[k]? := fun f k h1 h2 =>
  ⟨⟨fun h3 => by rcases hown k h3 with h4 | h4; exact h2.1 h4; omega, h2.2⟩, by omega, hblk k h1⟩
 have hA1 : ∀ f k, k < w'.heap.size → ((Ow (Fs w0 O0) M f k ∨ w.heap.size ≤ k) ∧ k ≠ k0) → Ow (Fs w0 O0) M' f k ∧ k < w'.heap.size ∧ w'.heap[k]? = w'.heap[k]? := fun f k h1 ⟨h2, h5⟩ => by
  refine ⟨⟨fun h3 => ?_, ?_⟩, h1, rfl⟩
  ·rcases hown k h3 with h4 | h4
   ·rcases h2 with h2 | h2
    ·exact h2.1 h4
    ·have := h.lt k h4; omega
   ·exact h5 h4
  ·rcases h2 with h2 | h2
   ·exact h2.2
   ·exact .inl (Nat.le_trans h.fr.size h2)
 have hβ : ∀ x k, Nat.beq x b = false → M'.β x = some k → M.β x = some k := fun x k h1 h2 => by
  simp only [M'] at h2
  rw [if_neg] at h2
  ·exact h2
  ·intro e; subst e; rw [Nat.beq_refl] at h1; cases h1
 have hγ : ∀ x y, (fun _ => false) x = false → M'.γ x = some y → M.γ x = some y := fun x y _ h => h
 refine ⟨M', ⟨?_, h.dfr, h.sz, fun t => ?_, fun x ds hx => ?_, fun x hx => ?_, fun r e q hr => ?_, fun r hr => h.rown r hr, fun k hk => ?_, fun x x' k h1 h2 => ?_, h.inj2, fun x r k c z h1 h2 => ?_, h.nle, fun x k k' h1 h2 => ?_, h.fxr⟩, by simp [M']⟩
 ·exact h.fr.step hos htp hout hsz fun k h1 _ => hblk k (Nat.lt_of_lt_of_le h1 h.fr.size)
 ·exact VR.new hA hγ hβ (hf.t t) (h.tmp t)
 ·by_cases hxb : b = x
  ·subst hxb
   simp [PS.addBox, PS.b, look_cons_self] at hx
   subst hx
   exact ⟨k0, cur, e, by simp [M'], hcell, hl, fun j d hd => VR.newS (b := fun _ => true) (r := fun _ => true) hA1 (fun x y hx => by cases hx) (fun x y hx => by cases hx) (hm d (List.mem_of_getElem? hd)) (hc j d hd)⟩
  ·have hx' : s.b x = some ds := by simpa [PS.addBox, PS.b, look_cons_ne hxb] using hx
   obtain ⟨k, cur', e', h1, h2, h3, h4⟩ := h.box x ds hx'
   have hlt := (Array.getElem?_eq_some_iff.1 h2).1
   exact ⟨k, cur', e', by simp [M', Ne.symm hxb, h1], (hblk k hlt).trans h2, h3, fun j d hd => VR.newS hA hγ hβ (hf.b _ _ hx' d (List.mem_of_getElem? hd)) (h4 j d hd)⟩
 ·by_cases hxb : b = x
  ·subst hxb; simp [PS.addBox, PS.b, look_cons_self] at hx
  ·have hx' : s.b x = none := by simpa [PS.addBox, PS.b, look_cons_ne hxb] using hx
   simp [M', Ne.symm hxb, h.boxn x hx']
 ·rcases h.row r e q hr with ⟨h1, h2⟩ | ⟨g, cap, cur', h1, h2, h3, h4, h5, h6⟩
  ·exact .inl ⟨h1, h2⟩
  ·have hlt := (Array.getElem?_eq_some_iff.1 h2).1
   exact .inr ⟨g, cap, cur', h1, (hblk g hlt).trans h2, h3, h4, h5, fun i j d hi hd => (h6 i j d hi hd).relem_any hd hA⟩
 ·rcases hown k hk with h1 | rfl
  ·exact h.low k h1
  ·exact .inl (Nat.le_trans h.fr.size hk0)
 ·have hno : ∀ y, M.β y ≠ some k0 := fun y hy => by have := h.lt _ (.inl ⟨y, hy⟩); omega
  simp only [M'] at h1 h2
  split at h1 <;> split at h2
  ·simp_all
  ·cases h1; exact absurd h2 (hno _)
  ·cases h2; exact absurd h1 (hno _)
  ·exact h.inj1 _ _ _ h1 h2
 ·simp only [M'] at h1
  split at h1
  ·cases h1; have := h.lt _ (.inr ⟨r, c, z, h2⟩); omega
  ·exact h.inj3 _ _ _ _ _ h1 h2
 ·have h3 := O0.lob x k h1
  simp only [M'] at h2
  rw [if_neg (by omega)] at h2
  exact h.fxb x k k' h1 h2
end
section
variable {C : Cx} {ops : Array Oper} {K : PS → Prop} {o : Oper} {rest : List Oper} {s s' : PS} {TT : List (Nat × Ty)} {tm : List (Nat × D)} {rw' : List (Nat × Option (TypeId × Sq))} {bx : List (Nat × Option (List D))}
def fitsB (s : PS) : List Operand → List D → Prop
 | [], [] => True
 | x :: xs, d :: ds => s.ev x = d ∧ noIds d = true ∧ fitsB s xs ds
 | _, _ => False
theorem fitsB_get {s : PS} : ∀ {xs : List Operand} {ds : List D}, fitsB s xs ds → xs.length = ds.length ∧ ∀ (i : Nat) (d : D), ds[i]? = some d → ∃ x : Operand, xs[i]? = some x ∧ s.ev x = d ∧ noIds d = true
 | [], [], _ => ⟨rfl, fun i d h => by simp at h⟩
 | x :: xs, d :: ds, h => by
  obtain ⟨h1, h2, h3⟩ := h
  obtain ⟨h4, h5⟩ := fitsB_get h3
  refine ⟨by simp [h4], fun i e hi => ?_⟩
  cases i with
  | zero => simp at hi; subst hi; exact ⟨x, rfl, h1, h2⟩
  | succ i => simp at hi ⊢; exact h5 i e hi
theorem oCallB {f : FuncId} {args : Array Operand} {ts : Array TypeId} {ds cs : List D} (hp : PCallB C.P f ds cs) (hg : o.guard = none) (hop : o.op = .call { callee := .value (.func f), args := args, argTypes := ts }) {b : Nat} (hd : o.dst = some b) (hn : Nat.blt b C.n = true) (hfr : frB ⟨tm, rw', bx⟩ (fun y => Nat.beq y b) noB = true)
  (hfit : fitsB ⟨tm, rw', bx⟩ args.toList ds) (h : VO C ops K rest ⟨(b, .ptr b 0) :: tm, rw', (b, some cs) :: bx⟩) : VO C ops K (o :: rest) ⟨tm, rw', bx⟩ := by
 refine vOp hg ⟨fun M a w Q K' hr hk => ?_⟩
 have hrun : (execOp a.eval o).run C.P w = .ok (.enter f (args.map a.eval)) w := by
  have := hp.enter (args.map a.eval) w
  unfold execOp
  rw [hop]
  show ((do let d ← resolve a.eval _ o.type; invoke d.target d.args : Sem Next)).run C.P w = _
  simp only [resolve]
  show ((callFunc f ((#[] ++ args.map a.eval) ++ #[])) : Sem Next).run C.P w = _
  rw [show (#[] ++ args.map a.eval) ++ #[] = args.map a.eval by simp]
  exact this
 obtain ⟨g1, g2⟩ := fitsB_get hfit
 have hargs : ArgsM (Ow (Fs C.w0 C.O0) M) M0 w ds (args.map a.eval) := by
  refine ⟨by simpa using g1, fun i d hi => ?_⟩
  obtain ⟨x, hx, hev, hno⟩ := g2 i d hi
  have h1 := hr.ev x
  rw [hev] at h1
  have h2 : (args.map a.eval).getD i undef = a.eval x := by
   have : args[i]? = some x := by simpa using hx
   simp [this]
  rw [h2]
  refine VR.new (b := fun _ => true) (r := fun _ => true) (fun f k h1 h2 => ⟨h2, h1, rfl⟩) (fun x y hx => by cases hx) (fun x y hx => by cases hx) ?_ h1
  simpa [noIds] using hno
 unfold Oper.wp
 rw [hrun]
 refine (hp.run w _ (Ow (Fs C.w0 C.O0) M) (fun k hk => ⟨hk.1, hk.2.imp_right (C.O0.mon k)⟩) hargs).mono ?_
 rintro e w' ⟨k, cur, et, rfl, k1, k2, k3, k4, k5, k6, k7, k8, k9⟩
 have hlo : b < 1000000 := by have h1000 := hr.nle; rw [Nat.blt_eq] at hn; omega
 obtain ⟨M', h2, h3⟩ := hr.newBoxAt (b := b) (k0 := k) (cs := cs) k8 k9 k5 k6 k7 k1 k2 (frB_ok hfr) k3 (fun j d hj => k4 j d hj) (fun d hd => by have := (List.all_eq_true.1 hp.noc) d hd; simpa using this) hlo
 refine hk M' _ _ _ h ?_
 rw [hd]
 exact h2.put (o := some b) hn (.ptr _ _ _ rfl fun k hk => by rw [h3] at hk; cases hk; rfl)
end
def RetB (TT : List (Nat × Ty)) (res : List ResultVar) (cs : List D) : Exit → PS → Prop := fun e s => match e with
 | .normal | .ret => ∃ b, retD TT s res = some (.ptr b 0) ∧ s.b b = some cs ∧ Nat.blt b 1000000 = true
 | _ => False
theorem pcallB_intro {P : Program} {f : FuncId} {fn : Func} {c : Code} {TT : List (Nat × Ty)} {ds cs : List D} {n : Nat} {res : List ResultVar} (hT : TTOK P TT) (hf : P.funcs[f]? = some fn) (hb : fn.body = some c)
  (hname : (fn.name == "runtime.NumGoroutine") = false) (hn : fn.ntmps = n) (hres : fn.results.toList = res) (hds : Nat.ble ds.length n = true) (hno : (ds.all noIds) = true) (hnoc : (cs.all fun d => !mentS (fun _ => true) (fun _ => true) d) = true)
  (h : ∀ w0 O0, VC ⟨P, w0, O0, n⟩ c (RetB TT res cs) ⟨entL 0 ds, [], []⟩) (hn1000 : Nat.ble n 1000 = true := by rfl) : PCallB P f ds cs := by
 subst hn hres
 refine ⟨callFunc_of hf hname (by simp [hb]), hnoc, fun w0 args A hmon ⟨hsz, hargs⟩ => ?_⟩
 have hle := Nat.le_of_ble_eq_true hds
 let O0 : Hd := ⟨fun _ => False, fun f k => A f k, fun _ _ h => h.elim, hmon, fun _ => none, fun _ => none, fun _ _ h => (by cases h), fun _ _ h => (by cases h)⟩
 have hM0 : ∀ k, ¬ M0.owned k := by rintro k (⟨x, hx⟩ | ⟨x, c, z, hx⟩) <;> simp at hx
 have hent : Rel w0 O0 fn.ntmps M0 ⟨entL 0 ds, [], []⟩ { tmps := args ++ Array.replicate (fn.ntmps - args.size) undef, defers := [] } w0 := by
  refine ⟨⟨rfl, rfl, rfl, Nat.le_refl _, fun _ _ _ => rfl⟩, rfl, by simp; omega, fun t => ?_, fun b cs hb => by simp [PS.b, look] at hb, fun _ _ => rfl, fun r e q hr => (by rw [r_ent] at hr; cases hr), fun _ _ => rfl, fun k hk => absurd hk (hM0 k), by simp, by simp, by simp, Nat.le_of_ble_eq_true hn1000, fun b k k' h => by simp [O0] at h, fun b k k' h => by simp [O0] at h⟩
  simp only [PS.t, look_entL, Nat.zero_le, if_true, Nat.sub_zero]
  cases hd : ds[t]? with
  | none => exact .dead _
  | some d0 =>
   have hlt : t < args.size := by rw [hsz]; exact (List.getElem?_eq_some_iff.1 hd).1
   have h1 := hargs t d0 hd
   have h2 : (args ++ Array.replicate (fn.ntmps - args.size) undef).getD t undef = args.getD t undef := by
    simp [Array.getElem?_append_left hlt]
   rw [h2]
   exact h1.mono (fun f b h1 h2 => ⟨⟨hM0 b, .inr h2⟩, h1, rfl⟩) (fun _ _ h => h) (fun _ _ h => h)
 refine calls_of_wp hf hb (Code.wp_mono ?_ ((h w0 O0).out M0 _ w0 hent))
 rintro e a' w' ⟨s', M', hq, hr⟩
 have fin : ∀ (hq : ∃ b, retD TT s' fn.results.toList = some (.ptr b 0) ∧ s'.b b = some cs ∧ Nat.blt b 1000000 = true),
   a'.defers = [] ∧ ∃ v, (results fn a'.tmps).run P w' = .ok v w' ∧ ∃ k cur et, Ending.returned v = .returned (.pointer (some ⟨k, 0, none⟩)) ∧ w0.heap.size ≤ k ∧ w'.heap[k]? = some (.cells cur et (0, 0)) ∧ cs.length = cur.size ∧
    (∀ j d, cs[j]? = some d → VR M0 (fun f b => (A f b ∨ w0.heap.size ≤ b) ∧ b ≠ k) w' d (cur.getD j undef)) ∧ w'.os = w0.os ∧ w'.tape = w0.tape ∧ w'.output = w0.output ∧ w0.heap.size ≤ w'.heap.size ∧ ∀ i, i < w0.heap.size → w'.heap[i]? = w0.heap[i]? := by
  rintro ⟨b, h1, h2, h3⟩
  obtain ⟨v, h6, h7⟩ := ret_ok hT hr h1
  obtain ⟨k, cur, et, g1, g2, g3, g4⟩ := hr.box b cs h2
  have hv : v = .pointer (some ⟨k, 0, none⟩) := by
   cases h7 with
   | ptr _ _ _ _ h8 => exact h8 k g1
  refine ⟨hr.dfr, v, h6, k, cur, et, by rw [hv], (hr.low k (.inl ⟨b, g1⟩)).resolve_right (fun h => h), g2, g3, fun j d hj => ?_, hr.fr.os, hr.fr.tape, hr.fr.output, hr.fr.size, fun i hi => hr.fr.block i hi (fun h => h)⟩
  have hmm := (List.all_eq_true.1 hnoc) d (List.mem_of_getElem? hj)
  refine VR.newS (b := fun _ => true) (r := fun _ => true) (fun f i h1 h2 => ⟨⟨?_, fun e => h2.1 (by rw [e]; exact .inl ⟨b, g1⟩)⟩, h1, rfl⟩) (fun x y hx => by cases hx) (fun x y hx => by cases hx) (by simpa using hmm) (g4 j d hj)
  rcases h2.2 with h3 | h3
  ·exact .inr h3
  ·exact .inl h3
 cases e <;> first | exact fin hq | exact hq.elim
end Go.Proofs.Ytcljhpldfanhkaa
namespace Go.Proofs.Ytcljhpldfanhkaa
open Go.RowKit Go.Deep
structure Cur where
 b : List Int
 i : Int
 h : Int
def xorI (a b : Int) : Int := IntKind.i64.wrap ((BitVec.ofInt 64 a ^^^ BitVec.ofInt 64 b).toNat : Int)
section
variable {C : Cx} {ops : Array Oper} {K : PS → Prop} {o : Oper} {rest : List Oper} {s : PS} {tm : List (Nat × D)} {rw' : List (Nat × Option (TypeId × Sq))} {bx : List (Nat × Option (List D))}
theorem pXor {t u : TypeId} {x y : Operand} {a b : Int} (hop : o.op = .binOp .xor t x y u) (hx : s.ev x = .int a) (hy : s.ev y = .int b) : Pur C o s (.int (xorI a b)) :=
 ⟨fun s1 hs M ac w hr' => by
  have h1 := hr'.ev x
  have h2 := hr'.ev y
  rw [hs x (by rw [hop]; simp [Op.operands]), hx] at h1
  rw [hs y (by rw [hop]; simp [Op.operands]), hy] at h2
  have e1 := h1.int_inv
  have e2 := h2.int_inv
  refine ⟨.int .i64 (xorI a b), ?_, .int _⟩
  simp only [execOp, hop, e1, e2]
  simp [eqGuard, binOp, Op.intBits, go_sem, IntKind.bits]
  rfl⟩
theorem pShrU {t u : TypeId} {x y : Operand} {a n : Int} (hop : o.op = .binOp .shr t x y u) (hx : s.ev x = .int a) (hy : s.ev y = .val (.int .u64 n)) (hn : 0 ≤ n) : Pur C o s (.int (shrI a n)) :=
 ⟨fun s1 hs M ac w hr' => by
  have h1 := hr'.ev x
  have h2 := hr'.ev y
  rw [hs x (by rw [hop]; simp [Op.operands]), hx] at h1
  rw [hs y (by rw [hop]; simp [Op.operands]), hy] at h2
  have e1 := h1.int_inv
  have e2 : ac.eval y = .int .u64 n := by generalize ac.eval y = v at h2; cases h2; rfl
  have h4 : ¬ n < 0 := by omega
  refine ⟨.int .i64 (shrI a n), ?_, .int _⟩
  simp only [execOp, hop, e1, e2]
  simp [eqGuard, binOp, Op.shift, go_sem, h4, IntKind.bits]
  rfl⟩
theorem En.zero (r : Nat) (e : TypeId) (q : Sq) (hq : q.len = 0) (hf : frB ⟨tm, rw', bx⟩ noB (isR r) = true) (hr : Nat.blt r 1000000 = true := by rfl) : En C ⟨tm, rw', bx⟩ ⟨tm, (r, some (e, q)) :: rw', bx⟩ := ⟨fun M a w h => by
 rw [Nat.blt_eq] at hr
 obtain ⟨M', h1, _⟩ := h.nilRow (r := r) (e := e) (q := q) hq (frB_ok hf) hr
 exact ⟨M', h1⟩⟩
end
end Go.Proofs.Ytcljhpldfanhkaa
namespace Go.Proofs.Ytcljhpldfanhkaa
open Go.RowKit
def S_l2Put_l1 (N : Nat) (g_0 : Grf) (x_1 : Int × Int) (k : ((List (Int × Int)) × Bool) → Option (Grf)) : Nat → ((List (Int × Int)) × Bool × Int) → Option (Grf)
 | 0, _ => none
 | n + 1, (l17, placed18, i19) =>
  cnd (decide (i19 < (g_0.bars.length : Int))) (
   cnd (!placed18) (
    grd (0 ≤ i19 ∧ i19 < (g_0.bars.length : Int)) <|
    (S_l2After N (g_0.bars.getD ((i19).toNat) (0, 0)) x_1).bind fun v21 =>
    cnd (!v21) (
     grd (l17.length + 1 ≤ 4294967296) <|
     grd ((l17 ++ ([(x_1.1, x_1.2)] : List (Int × Int))).length + 1 ≤ 4294967296) <|
     grd (Rg64 (i19 + (1 : Int))) <|
     S_l2Put_l1 N g_0 x_1 k n (((l17 ++ ([(x_1.1, x_1.2)] : List (Int × Int))) ++ ([((g_0.bars.getD ((i19).toNat) (0, 0)).1, (g_0.bars.getD ((i19).toNat) (0, 0)).2)] : List (Int × Int))), true, (i19 + (1 : Int)))) (
     grd (l17.length + 1 ≤ 4294967296) <|
     grd (Rg64 (i19 + (1 : Int))) <|
     S_l2Put_l1 N g_0 x_1 k n ((l17 ++ ([((g_0.bars.getD ((i19).toNat) (0, 0)).1, (g_0.bars.getD ((i19).toNat) (0, 0)).2)] : List (Int × Int))), placed18, (i19 + (1 : Int))))) (
    grd (0 ≤ i19 ∧ i19 < (g_0.bars.length : Int)) <|
    grd (l17.length + 1 ≤ 4294967296) <|
    grd (Rg64 (i19 + (1 : Int))) <|
    S_l2Put_l1 N g_0 x_1 k n ((l17 ++ ([((g_0.bars.getD ((i19).toNat) (0, 0)).1, (g_0.bars.getD ((i19).toNat) (0, 0)).2)] : List (Int × Int))), placed18, (i19 + (1 : Int))))) (
   k (l17, placed18))
def S_l2Put (N : Nat) (g_0 : Grf) (x_1 : Int × Int) : Option (Grf) :=
 S_l2Put_l1 N g_0 x_1 (fun (x : (List (Int × Int)) × Bool) =>
   match x with
   | (l10, placed11) =>
    cnd (!placed11) (
     grd (l10.length + 1 ≤ 4294967296) <|
     some (⟨g_0.n, (l10 ++ ([(x_1.1, x_1.2)] : List (Int × Int)))⟩ : Grf)) (
     some (⟨g_0.n, l10⟩ : Grf))) N (([] : List (Int × Int)), false, (0 : Int))
set_option maxRecDepth 20000 in
set_option maxHeartbeats 1600000 in
theorem S_l2Put_w (N : Nat) (g_0 : Grf) (x_1 : Int × Int) (r : Grf) (h : S_l2Put N g_0 x_1 = some r) : PCall Try.prog 177 [gD g_0, .agg [.int x_1.1, .int x_1.2]] [(111, .pairs r.bars)] (.agg [.int r.n, .row 0 0 r.bars.length]) := by
 unfold S_l2Put at h
 refine pcall_intro (TT := TT) tt Try.func177 rfl rfl Try.ntmps177 (congrArg Array.toList Try.results177) rfl rfl fun w0 => ?_
 refine vSeq ?_
 refine vRegion ?_
 iterate 2 refine oBox rfl rfl rfl rfl rfl rfl rfl rfl rfl ?_
 refine oAlloc tt rfl rfl rfl rfl rfl rfl rfl rfl rfl ?_
 refine vNil ?_
 change VC _ _ _ _
 refine vSeq ?_
 refine vRegion ?_
 iterate 2 refine oVal tt rfl rfl rfl rfl rfl trivial ?_
 refine oEmpty tt (wNone rfl) rfl rfl rfl rfl ?_
 refine oPure (wNone rfl) (pBuild bld_impl_Graph rfl rfl) rfl rfl ?_
 refine oAlloc tt rfl rfl rfl rfl rfl rfl rfl rfl rfl ?_
 refine oStore tt rfl rfl rfl rfl rfl rfl rfl rfl rfl rfl rfl ⟨trivial, trivial, trivial⟩ ?_
 refine vNil ?_
 change VC _ _ _ _
 refine vSeq ?_
 refine vRegion ?_
 refine oVal tt rfl rfl rfl rfl rfl trivial ?_
 refine vNil ?_
 change VC _ _ _ _
 iterate 2 refine vSeq ?_
 refine vRegion ?_
 refine oVal tt rfl rfl rfl rfl rfl trivial ?_
 refine vNil ?_
 change VC _ _ _ _
 refine vJoin (F := fun k => S_l2Put_l1 N g_0 x_1 k) h (α := (List (Int × Int)) × Bool) (J := fun | (l10, placed11) => (⟨[(3, .ptr 3 0), (4, .ptr 4 0), (5, .ptr 5 0), (6, .bool placed11)], [(35, some (111, .pairs l10))], [(3, some [.int x_1.1, .int x_1.2]), (4, some [.int (0 : Int), .nil]), (5, some [.int g_0.n, .row 35 0 l10.length])]⟩ : PS)) ?_ ?_
 ·rintro ⟨l10, placed11⟩ h
  show VC _ _ _ (⟨[(3, .ptr 3 0), (4, .ptr 4 0), (5, .ptr 5 0), (6, .bool placed11)], [(35, some (111, .pairs l10))], [(3, some [.int x_1.1, .int x_1.2]), (4, some [.int (0 : Int), .nil]), (5, some [.int g_0.n, .row 35 0 l10.length])]⟩ : PS)
  iterate 2 refine vSeq ?_
  refine vRegion ?_
  iterate 2 refine oVal tt rfl rfl rfl rfl rfl trivial ?_
  refine vNil ?_
  change VC _ _ _ _
  refine vCond rfl (fun hb1 => ?_) (fun hb1 => ?_)
  ·replace h := cnd_t hb1 h
   refine vRegion ?_
   iterate 3 refine oVal tt rfl rfl rfl rfl rfl trivial ?_
   refine oBuild tt rfl rfl rfl rfl rfl rfl rfl rfl rfl rfl rfl ?_
   obtain ⟨hg2, h⟩ := grd_inv h
   refine oAppend tt rfl rfl rfl rfl rfl rfl rfl rfl rfl rfl rfl rfl rfl rfl rfl rfl (Nat.le_of_eq (Nat.zero_add _)) hg2 ?_
   refine oVal tt rfl rfl rfl rfl rfl trivial ?_
   refine oStore tt rfl rfl rfl rfl rfl rfl rfl rfl rfl rfl rfl ⟨trivial, trivial⟩ ?_
   refine vNil ?_
   change VC _ _ _ _
   refine vSeq ?_
   refine vRegion ?_
   refine oVal tt rfl rfl rfl rfl rfl trivial ?_
   refine oStore tt rfl rfl rfl rfl rfl rfl rfl rfl rfl rfl rfl ⟨trivial, trivial, trivial⟩ ?_
   refine vNil ?_
   change VC _ _ _ _
   refine vRet ?_
   change ∃ _, _
   cases h
   exact ⟨[35], _, rfl, ⟨rfl, trivial⟩, rfl, (.eq rfl), rfl⟩
  ·replace h := cnd_f hb1 h
   refine vSkip ?_
   change VC _ _ _ _
   refine vSeq ?_
   refine vRegion ?_
   refine oVal tt rfl rfl rfl rfl rfl trivial ?_
   refine oStore tt rfl rfl rfl rfl rfl rfl rfl rfl rfl rfl rfl ⟨trivial, trivial, trivial⟩ ?_
   refine vNil ?_
   change VC _ _ _ _
   refine vRet ?_
   change ∃ _, _
   cases h
   exact ⟨[35], _, rfl, ⟨rfl, trivial⟩, rfl, (.eq rfl), rfl⟩
 ·intro k h
  refine vBlock ?_
  refine vNilB 5 1 35 111 (.pairs []) rfl rfl rfl rfl rfl ?_
  refine vLoopS (α := (List (Int × Int)) × Bool × Int) (fun | (l17, placed18, i19) => (⟨[(2, .ptr 2 0), (3, .ptr 3 0), (4, .ptr 4 0), (5, .ptr 5 0), (6, .bool placed18), (7, .int i19)], [(35, some (111, .pairs l17))], [(2, some [.int g_0.n, .ro false (.pairs g_0.bars)]), (3, some [.int x_1.1, .int x_1.2]), (4, some [.int (0 : Int), .nil]), (5, some [.int g_0.n, .row 35 0 l17.length])]⟩ : PS)) (S_l2Put_l1 N g_0 x_1 k) h (En.of ⟨rfl, rfl, rfl, rfl, rfl, rfl, trivial⟩ ⟨rfl, trivial⟩ ⟨rfl, rfl, rfl, rfl, trivial⟩) (fun _ => rfl) ?_
  rintro n ⟨l17, placed18, i19⟩ h
  rw [S_l2Put_l1] at h
  show VC _ _ _ (⟨[(2, .ptr 2 0), (3, .ptr 3 0), (4, .ptr 4 0), (5, .ptr 5 0), (6, .bool placed18), (7, .int i19)], [(35, some (111, .pairs l17))], [(2, some [.int g_0.n, .ro false (.pairs g_0.bars)]), (3, some [.int x_1.1, .int x_1.2]), (4, some [.int (0 : Int), .nil]), (5, some [.int g_0.n, .row 35 0 l17.length])]⟩ : PS)
  iterate 2 refine vSeq ?_
  refine vRegion ?_
  iterate 5 refine oVal tt rfl rfl rfl rfl rfl trivial ?_
  refine vNil ?_
  change VC _ _ _ _
  refine vCond rfl (fun hb3 => ?_) (fun hb3 => ?_)
  ·replace h := cnd_t hb3 h
   refine vSkip ?_
   change VC _ _ _ _
   refine vSeq ?_
   refine vBlock ?_
   iterate 2 refine vSeq ?_
   refine vRegionD (by kernel_rfl) (by kernel_rfl) ?_
   iterate 3 refine cVal tt rfl (wNone rfl) rfl rfl rfl trivial ?_
   refine cSplit rfl rfl rfl (fun hb4 => ?_) (fun hb4 => ?_)
   ·replace h := cnd_t hb4 h
    iterate 3 refine cVal tt rfl (wSome rfl rfl rfl rfl hb4) rfl rfl rfl trivial ?_
    obtain ⟨hg5, h⟩ := grd_inv h
    refine cVal tt rfl (wSome rfl rfl rfl rfl hb4) rfl rfl rfl hg5 ?_
    iterate 2 refine cVal tt rfl (wSome rfl rfl rfl rfl hb4) rfl rfl rfl trivial ?_
    obtain ⟨v21, hc6, h⟩ := bind_inv h
    refine cCall (S_l2After_w N (g_0.bars.getD ((i19).toNat) (0, 0)) x_1 v21 hc6) rfl (wSome rfl rfl rfl rfl hb4) rfl rfl rfl rfl rfl rfl ⟨⟨rfl, rfl, trivial⟩, ⟨rfl, rfl, trivial⟩, trivial⟩ ?_
    refine cVal tt rfl (wSome rfl rfl rfl rfl hb4) rfl rfl rfl trivial ?_
    refine cPickT rfl (wNone rfl) rfl rfl rfl hb4 rfl ?_
    refine cNil ?_
    change VC _ _ _ _
    refine vCond rfl (fun hb7 => ?_) (fun hb7 => ?_)
    ·replace h := cnd_t hb7 h
     refine vSeq ?_
     refine vRegion ?_
     iterate 3 refine oVal tt rfl rfl rfl rfl rfl trivial ?_
     refine oBuild tt rfl rfl rfl rfl rfl rfl rfl rfl rfl rfl rfl ?_
     obtain ⟨hg8, h⟩ := grd_inv h
     refine oAppend tt rfl rfl rfl rfl rfl rfl rfl rfl rfl rfl rfl rfl rfl rfl rfl rfl (Nat.le_of_eq (Nat.zero_add _)) hg8 ?_
     refine oVal tt rfl rfl rfl rfl rfl trivial ?_
     refine oStore tt rfl rfl rfl rfl rfl rfl rfl rfl rfl rfl rfl ⟨trivial, trivial⟩ ?_
     refine vNil ?_
     change VC _ _ _ _
     refine vRegion ?_
     refine oVal tt rfl rfl rfl rfl rfl trivial ?_
     refine vNil ?_
     change VC _ _ _ _
     refine vRegionN 8 [7] [0, 1, 0, 4, 0, 28, 60, 124, 255, 511, 1023] (by kernel_rfl) (by kernel_rfl) (by kernel_rfl) (by kernel_rfl) (by kernel_rfl) rfl (by rfl) ?_
     iterate 5 refine nVal tt rfl (wNone rfl) rfl rfl rfl rfl rfl trivial ?_
     refine nVal tt rfl (wNone rfl) rfl rfl rfl rfl rfl hg5 ?_
     refine nVal tt rfl (wNone rfl) rfl rfl rfl rfl rfl trivial ?_
     refine nBuild tt (wNone rfl) rfl rfl rfl rfl rfl rfl rfl rfl rfl rfl rfl rfl ?_
     refine nNil ?_
     change VO _ _ _ _ _
     obtain ⟨hg9, h⟩ := grd_inv h
     refine oAppend tt rfl rfl rfl rfl rfl rfl rfl rfl rfl rfl rfl rfl rfl rfl rfl rfl (Nat.le_of_eq (Nat.zero_add _)) hg9 ?_
     refine oVal tt rfl rfl rfl rfl rfl trivial ?_
     refine oStore tt rfl rfl rfl rfl rfl rfl rfl rfl rfl rfl rfl ⟨trivial, trivial⟩ ?_
     refine vNil ?_
     change VC _ _ _ _
     refine vRegion ?_
     refine oVal tt rfl rfl rfl rfl rfl trivial ?_
     obtain ⟨hg10, h⟩ := grd_inv h
     refine oVal tt rfl rfl rfl rfl rfl hg10 ?_
     refine oVal tt rfl rfl rfl rfl rfl trivial ?_
     refine vNil ?_
     change ∃ _, _
     exact ⟨(((l17 ++ ([(x_1.1, x_1.2)] : List (Int × Int))) ++ ([((g_0.bars.getD ((i19).toNat) (0, 0)).1, (g_0.bars.getD ((i19).toNat) (0, 0)).2)] : List (Int × Int))), true, (i19 + (1 : Int))), (En.of ⟨rfl, rfl, rfl, rfl, rfl, rfl, trivial⟩ ⟨rfl, trivial⟩ ⟨rfl, rfl, rfl, rfl, trivial⟩), h⟩
    ·replace h := cnd_f hb7 h
     refine vSkip ?_
     change VC _ _ _ _
     refine vRegionN 8 [7] [0, 1, 0, 4, 0, 28, 60, 124, 255, 511, 1023] (by kernel_rfl) (by kernel_rfl) (by kernel_rfl) (by kernel_rfl) (by kernel_rfl) rfl (by rfl) ?_
     iterate 5 refine nVal tt rfl (wNone rfl) rfl rfl rfl rfl rfl trivial ?_
     refine nVal tt rfl (wNone rfl) rfl rfl rfl rfl rfl hg5 ?_
     refine nVal tt rfl (wNone rfl) rfl rfl rfl rfl rfl trivial ?_
     refine nBuild tt (wNone rfl) rfl rfl rfl rfl rfl rfl rfl rfl rfl rfl rfl rfl ?_
     refine nNil ?_
     change VO _ _ _ _ _
     obtain ⟨hg11, h⟩ := grd_inv h
     refine oAppend tt rfl rfl rfl rfl rfl rfl rfl rfl rfl rfl rfl rfl rfl rfl rfl rfl (Nat.le_of_eq (Nat.zero_add _)) hg11 ?_
     refine oVal tt rfl rfl rfl rfl rfl trivial ?_
     refine oStore tt rfl rfl rfl rfl rfl rfl rfl rfl rfl rfl rfl ⟨trivial, trivial⟩ ?_
     refine vNil ?_
     change VC _ _ _ _
     refine vRegion ?_
     refine oVal tt rfl rfl rfl rfl rfl trivial ?_
     obtain ⟨hg12, h⟩ := grd_inv h
     refine oVal tt rfl rfl rfl rfl rfl hg12 ?_
     refine oVal tt rfl rfl rfl rfl rfl trivial ?_
     refine vNil ?_
     change ∃ _, _
     exact ⟨((l17 ++ ([((g_0.bars.getD ((i19).toNat) (0, 0)).1, (g_0.bars.getD ((i19).toNat) (0, 0)).2)] : List (Int × Int))), placed18, (i19 + (1 : Int))), (En.of ⟨rfl, rfl, rfl, rfl, rfl, rfl, trivial⟩ ⟨rfl, trivial⟩ ⟨rfl, rfl, rfl, rfl, trivial⟩), h⟩
   ·replace h := cnd_f hb4 h
    iterate 8 refine cNoT rfl rfl rfl rfl hb4 rfl rfl ?_
    refine cPickF rfl (wNone rfl) rfl rfl rfl hb4 rfl ?_
    refine cNil ?_
    change VC _ _ _ _
    refine vCondF rfl rfl ?_
    refine vSkip ?_
    change VC _ _ _ _
    refine vRegionN 8 [7] [0, 1, 0, 4, 0, 28, 60, 124, 255, 511, 1023] (by kernel_rfl) (by kernel_rfl) (by kernel_rfl) (by kernel_rfl) (by kernel_rfl) rfl (by rfl) ?_
    iterate 5 refine nVal tt rfl (wNone rfl) rfl rfl rfl rfl rfl trivial ?_
    obtain ⟨hg13, h⟩ := grd_inv h
    refine nVal tt rfl (wNone rfl) rfl rfl rfl rfl rfl hg13 ?_
    refine nVal tt rfl (wNone rfl) rfl rfl rfl rfl rfl trivial ?_
    refine nBuild tt (wNone rfl) rfl rfl rfl rfl rfl rfl rfl rfl rfl rfl rfl rfl ?_
    refine nNil ?_
    change VO _ _ _ _ _
    obtain ⟨hg14, h⟩ := grd_inv h
    refine oAppend tt rfl rfl rfl rfl rfl rfl rfl rfl rfl rfl rfl rfl rfl rfl rfl rfl (Nat.le_of_eq (Nat.zero_add _)) hg14 ?_
    refine oVal tt rfl rfl rfl rfl rfl trivial ?_
    refine oStore tt rfl rfl rfl rfl rfl rfl rfl rfl rfl rfl rfl ⟨trivial, trivial⟩ ?_
    refine vNil ?_
    change VC _ _ _ _
    refine vRegion ?_
    refine oVal tt rfl rfl rfl rfl rfl trivial ?_
    obtain ⟨hg15, h⟩ := grd_inv h
    refine oVal tt rfl rfl rfl rfl rfl hg15 ?_
    refine oVal tt rfl rfl rfl rfl rfl trivial ?_
    refine vNil ?_
    change ∃ _, _
    exact ⟨((l17 ++ ([((g_0.bars.getD ((i19).toNat) (0, 0)).1, (g_0.bars.getD ((i19).toNat) (0, 0)).2)] : List (Int × Int))), placed18, (i19 + (1 : Int))), (En.of ⟨rfl, rfl, rfl, rfl, rfl, rfl, trivial⟩ ⟨rfl, trivial⟩ ⟨rfl, rfl, rfl, rfl, trivial⟩), h⟩
  ·replace h := cnd_f hb3 h
   refine vExit ?_
   change ∃ _, _
   exact ⟨(l17, placed18), (En.of ⟨rfl, rfl, rfl, rfl, trivial⟩ ⟨rfl, trivial⟩ ⟨rfl, rfl, rfl, trivial⟩), h⟩
def I_bar (N : Nat) (a_0 : Int) (b_1 : Int) : Option (Int × Int) :=
 some ((min a_0 b_1), (max a_0 b_1))
def M_Pinned_held_l2 (N : Nat) (p_0 : Pin) (x82 : Int) (k : (List (Int × Int)) → Option (List (Int × Int))) : Nat → ((List (Int × Int)) × Int) → Option (List (Int × Int))
 | 0, _ => none
 | n + 1, (l103, x104) =>
  cnd (decide (x104 < (((p_0.ground.take p_0.ground.length).drop (((x82 + (1 : Int))).toNat)).length : Int))) (
   grd (0 ≤ x104 ∧ x104 < (((p_0.ground.take p_0.ground.length).drop (((x82 + (1 : Int))).toNat)).length : Int)) <|
   (I_bar N (p_0.ground.getD ((x82).toNat) 0) (((p_0.ground.take p_0.ground.length).drop (((x82 + (1 : Int))).toNat)).getD ((x104).toNat) 0)).bind fun v106 =>
   grd (l103.length + 1 ≤ 4294967296) <|
   grd (Rg64 (x104 + (1 : Int))) <|
   M_Pinned_held_l2 N p_0 x82 k n ((l103 ++ ([(v106.1, v106.2)] : List (Int × Int))), (x104 + (1 : Int)))) (
   k l103)
def M_Pinned_held_l1 (N : Nat) (p_0 : Pin) (k : (List (Int × Int)) → Option (List (Int × Int))) : Nat → ((List (Int × Int)) × Int) → Option (List (Int × Int))
 | 0, _ => none
 | n + 1, (l81, x82) =>
  cnd (decide (x82 < (p_0.ground.length : Int))) (
   grd (0 ≤ x82 ∧ x82 < (p_0.ground.length : Int)) <|
   grd (Rg64 (x82 + (1 : Int))) <|
   grd (0 ≤ (x82 + (1 : Int)) ∧ (x82 + (1 : Int)) ≤ (p_0.ground.length : Int)) <|
   M_Pinned_held_l2 N p_0 x82 (fun (l100 : List (Int × Int)) =>
      M_Pinned_held_l1 N p_0 k n (l100, (x82 + (1 : Int)))) N (l81, (0 : Int))) (
   k l81)
def M_Pinned_held (N : Nat) (p_0 : Pin) : Option (List (Int × Int)) :=
 M_Pinned_held_l1 N p_0 (fun (l53 : List (Int × Int)) =>
    some l53) N (([] : List (Int × Int)), (0 : Int))
end Go.Proofs.Ytcljhpldfanhkaa
namespace Go.Proofs.Ytcljhpldfanhkaa
open Go.RowKit
def S_l2Copy (N : Nat) (g_0 : Grf) : Option (Grf) :=
 grd (g_0.bars.length ≤ 4294967296) <|
 some (⟨g_0.n, (([] : List (Int × Int)) ++ g_0.bars)⟩ : Grf)
set_option maxRecDepth 20000 in
set_option maxHeartbeats 1600000 in
theorem S_l2Copy_w (N : Nat) (g_0 : Grf) (r : Grf) (h : S_l2Copy N g_0 = some r) : PCall Try.prog 167 [gD g_0] [(111, .pairs r.bars)] (.agg [.int r.n, .row 0 0 r.bars.length]) := by
 unfold S_l2Copy at h
 refine pcall_intro (TT := TT) tt Try.func167 rfl rfl Try.ntmps167 (congrArg Array.toList Try.results167) rfl rfl fun w0 => ?_
 refine vSeq ?_
 refine vRegion ?_
 refine oBox rfl rfl rfl rfl rfl rfl rfl rfl rfl ?_
 refine oAlloc tt rfl rfl rfl rfl rfl rfl rfl rfl rfl ?_
 refine vNil ?_
 change VC _ _ _ _
 refine vSeq ?_
 refine vRegionN 6 [5] [0, 1, 0, 0, 8, 28, 63, 127] (by kernel_rfl) (by kernel_rfl) (by kernel_rfl) (by kernel_rfl) (by kernel_rfl) rfl (by rfl) ?_
 iterate 2 refine nVal tt rfl (wNone rfl) rfl rfl rfl rfl rfl trivial ?_
 refine nEmpty tt (wNone rfl) rfl rfl rfl rfl rfl ?_
 iterate 2 refine nVal tt rfl (wNone rfl) rfl rfl rfl rfl rfl trivial ?_
 obtain ⟨hg1, h⟩ := grd_inv h
 refine nAppNil tt (wNone rfl) rfl rfl rfl rfl rfl rfl rfl rfl (fun _ => rfl) rfl rfl rfl rfl rfl rfl hg1 ?_
 refine nNil ?_
 change VO _ _ _ _ _
 refine oPure (wNone rfl) (pBuild bld_impl_Graph rfl rfl) rfl rfl ?_
 refine oStore tt rfl rfl rfl rfl rfl rfl rfl rfl rfl rfl rfl ⟨trivial, trivial, trivial⟩ ?_
 refine vNil ?_
 change VC _ _ _ _
 refine vRet ?_
 change ∃ _, _
 cases h
 exact ⟨[8], _, rfl, ⟨rfl, trivial⟩, rfl, (.eq rfl), rfl⟩
def I_copyGraph (N : Nat) (g_0 : Grf) : Option (Grf) :=
 grd (g_0.bars.length ≤ 4294967296) <|
 some (⟨g_0.n, (([] : List (Int × Int)) ++ g_0.bars)⟩ : Grf)
def I_copyPinned (N : Nat) (p_0 : Pin) : Option (Pin) :=
 (I_copyGraph N p_0.g).bind fun v1 =>
 (I_copyInts N p_0.ground).bind fun v2 =>
 some (⟨⟨v1.n, v1.bars⟩, v2⟩ : Pin)
end Go.Proofs.Ytcljhpldfanhkaa
namespace Go.Proofs.Ytcljhpldfanhkaa
open Go.RowKit
def I_copyPebbles (N : Nat) (p_0 : Pbl) : Option (Pbl) :=
 (I_copyInts N p_0.free).bind fun v1 =>
 (I_copyInts N p_0.tails).bind fun v2 =>
 (I_copyInts N p_0.placed).bind fun v3 =>
 some (⟨v1, v2, v3⟩ : Pbl)
end Go.Proofs.Ytcljhpldfanhkaa
namespace Go.Proofs.Ytcljhpldfanhkaa
open Go.RowKit
def I_moveTo_l3 (N : Nat) (p_1 : Pbl) (a_2 : Int) (from298 : List (Int × Int)) (x299 : Int) (v307 : Int) (k : (List Int) → Option (Bool × (List Int) × (List Int) × (List Int))) : Nat → ((List Int) × Int) → Option (Bool × (List Int) × (List Int) × (List Int))
 | 0, _ => none
 | n + 1, (l312, at313) =>
  cnd (at313 != a_2) (
   grd (0 ≤ (mget (mset from298 v307 x299) at313) ∧ (mget (mset from298 v307 x299) at313) < (p_1.tails.length : Int)) <|
   grd (0 ≤ (mget (mset from298 v307 x299) at313) ∧ (mget (mset from298 v307 x299) at313) < (l312.length : Int)) <|
   I_moveTo_l3 N p_1 a_2 from298 x299 v307 k n ((l312.set (((mget (mset from298 v307 x299) at313)).toNat) at313), (l312.getD (((mget (mset from298 v307 x299) at313)).toNat) 0))) (
   k l312)
def I_moveTo_l2 (N : Nat) (bars_0 : List (Int × Int)) (p_1 : Pbl) (a_2 : Int) (b_3 : Int) (i211 : Int) (k : ((List Int) × (List (Int × Int))) → Option (Bool × (List Int) × (List Int) × (List Int))) : Nat → ((List Int) × (List (Int × Int)) × Int) → Option (Bool × (List Int) × (List Int) × (List Int))
 | 0, _ => none
 | n + 1, (l297, from298, x299) =>
  cnd (decide (x299 < (p_1.placed.length : Int))) (
   grd (0 ≤ x299 ∧ x299 < (p_1.placed.length : Int)) <|
   grd (0 ≤ x299 ∧ x299 < (p_1.tails.length : Int)) <|
   grd (0 ≤ i211 ∧ i211 < (l297.length : Int)) <|
   cnd ((p_1.tails.getD ((x299).toNat) 0) != (l297.getD ((i211).toNat) 0)) (
    grd (Rg64 (x299 + (1 : Int))) <|
    I_moveTo_l2 N bars_0 p_1 a_2 b_3 i211 k n (l297, from298, (x299 + (1 : Int)))) (
    grd (0 ≤ (p_1.placed.getD ((x299).toNat) 0) ∧ (p_1.placed.getD ((x299).toNat) 0) < (bars_0.length : Int)) <|
    (M_Bar_other N (bars_0.getD (((p_1.placed.getD ((x299).toNat) 0)).toNat) (0, 0)) (l297.getD ((i211).toNat) 0)).bind fun v307 =>
    cnd (mhas from298 v307) (
     grd (Rg64 (x299 + (1 : Int))) <|
     I_moveTo_l2 N bars_0 p_1 a_2 b_3 i211 k n (l297, from298, (x299 + (1 : Int)))) (
     cnd (v307 == b_3) (
      grd (l297.length + 1 ≤ 4294967296) <|
      grd (Rg64 (x299 + (1 : Int))) <|
      I_moveTo_l2 N bars_0 p_1 a_2 b_3 i211 k n ((l297 ++ ([v307] : List Int)), (mset from298 v307 x299), (x299 + (1 : Int)))) (
      grd (0 ≤ v307 ∧ v307 < (p_1.free.length : Int)) <|
      cnd ((p_1.free.getD ((v307).toNat) 0) == (0 : Int)) (
       grd (l297.length + 1 ≤ 4294967296) <|
       grd (Rg64 (x299 + (1 : Int))) <|
       I_moveTo_l2 N bars_0 p_1 a_2 b_3 i211 k n ((l297 ++ ([v307] : List Int)), (mset from298 v307 x299), (x299 + (1 : Int)))) (
       grd (Rg64 ((p_1.free.getD ((v307).toNat) 0) - (1 : Int))) <|
       grd (0 ≤ a_2 ∧ a_2 < (p_1.free.length : Int)) <|
       grd (0 ≤ a_2 ∧ a_2 < ((p_1.free.set ((v307).toNat) ((p_1.free.getD ((v307).toNat) 0) - (1 : Int))).length : Int)) <|
       grd (Rg64 (((p_1.free.set ((v307).toNat) ((p_1.free.getD ((v307).toNat) 0) - (1 : Int))).getD ((a_2).toNat) 0) + (1 : Int))) <|
       I_moveTo_l3 N p_1 a_2 from298 x299 v307 (fun (l310 : List Int) =>
          grd (p_1.free.length = ((p_1.free.set ((v307).toNat) ((p_1.free.getD ((v307).toNat) 0) - (1 : Int))).set ((a_2).toNat) (((p_1.free.set ((v307).toNat) ((p_1.free.getD ((v307).toNat) 0) - (1 : Int))).getD ((a_2).toNat) 0) + (1 : Int))).length) <|
          grd (p_1.tails.length = l310.length) <|
          some (true, ((p_1.free.set ((v307).toNat) ((p_1.free.getD ((v307).toNat) 0) - (1 : Int))).set ((a_2).toNat) (((p_1.free.set ((v307).toNat) ((p_1.free.getD ((v307).toNat) 0) - (1 : Int))).getD ((a_2).toNat) 0) + (1 : Int))), l310, p_1.placed)) N (p_1.tails, v307)))))) (
   k (l297, from298))
def I_moveTo_l1 (N : Nat) (bars_0 : List (Int × Int)) (p_1 : Pbl) (a_2 : Int) (b_3 : Int) (k : Unit → Option (Bool × (List Int) × (List Int) × (List Int))) : Nat → ((List Int) × (List (Int × Int)) × Int) → Option (Bool × (List Int) × (List Int) × (List Int))
 | 0, _ => none
 | n + 1, (l209, from210, i211) =>
  cnd (decide (i211 < (l209.length : Int))) (
   I_moveTo_l2 N bars_0 p_1 a_2 b_3 i211 (fun (x : (List Int) × (List (Int × Int))) =>
     match x with
     | (l287, from288) =>
      grd (Rg64 (i211 + (1 : Int))) <|
      I_moveTo_l1 N bars_0 p_1 a_2 b_3 k n (l287, from288, (i211 + (1 : Int)))) N (l209, from210, (0 : Int))) (
   k ())
def I_moveTo (N : Nat) (bars_0 : List (Int × Int)) (p_1 : Pbl) (a_2 : Int) (b_3 : Int) : Option (Bool × (List Int) × (List Int) × (List Int)) :=
 I_moveTo_l1 N bars_0 p_1 a_2 b_3 (fun (_ : Unit) =>
    some (false, p_1.free, p_1.tails, p_1.placed)) N (([a_2] : List Int), (mset ([] : List (Int × Int)) a_2 (-1 : Int)), (0 : Int))
def I_gather_l1 (N : Nat) (bars_0 : List (Int × Int)) (a_2 : Int) (b_3 : Int) (want_4 : Int) (k : ((List Int) × (List Int) × (List Int)) → Option (Bool × (List Int) × (List Int) × (List Int))) : Nat → ((List Int) × (List Int) × (List Int)) → Option (Bool × (List Int) × (List Int) × (List Int))
 | 0, _ => none
 | n + 1, (l16, l17, l18) =>
  grd (0 ≤ a_2 ∧ a_2 < (l16.length : Int)) <|
  grd (0 ≤ b_3 ∧ b_3 < (l16.length : Int)) <|
  grd (Rg64 ((l16.getD ((a_2).toNat) 0) + (l16.getD ((b_3).toNat) 0))) <|
  cnd (decide (((l16.getD ((a_2).toNat) 0) + (l16.getD ((b_3).toNat) 0)) < want_4)) (
   (I_moveTo N bars_0 (⟨l16, l17, l18⟩ : Pbl) a_2 b_3).bind fun v21 =>
   cnd (!v21.1) (
    (I_moveTo N bars_0 (⟨v21.2.1, v21.2.2.1, v21.2.2.2⟩ : Pbl) b_3 a_2).bind fun v22 =>
    cnd (!v22.1) (
     some (false, v22.2.1, v22.2.2.1, v22.2.2.2)) (
     I_gather_l1 N bars_0 a_2 b_3 want_4 k n (v22.2.1, v22.2.2.1, v22.2.2.2))) (
    I_gather_l1 N bars_0 a_2 b_3 want_4 k n (v21.2.1, v21.2.2.1, v21.2.2.2))) (
   k (l16, l17, l18))
def I_gather (N : Nat) (bars_0 : List (Int × Int)) (p_1 : Pbl) (a_2 : Int) (b_3 : Int) (want_4 : Int) : Option (Bool × (List Int) × (List Int) × (List Int)) :=
 I_gather_l1 N bars_0 a_2 b_3 want_4 (fun (x : (List Int) × (List Int) × (List Int)) =>
   match x with
   | (l10, l11, l12) =>
    some (true, l10, l11, l12)) N (p_1.free, p_1.tails, p_1.placed)
def I_place (N : Nat) (bars_0 : List (Int × Int)) (l_1 : Int) (p_2 : Pbl) (e_3 : Int) : Option (Bool × (List Int) × (List Int) × (List Int)) :=
 grd (0 ≤ e_3 ∧ e_3 < (bars_0.length : Int)) <|
 grd (Rg64 (l_1 + (1 : Int))) <|
 (I_gather N bars_0 (⟨p_2.free, p_2.tails, p_2.placed⟩ : Pbl) ((bars_0.getD ((e_3).toNat) (0, 0)).1) ((bars_0.getD ((e_3).toNat) (0, 0)).2) (l_1 + (1 : Int))).bind fun v1 =>
 cnd (!v1.1) (
  some (false, v1.2.1, v1.2.2.1, v1.2.2.2)) (
  grd (0 ≤ ((bars_0.getD ((e_3).toNat) (0, 0)).1) ∧ ((bars_0.getD ((e_3).toNat) (0, 0)).1) < (v1.2.1.length : Int)) <|
  jn (fun (tail2 : Int) =>
     grd (0 ≤ tail2 ∧ tail2 < (v1.2.1.length : Int)) <|
     grd (Rg64 ((v1.2.1.getD ((tail2).toNat) 0) - (1 : Int))) <|
     grd (v1.2.2.1.length + 1 ≤ 4294967296) <|
     grd (v1.2.2.2.length + 1 ≤ 4294967296) <|
     grd (v1.2.1.length = (v1.2.1.set ((tail2).toNat) ((v1.2.1.getD ((tail2).toNat) 0) - (1 : Int))).length) <|
     some (true, (v1.2.1.set ((tail2).toNat) ((v1.2.1.getD ((tail2).toNat) 0) - (1 : Int))), (v1.2.2.1 ++ ([tail2] : List Int)), (v1.2.2.2 ++ ([e_3] : List Int)))) fun k3 =>
   cnd ((v1.2.1.getD (((bars_0.getD ((e_3).toNat) (0, 0)).1).toNat) 0) == (0 : Int)) (
    k3 ((bars_0.getD ((e_3).toNat) (0, 0)).2)) (
    k3 ((bars_0.getD ((e_3).toNat) (0, 0)).1)))
def I_play_l1 (N : Nat) (bars_1 : List (Int × Int)) (l_3 : Int) (k : ((List Int) × (List Int) × (List Int)) → Option (Pbl)) : Nat → ((List Int) × (List Int) × (List Int) × Int) → Option (Pbl)
 | 0, _ => none
 | n + 1, (l39, l40, l41, x42) =>
  cnd (decide (x42 < (bars_1.length : Int))) (
   (I_copyPebbles N (⟨l39, l40, l41⟩ : Pbl)).bind fun v45 =>
   (I_place N bars_1 l_3 (⟨v45.free, v45.tails, v45.placed⟩ : Pbl) x42).bind fun v46 =>
   cnd v46.1 (
    grd (Rg64 (x42 + (1 : Int))) <|
    I_play_l1 N bars_1 l_3 k n (v46.2.1, v46.2.2.1, v46.2.2.2, (x42 + (1 : Int)))) (
    grd (Rg64 (x42 + (1 : Int))) <|
    I_play_l1 N bars_1 l_3 k n (l39, l40, l41, (x42 + (1 : Int))))) (
   k (l39, l40, l41))
def I_play_l2 (N : Nat) (points_0 : Int) (k_2 : Int) (k : (List Int) → Option (Pbl)) : Nat → ((List Int) × Int) → Option (Pbl)
 | 0, _ => none
 | n + 1, (l49, x50) =>
  cnd (decide (x50 < points_0)) (
   grd (l49.length + 1 ≤ 4294967296) <|
   grd (Rg64 (x50 + (1 : Int))) <|
   I_play_l2 N points_0 k_2 k n ((l49 ++ ([k_2] : List Int)), (x50 + (1 : Int)))) (
   k l49)
def I_play (N : Nat) (points_0 : Int) (bars_1 : List (Int × Int)) (k_2 : Int) (l_3 : Int) : Option (Pbl) :=
 I_play_l2 N points_0 k_2 (fun (l4 : List Int) =>
    I_play_l1 N bars_1 l_3 (fun (x : (List Int) × (List Int) × (List Int)) =>
      match x with
      | (l24, l25, l26) =>
       some (⟨l24, l25, l26⟩ : Pbl)) N (l4, ([] : List Int), ([] : List Int), (0 : Int))) N (([] : List Int), (0 : Int))
end Go.Proofs.Ytcljhpldfanhkaa
namespace Go.Proofs.Ytcljhpldfanhkaa
open Go.RowKit
def I_planeRank (N : Nat) (points_0 : Int) (bars_1 : List (Int × Int)) : Option (Int) :=
 (I_play N points_0 bars_1 (2 : Int) (3 : Int)).bind fun v1 =>
 some (v1.placed.length : Int)
end Go.Proofs.Ytcljhpldfanhkaa
namespace Go.Proofs.Ytcljhpldfanhkaa
open Go.RowKit
def I_PinnedRank (N : Nat) (p_0 : Pin) : Option (Int) :=
 (I_IsPinned N p_0).bind fun v1 =>
 cnd (!v1) (
  some (-1 : Int)) (
  (M_Pinned_held N p_0).bind fun v2 =>
  grd (v2.length + p_0.g.bars.length ≤ 4294967296) <|
  (I_planeRank N p_0.g.n (v2 ++ p_0.g.bars)).bind fun v3 =>
  (M_Pinned_held N p_0).bind fun v4 =>
  (I_planeRank N p_0.g.n v4).bind fun v5 =>
  grd (Rg64 (v3 - v5)) <|
  some (v3 - v5))
def I_PinnedFreedom (N : Nat) (p_0 : Pin) : Option (Int) :=
 (I_IsPinned N p_0).bind fun v1 =>
 cnd (!v1) (
  some (-1 : Int)) (
  (I_InnerPoints N p_0).bind fun v2 =>
  grd (Rg64 ((2 : Int) * (v2.length : Int))) <|
  (I_PinnedRank N p_0).bind fun v3 =>
  grd (Rg64 (((2 : Int) * (v2.length : Int)) - v3)) <|
  some (((2 : Int) * (v2.length : Int)) - v3))
end Go.Proofs.Ytcljhpldfanhkaa
namespace Go.Proofs.Ytcljhpldfanhkaa
open Go.RowKit
def S_RemoveBar (N : Nat) (g_0 : Grf) (k_1 : Int) : Option (Grf × Bool) :=
 (S_IsGraph N g_0).bind fun v1 =>
 cnd (!v1) (
  (S_l2Copy N g_0).bind fun v2 =>
  some ((⟨v2.n, v2.bars⟩ : Grf), false)) (
  cnd (decide (k_1 < (0 : Int))) (
   (S_l2Copy N g_0).bind fun v3 =>
   some ((⟨v3.n, v3.bars⟩ : Grf), false)) (
   cnd (decide (k_1 ≥ (g_0.bars.length : Int))) (
    (S_l2Copy N g_0).bind fun v4 =>
    some ((⟨v4.n, v4.bars⟩ : Grf), false)) (
    grd (0 ≤ k_1 ∧ k_1 ≤ (g_0.bars.length : Int)) <|
    grd (((g_0.bars.take ((k_1).toNat)).drop 0).length ≤ 4294967296) <|
    grd (Rg64 (k_1 + (1 : Int))) <|
    grd (0 ≤ (k_1 + (1 : Int)) ∧ (k_1 + (1 : Int)) ≤ (g_0.bars.length : Int)) <|
    grd ((([] : List (Int × Int)) ++ ((g_0.bars.take ((k_1).toNat)).drop 0)).length + ((g_0.bars.take g_0.bars.length).drop (((k_1 + (1 : Int))).toNat)).length ≤ 4294967296) <|
    some ((⟨g_0.n, ((([] : List (Int × Int)) ++ ((g_0.bars.take ((k_1).toNat)).drop 0)) ++ ((g_0.bars.take g_0.bars.length).drop (((k_1 + (1 : Int))).toNat)))⟩ : Grf), true))))
set_option maxRecDepth 20000 in
set_option maxHeartbeats 1600000 in
theorem S_RemoveBar_w (N : Nat) (g_0 : Grf) (k_1 : Int) (r : Grf × Bool) (h : S_RemoveBar N g_0 k_1 = some r) : PCall Try.prog 172 [gD g_0, .int k_1] [(111, .pairs r.1.bars)] (.tup [.agg [.int r.1.n, .row 0 0 r.1.bars.length], .bool r.2]) := by
 unfold S_RemoveBar at h
 refine pcall_intro (TT := TT) tt Try.func172 rfl rfl Try.ntmps172 (congrArg Array.toList Try.results172) rfl rfl fun w0 => ?_
 refine vSeq ?_
 refine vRegion ?_
 refine oBox rfl rfl rfl rfl rfl rfl rfl rfl rfl ?_
 refine oAlloc tt rfl rfl rfl rfl rfl rfl rfl rfl rfl ?_
 refine oVal tt rfl rfl rfl rfl rfl trivial ?_
 refine vNil ?_
 change VC _ _ _ _
 iterate 2 refine vSeq ?_
 refine vRegion ?_
 refine oVal tt rfl rfl rfl rfl rfl trivial ?_
 obtain ⟨v1, hc1, h⟩ := bind_inv h
 refine oCall (S_IsGraph_w N g_0 v1 hc1) rfl rfl rfl rfl rfl rfl rfl rfl ⟨⟨rfl, rfl, trivial⟩, trivial⟩ ?_
 iterate 2 refine oVal tt rfl rfl rfl rfl rfl trivial ?_
 refine oSplit rfl rfl rfl (fun hb2 => ?_) (fun hb2 => ?_)
 ·replace h := cnd_t hb2 h
  iterate 2 refine oNoF rfl rfl rfl rfl hb2 rfl rfl ?_
  refine oPick rfl rfl rfl rfl rfl hb2 rfl ?_
  refine oVal tt rfl rfl rfl rfl rfl trivial ?_
  iterate 5 refine oNoF rfl rfl rfl rfl rfl rfl rfl ?_
  refine oPick rfl rfl rfl rfl rfl rfl rfl ?_
  refine vNil ?_
  change VC _ _ _ _
  refine vCondT rfl rfl ?_
  refine vSeq ?_
  refine vRegion ?_
  refine oVal tt rfl rfl rfl rfl rfl trivial ?_
  obtain ⟨v2, hc3, h⟩ := bind_inv h
  refine oCall (S_l2Copy_w N g_0 v2 hc3) rfl rfl rfl rfl rfl rfl rfl rfl ⟨⟨rfl, rfl, trivial⟩, trivial⟩ ?_
  refine oStore tt rfl rfl rfl rfl rfl rfl rfl rfl rfl rfl rfl ⟨trivial, trivial, trivial⟩ ?_
  refine oVal tt rfl rfl rfl rfl rfl trivial ?_
  refine vNil ?_
  change VC _ _ _ _
  refine vRet ?_
  change ∃ _, _
  cases h
  exact ⟨[1210], _, rfl, ⟨rfl, trivial⟩, rfl, (.eq rfl), rfl⟩
 ·replace h := cnd_f hb2 h
  iterate 2 refine oValG tt rfl rfl rfl rfl rfl hb2 rfl rfl rfl trivial ?_
  refine oPickF rfl rfl rfl rfl rfl hb2 rfl ?_
  refine oVal tt rfl rfl rfl rfl rfl trivial ?_
  refine oSplit rfl rfl rfl (fun hb4 => ?_) (fun hb4 => ?_)
  ·replace h := cnd_t hb4 h
   iterate 5 refine oNoF rfl rfl rfl rfl hb4 rfl rfl ?_
   refine oPick rfl rfl rfl rfl rfl hb4 rfl ?_
   refine vNil ?_
   change VC _ _ _ _
   refine vCondT rfl rfl ?_
   refine vSeq ?_
   refine vRegion ?_
   refine oVal tt rfl rfl rfl rfl rfl trivial ?_
   obtain ⟨v3, hc5, h⟩ := bind_inv h
   refine oCall (S_l2Copy_w N g_0 v3 hc5) rfl rfl rfl rfl rfl rfl rfl rfl ⟨⟨rfl, rfl, trivial⟩, trivial⟩ ?_
   refine oStore tt rfl rfl rfl rfl rfl rfl rfl rfl rfl rfl rfl ⟨trivial, trivial, trivial⟩ ?_
   refine oVal tt rfl rfl rfl rfl rfl trivial ?_
   refine vNil ?_
   change VC _ _ _ _
   refine vRet ?_
   change ∃ _, _
   cases h
   exact ⟨[1210], _, rfl, ⟨rfl, trivial⟩, rfl, (.eq rfl), rfl⟩
  ·replace h := cnd_f hb4 h
   iterate 5 refine oValG tt rfl rfl rfl rfl rfl hb4 rfl rfl rfl trivial ?_
   refine oPickF rfl rfl rfl rfl rfl hb4 rfl ?_
   refine vNil ?_
   change VC _ _ _ _
   refine vCond rfl (fun hb6 => ?_) (fun hb6 => ?_)
   ·replace h := cnd_t hb6 h
    refine vSeq ?_
    refine vRegion ?_
    refine oVal tt rfl rfl rfl rfl rfl trivial ?_
    obtain ⟨v4, hc7, h⟩ := bind_inv h
    refine oCall (S_l2Copy_w N g_0 v4 hc7) rfl rfl rfl rfl rfl rfl rfl rfl ⟨⟨rfl, rfl, trivial⟩, trivial⟩ ?_
    refine oStore tt rfl rfl rfl rfl rfl rfl rfl rfl rfl rfl rfl ⟨trivial, trivial, trivial⟩ ?_
    refine oVal tt rfl rfl rfl rfl rfl trivial ?_
    refine vNil ?_
    change VC _ _ _ _
    refine vRet ?_
    change ∃ _, _
    cases h
    exact ⟨[1210], _, rfl, ⟨rfl, trivial⟩, rfl, (.eq rfl), rfl⟩
   ·replace h := cnd_f hb6 h
    refine vSkip ?_
    change VC _ _ _ _
    refine vSeq ?_
    refine vRegionN 14 [7, 13, 1130000029] [0, 1, 0, 0, 8, 0, 56, 124, 0, 256, 0, 1024, 3840, 8188, 16383, 32767, 65535] (by kernel_rfl) (by kernel_rfl) (by kernel_rfl) (by kernel_rfl) (by kernel_rfl) rfl (by rfl) ?_
    iterate 2 refine nVal tt rfl (wNone rfl) rfl rfl rfl rfl rfl trivial ?_
    refine nEmpty tt (wNone rfl) rfl rfl rfl rfl rfl ?_
    iterate 3 refine nVal tt rfl (wNone rfl) rfl rfl rfl rfl rfl trivial ?_
    obtain ⟨hg8, h⟩ := grd_inv h
    refine nVal tt rfl (wNone rfl) rfl rfl rfl rfl rfl hg8 ?_
    obtain ⟨hg9, h⟩ := grd_inv h
    refine nAppNil tt (wNone rfl) rfl rfl rfl rfl rfl rfl rfl rfl (fun _ => rfl) rfl rfl rfl rfl rfl rfl hg9 ?_
    iterate 3 refine nVal tt rfl (wNone rfl) rfl rfl rfl rfl rfl trivial ?_
    obtain ⟨hg10, h⟩ := grd_inv h
    refine nVal tt rfl (wNone rfl) rfl rfl rfl rfl rfl hg10 ?_
    obtain ⟨hg11, h⟩ := grd_inv h
    refine nVal tt rfl (wNone rfl) rfl rfl rfl rfl rfl hg11 ?_
    obtain ⟨hg12, h⟩ := grd_inv h
    refine nAppMove tt (wNone rfl) rfl rfl rfl rfl rfl rfl rfl rfl rfl rfl rfl rfl rfl rfl rfl rfl rfl rfl rfl rfl trivial hg12 ?_
    refine nNil ?_
    change VO _ _ _ _ _
    refine oPure (wNone rfl) (pBuild bld_impl_Graph rfl rfl) rfl rfl ?_
    refine oStore tt rfl rfl rfl rfl rfl rfl rfl rfl rfl rfl rfl ⟨trivial, trivial, trivial⟩ ?_
    refine oVal tt rfl rfl rfl rfl rfl trivial ?_
    refine vNil ?_
    change VC _ _ _ _
    refine vRet ?_
    change ∃ _, _
    cases h
    exact ⟨[35], _, rfl, ⟨rfl, trivial⟩, rfl, (.eq rfl), rfl⟩
def I_raises (N : Nat) (points_0 : Int) (bars_1 : List (Int × Int)) (x_2 : Int × Int) : Option (Bool) :=
 grd (bars_1.length ≤ 4294967296) <|
 grd ((([] : List (Int × Int)) ++ bars_1).length + 1 ≤ 4294967296) <|
 (I_planeRank N points_0 ((([] : List (Int × Int)) ++ bars_1) ++ ([(x_2.1, x_2.2)] : List (Int × Int)))).bind fun v1 =>
 (I_planeRank N points_0 bars_1).bind fun v2 =>
 some (decide (v1 > v2))
end Go.Proofs.Ytcljhpldfanhkaa
namespace Go.Proofs.Ytcljhpldfanhkaa
open Go.RowKit
def I_IsPinnedRigid (N : Nat) (p_0 : Pin) : Option (Bool) :=
 (I_PinnedFreedom N p_0).bind fun v1 =>
 some (v1 == (0 : Int))
def I_IsIsostatic (N : Nat) (p_0 : Pin) : Option (Bool) :=
 (I_IsPinnedRigid N p_0).bind fun v1 =>
 cnd v1 (
  (I_PinnedRank N p_0).bind fun v2 =>
  some (v2 == (p_0.g.bars.length : Int))) (
  some false)
end Go.Proofs.Ytcljhpldfanhkaa
namespace Go.Proofs.Ytcljhpldfanhkaa
open Go.RowKit
end Go.Proofs.Ytcljhpldfanhkaa
namespace Go.Proofs.Ytcljhpldfanhkaa
open Go.RowKit
end Go.Proofs.Ytcljhpldfanhkaa
namespace Go.Proofs.Ytcljhpldfanhkaa
open Go.RowKit Go.Deep
end Go.Proofs.Ytcljhpldfanhkaa
namespace Go.Proofs.Ytcljhpldfanhkaa
open Go.RowKit
def S_l3Set_l1 (N : Nat) (n_0 : Int) (mask_1 : Int) (k : (List Int) → Option (List Int)) : Nat → ((List Int) × Int) → Option (List Int)
 | 0, _ => none
 | n + 1, (l5, i6) =>
  cnd (decide (i6 < n_0)) (
   grd (0 ≤ i6) <|
   cnd ((andI (shrI mask_1 i6) (1 : Int)) == (1 : Int)) (
    grd (l5.length + 1 ≤ 4294967296) <|
    grd (Rg64 (i6 + (1 : Int))) <|
    S_l3Set_l1 N n_0 mask_1 k n ((l5 ++ ([i6] : List Int)), (i6 + (1 : Int)))) (
    grd (Rg64 (i6 + (1 : Int))) <|
    S_l3Set_l1 N n_0 mask_1 k n (l5, (i6 + (1 : Int))))) (
   k l5)
def S_l3Set (N : Nat) (n_0 : Int) (mask_1 : Int) : Option (List Int) :=
 S_l3Set_l1 N n_0 mask_1 (fun (l3 : List Int) =>
    some l3) N (([] : List Int), (0 : Int))
set_option maxRecDepth 20000 in
set_option maxHeartbeats 1600000 in
theorem S_l3Set_w (N : Nat) (n_0 : Int) (mask_1 : Int) (r : List Int) (h : S_l3Set N n_0 mask_1 = some r) : PCall Try.prog 197 [.int n_0, .int mask_1] [(3, .ints r)] (.row 0 0 r.length) := by
 unfold S_l3Set at h
 refine pcall_intro (TT := TT) tt Try.func197 rfl rfl Try.ntmps197 (congrArg Array.toList Try.results197) rfl rfl fun w0 => ?_
 refine vSeq ?_
 refine vRegion ?_
 refine oVal tt rfl rfl rfl rfl rfl trivial ?_
 refine vNil ?_
 change VC _ _ _ _
 refine vSeq ?_
 refine vRegion ?_
 refine oEmpty tt (wNone rfl) rfl rfl rfl rfl ?_
 refine oVal tt rfl rfl rfl rfl rfl trivial ?_
 refine vNil ?_
 change VC _ _ _ _
 iterate 2 refine vSeq ?_
 refine vRegion ?_
 refine oVal tt rfl rfl rfl rfl rfl trivial ?_
 refine vNil ?_
 change VC _ _ _ _
 refine vJoin (F := fun k => S_l3Set_l1 N n_0 mask_1 k) h (α := List Int) (J := fun (l3 : List Int) => (⟨[(5, .row 21 0 l3.length)], [(21, some (3, .ints l3))], []⟩ : PS)) ?_ ?_
 ·rintro l3 h
  show VC _ _ _ (⟨[(5, .row 21 0 l3.length)], [(21, some (3, .ints l3))], []⟩ : PS)
  refine vSeq ?_
  refine vRegion ?_
  iterate 2 refine oVal tt rfl rfl rfl rfl rfl trivial ?_
  refine vNil ?_
  change VC _ _ _ _
  refine vRet ?_
  change ∃ _, _
  cases h
  exact ⟨[21], _, rfl, ⟨rfl, trivial⟩, rfl, (.eq rfl), rfl⟩
 ·intro k h
  refine vBlock ?_
  refine vNilT 5 21 3 (.ints []) rfl rfl rfl rfl ?_
  refine vLoopS (α := (List Int) × Int) (fun | (l5, i6) => (⟨[(0, .int n_0), (1, .int mask_1), (5, .row 21 0 l5.length), (6, .int i6)], [(21, some (3, .ints l5))], []⟩ : PS)) (S_l3Set_l1 N n_0 mask_1 k) h (En.of ⟨rfl, rfl, rfl, rfl, trivial⟩ ⟨rfl, trivial⟩ trivial) (fun _ => rfl) ?_
  rintro n ⟨l5, i6⟩ h
  rw [S_l3Set_l1] at h
  show VC _ _ _ (⟨[(0, .int n_0), (1, .int mask_1), (5, .row 21 0 l5.length), (6, .int i6)], [(21, some (3, .ints l5))], []⟩ : PS)
  iterate 2 refine vSeq ?_
  refine vRegion ?_
  iterate 3 refine oVal tt rfl rfl rfl rfl rfl trivial ?_
  refine vNil ?_
  change VC _ _ _ _
  refine vCond rfl (fun hb1 => ?_) (fun hb1 => ?_)
  ·replace h := cnd_t hb1 h
   refine vSkip ?_
   change VC _ _ _ _
   refine vSeq ?_
   refine vBlock ?_
   refine vSeq ?_
   refine vRegion ?_
   iterate 2 refine oVal tt rfl rfl rfl rfl rfl trivial ?_
   obtain ⟨hg2, h⟩ := grd_inv h
   refine oVal tt rfl rfl rfl rfl rfl hg2 ?_
   iterate 2 refine oVal tt rfl rfl rfl rfl rfl trivial ?_
   refine vNil ?_
   change VC _ _ _ _
   refine vCond rfl (fun hb3 => ?_) (fun hb3 => ?_)
   ·replace h := cnd_t hb3 h
    refine vRegion ?_
    iterate 2 refine oVal tt rfl rfl rfl rfl rfl trivial ?_
    refine oBuild tt rfl rfl rfl rfl rfl rfl rfl rfl rfl rfl rfl ?_
    obtain ⟨hg4, h⟩ := grd_inv h
    refine oAppend tt rfl rfl rfl rfl rfl rfl rfl rfl rfl rfl rfl rfl rfl rfl rfl rfl (Nat.le_of_eq (Nat.zero_add _)) hg4 ?_
    refine oVal tt rfl rfl rfl rfl rfl trivial ?_
    refine vNil ?_
    change VC _ _ _ _
    refine vRegion ?_
    refine oVal tt rfl rfl rfl rfl rfl trivial ?_
    obtain ⟨hg5, h⟩ := grd_inv h
    refine oVal tt rfl rfl rfl rfl rfl hg5 ?_
    refine oVal tt rfl rfl rfl rfl rfl trivial ?_
    refine vNil ?_
    change ∃ _, _
    exact ⟨((l5 ++ ([i6] : List Int)), (i6 + (1 : Int))), (En.of ⟨rfl, rfl, rfl, rfl, trivial⟩ ⟨rfl, trivial⟩ trivial), h⟩
   ·replace h := cnd_f hb3 h
    refine vSkip ?_
    change VC _ _ _ _
    refine vRegion ?_
    refine oVal tt rfl rfl rfl rfl rfl trivial ?_
    obtain ⟨hg6, h⟩ := grd_inv h
    refine oVal tt rfl rfl rfl rfl rfl hg6 ?_
    refine oVal tt rfl rfl rfl rfl rfl trivial ?_
    refine vNil ?_
    change ∃ _, _
    exact ⟨(l5, (i6 + (1 : Int))), (En.of ⟨rfl, rfl, rfl, rfl, trivial⟩ ⟨rfl, trivial⟩ trivial), h⟩
  ·replace h := cnd_f hb1 h
   refine vExit ?_
   change ∃ _, _
   exact ⟨l5, (En.of ⟨rfl, trivial⟩ ⟨rfl, trivial⟩ trivial), h⟩
end Go.Proofs.Ytcljhpldfanhkaa
namespace Go.Proofs.Ytcljhpldfanhkaa
open Go.RowKit
def L_big (N : Nat) (code_0 : List Int) : Option (Bool) :=
 some (decide ((code_0.length : Int) > (1048576 : Int)))
set_option maxRecDepth 20000 in
set_option maxHeartbeats 1600000 in
theorem L_big_w (N : Nat) (code_0 : List Int) (r : Bool) (h : L_big N code_0 = some r) : PCall Try.prog 9 [.ro false (.bytes code_0)] [] (.bool r) := by
 unfold L_big at h
 refine pcall_intro (TT := TT) tt Try.func9 rfl rfl Try.ntmps9 (congrArg Array.toList Try.results9) rfl rfl fun w0 => ?_
 refine vSeq ?_
 refine vRegion ?_
 refine oVal tt rfl rfl rfl rfl rfl trivial ?_
 refine vNil ?_
 change VC _ _ _ _
 refine vSeq ?_
 refine vRegion ?_
 iterate 4 refine oVal tt rfl rfl rfl rfl rfl trivial ?_
 refine vNil ?_
 change VC _ _ _ _
 refine vRet ?_
 change ∃ _, _
 cases h
 exact ⟨[], _, rfl, trivial, rfl, (.eq rfl), rfl⟩
def S_l1Byte (N : Nat) (c_0 : Cur) : Option (Int × Int × Int) :=
 cnd (decide (c_0.i < (c_0.b.length : Int))) (
  grd (0 ≤ c_0.i ∧ c_0.i < (c_0.b.length : Int)) <|
  grd (0 ≤ (c_0.b.getD ((c_0.i).toNat) 0) ∧ (c_0.b.getD ((c_0.i).toNat) 0) < 256) <|
  some ((andI (w64 ((andI (xorI (shrI (w64 ((w64 (c_0.h * (6364136223846793005 : Int))) + (1442695040888963407 : Int))) 33) (shrI (w64 ((w64 (c_0.h * (6364136223846793005 : Int))) + (1442695040888963407 : Int))) 45)) (255 : Int)) + (c_0.b.getD ((c_0.i).toNat) 0))) (255 : Int)), (w64 (c_0.i + (1 : Int))), (w64 ((w64 (c_0.h * (6364136223846793005 : Int))) + (1442695040888963407 : Int))))) (
  some ((andI (xorI (shrI (w64 ((w64 (c_0.h * (6364136223846793005 : Int))) + (1442695040888963407 : Int))) 33) (shrI (w64 ((w64 (c_0.h * (6364136223846793005 : Int))) + (1442695040888963407 : Int))) 45)) (255 : Int)), c_0.i, (w64 ((w64 (c_0.h * (6364136223846793005 : Int))) + (1442695040888963407 : Int)))))
set_option maxRecDepth 20000 in
set_option maxHeartbeats 1600000 in
theorem S_l1Byte_w (N : Nat) (c_0 : Cur) (r : Int × Int × Int) (h : S_l1Byte N c_0 = some r) : MCall Try.prog 179 [.ptr 1000000 0] [] [1000000] [] [] [[.ro false (.bytes c_0.b), .int c_0.i, .int c_0.h]] [[.ro false (.bytes c_0.b), .int r.2.1, .int r.2.2]] (.int r.1) := by
 unfold S_l1Byte at h
 refine mcall_intro (TT := TT) tt Try.func179 rfl rfl Try.ntmps179 (congrArg Array.toList Try.results179) rfl rfl rfl rfl rfl fun w0 O0 => ?_
 refine vSeq ?_
 refine vRegion ?_
 refine oVal tt rfl rfl rfl rfl rfl trivial ?_
 refine vNil ?_
 change VC _ _ _ _
 refine vSeq ?_
 refine vRegion ?_
 iterate 5 refine oVal tt rfl rfl rfl rfl rfl trivial ?_
 refine oPure (wNone rfl) (pMulW rfl rfl rfl) rfl rfl ?_
 refine oPure (wNone rfl) (pAddW rfl rfl rfl) rfl rfl ?_
 iterate 2 refine oVal tt rfl rfl rfl rfl rfl trivial ?_
 refine oStore tt rfl rfl rfl rfl rfl rfl rfl rfl rfl rfl rfl ⟨trivial, trivial⟩ ?_
 refine vNil ?_
 change VC _ _ _ _
 refine vSeq ?_
 refine vRegionD (by kernel_rfl) (by kernel_rfl) ?_
 iterate 4 refine cVal tt rfl (wNone rfl) rfl rfl rfl trivial ?_
 refine cPure (wNone rfl) (pShrU rfl rfl rfl (by decide)) rfl rfl ?_
 iterate 4 refine cVal tt rfl (wNone rfl) rfl rfl rfl trivial ?_
 refine cPure (wNone rfl) (pShrU rfl rfl rfl (by decide)) rfl rfl ?_
 refine cPure (wNone rfl) (pXor rfl rfl rfl) rfl rfl ?_
 iterate 2 refine cVal tt rfl (wNone rfl) rfl rfl rfl trivial ?_
 refine cNil ?_
 change VC _ _ _ _
 iterate 2 refine vSeq ?_
 refine vRegionD (by kernel_rfl) (by kernel_rfl) ?_
 iterate 10 refine cVal tt rfl (wNone rfl) rfl rfl rfl trivial ?_
 refine cNil ?_
 change VC _ _ _ _
 refine vCond rfl (fun hb1 => ?_) (fun hb1 => ?_)
 ·replace h := cnd_t hb1 h
  refine vSeq ?_
  refine vRegionD (by kernel_rfl) (by kernel_rfl) ?_
  iterate 9 refine cVal tt rfl (wNone rfl) rfl rfl rfl trivial ?_
  obtain ⟨hg2, h⟩ := grd_inv h
  refine cVal tt rfl (wNone rfl) rfl rfl rfl hg2 ?_
  refine cVal tt rfl (wNone rfl) rfl rfl rfl trivial ?_
  obtain ⟨hg3, h⟩ := grd_inv h
  refine cPure (wNone rfl) (pConvI Try.underlying5 Try.underlying3 rfl rfl hg3) rfl rfl ?_
  refine cPure (wNone rfl) (pAddW rfl rfl rfl) rfl rfl ?_
  iterate 2 refine cVal tt rfl (wNone rfl) rfl rfl rfl trivial ?_
  refine cNil ?_
  change VC _ _ _ _
  refine vRegion ?_
  iterate 5 refine oVal tt rfl rfl rfl rfl rfl trivial ?_
  refine oPure (wNone rfl) (pAddW rfl rfl rfl) rfl rfl ?_
  iterate 2 refine oVal tt rfl rfl rfl rfl rfl trivial ?_
  refine oStore tt rfl rfl rfl rfl rfl rfl rfl rfl rfl rfl rfl ⟨trivial, trivial⟩ ?_
  refine vNil ?_
  change VC _ _ _ _
  refine vSeq ?_
  refine vRegion ?_
  iterate 2 refine oVal tt rfl rfl rfl rfl rfl trivial ?_
  refine vNil ?_
  change VC _ _ _ _
  refine vRet ?_
  change ∃ _, _
  cases h
  exact ⟨[], rfl, trivial, ⟨rfl, trivial⟩, rfl⟩
 ·replace h := cnd_f hb1 h
  refine vSkip ?_
  change VC _ _ _ _
  refine vSeq ?_
  refine vRegion ?_
  iterate 2 refine oVal tt rfl rfl rfl rfl rfl trivial ?_
  refine vNil ?_
  change VC _ _ _ _
  refine vRet ?_
  change ∃ _, _
  cases h
  exact ⟨[], rfl, trivial, ⟨rfl, trivial⟩, rfl⟩
def S_l1Below (N : Nat) (c_0 : Cur) (n_1 : Int) : Option (Int × Int × Int) :=
 cnd (decide (n_1 ≤ (0 : Int))) (
  some ((0 : Int), c_0.i, c_0.h)) (
  cnd (decide (n_1 ≤ (256 : Int))) (
   (S_l1Byte N c_0).bind fun v1 =>
   grd (n_1 ≠ 0) <|
   some ((Int.tmod v1.1 n_1), v1.2.1, v1.2.2)) (
   (S_l1Byte N c_0).bind fun v2 =>
   (S_l1Byte N (⟨c_0.b, v2.2.1, v2.2.2⟩ : Cur)).bind fun v3 =>
   (S_l1Byte N (⟨c_0.b, v3.2.1, v3.2.2⟩ : Cur)).bind fun v4 =>
   (S_l1Byte N (⟨c_0.b, v4.2.1, v4.2.2⟩ : Cur)).bind fun v5 =>
   grd (Rg64 (v2.1 * (16777216 : Int))) <|
   grd (Rg64 (v3.1 * (65536 : Int))) <|
   grd (Rg64 ((v2.1 * (16777216 : Int)) + (v3.1 * (65536 : Int)))) <|
   grd (Rg64 (v4.1 * (256 : Int))) <|
   grd (Rg64 (((v2.1 * (16777216 : Int)) + (v3.1 * (65536 : Int))) + (v4.1 * (256 : Int)))) <|
   grd (Rg64 ((((v2.1 * (16777216 : Int)) + (v3.1 * (65536 : Int))) + (v4.1 * (256 : Int))) + v5.1)) <|
   grd (n_1 ≠ 0) <|
   some ((Int.tmod ((((v2.1 * (16777216 : Int)) + (v3.1 * (65536 : Int))) + (v4.1 * (256 : Int))) + v5.1) n_1), v5.2.1, v5.2.2)))
set_option maxRecDepth 20000 in
set_option maxHeartbeats 1600000 in
theorem S_l1Below_w (N : Nat) (c_0 : Cur) (n_1 : Int) (r : Int × Int × Int) (h : S_l1Below N c_0 n_1 = some r) : MCall Try.prog 123 [.ptr 1000000 0, .int n_1] [] [1000000] [] [] [[.ro false (.bytes c_0.b), .int c_0.i, .int c_0.h]] [[.ro false (.bytes c_0.b), .int r.2.1, .int r.2.2]] (.int r.1) := by
 unfold S_l1Below at h
 refine mcall_intro (TT := TT) tt Try.func123 rfl rfl Try.ntmps123 (congrArg Array.toList Try.results123) rfl rfl rfl rfl rfl fun w0 O0 => ?_
 refine vSeq ?_
 refine vRegion ?_
 refine oVal tt rfl rfl rfl rfl rfl trivial ?_
 refine vNil ?_
 change VC _ _ _ _
 iterate 2 refine vSeq ?_
 refine vRegion ?_
 iterate 2 refine oVal tt rfl rfl rfl rfl rfl trivial ?_
 refine vNil ?_
 change VC _ _ _ _
 refine vCond rfl (fun hb1 => ?_) (fun hb1 => ?_)
 ·replace h := cnd_t hb1 h
  refine vSeq ?_
  refine vRegion ?_
  refine oVal tt rfl rfl rfl rfl rfl trivial ?_
  refine vNil ?_
  change VC _ _ _ _
  refine vRet ?_
  change ∃ _, _
  cases h
  exact ⟨[], rfl, trivial, ⟨rfl, trivial⟩, rfl⟩
 ·replace h := cnd_f hb1 h
  refine vSkip ?_
  change VC _ _ _ _
  iterate 2 refine vSeq ?_
  refine vRegion ?_
  iterate 2 refine oVal tt rfl rfl rfl rfl rfl trivial ?_
  refine vNil ?_
  change VC _ _ _ _
  refine vCond rfl (fun hb2 => ?_) (fun hb2 => ?_)
  ·replace h := cnd_t hb2 h
   refine vSeq ?_
   refine vRegion ?_
   refine oVal tt rfl rfl rfl rfl rfl trivial ?_
   obtain ⟨v1, hc3, h⟩ := bind_inv h
   refine oMCall (S_l1Byte_w N c_0 v1 hc3) [] [1000000] [] rfl rfl rfl rfl rfl rfl trivial ⟨rfl, trivial⟩ ⟨⟨rfl, rfl⟩, trivial⟩ ?_
   refine oVal tt rfl rfl rfl rfl rfl trivial ?_
   obtain ⟨hg4, h⟩ := grd_inv h
   refine oVal tt rfl rfl rfl rfl rfl hg4 ?_
   refine oVal tt rfl rfl rfl rfl rfl trivial ?_
   refine vNil ?_
   change VC _ _ _ _
   refine vRet ?_
   change ∃ _, _
   cases h
   exact ⟨[], rfl, trivial, ⟨rfl, trivial⟩, rfl⟩
  ·replace h := cnd_f hb2 h
   refine vSkip ?_
   change VC _ _ _ _
   refine vSeq ?_
   refine vRegion ?_
   refine oVal tt rfl rfl rfl rfl rfl trivial ?_
   obtain ⟨v2, hc5, h⟩ := bind_inv h
   refine oMCall (S_l1Byte_w N c_0 v2 hc5) [] [1000000] [] rfl rfl rfl rfl rfl rfl trivial ⟨rfl, trivial⟩ ⟨⟨rfl, rfl⟩, trivial⟩ ?_
   refine oVal tt rfl rfl rfl rfl rfl trivial ?_
   refine vNil ?_
   change VC _ _ _ _
   refine vSeq ?_
   refine vRegion ?_
   refine oVal tt rfl rfl rfl rfl rfl trivial ?_
   obtain ⟨v3, hc6, h⟩ := bind_inv h
   refine oMCall (S_l1Byte_w N (⟨c_0.b, v2.2.1, v2.2.2⟩ : Cur) v3 hc6) [] [1000000] [] rfl rfl rfl rfl rfl rfl trivial ⟨rfl, trivial⟩ ⟨⟨rfl, rfl⟩, trivial⟩ ?_
   refine oVal tt rfl rfl rfl rfl rfl trivial ?_
   refine vNil ?_
   change VC _ _ _ _
   refine vSeq ?_
   refine vRegion ?_
   refine oVal tt rfl rfl rfl rfl rfl trivial ?_
   obtain ⟨v4, hc7, h⟩ := bind_inv h
   refine oMCall (S_l1Byte_w N (⟨c_0.b, v3.2.1, v3.2.2⟩ : Cur) v4 hc7) [] [1000000] [] rfl rfl rfl rfl rfl rfl trivial ⟨rfl, trivial⟩ ⟨⟨rfl, rfl⟩, trivial⟩ ?_
   refine oVal tt rfl rfl rfl rfl rfl trivial ?_
   refine vNil ?_
   change VC _ _ _ _
   refine vSeq ?_
   refine vRegion ?_
   refine oVal tt rfl rfl rfl rfl rfl trivial ?_
   obtain ⟨v5, hc8, h⟩ := bind_inv h
   refine oMCall (S_l1Byte_w N (⟨c_0.b, v4.2.1, v4.2.2⟩ : Cur) v5 hc8) [] [1000000] [] rfl rfl rfl rfl rfl rfl trivial ⟨rfl, trivial⟩ ⟨⟨rfl, rfl⟩, trivial⟩ ?_
   refine oVal tt rfl rfl rfl rfl rfl trivial ?_
   refine vNil ?_
   change VC _ _ _ _
   refine vSeq ?_
   refine vRegion ?_
   refine oVal tt rfl rfl rfl rfl rfl trivial ?_
   obtain ⟨hg9, h⟩ := grd_inv h
   refine oVal tt rfl rfl rfl rfl rfl hg9 ?_
   refine oVal tt rfl rfl rfl rfl rfl trivial ?_
   obtain ⟨hg10, h⟩ := grd_inv h
   refine oVal tt rfl rfl rfl rfl rfl hg10 ?_
   obtain ⟨hg11, h⟩ := grd_inv h
   refine oVal tt rfl rfl rfl rfl rfl hg11 ?_
   refine oVal tt rfl rfl rfl rfl rfl trivial ?_
   obtain ⟨hg12, h⟩ := grd_inv h
   refine oVal tt rfl rfl rfl rfl rfl hg12 ?_
   obtain ⟨hg13, h⟩ := grd_inv h
   refine oVal tt rfl rfl rfl rfl rfl hg13 ?_
   refine oVal tt rfl rfl rfl rfl rfl trivial ?_
   obtain ⟨hg14, h⟩ := grd_inv h
   refine oVal tt rfl rfl rfl rfl rfl hg14 ?_
   refine oVal tt rfl rfl rfl rfl rfl trivial ?_
   obtain ⟨hg15, h⟩ := grd_inv h
   refine oVal tt rfl rfl rfl rfl rfl hg15 ?_
   refine oVal tt rfl rfl rfl rfl rfl trivial ?_
   refine vNil ?_
   change VC _ _ _ _
   refine vRet ?_
   change ∃ _, _
   cases h
   exact ⟨[], rfl, trivial, ⟨rfl, trivial⟩, rfl⟩
def S_l1Once (N : Nat) (c_0 : Cur) (n_1 : Int) : Option (Bool × Int × Int) :=
 (S_l1Below N c_0 n_1).bind fun v1 =>
 some ((v1.1 == (0 : Int)), v1.2.1, v1.2.2)
set_option maxRecDepth 20000 in
set_option maxHeartbeats 1600000 in
theorem S_l1Once_w (N : Nat) (c_0 : Cur) (n_1 : Int) (r : Bool × Int × Int) (h : S_l1Once N c_0 n_1 = some r) : MCall Try.prog 130 [.ptr 1000000 0, .int n_1] [] [1000000] [] [] [[.ro false (.bytes c_0.b), .int c_0.i, .int c_0.h]] [[.ro false (.bytes c_0.b), .int r.2.1, .int r.2.2]] (.bool r.1) := by
 unfold S_l1Once at h
 refine mcall_intro (TT := TT) tt Try.func130 rfl rfl Try.ntmps130 (congrArg Array.toList Try.results130) rfl rfl rfl rfl rfl fun w0 O0 => ?_
 refine vSeq ?_
 refine vRegion ?_
 refine oVal tt rfl rfl rfl rfl rfl trivial ?_
 refine vNil ?_
 change VC _ _ _ _
 refine vSeq ?_
 refine vRegion ?_
 iterate 2 refine oVal tt rfl rfl rfl rfl rfl trivial ?_
 obtain ⟨v1, hc1, h⟩ := bind_inv h
 refine oMCall (S_l1Below_w N c_0 n_1 v1 hc1) [] [1000000] [] rfl rfl rfl rfl rfl rfl trivial ⟨rfl, trivial⟩ ⟨⟨rfl, rfl⟩, ⟨rfl, rfl⟩, trivial⟩ ?_
 iterate 2 refine oVal tt rfl rfl rfl rfl rfl trivial ?_
 refine vNil ?_
 change VC _ _ _ _
 refine vRet ?_
 change ∃ _, _
 cases h
 exact ⟨[], rfl, trivial, ⟨rfl, trivial⟩, rfl⟩
end Go.Proofs.Ytcljhpldfanhkaa
namespace Go.Proofs.Ytcljhpldfanhkaa
open Go.RowKit
theorem bld_impl_Linkage : BuildOK Try.prog 79 [(0, 3), (3, 1)] [.int .i64 0, .slice none 0 0, .slice none 0 0, .slice none 0 0] := bld (by kernel_rfl) (by kernel_rfl)
theorem bld_spec_l1Cur : BuildOK Try.prog 151 [(0, 1), (1, 1), (2, 1)] [.slice none 0 0, .int .i64 0, .int .i64 0] := bld (by kernel_rfl) (by kernel_rfl)
end Go.Proofs.Ytcljhpldfanhkaa
namespace Go.Proofs.Ytcljhpldfanhkaa
open Go.RowKit
def S_l1New_l1 (N : Nat) (code_0 : List Int) (k : Int → Option (Cur)) : Nat → (Int × Int) → Option (Cur)
 | 0, _ => none
 | n + 1, (h5, i6) =>
  cnd (decide (i6 < (code_0.length : Int))) (
   cnd (decide (i6 < (4000 : Int))) (
    grd (Rg64 (h5 * (131 : Int))) <|
    grd (0 ≤ i6 ∧ i6 < (code_0.length : Int)) <|
    grd (0 ≤ (code_0.getD ((i6).toNat) 0) ∧ (code_0.getD ((i6).toNat) 0) < 256) <|
    grd (Rg64 ((h5 * (131 : Int)) + (code_0.getD ((i6).toNat) 0))) <|
    grd (Rg64 (((h5 * (131 : Int)) + (code_0.getD ((i6).toNat) 0)) + (7 : Int))) <|
    grd (Rg64 (i6 + (1 : Int))) <|
    S_l1New_l1 N code_0 k n ((andI (((h5 * (131 : Int)) + (code_0.getD ((i6).toNat) 0)) + (7 : Int)) (1073741823 : Int)), (i6 + (1 : Int)))) (
    k h5)) (
   k h5)
def S_l1New (N : Nat) (code_0 : List Int) : Option (Cur) :=
 grd (Rg64 ((10101 : Int) + (code_0.length : Int))) <|
 S_l1New_l1 N code_0 (fun (h3 : Int) =>
    some (⟨code_0, (0 : Int), h3⟩ : Cur)) N (((10101 : Int) + (code_0.length : Int)), (0 : Int))
set_option maxRecDepth 20000 in
set_option maxHeartbeats 1600000 in
theorem S_l1New_w (N : Nat) (code_0 : List Int) (r : Cur) (h : S_l1New N code_0 = some r) : PCallB Try.prog 110 [.ro false (.bytes code_0)] [.ro false (.bytes r.b), .int r.i, .int r.h] := by
 unfold S_l1New at h
 refine pcallB_intro (TT := TT) tt Try.func110 rfl rfl Try.ntmps110 (congrArg Array.toList Try.results110) rfl rfl rfl fun w0 O0 => ?_
 refine vSeq ?_
 refine vRegion ?_
 refine oVal tt rfl rfl rfl rfl rfl trivial ?_
 refine vNil ?_
 change VC _ _ _ _
 refine vSeq ?_
 refine vRegion ?_
 iterate 2 refine oVal tt rfl rfl rfl rfl rfl trivial ?_
 obtain ⟨hg1, h⟩ := grd_inv h
 refine oVal tt rfl rfl rfl rfl rfl hg1 ?_
 refine oVal tt rfl rfl rfl rfl rfl trivial ?_
 refine vNil ?_
 change VC _ _ _ _
 iterate 2 refine vSeq ?_
 refine vRegion ?_
 refine oVal tt rfl rfl rfl rfl rfl trivial ?_
 refine vNil ?_
 change VC _ _ _ _
 refine vJoin (F := fun k => S_l1New_l1 N code_0 k) h (α := Int) (J := fun (h3 : Int) => (⟨[(0, .ro false (.bytes code_0)), (3, .int h3)], [], []⟩ : PS)) ?_ ?_
 ·rintro h3 h
  show VC _ _ _ (⟨[(0, .ro false (.bytes code_0)), (3, .int h3)], [], []⟩ : PS)
  refine vSeq ?_
  refine vRegion ?_
  iterate 2 refine oVal tt rfl rfl rfl rfl rfl trivial ?_
  refine oPure (wNone rfl) (pBuild bld_spec_l1Cur rfl rfl) rfl rfl ?_
  refine oBox rfl rfl rfl rfl rfl rfl rfl rfl rfl ?_
  refine oVal tt rfl rfl rfl rfl rfl trivial ?_
  refine vNil ?_
  change VC _ _ _ _
  refine vRet ?_
  change ∃ _, _
  cases h
  exact ⟨31, rfl, rfl, rfl⟩
 ·intro k h
  refine vBlock ?_
  refine vLoopS (α := Int × Int) (fun | (h5, i6) => (⟨[(0, .ro false (.bytes code_0)), (3, .int h5), (4, .int i6)], [], []⟩ : PS)) (S_l1New_l1 N code_0 k) h (En.of ⟨rfl, rfl, rfl, trivial⟩ trivial trivial) (fun _ => rfl) ?_
  rintro n ⟨h5, i6⟩ h
  rw [S_l1New_l1] at h
  show VC _ _ _ (⟨[(0, .ro false (.bytes code_0)), (3, .int h5), (4, .int i6)], [], []⟩ : PS)
  iterate 2 refine vSeq ?_
  refine vRegion ?_
  iterate 5 refine oVal tt rfl rfl rfl rfl rfl trivial ?_
  refine oSplit rfl rfl rfl (fun hb2 => ?_) (fun hb2 => ?_)
  ·replace h := cnd_t hb2 h
   iterate 2 refine oValG tt rfl rfl rfl rfl rfl hb2 rfl rfl rfl trivial ?_
   refine oPick rfl rfl rfl rfl rfl hb2 rfl ?_
   refine vNil ?_
   change VC _ _ _ _
   refine vCond rfl (fun hb3 => ?_) (fun hb3 => ?_)
   ·replace h := cnd_t hb3 h
    refine vSkip ?_
    change VC _ _ _ _
    refine vSeq ?_
    refine vBlock ?_
    refine vRegion ?_
    refine oVal tt rfl rfl rfl rfl rfl trivial ?_
    obtain ⟨hg4, h⟩ := grd_inv h
    refine oVal tt rfl rfl rfl rfl rfl hg4 ?_
    iterate 2 refine oVal tt rfl rfl rfl rfl rfl trivial ?_
    obtain ⟨hg5, h⟩ := grd_inv h
    refine oVal tt rfl rfl rfl rfl rfl hg5 ?_
    refine oVal tt rfl rfl rfl rfl rfl trivial ?_
    obtain ⟨hg6, h⟩ := grd_inv h
    refine oPure (wNone rfl) (pConvI Try.underlying5 Try.underlying3 rfl rfl hg6) rfl rfl ?_
    obtain ⟨hg7, h⟩ := grd_inv h
    refine oVal tt rfl rfl rfl rfl rfl hg7 ?_
    obtain ⟨hg8, h⟩ := grd_inv h
    refine oVal tt rfl rfl rfl rfl rfl hg8 ?_
    iterate 2 refine oVal tt rfl rfl rfl rfl rfl trivial ?_
    refine vNil ?_
    change VC _ _ _ _
    refine vRegion ?_
    refine oVal tt rfl rfl rfl rfl rfl trivial ?_
    obtain ⟨hg9, h⟩ := grd_inv h
    refine oVal tt rfl rfl rfl rfl rfl hg9 ?_
    refine oVal tt rfl rfl rfl rfl rfl trivial ?_
    refine vNil ?_
    change ∃ _, _
    exact ⟨((andI (((h5 * (131 : Int)) + (code_0.getD ((i6).toNat) 0)) + (7 : Int)) (1073741823 : Int)), (i6 + (1 : Int))), (En.of ⟨rfl, rfl, rfl, trivial⟩ trivial trivial), h⟩
   ·replace h := cnd_f hb3 h
    refine vExit ?_
    change ∃ _, _
    exact ⟨h5, (En.of ⟨rfl, rfl, trivial⟩ trivial trivial), h⟩
  ·replace h := cnd_f hb2 h
   iterate 2 refine oNoT rfl rfl rfl rfl hb2 rfl rfl ?_
   refine oPickF rfl rfl rfl rfl rfl hb2 rfl ?_
   refine vNil ?_
   change VC _ _ _ _
   refine vCondF rfl rfl ?_
   refine vExit ?_
   change ∃ _, _
   exact ⟨h5, (En.of ⟨rfl, rfl, trivial⟩ trivial trivial), h⟩
def L_has_l1 (N : Nat) (l_0 : List Int) (x_1 : Int) (k : Unit → Option (Bool)) : Nat → Int → Option (Bool)
 | 0, _ => none
 | n + 1, i3 =>
  cnd (decide (i3 < (l_0.length : Int))) (
   grd (0 ≤ i3 ∧ i3 < (l_0.length : Int)) <|
   cnd ((l_0.getD ((i3).toNat) 0) == x_1) (
    some true) (
    grd (Rg64 (i3 + (1 : Int))) <|
    L_has_l1 N l_0 x_1 k n (i3 + (1 : Int)))) (
   k ())
def L_has (N : Nat) (l_0 : List Int) (x_1 : Int) : Option (Bool) :=
 L_has_l1 N l_0 x_1 (fun (_ : Unit) =>
    some false) N (0 : Int)
def L_sameInts_l1 (N : Nat) (a_0 : List Int) (b_1 : List Int) (k : Unit → Option (Bool)) : Nat → Int → Option (Bool)
 | 0, _ => none
 | n + 1, i3 =>
  cnd (decide (i3 < (a_0.length : Int))) (
   grd (0 ≤ i3 ∧ i3 < (a_0.length : Int)) <|
   grd (0 ≤ i3 ∧ i3 < (b_1.length : Int)) <|
   cnd ((a_0.getD ((i3).toNat) 0) != (b_1.getD ((i3).toNat) 0)) (
    some false) (
    grd (Rg64 (i3 + (1 : Int))) <|
    L_sameInts_l1 N a_0 b_1 k n (i3 + (1 : Int)))) (
   k ())
def L_sameInts (N : Nat) (a_0 : List Int) (b_1 : List Int) : Option (Bool) :=
 cnd ((a_0.length : Int) != (b_1.length : Int)) (
  some false) (
  L_sameInts_l1 N a_0 b_1 (fun (_ : Unit) =>
     some true) N (0 : Int))
set_option maxRecDepth 20000 in
set_option maxHeartbeats 1600000 in
theorem L_sameInts_w (N : Nat) (a_0 : List Int) (b_1 : List Int) (r : Bool) (h : L_sameInts N a_0 b_1 = some r) : PCall Try.prog 27 [.ro false (.ints a_0), .ro false (.ints b_1)] [] (.bool r) := by
 unfold L_sameInts at h
 refine pcall_intro (TT := TT) tt Try.func27 rfl rfl Try.ntmps27 (congrArg Array.toList Try.results27) rfl rfl fun w0 => ?_
 refine vSeq ?_
 refine vRegion ?_
 refine oVal tt rfl rfl rfl rfl rfl trivial ?_
 refine vNil ?_
 change VC _ _ _ _
 iterate 2 refine vSeq ?_
 refine vRegion ?_
 iterate 5 refine oVal tt rfl rfl rfl rfl rfl trivial ?_
 refine vNil ?_
 change VC _ _ _ _
 refine vCond rfl (fun hb1 => ?_) (fun hb1 => ?_)
 ·replace h := cnd_t hb1 h
  refine vSeq ?_
  refine vRegion ?_
  refine oVal tt rfl rfl rfl rfl rfl trivial ?_
  refine vNil ?_
  change VC _ _ _ _
  refine vRet ?_
  change ∃ _, _
  cases h
  exact ⟨[], _, rfl, trivial, rfl, (.eq rfl), rfl⟩
 ·replace h := cnd_f hb1 h
  refine vSkip ?_
  change VC _ _ _ _
  iterate 2 refine vSeq ?_
  refine vRegion ?_
  refine oVal tt rfl rfl rfl rfl rfl trivial ?_
  refine vNil ?_
  change VC _ _ _ _
  refine vJoin (F := fun k => L_sameInts_l1 N a_0 b_1 k) h (α := Unit) (J := fun (_ : Unit) => (⟨[], [], []⟩ : PS)) ?_ ?_
  ·rintro ⟨⟩ h
   show VC _ _ _ (⟨[], [], []⟩ : PS)
   refine vSeq ?_
   refine vRegion ?_
   refine oVal tt rfl rfl rfl rfl rfl trivial ?_
   refine vNil ?_
   change VC _ _ _ _
   refine vRet ?_
   change ∃ _, _
   cases h
   exact ⟨[], _, rfl, trivial, rfl, (.eq rfl), rfl⟩
  ·intro k h
   refine vBlock ?_
   refine vLoopS (α := Int) (fun (i3 : Int) => (⟨[(0, .ro false (.ints a_0)), (1, .ro false (.ints b_1)), (5, .int i3)], [], []⟩ : PS)) (L_sameInts_l1 N a_0 b_1 k) h (En.of ⟨rfl, rfl, rfl, trivial⟩ trivial trivial) (fun _ => rfl) ?_
   rintro n i3 h
   rw [L_sameInts_l1] at h
   show VC _ _ _ (⟨[(0, .ro false (.ints a_0)), (1, .ro false (.ints b_1)), (5, .int i3)], [], []⟩ : PS)
   iterate 2 refine vSeq ?_
   refine vRegion ?_
   iterate 4 refine oVal tt rfl rfl rfl rfl rfl trivial ?_
   refine vNil ?_
   change VC _ _ _ _
   refine vCond rfl (fun hb2 => ?_) (fun hb2 => ?_)
   ·replace h := cnd_t hb2 h
    refine vSkip ?_
    change VC _ _ _ _
    refine vSeq ?_
    refine vBlock ?_
    refine vSeq ?_
    refine vRegionD (by kernel_rfl) (by kernel_rfl) ?_
    iterate 2 refine cVal tt rfl (wNone rfl) rfl rfl rfl trivial ?_
    obtain ⟨hg3, h⟩ := grd_inv h
    refine cVal tt rfl (wNone rfl) rfl rfl rfl hg3 ?_
    iterate 3 refine cVal tt rfl (wNone rfl) rfl rfl rfl trivial ?_
    obtain ⟨hg4, h⟩ := grd_inv h
    refine cVal tt rfl (wNone rfl) rfl rfl rfl hg4 ?_
    iterate 2 refine cVal tt rfl (wNone rfl) rfl rfl rfl trivial ?_
    refine cNil ?_
    change VC _ _ _ _
    refine vCond rfl (fun hb5 => ?_) (fun hb5 => ?_)
    ·replace h := cnd_t hb5 h
     refine vSeq ?_
     refine vRegion ?_
     refine oVal tt rfl rfl rfl rfl rfl trivial ?_
     refine vNil ?_
     change VC _ _ _ _
     refine vRet ?_
     change ∃ _, _
     cases h
     exact ⟨[], _, rfl, trivial, rfl, (.eq rfl), rfl⟩
    ·replace h := cnd_f hb5 h
     refine vSkip ?_
     change VC _ _ _ _
     refine vRegion ?_
     refine oVal tt rfl rfl rfl rfl rfl trivial ?_
     obtain ⟨hg6, h⟩ := grd_inv h
     refine oVal tt rfl rfl rfl rfl rfl hg6 ?_
     refine oVal tt rfl rfl rfl rfl rfl trivial ?_
     refine vNil ?_
     change ∃ _, _
     exact ⟨(i3 + (1 : Int)), (En.of ⟨rfl, rfl, rfl, trivial⟩ trivial trivial), h⟩
   ·replace h := cnd_f hb2 h
    refine vExit ?_
    change ∃ _, _
    exact ⟨(), (En.of trivial trivial trivial), h⟩
end Go.Proofs.Ytcljhpldfanhkaa
namespace Go.Proofs.Ytcljhpldfanhkaa
open Go.RowKit
def Ok {α : Type} (o : Option α) (P : α → Prop) : Prop := ∃ r, o = some r ∧ P r
section
variable {α β : Type} {P Q : α → Prop}
theorem ok_some {r : α} (h : P r) : Ok (some r) P := ⟨r, rfl, h⟩
theorem ok_bind {o : Option β} {R : β → Prop} {f : β → Option α} (h : Ok o R) (hf : ∀ r, R r → Ok (f r) P) : Ok (o.bind f) P := by
 obtain ⟨r, rfl, hr⟩ := h
 exact hf r hr
theorem ok_grd {p : Prop} [Decidable p] {o : Option α} (hp : p) (h : Ok o P) : Ok (grd p o) P := by rw [grd_pos hp]; exact h
theorem ok_cnd {b : Bool} {x y : Option α} (h1 : b = true → Ok x P) (h2 : b = false → Ok y P) : Ok (cnd b x y) P := by
 cases b with
 | true => exact h1 rfl
 | false => exact h2 rfl
end
def Byt (l : List Int) : Prop := ∀ i : Nat, i < l.length → 0 ≤ l.getD i 0 ∧ l.getD i 0 < 256
structure CK (c : Cur) : Prop where
 byt : Byt c.b
 len : c.b.length ≤ 1048576
 nn : 0 ≤ c.i
theorem and_low {x : Int} {m : Nat} (hm : m < 4611686018427387904) : 0 ≤ andI x (m : Int) ∧ andI x (m : Int) ≤ m := by
 unfold andI
 have e : (BitVec.ofInt 64 (m : Int)).toNat = m := by rw [BitVec.toNat_ofInt]; omega
 rw [BitVec.toNat_and, e]
 have h : (BitVec.ofInt 64 x).toNat &&& m ≤ m := Nat.and_le_right
 rw [show IntKind.i64.wrap (((BitVec.ofInt 64 x).toNat &&& m : Nat) : Int) = (((BitVec.ofInt 64 x).toNat &&& m : Nat) : Int) from w64_id (by omega) (by omega)]
 omega
theorem and_255 (x : Int) : 0 ≤ andI x (255 : Int) ∧ andI x (255 : Int) < 256 := by
 have := and_low (x := x) (m := 255) (by omega)
 have e : ((255 : Nat) : Int) = (255 : Int) := rfl
 rw [e] at this
 omega
variable {N : Nat}
theorem byte_s {c : Cur} (h : CK c) : Ok (S_l1Byte N c) fun r => 0 ≤ r.1 ∧ r.1 < 256 ∧ 0 ≤ r.2.1 := by
 unfold S_l1Byte
 have hl := h.len
 have hn := h.nn
 refine ok_cnd (fun hb => ?_) (fun hb => ?_)
 ·rw [decide_eq_true_eq] at hb
  have hy := h.byt c.i.toNat (by omega)
  refine ok_grd ⟨hn, hb⟩ (ok_grd hy (ok_some ?_))
  have := and_255 (w64 ((andI (xorI (shrI (w64 ((w64 (c.h * (6364136223846793005 : Int))) + (1442695040888963407 : Int))) 33) (shrI (w64 ((w64 (c.h * (6364136223846793005 : Int))) + (1442695040888963407 : Int))) 45)) (255 : Int)) + (c.b.getD ((c.i).toNat) 0)))
  refine ⟨this.1, this.2, ?_⟩
  show 0 ≤ w64 (c.i + 1)
  rw [show w64 (c.i + 1) = c.i + 1 from w64_id (by omega) (by omega)]
  omega
 ·refine ok_some ?_
  have := and_255 (xorI (shrI (w64 ((w64 (c.h * (6364136223846793005 : Int))) + (1442695040888963407 : Int))) 33) (shrI (w64 ((w64 (c.h * (6364136223846793005 : Int))) + (1442695040888963407 : Int))) 45))
  exact ⟨this.1, this.2, hn⟩
structure Bel (n : Int) (r : Int × Int × Int) : Prop where
 nn : 0 ≤ r.1
 lt : 0 < n → r.1 < n
 zero : n ≤ 0 → r.1 = 0
 cur : 0 ≤ r.2.1
theorem below_s {c : Cur} (h : CK c) (n : Int) : Ok (S_l1Below N c n) (Bel n) := by
 unfold S_l1Below
 refine ok_cnd (fun hb => ?_) (fun hb => ?_)
 ·rw [decide_eq_true_eq] at hb
  exact ok_some ⟨by omega, by omega, by intro; rfl, h.nn⟩
 ·rw [decide_eq_false_iff_not] at hb
  refine ok_cnd (fun hb2 => ?_) (fun hb2 => ?_)
  ·refine ok_bind (byte_s h) fun v hv => ?_
   obtain ⟨h1, h2, h3⟩ := hv
   refine ok_grd (by omega) (ok_some ?_)
   have e1 := Int.tmod_nonneg n h1
   have e2 := Int.tmod_lt_of_pos v.1 (show 0 < n by omega)
   exact ⟨e1, fun _ => e2, by omega, h3⟩
  ·refine ok_bind (byte_s h) fun v2 h2 => ?_
   refine ok_bind (byte_s ⟨h.byt, h.len, h2.2.2⟩) fun v3 h3 => ?_
   refine ok_bind (byte_s ⟨h.byt, h.len, h3.2.2⟩) fun v4 h4 => ?_
   refine ok_bind (byte_s ⟨h.byt, h.len, h4.2.2⟩) fun v5 h5 => ?_
   obtain ⟨a2, b2, _⟩ := h2
   obtain ⟨a3, b3, _⟩ := h3
   obtain ⟨a4, b4, _⟩ := h4
   obtain ⟨a5, b5, c5⟩ := h5
   refine ok_grd ⟨by omega, by omega⟩ (ok_grd ⟨by omega, by omega⟩ (ok_grd ⟨by omega, by omega⟩ (ok_grd ⟨by omega, by omega⟩ (ok_grd ⟨by omega, by omega⟩ (ok_grd ⟨by omega, by omega⟩ (ok_grd (by omega) (ok_some ?_)))))))
   have e1 := Int.tmod_nonneg (a := (((v2.1 * (16777216 : Int)) + (v3.1 * (65536 : Int))) + (v4.1 * (256 : Int))) + v5.1) n (by omega)
   have e2 := Int.tmod_lt_of_pos ((((v2.1 * (16777216 : Int)) + (v3.1 * (65536 : Int))) + (v4.1 * (256 : Int))) + v5.1) (show 0 < n by omega)
   exact ⟨e1, fun _ => e2, by omega, c5⟩
theorem once_s {c : Cur} (h : CK c) (n : Int) : Ok (S_l1Once N c n) fun r => 0 ≤ r.2.1 := by
 unfold S_l1Once
 exact ok_bind (below_s h n) fun v hv => ok_some hv.cur
theorem new_s (hN : 4000000 ≤ N) {l : List Int} (hb : Byt l) (hl : l.length ≤ 1048576) : Ok (S_l1New N l) fun r => CK r ∧ r.b = l := by
 unfold S_l1New
 refine ok_grd ⟨by omega, by omega⟩ ?_
 have key : ∀ (fuel i : Nat) (h : Int), 0 ≤ h → h ≤ 1073741823 → i ≤ 4000 → 4001 < fuel + i → Ok (S_l1New_l1 N l (fun h3 => some (⟨l, (0 : Int), h3⟩ : Cur)) fuel (h, (i : Int))) fun r => CK r ∧ r.b = l := by
  intro fuel
  induction fuel with
  | zero => intro i h h1 h2 h4 h3; omega
  | succ fuel ih =>
   intro i h h1 h2 h4 h3
   rw [S_l1New_l1]
   refine ok_cnd (fun c1 => ?_) (fun c1 => ok_some ⟨⟨hb, hl, by simp⟩, rfl⟩)
   refine ok_cnd (fun c2 => ?_) (fun c2 => ok_some ⟨⟨hb, hl, by simp⟩, rfl⟩)
   rw [decide_eq_true_eq] at c1 c2
   have hy := hb i (by omega)
   have hi : ((i : Int)).toNat = i := rfl
   rw [hi]
   refine ok_grd ⟨by omega, by omega⟩ (ok_grd ⟨by omega, c1⟩ (ok_grd hy (ok_grd ⟨by omega, by omega⟩ (ok_grd ⟨by omega, by omega⟩ (ok_grd ⟨by omega, by omega⟩ ?_)))))
   have ha := and_low (x := h * (131 : Int) + l.getD i 0 + (7 : Int)) (m := 1073741823) (by omega)
   have e : ((1073741823 : Nat) : Int) = (1073741823 : Int) := rfl
   rw [e] at ha
   exact ih (i + 1) _ ha.1 ha.2 (by omega) (by omega)
 exact key N 0 _ (by omega) (by omega) (by omega) (by omega)
theorem CK.at {c : Cur} (h : CK c) {i x : Int} (hi : 0 ≤ i) : CK ⟨c.b, i, x⟩ := ⟨h.byt, h.len, hi⟩
end Go.Proofs.Ytcljhpldfanhkaa
namespace Go.Proofs.Ytcljhpldfanhkaa
variable {n : Nat} {f T : List Int} {a b : Int}
abbrev brI (bars : List (Int × Int)) (i : Int) : Int × Int := bars.getD i.toNat (0, 0)
structure PG (n : Nat) (bars : List (Int × Int)) (p : Pbl) : Prop where
 inv : PInv n (p.placed.map (brI bars)) p.free p.tails
 pl : ∀ i ∈ p.placed, 0 ≤ i ∧ i < (bars.length : Int)
section
variable {g : Grf} {p : Pbl} {N : Nat} (hN : 4000000 ≤ N) (hn : n ≤ 1000) (hg : g.n = n) (hp : PG n g.bars p)
end
section
variable {g : Grf} {N : Nat} (hN : 4000000 ≤ N) (hn : n ≤ 1000) (hg : g.n = n)
end
end Go.Proofs.Ytcljhpldfanhkaa
namespace Go.Proofs.Ytcljhpldfanhkaa
variable {n : Nat} {N : Nat}
variable {g : Grf} (hN : 4000000 ≤ N) (hn : n ≤ 1000) (hg : g.n = n)
end Go.Proofs.Ytcljhpldfanhkaa
namespace Go.Proofs.Ytcljhpldfanhkaa
variable {n : Nat} {a b : Int} {N : Nat}
section
variable {bars : List (Int × Int)} {p : Pbl} (hN : 4000000 ≤ N) (hn : n ≤ 1000) (hp : PG n bars p)
end
section
variable {bars : List (Int × Int)} (hN : 4000000 ≤ N) (hn : n ≤ 1000)
end
end Go.Proofs.Ytcljhpldfanhkaa
namespace Go.Proofs.Ytcljhpldfanhkaa
variable {n : Nat} {N : Nat}
end Go.Proofs.Ytcljhpldfanhkaa
namespace Go.Proofs.Ytcljhpldfanhkaa
variable {n : Nat} {N : Nat}
theorem put0_s (hN : 4000000 ≤ N) {g : Grf} (hl : g.bars.length ≤ 1000) (x : Int × Int) : ∃ L, S_l2Put N g x = some ⟨g.n, L⟩ ∧ L.length = g.bars.length + 1 ∧ ∀ e, e ∈ L ↔ e = x ∨ e ∈ g.bars := by
 have key : ∀ {kk : (List (Int × Int) × Bool) → Option Grf} (fuel i : Nat) (l : List (Int × Int)) (pl : Bool), i ≤ g.bars.length → g.bars.length < fuel + i → l.length = i + (if pl = true then 1 else 0) → (pl = true → x ∈ l) → (∀ e, (e = x ∨ e ∈ l) ↔ (e = x ∨ e ∈ g.bars.take i)) →
   ∃ l' pl', S_l2Put_l1 N g x kk fuel (l, pl, (i : Int)) = kk (l', pl') ∧ l'.length = g.bars.length + (if pl' = true then 1 else 0) ∧ (pl' = true → x ∈ l') ∧ ∀ e, (e = x ∨ e ∈ l') ↔ (e = x ∨ e ∈ g.bars) := by
  intro kk fuel
  induction fuel with
  | zero => intro i l pl h1 h2; omega
  | succ fuel ih =>
   intro i l pl h1 h2 h3 h4 h5
   rw [S_l2Put_l1]
   have hlb : l.length ≤ 1001 := by rw [h3]; split <;> omega
   by_cases hi : i < g.bars.length
   ·have htk : ∀ e, e ∈ g.bars.take (i + 1) ↔ e ∈ g.bars.take i ∨ e = g.bars.getD i (0, 0) := by
     intro e
     have hd : g.bars.getD i (0, 0) = g.bars[i] := by simp [List.getD_eq_getElem?_getD, List.getElem?_eq_getElem hi]
     rw [List.take_add_one, List.getElem?_eq_getElem hi, List.mem_append, hd]
     simp only [Option.toList_some, List.mem_singleton]
    have step : ∀ l2 : List (Int × Int), (∀ e, (e = x ∨ e ∈ l2) ↔ (e = x ∨ e ∈ l ∨ e = g.bars.getD i (0, 0))) → ∀ e, (e = x ∨ e ∈ l2) ↔ (e = x ∨ e ∈ g.bars.take (i + 1)) := by
     intro l2 h e
     rw [h e, htk e]
     have := h5 e
     constructor
     ·rintro (h | h | h)
      ·exact .inl h
      ·rcases this.1 (.inr h) with h | h
       ·exact .inl h
       ·exact .inr (.inl h)
      ·exact .inr (.inr h)
     ·rintro (h | h | h)
      ·exact .inl h
      ·rcases this.2 (.inr h) with h | h
       ·exact .inl h
       ·exact .inr (.inl h)
      ·exact .inr (.inr h)
    cases pl with
    | true =>
     simp only [if_true] at h3
     obtain ⟨l', pl', k1, k2⟩ := ih (i + 1) (l ++ [g.bars.getD i (0, 0)]) true (by omega) (by omega) (by simp; omega) (fun _ => by simp [h4 rfl]) (step _ fun e => by simp)
     refine ⟨l', pl', ?_, k2⟩
     simp (disch := omega) only [Int.toNat_natCast, tk0, List.length_cons, List.length_nil, grd_pos, grd_T, grd_R, cnd_dt, cnd_df, cnd_true, cnd_false, Option.bind_some, Bool.not_true, succ_cast]
     exact k1
    | false =>
     simp only [Bool.false_eq_true, if_false] at h3
     cases hb : barLeB (g.bars.getD i (0, 0)) x with
     | false =>
      obtain ⟨l', pl', k1, k2⟩ := ih (i + 1) (l ++ [x] ++ [g.bars.getD i (0, 0)]) true (by omega) (by omega) (by simp; omega) (fun _ => by simp) (step _ fun e => by simp; grind)
      refine ⟨l', pl', ?_, k2⟩
      simp (disch := omega) only [Int.toNat_natCast, tk0, List.length_cons, List.length_nil, grd_pos, grd_T, grd_R, cnd_dt, cnd_df, cnd_true, cnd_false, Option.bind_some, Bool.not_false, l2After_s, hb, List.length_append, succ_cast]
      exact k1
     | true =>
      obtain ⟨l', pl', k1, k2⟩ := ih (i + 1) (l ++ [g.bars.getD i (0, 0)]) false (by omega) (by omega) (by simp; omega) (fun h => by cases h) (step _ fun e => by simp)
      refine ⟨l', pl', ?_, k2⟩
      simp (disch := omega) only [Int.toNat_natCast, tk0, List.length_cons, List.length_nil, grd_pos, grd_T, grd_R, cnd_dt, cnd_df, cnd_true, cnd_false, Option.bind_some, Bool.not_false, Bool.not_true, l2After_s, hb, succ_cast]
      exact k1
   ·have e : i = g.bars.length := by omega
    subst e
    refine ⟨l, pl, ?_, h3, h4, by simpa using h5⟩
    simp (disch := omega) only [Int.toNat_natCast, tk0, List.length_cons, List.length_nil, grd_pos, grd_T, grd_R, cnd_dt, cnd_df, cnd_true, cnd_false, Option.bind_some]
 obtain ⟨l', pl', k1, k2, k3, k4⟩ := key (kk := fun (x_ : (List (Int × Int)) × Bool) =>
   match x_ with
   | (l10, placed11) =>
    cnd (!placed11) (
     grd (l10.length + 1 ≤ 4294967296) <|
     some (⟨g.n, (l10 ++ ([(x.1, x.2)] : List (Int × Int)))⟩ : Grf)) (
     some (⟨g.n, l10⟩ : Grf))) N 0 [] false (by omega) (by omega) (by simp) (fun h => by cases h) (fun e => by simp)
 rw [show ((0 : Nat) : Int) = 0 from rfl] at k1
 cases pl' with
 | true =>
  refine ⟨l', k1, by simpa using k2, fun e => ?_⟩
  rw [← k4 e]
  constructor
  ·exact .inr
  ·rintro (rfl | h)
   ·exact k3 rfl
   ·exact h
 | false =>
  simp only [Bool.false_eq_true, if_false] at k2
  refine ⟨l' ++ [x], ?_, by simp; omega, fun e => ?_⟩
  ·refine Eq.trans k1 ?_
   simp (disch := omega) only [Int.toNat_natCast, tk0, List.length_cons, List.length_nil, grd_pos, grd_T, grd_R, cnd_dt, cnd_df, cnd_true, cnd_false, Option.bind_some, Bool.not_false]
  ·rw [← k4 e]; simp; grind
end Go.Proofs.Ytcljhpldfanhkaa
namespace Go.Proofs.Ytcljhpldfanhkaa
variable {N : Nat}
def bitB (m : Int) (j : Nat) : Bool := andI (shrI m (j : Int)) (1 : Int) == (1 : Int)
def setU (m : Int) (k : Nat) : List Int := ((List.range k).filter (bitB m)).map fun (j : Nat) => (j : Int)
theorem setU_succ (m : Int) (k : Nat) : setU m (k + 1) = cnd (bitB m k) (setU m k ++ [(k : Int)]) (setU m k) := by
 unfold setU
 rw [List.range_succ, List.filter_append, List.map_append]
 cases h : bitB m k <;> simp [h, cnd]
theorem setU_len (m : Int) (k : Nat) : (setU m k).length ≤ k := by
 unfold setU
 rw [List.length_map]
 exact Nat.le_trans (List.length_filter_le _ _) (by simp)
theorem setS_s (hN : 4000000 ≤ N) {n m : Int} (hn : n ≤ 1000) : S_l3Set N n m = some (setU m n.toNat) := by
 unfold S_l3Set
 refine Eq.trans ?_ (fold (N := N) (len := n.toNat) (σ := List Int) (st := fun i => setU m i) (F := fun f s => S_l3Set_l1 N n m (fun l3 => some l3) f (s.1, s.2)) (fin := some (setU m n.toNat)) (by omega) (fun f i hi => ?_) fun f => ?_)
 ·simp [setU]
 ·show S_l3Set_l1 N n m _ (f + 1) (setU m i, (i : Int)) = S_l3Set_l1 N n m _ f (setU m (i + 1), ((i + 1 : Nat) : Int))
  have hl := setU_len m i
  rw [S_l3Set_l1, cnd_dt (by omega), grd_pos (by omega), setU_succ]
  show cnd (bitB m i) _ _ = _
  cases bitB m i with
  | true => rw [cnd_true, cnd_true, grd_pos (by omega), grd_R (by omega) (by omega), succ_cast]
  | false => rw [cnd_false, cnd_false, grd_R (by omega) (by omega), succ_cast]
 ·show S_l3Set_l1 N n m _ (f + 1) (setU m n.toNat, ((n.toNat : Nat) : Int)) = _
  rw [S_l3Set_l1, cnd_df (by omega)]
end Go.Proofs.Ytcljhpldfanhkaa
namespace Go.Proofs.Ytcljhpldfanhkaa
open Go.RowKit
variable {N : Nat}
theorem l2CopyD {g : Grf} (h : g.bars.length ≤ 3000000) : S_l2Copy N g = some g := by
 unfold S_l2Copy
 rw [grd_pos (by omega)]; rfl
structure GD (m : Int) (k : Nat) (g : Grf) : Prop where
 len : g.bars.length ≤ k
 rg : ∀ e ∈ g.bars, 0 ≤ e.1 ∧ e.1 < m ∧ 0 ≤ e.2 ∧ e.2 < m
theorem remove_d (hN : 4000000 ≤ N) {g : Grf} {m : Int} {k : Nat} (h : GD m k g) (hk : k ≤ 999) (i : Int) : Ok (S_RemoveBar N g i) fun r => GD m k r.1 ∧ r.1.n = g.n := by
 have hl := h.len
 unfold S_RemoveBar
 rw [isGraphS_s N hN, Option.bind_some]
 have cp : ∀ b : Bool, Ok ((S_l2Copy N g).bind fun v => some ((⟨v.n, v.bars⟩ : Grf), b)) fun r => GD m k r.1 ∧ r.1.n = g.n := fun b => by
  rw [l2CopyD (by omega)]; exact ok_some ⟨h, rfl⟩
 refine ok_cnd (fun _ => cp _) fun _ => ok_cnd (fun _ => cp _) fun a1 => ok_cnd (fun _ => cp _) fun a2 => ?_
 rw [decide_eq_false_iff_not] at a1 a2
 have t1 := List.length_take_le i.toNat g.bars
 have hlen : (((([] : List (Int × Int)) ++ ((g.bars.take (i.toNat)).drop 0)) ++ ((g.bars.take g.bars.length).drop (((i + (1 : Int))).toNat)))).length + 1 = g.bars.length := by
  simp only [List.nil_append, List.drop_zero, List.take_length, List.length_append, List.length_take, List.length_drop]; omega
 refine ok_grd ⟨by omega, by omega⟩ (ok_grd (by simp only [List.length_drop]; omega) (ok_grd ⟨by omega, by omega⟩ (ok_grd ⟨by omega, by omega⟩ (ok_grd ?_ (ok_some ⟨⟨?_, ?_⟩, rfl⟩)))))
 ·rw [← List.length_append]; omega
 ·simp only; omega
 ·intro e he
  refine h.rg e ?_
  simp only [List.nil_append, List.drop_zero, List.take_length, List.mem_append] at he
  rcases he with he | he
  ·exact List.mem_of_mem_take he
  ·exact List.mem_of_mem_drop he
end Go.Proofs.Ytcljhpldfanhkaa
namespace Go.Proofs.Ytcljhpldfanhkaa
open Go.RowKit Go.Deep
end Go.Proofs.Ytcljhpldfanhkaa
namespace Go.Proofs.Ytcljhpldfanhkaa
open Go.RowKit Go.Deep
end Go.Proofs.Ytcljhpldfanhkaa
namespace Go.Proofs.Ytcljhpldfanhkaa
open Go.RowKit Go.Deep
end Go.Proofs.Ytcljhpldfanhkaa
namespace Go.Proofs.Ytcljhpldfanhkaa
open Go.RowKit
def S_l10Of_l1 (N : Nat) (g_1 : Grf) (l16 : List (Int × Int)) (k : (List (Int × Int)) → Option (Frm × Int × Int)) : Nat → ((List (Int × Int)) × Int) → Option (Frm × Int × Int)
 | 0, _ => none
 | n + 1, (l25, i26) =>
  cnd (decide (i26 < (g_1.bars.length : Int))) (
   grd (0 ≤ i26 ∧ i26 < (g_1.bars.length : Int)) <|
   grd (0 ≤ ((g_1.bars.getD ((i26).toNat) (0, 0)).1) ∧ ((g_1.bars.getD ((i26).toNat) (0, 0)).1) < (l16.length : Int)) <|
   grd (0 ≤ ((g_1.bars.getD ((i26).toNat) (0, 0)).2) ∧ ((g_1.bars.getD ((i26).toNat) (0, 0)).2) < (l16.length : Int)) <|
   cnd (!(((l16.getD (((g_1.bars.getD ((i26).toNat) (0, 0)).1).toNat) (0, 0)).1 == (l16.getD (((g_1.bars.getD ((i26).toNat) (0, 0)).2).toNat) (0, 0)).1) && ((l16.getD (((g_1.bars.getD ((i26).toNat) (0, 0)).1).toNat) (0, 0)).2 == (l16.getD (((g_1.bars.getD ((i26).toNat) (0, 0)).2).toNat) (0, 0)).2))) (
    cnd (i26 == (0 : Int)) (
     grd (l25.length + 1 ≤ 4294967296) <|
     grd (Rg64 (i26 + (1 : Int))) <|
     S_l10Of_l1 N g_1 l16 k n ((l25 ++ ([((g_1.bars.getD ((i26).toNat) (0, 0)).1, (g_1.bars.getD ((i26).toNat) (0, 0)).2)] : List (Int × Int))), (i26 + (1 : Int)))) (
     grd (Rg64 (i26 - (1 : Int))) <|
     grd (0 ≤ (i26 - (1 : Int)) ∧ (i26 - (1 : Int)) < (g_1.bars.length : Int)) <|
     cnd (!(((g_1.bars.getD (((i26 - (1 : Int))).toNat) (0, 0)).1 == (g_1.bars.getD ((i26).toNat) (0, 0)).1) && ((g_1.bars.getD (((i26 - (1 : Int))).toNat) (0, 0)).2 == (g_1.bars.getD ((i26).toNat) (0, 0)).2))) (
      grd (l25.length + 1 ≤ 4294967296) <|
      grd (Rg64 (i26 + (1 : Int))) <|
      S_l10Of_l1 N g_1 l16 k n ((l25 ++ ([((g_1.bars.getD ((i26).toNat) (0, 0)).1, (g_1.bars.getD ((i26).toNat) (0, 0)).2)] : List (Int × Int))), (i26 + (1 : Int)))) (
      grd (Rg64 (i26 + (1 : Int))) <|
      S_l10Of_l1 N g_1 l16 k n (l25, (i26 + (1 : Int)))))) (
    grd (Rg64 (i26 + (1 : Int))) <|
    S_l10Of_l1 N g_1 l16 k n (l25, (i26 + (1 : Int))))) (
   k l25)
def S_l10Of_l2 (N : Nat) (c_0 : Cur) (g_1 : Grf) (k : ((List (Int × Int)) × Int × Int) → Option (Frm × Int × Int)) : Nat → ((List (Int × Int)) × Int × Int × Int) → Option (Frm × Int × Int)
 | 0, _ => none
 | n + 1, (l35, i36, c37, c38) =>
  cnd (decide (i36 < g_1.n)) (
   (S_l1Below N (⟨c_0.b, c37, c38⟩ : Cur) (5 : Int)).bind fun v41 =>
   (S_l1Below N (⟨c_0.b, v41.2.1, v41.2.2⟩ : Cur) (5 : Int)).bind fun v42 =>
   grd (l35.length + 1 ≤ 4294967296) <|
   grd (Rg64 (i36 + (1 : Int))) <|
   S_l10Of_l2 N c_0 g_1 k n ((l35 ++ ([(v41.1, v42.1)] : List (Int × Int))), (i36 + (1 : Int)), v42.2.1, v42.2.2)) (
   k (l35, c37, c38))
def S_l10Of (N : Nat) (c_0 : Cur) (g_1 : Grf) : Option (Frm × Int × Int) :=
 S_l10Of_l2 N c_0 g_1 (fun (x : (List (Int × Int)) × Int × Int) =>
   match x with
   | (l16, c17, c18) =>
    S_l10Of_l1 N g_1 l16 (fun (l22 : List (Int × Int)) =>
       some ((⟨⟨g_1.n, l22⟩, l16⟩ : Frm), c17, c18)) N (([] : List (Int × Int)), (0 : Int))) N (([] : List (Int × Int)), (0 : Int), c_0.i, c_0.h)
set_option maxRecDepth 20000 in
set_option maxHeartbeats 1600000 in
theorem S_l10Of_w (N : Nat) (c_0 : Cur) (g_1 : Grf) (r : Frm × Int × Int) (h : S_l10Of N c_0 g_1 = some r) : MCall Try.prog 163 [.ptr 1000000 0, gD g_1] [900101, 900102] [1000000] [(111, .pairs []), (71, .pairs [])] [(111, .pairs r.1.g.bars), (71, .pairs r.1.places)] [[.ro false (.bytes c_0.b), .int c_0.i, .int c_0.h]] [[.ro false (.bytes c_0.b), .int r.2.1, .int r.2.2]] (.agg [.int r.1.g.n, .row 900101 0 r.1.g.bars.length, .row 900102 0 r.1.places.length]) := by
 unfold S_l10Of at h
 refine mcall_intro (TT := TT) tt Try.func163 rfl rfl Try.ntmps163 (congrArg Array.toList Try.results163) rfl rfl rfl rfl rfl fun w0 O0 => ?_
 refine vSeq ?_
 refine vRegion ?_
 refine oBox rfl rfl rfl rfl rfl rfl rfl rfl rfl ?_
 refine oAlloc tt rfl rfl rfl rfl rfl rfl rfl rfl rfl ?_
 refine vNil ?_
 change VC _ _ _ _
 refine vSeq ?_
 refine vRegion ?_
 iterate 2 refine oVal tt rfl rfl rfl rfl rfl trivial ?_
 refine oEmpty tt (wNone rfl) rfl rfl rfl rfl ?_
 refine oPure (wNone rfl) (pBuild bld_impl_Graph rfl rfl) rfl rfl ?_
 refine oPure (wNone rfl) (pBuild bld_impl_Framework rfl rfl) rfl rfl ?_
 refine oAlloc tt rfl rfl rfl rfl rfl rfl rfl rfl rfl ?_
 refine oStore tt rfl rfl rfl rfl rfl rfl rfl rfl rfl rfl rfl ⟨trivial, trivial, trivial, trivial⟩ ?_
 refine vNil ?_
 change VC _ _ _ _
 iterate 2 refine vSeq ?_
 refine vRegion ?_
 refine oVal tt rfl rfl rfl rfl rfl trivial ?_
 refine vNil ?_
 change VC _ _ _ _
 refine vJoin (F := fun k => S_l10Of_l2 N c_0 g_1 k) h (α := (List (Int × Int)) × Int × Int) (J := fun | (l16, c17, c18) => (⟨[(3, .ptr 3 0), (4, .ptr 4 0), (5, .ptr 5 0)], [(30, some (71, .pairs l16))], [(1000000, some [.ro false (.bytes c_0.b), .int c17, .int c18]), (3, some [.int g_1.n, .ro false (.pairs g_1.bars)]), (4, some [.int (0 : Int), .nil, .nil]), (5, some [.int g_1.n, .nil, .row 30 0 l16.length])]⟩ : PS)) ?_ ?_
 ·rintro ⟨l16, c17, c18⟩ h
  show VC _ _ _ (⟨[(3, .ptr 3 0), (4, .ptr 4 0), (5, .ptr 5 0)], [(30, some (71, .pairs l16))], [(1000000, some [.ro false (.bytes c_0.b), .int c17, .int c18]), (3, some [.int g_1.n, .ro false (.pairs g_1.bars)]), (4, some [.int (0 : Int), .nil, .nil]), (5, some [.int g_1.n, .nil, .row 30 0 l16.length])]⟩ : PS)
  iterate 2 refine vSeq ?_
  refine vRegion ?_
  refine oVal tt rfl rfl rfl rfl rfl trivial ?_
  refine vNil ?_
  change VC _ _ _ _
  refine vJoin (F := fun k => S_l10Of_l1 N g_1 l16 k) h (α := List (Int × Int)) (J := fun (l22 : List (Int × Int)) => (⟨[(4, .ptr 4 0), (5, .ptr 5 0)], [(76, some (111, .pairs l22)), (30, some (71, .pairs l16))], [(1000000, some [.ro false (.bytes c_0.b), .int c17, .int c18]), (4, some [.int (0 : Int), .nil, .nil]), (5, some [.int g_1.n, .row 76 0 l22.length, .row 30 0 l16.length])]⟩ : PS)) ?_ ?_
  ·rintro l22 h
   show VC _ _ _ (⟨[(4, .ptr 4 0), (5, .ptr 5 0)], [(76, some (111, .pairs l22)), (30, some (71, .pairs l16))], [(1000000, some [.ro false (.bytes c_0.b), .int c17, .int c18]), (4, some [.int (0 : Int), .nil, .nil]), (5, some [.int g_1.n, .row 76 0 l22.length, .row 30 0 l16.length])]⟩ : PS)
   refine vSeq ?_
   refine vRegion ?_
   refine oVal tt rfl rfl rfl rfl rfl trivial ?_
   refine oStore tt rfl rfl rfl rfl rfl rfl rfl rfl rfl rfl rfl ⟨trivial, trivial, trivial, trivial⟩ ?_
   refine vNil ?_
   change VC _ _ _ _
   refine vRet ?_
   change ∃ _, _
   cases h
   exact ⟨[76, 30], rfl, ⟨rfl, rfl, trivial⟩, ⟨rfl, trivial⟩, rfl⟩
  ·intro k h
   refine vBlock ?_
   refine vNilB 5 1 76 111 (.pairs []) rfl rfl rfl rfl rfl ?_
   refine vLoopS (α := (List (Int × Int)) × Int) (fun | (l25, i26) => (⟨[(3, .ptr 3 0), (4, .ptr 4 0), (5, .ptr 5 0), (8, .int i26)], [(76, some (111, .pairs l25)), (30, some (71, .pairs l16))], [(1000000, some [.ro false (.bytes c_0.b), .int c17, .int c18]), (3, some [.int g_1.n, .ro false (.pairs g_1.bars)]), (4, some [.int (0 : Int), .nil, .nil]), (5, some [.int g_1.n, .row 76 0 l25.length, .row 30 0 l16.length])]⟩ : PS)) (S_l10Of_l1 N g_1 l16 k) h (En.of ⟨rfl, rfl, rfl, rfl, trivial⟩ ⟨rfl, rfl, trivial⟩ ⟨rfl, rfl, rfl, rfl, trivial⟩) (fun _ => rfl) ?_
   rintro n ⟨l25, i26⟩ h
   rw [S_l10Of_l1] at h
   show VC _ _ _ (⟨[(3, .ptr 3 0), (4, .ptr 4 0), (5, .ptr 5 0), (8, .int i26)], [(76, some (111, .pairs l25)), (30, some (71, .pairs l16))], [(1000000, some [.ro false (.bytes c_0.b), .int c17, .int c18]), (3, some [.int g_1.n, .ro false (.pairs g_1.bars)]), (4, some [.int (0 : Int), .nil, .nil]), (5, some [.int g_1.n, .row 76 0 l25.length, .row 30 0 l16.length])]⟩ : PS)
   iterate 2 refine vSeq ?_
   refine vRegion ?_
   iterate 5 refine oVal tt rfl rfl rfl rfl rfl trivial ?_
   refine vNil ?_
   change VC _ _ _ _
   refine vCond rfl (fun hb1 => ?_) (fun hb1 => ?_)
   ·replace h := cnd_t hb1 h
    refine vSkip ?_
    change VC _ _ _ _
    refine vSeq ?_
    refine vBlock ?_
    refine vSeq ?_
    refine vRegion ?_
    iterate 3 refine oVal tt rfl rfl rfl rfl rfl trivial ?_
    obtain ⟨hg2, h⟩ := grd_inv h
    refine oVal tt rfl rfl rfl rfl rfl hg2 ?_
    refine oVal tt rfl rfl rfl rfl rfl trivial ?_
    refine oAlloc tt rfl rfl rfl rfl rfl rfl rfl rfl rfl ?_
    refine oStore tt rfl rfl rfl rfl rfl rfl rfl rfl rfl rfl rfl ⟨trivial, trivial, trivial⟩ ?_
    refine vNil ?_
    change VC _ _ _ _
    refine vSeq ?_
    refine vRegionD (by kernel_rfl) (by kernel_rfl) ?_
    iterate 4 refine cVal tt rfl (wNone rfl) rfl rfl rfl trivial ?_
    obtain ⟨hg3, h⟩ := grd_inv h
    iterate 2 refine cVal tt rfl (wNone rfl) rfl rfl rfl hg3 ?_
    iterate 4 refine cVal tt rfl (wNone rfl) rfl rfl rfl trivial ?_
    obtain ⟨hg4, h⟩ := grd_inv h
    iterate 2 refine cVal tt rfl (wNone rfl) rfl rfl rfl hg4 ?_
    refine cPure (wNone rfl) (pNeP eqP_impl_Place rfl rfl rfl) rfl rfl ?_
    refine cVal tt rfl (wNone rfl) rfl rfl rfl trivial ?_
    refine cSplit rfl rfl rfl (fun hb5 => ?_) (fun hb5 => ?_)
    ·replace h := cnd_t hb5 h
     iterate 3 refine cVal tt rfl (wSome rfl rfl rfl rfl hb5) rfl rfl rfl trivial ?_
     refine cSplit rfl rfl rfl (fun hb6 => ?_) (fun hb6 => ?_)
     ·replace h := cnd_t hb6 h
      iterate 8 refine cNoF rfl rfl rfl rfl hb6 rfl rfl ?_
      refine cPickT rfl (wSome rfl rfl rfl rfl hb5) rfl rfl rfl hb6 rfl ?_
      refine cPickT rfl (wNone rfl) rfl rfl rfl hb5 rfl ?_
      refine cNil ?_
      change VC _ _ _ _
      refine vCondT rfl rfl ?_
      refine vRegion ?_
      iterate 4 refine oVal tt rfl rfl rfl rfl rfl trivial ?_
      refine oBuild tt rfl rfl rfl rfl rfl rfl rfl rfl rfl rfl rfl ?_
      obtain ⟨hg7, h⟩ := grd_inv h
      refine oAppend tt rfl rfl rfl rfl rfl rfl rfl rfl rfl rfl rfl rfl rfl rfl rfl rfl (Nat.le_of_eq (Nat.zero_add _)) hg7 ?_
      iterate 2 refine oVal tt rfl rfl rfl rfl rfl trivial ?_
      refine oStore tt rfl rfl rfl rfl rfl rfl rfl rfl rfl rfl rfl ⟨trivial, trivial⟩ ?_
      refine vNil ?_
      change VC _ _ _ _
      refine vRegion ?_
      refine oVal tt rfl rfl rfl rfl rfl trivial ?_
      obtain ⟨hg8, h⟩ := grd_inv h
      refine oVal tt rfl rfl rfl rfl rfl hg8 ?_
      refine oVal tt rfl rfl rfl rfl rfl trivial ?_
      refine vNil ?_
      change ∃ _, _
      exact ⟨((l25 ++ ([((g_1.bars.getD ((i26).toNat) (0, 0)).1, (g_1.bars.getD ((i26).toNat) (0, 0)).2)] : List (Int × Int))), (i26 + (1 : Int))), (En.of ⟨rfl, rfl, rfl, rfl, trivial⟩ ⟨rfl, rfl, trivial⟩ ⟨rfl, rfl, rfl, rfl, trivial⟩), h⟩
     ·replace h := cnd_f hb6 h
      iterate 3 refine cVal tt rfl (wSome rfl rfl rfl rfl hb6) rfl rfl rfl trivial ?_
      obtain ⟨hg9, h⟩ := grd_inv h
      refine cVal tt rfl (wSome rfl rfl rfl rfl hb6) rfl rfl rfl hg9 ?_
      obtain ⟨hg10, h⟩ := grd_inv h
      refine cVal tt rfl (wSome rfl rfl rfl rfl hb6) rfl rfl rfl hg10 ?_
      iterate 2 refine cVal tt rfl (wSome rfl rfl rfl rfl hb6) rfl rfl rfl trivial ?_
      refine cPure (wSome rfl rfl rfl rfl hb6) (pNeP eqP_impl_Bar rfl rfl rfl) rfl rfl ?_
      refine cPickF rfl (wSome rfl rfl rfl rfl hb5) rfl rfl rfl hb6 rfl ?_
      refine cPickT rfl (wNone rfl) rfl rfl rfl hb5 rfl ?_
      refine cNil ?_
      change VC _ _ _ _
      refine vCond rfl (fun hb11 => ?_) (fun hb11 => ?_)
      ·replace h := cnd_t hb11 h
       refine vRegion ?_
       iterate 4 refine oVal tt rfl rfl rfl rfl rfl trivial ?_
       refine oBuild tt rfl rfl rfl rfl rfl rfl rfl rfl rfl rfl rfl ?_
       obtain ⟨hg12, h⟩ := grd_inv h
       refine oAppend tt rfl rfl rfl rfl rfl rfl rfl rfl rfl rfl rfl rfl rfl rfl rfl rfl (Nat.le_of_eq (Nat.zero_add _)) hg12 ?_
       iterate 2 refine oVal tt rfl rfl rfl rfl rfl trivial ?_
       refine oStore tt rfl rfl rfl rfl rfl rfl rfl rfl rfl rfl rfl ⟨trivial, trivial⟩ ?_
       refine vNil ?_
       change VC _ _ _ _
       refine vRegion ?_
       refine oVal tt rfl rfl rfl rfl rfl trivial ?_
       obtain ⟨hg13, h⟩ := grd_inv h
       refine oVal tt rfl rfl rfl rfl rfl hg13 ?_
       refine oVal tt rfl rfl rfl rfl rfl trivial ?_
       refine vNil ?_
       change ∃ _, _
       exact ⟨((l25 ++ ([((g_1.bars.getD ((i26).toNat) (0, 0)).1, (g_1.bars.getD ((i26).toNat) (0, 0)).2)] : List (Int × Int))), (i26 + (1 : Int))), (En.of ⟨rfl, rfl, rfl, rfl, trivial⟩ ⟨rfl, rfl, trivial⟩ ⟨rfl, rfl, rfl, rfl, trivial⟩), h⟩
      ·replace h := cnd_f hb11 h
       refine vSkip ?_
       change VC _ _ _ _
       refine vRegion ?_
       refine oVal tt rfl rfl rfl rfl rfl trivial ?_
       obtain ⟨hg14, h⟩ := grd_inv h
       refine oVal tt rfl rfl rfl rfl rfl hg14 ?_
       refine oVal tt rfl rfl rfl rfl rfl trivial ?_
       refine vNil ?_
       change ∃ _, _
       exact ⟨(l25, (i26 + (1 : Int))), (En.of ⟨rfl, rfl, rfl, rfl, trivial⟩ ⟨rfl, rfl, trivial⟩ ⟨rfl, rfl, rfl, rfl, trivial⟩), h⟩
    ·replace h := cnd_f hb5 h
     iterate 3 refine cNoT rfl rfl rfl rfl hb5 rfl rfl ?_
     iterate 8 refine cNoU rfl rfl rfl rfl rfl ?_
     refine cNoT rfl rfl rfl rfl hb5 rfl rfl ?_
     refine cPickF rfl (wNone rfl) rfl rfl rfl hb5 rfl ?_
     refine cNil ?_
     change VC _ _ _ _
     refine vCondF rfl rfl ?_
     refine vSkip ?_
     change VC _ _ _ _
     refine vRegion ?_
     refine oVal tt rfl rfl rfl rfl rfl trivial ?_
     obtain ⟨hg15, h⟩ := grd_inv h
     refine oVal tt rfl rfl rfl rfl rfl hg15 ?_
     refine oVal tt rfl rfl rfl rfl rfl trivial ?_
     refine vNil ?_
     change ∃ _, _
     exact ⟨(l25, (i26 + (1 : Int))), (En.of ⟨rfl, rfl, rfl, rfl, trivial⟩ ⟨rfl, rfl, trivial⟩ ⟨rfl, rfl, rfl, rfl, trivial⟩), h⟩
   ·replace h := cnd_f hb1 h
    refine vExit ?_
    change ∃ _, _
    exact ⟨l25, (En.of ⟨rfl, rfl, trivial⟩ ⟨rfl, rfl, trivial⟩ ⟨rfl, rfl, rfl, trivial⟩), h⟩
 ·intro k h
  refine vBlock ?_
  refine vNilB 5 2 30 71 (.pairs []) rfl rfl rfl rfl rfl ?_
  refine vLoopS (α := (List (Int × Int)) × Int × Int × Int) (fun | (l35, i36, c37, c38) => (⟨[(0, .ptr 1000000 0), (3, .ptr 3 0), (4, .ptr 4 0), (5, .ptr 5 0), (6, .int i36)], [(30, some (71, .pairs l35))], [(1000000, some [.ro false (.bytes c_0.b), .int c37, .int c38]), (3, some [.int g_1.n, .ro false (.pairs g_1.bars)]), (4, some [.int (0 : Int), .nil, .nil]), (5, some [.int g_1.n, .nil, .row 30 0 l35.length])]⟩ : PS)) (S_l10Of_l2 N c_0 g_1 k) h (En.of ⟨rfl, rfl, rfl, rfl, rfl, trivial⟩ ⟨rfl, trivial⟩ ⟨rfl, rfl, rfl, rfl, trivial⟩) (fun _ => rfl) ?_
  rintro n ⟨l35, i36, c37, c38⟩ h
  rw [S_l10Of_l2] at h
  show VC _ _ _ (⟨[(0, .ptr 1000000 0), (3, .ptr 3 0), (4, .ptr 4 0), (5, .ptr 5 0), (6, .int i36)], [(30, some (71, .pairs l35))], [(1000000, some [.ro false (.bytes c_0.b), .int c37, .int c38]), (3, some [.int g_1.n, .ro false (.pairs g_1.bars)]), (4, some [.int (0 : Int), .nil, .nil]), (5, some [.int g_1.n, .nil, .row 30 0 l35.length])]⟩ : PS)
  iterate 2 refine vSeq ?_
  refine vRegion ?_
  iterate 4 refine oVal tt rfl rfl rfl rfl rfl trivial ?_
  refine vNil ?_
  change VC _ _ _ _
  refine vCond rfl (fun hb16 => ?_) (fun hb16 => ?_)
  ·replace h := cnd_t hb16 h
   refine vSkip ?_
   change VC _ _ _ _
   refine vSeq ?_
   refine vBlock ?_
   refine vSeq ?_
   refine vRegion ?_
   refine oVal tt rfl rfl rfl rfl rfl trivial ?_
   obtain ⟨v41, hc17, h⟩ := bind_inv h
   refine oMCall (S_l1Below_w N (⟨c_0.b, c37, c38⟩ : Cur) (5 : Int) v41 hc17) [] [1000000] [] rfl rfl rfl rfl rfl rfl trivial ⟨rfl, trivial⟩ ⟨⟨rfl, rfl⟩, ⟨rfl, rfl⟩, trivial⟩ ?_
   refine oVal tt rfl rfl rfl rfl rfl trivial ?_
   refine vNil ?_
   change VC _ _ _ _
   refine vRegionN 7 [4, 6, 1041000000] [0, 1, 0, 0, 8, 28, 60, 127, 255, 511] (by kernel_rfl) (by kernel_rfl) (by kernel_rfl) (by kernel_rfl) (by kernel_rfl) rfl (by rfl) ?_
   iterate 4 refine nVal tt rfl (wNone rfl) rfl rfl rfl rfl rfl trivial ?_
   obtain ⟨v42, hc18, h⟩ := bind_inv h
   refine nMCall (rids := []) (bids := []) (pids := []) (wNone rfl) (S_l1Below_w N (⟨c_0.b, v41.2.1, v41.2.2⟩ : Cur) (5 : Int) v42 hc18) [] [1000000] [] rfl rfl rfl rfl rfl (by first | rfl | kernel_rfl) rfl rfl rfl rfl rfl (by first | rfl | kernel_rfl)  trivial ⟨rfl, trivial⟩ ⟨⟨rfl, rfl⟩, ⟨rfl, rfl⟩, trivial⟩ ?_
   refine nPure (wNone rfl) (pBuild bld_impl_Place rfl rfl) rfl rfl rfl rfl ?_
   refine nBuild tt (wNone rfl) rfl rfl rfl rfl rfl rfl rfl rfl rfl rfl rfl rfl ?_
   refine nNil ?_
   change VO _ _ _ _ _
   obtain ⟨hg19, h⟩ := grd_inv h
   refine oAppend tt rfl rfl rfl rfl rfl rfl rfl rfl rfl rfl rfl rfl rfl rfl rfl rfl (Nat.le_of_eq (Nat.zero_add _)) hg19 ?_
   refine oVal tt rfl rfl rfl rfl rfl trivial ?_
   refine oStore tt rfl rfl rfl rfl rfl rfl rfl rfl rfl rfl rfl ⟨trivial, trivial⟩ ?_
   refine vNil ?_
   change VC _ _ _ _
   refine vRegion ?_
   refine oVal tt rfl rfl rfl rfl rfl trivial ?_
   obtain ⟨hg20, h⟩ := grd_inv h
   refine oVal tt rfl rfl rfl rfl rfl hg20 ?_
   refine oVal tt rfl rfl rfl rfl rfl trivial ?_
   refine vNil ?_
   change ∃ _, _
   exact ⟨((l35 ++ ([(v41.1, v42.1)] : List (Int × Int))), (i36 + (1 : Int)), v42.2.1, v42.2.2), (En.of ⟨rfl, rfl, rfl, rfl, rfl, trivial⟩ ⟨rfl, trivial⟩ ⟨rfl, rfl, rfl, rfl, trivial⟩), h⟩
  ·replace h := cnd_f hb16 h
   refine vExit ?_
   change ∃ _, _
   exact ⟨(l35, c37, c38), (En.of ⟨rfl, rfl, rfl, trivial⟩ ⟨rfl, trivial⟩ ⟨rfl, rfl, rfl, rfl, trivial⟩), h⟩
end Go.Proofs.Ytcljhpldfanhkaa
namespace Go.Proofs.Ytcljhpldfanhkaa
open Go.RowKit
def S_l6Third (N : Nat) (c_0 : Cur) (n_1 : Int) (x_2 : Int × Int) (other_3 : Int) : Option (Int × Int × Int) :=
 (S_l1Below N c_0 n_1).bind fun v1 =>
 cnd (v1.1 == x_2.1) (
  some (other_3, v1.2.1, v1.2.2)) (
  cnd (v1.1 == x_2.2) (
   some (other_3, v1.2.1, v1.2.2)) (
   some (v1.1, v1.2.1, v1.2.2)))
set_option maxRecDepth 20000 in
set_option maxHeartbeats 1600000 in
theorem S_l6Third_w (N : Nat) (c_0 : Cur) (n_1 : Int) (x_2 : Int × Int) (other_3 : Int) (r : Int × Int × Int) (h : S_l6Third N c_0 n_1 x_2 other_3 = some r) : MCall Try.prog 209 [.ptr 1000000 0, .int n_1, .agg [.int x_2.1, .int x_2.2], .int other_3] [] [1000000] [] [] [[.ro false (.bytes c_0.b), .int c_0.i, .int c_0.h]] [[.ro false (.bytes c_0.b), .int r.2.1, .int r.2.2]] (.int r.1) := by
 unfold S_l6Third at h
 refine mcall_intro (TT := TT) tt Try.func209 rfl rfl Try.ntmps209 (congrArg Array.toList Try.results209) rfl rfl rfl rfl rfl fun w0 O0 => ?_
 refine vSeq ?_
 refine vRegion ?_
 refine oBox rfl rfl rfl rfl rfl rfl rfl rfl rfl ?_
 refine oVal tt rfl rfl rfl rfl rfl trivial ?_
 refine vNil ?_
 change VC _ _ _ _
 refine vSeq ?_
 refine vRegion ?_
 iterate 2 refine oVal tt rfl rfl rfl rfl rfl trivial ?_
 obtain ⟨v1, hc1, h⟩ := bind_inv h
 refine oMCall (S_l1Below_w N c_0 n_1 v1 hc1) [] [1000000] [] rfl rfl rfl rfl rfl rfl trivial ⟨rfl, trivial⟩ ⟨⟨rfl, rfl⟩, ⟨rfl, rfl⟩, trivial⟩ ?_
 refine oVal tt rfl rfl rfl rfl rfl trivial ?_
 refine vNil ?_
 change VC _ _ _ _
 iterate 2 refine vSeq ?_
 refine vRegion ?_
 iterate 5 refine oVal tt rfl rfl rfl rfl rfl trivial ?_
 refine oSplit rfl rfl rfl (fun hb2 => ?_) (fun hb2 => ?_)
 ·replace h := cnd_t hb2 h
  iterate 4 refine oNoF rfl rfl rfl rfl hb2 rfl rfl ?_
  refine oPick rfl rfl rfl rfl rfl hb2 rfl ?_
  refine vNil ?_
  change VC _ _ _ _
  refine vCondT rfl rfl ?_
  refine vSeq ?_
  refine vRegion ?_
  iterate 2 refine oVal tt rfl rfl rfl rfl rfl trivial ?_
  refine vNil ?_
  change VC _ _ _ _
  refine vRet ?_
  change ∃ _, _
  cases h
  exact ⟨[], rfl, trivial, ⟨rfl, trivial⟩, rfl⟩
 ·replace h := cnd_f hb2 h
  iterate 4 refine oValG tt rfl rfl rfl rfl rfl hb2 rfl rfl rfl trivial ?_
  refine oPickF rfl rfl rfl rfl rfl hb2 rfl ?_
  refine vNil ?_
  change VC _ _ _ _
  refine vCond rfl (fun hb3 => ?_) (fun hb3 => ?_)
  ·replace h := cnd_t hb3 h
   refine vSeq ?_
   refine vRegion ?_
   iterate 2 refine oVal tt rfl rfl rfl rfl rfl trivial ?_
   refine vNil ?_
   change VC _ _ _ _
   refine vRet ?_
   change ∃ _, _
   cases h
   exact ⟨[], rfl, trivial, ⟨rfl, trivial⟩, rfl⟩
  ·replace h := cnd_f hb3 h
   refine vSkip ?_
   change VC _ _ _ _
   refine vSeq ?_
   refine vRegion ?_
   iterate 2 refine oVal tt rfl rfl rfl rfl rfl trivial ?_
   refine vNil ?_
   change VC _ _ _ _
   refine vRet ?_
   change ∃ _, _
   cases h
   exact ⟨[], rfl, trivial, ⟨rfl, trivial⟩, rfl⟩
def S_l6Laman_l2 (N : Nat) (l80 : List (Int × Int)) (v105 : Int × Int × Int) (k : Int → Option (Grf × Int × Int)) : Nat → Int → Option (Grf × Int × Int)
 | 0, _ => none
 | n + 1, w114 =>
  cnd (w114 == ((l80.getD ((v105.1).toNat) (0, 0)).1)) (
   grd (Rg64 (w114 + (1 : Int))) <|
   S_l6Laman_l2 N l80 v105 k n (w114 + (1 : Int))) (
   cnd (w114 == ((l80.getD ((v105.1).toNat) (0, 0)).2)) (
    grd (Rg64 (w114 + (1 : Int))) <|
    S_l6Laman_l2 N l80 v105 k n (w114 + (1 : Int))) (
    k w114))
def S_l6Laman_l1 (N : Nat) (c_0 : Cur) (n_1 : Int) (k : ((List (Int × Int)) × Int × Int × Int) → Option (Grf × Int × Int)) : Nat → ((List (Int × Int)) × Int × Int × Int × Int) → Option (Grf × Int × Int)
 | 0, _ => none
 | n + 1, (l80, v81, c82, c83, c84) =>
  cnd (decide (v81 < n_1)) (
   (S_l1Below N (⟨c_0.b, c82, c83⟩ : Cur) v81).bind fun v102 =>
   grd (Rg64 (v102.1 + (1 : Int))) <|
   grd (Rg64 (v81 - (1 : Int))) <|
   (S_l1Below N (⟨c_0.b, v102.2.1, v102.2.2⟩ : Cur) (v81 - (1 : Int))).bind fun v103 =>
   grd (Rg64 ((v102.1 + (1 : Int)) + v103.1)) <|
   grd (v81 ≠ 0) <|
   (S_l1Once N (⟨c_0.b, v103.2.1, v103.2.2⟩ : Cur) (2 : Int)).bind fun v104 =>
   cnd v104.1 (
    cnd (decide (v81 > (2 : Int))) (
     (S_l1Below N (⟨c_0.b, v104.2.1, v104.2.2⟩ : Cur) (l80.length : Int)).bind fun v105 =>
     grd (0 ≤ v105.1 ∧ v105.1 < (l80.length : Int)) <|
     S_l6Laman_l2 N l80 v105 (fun (w107 : Int) =>
        (S_l6Third N (⟨c_0.b, v105.2.1, v105.2.2⟩ : Cur) v81 ((l80.getD ((v105.1).toNat) (0, 0)).1, (l80.getD ((v105.1).toNat) (0, 0)).2) w107).bind fun v108 =>
        (S_RemoveBar N (⟨c84, l80⟩ : Grf) v105.1).bind fun v109 =>
        (S_l2Put N v109.1 ((l80.getD ((v105.1).toNat) (0, 0)).1, v81)).bind fun v110 =>
        (S_l2Put N v110 ((l80.getD ((v105.1).toNat) (0, 0)).2, v81)).bind fun v111 =>
        (S_l2Put N v111 (v108.1, v81)).bind fun v112 =>
        grd (Rg64 (v81 + (1 : Int))) <|
        S_l6Laman_l1 N c_0 n_1 k n (v112.bars, (v81 + (1 : Int)), v108.2.1, v108.2.2, v112.n)) N (0 : Int)) (
     (S_l2Put N (⟨c84, l80⟩ : Grf) (v102.1, v81)).bind fun v115 =>
     (S_l2Put N v115 ((Int.tmod ((v102.1 + (1 : Int)) + v103.1) v81), v81)).bind fun v116 =>
     grd (Rg64 (v81 + (1 : Int))) <|
     S_l6Laman_l1 N c_0 n_1 k n (v116.bars, (v81 + (1 : Int)), v104.2.1, v104.2.2, v116.n))) (
    (S_l2Put N (⟨c84, l80⟩ : Grf) (v102.1, v81)).bind fun v117 =>
    (S_l2Put N v117 ((Int.tmod ((v102.1 + (1 : Int)) + v103.1) v81), v81)).bind fun v118 =>
    grd (Rg64 (v81 + (1 : Int))) <|
    S_l6Laman_l1 N c_0 n_1 k n (v118.bars, (v81 + (1 : Int)), v104.2.1, v104.2.2, v118.n))) (
   k (l80, c82, c83, c84))
def S_l6Laman (N : Nat) (c_0 : Cur) (n_1 : Int) : Option (Grf × Int × Int) :=
 cnd (decide (n_1 < (2 : Int))) (
  some ((⟨n_1, ([] : List (Int × Int))⟩ : Grf), c_0.i, c_0.h)) (
  (S_l2Put N (⟨n_1, ([] : List (Int × Int))⟩ : Grf) ((0 : Int), (1 : Int))).bind fun v1 =>
  S_l6Laman_l1 N c_0 n_1 (fun (x : (List (Int × Int)) × Int × Int × Int) =>
    match x with
    | (l58, c59, c60, c61) =>
     some ((⟨c61, l58⟩ : Grf), c59, c60)) N (v1.bars, (2 : Int), c_0.i, c_0.h, v1.n))
set_option maxRecDepth 20000 in
set_option maxHeartbeats 1600000 in
theorem S_l6Laman_w (N : Nat) (c_0 : Cur) (n_1 : Int) (r : Grf × Int × Int) (h : S_l6Laman N c_0 n_1 = some r) : MCall Try.prog 200 [.ptr 1000000 0, .int n_1] [900101] [1000000] [(111, .pairs [])] [(111, .pairs r.1.bars)] [[.ro false (.bytes c_0.b), .int c_0.i, .int c_0.h]] [[.ro false (.bytes c_0.b), .int r.2.1, .int r.2.2]] (.agg [.int r.1.n, .row 900101 0 r.1.bars.length]) := by
 unfold S_l6Laman at h
 refine mcall_intro (TT := TT) tt Try.func200 rfl rfl Try.ntmps200 (congrArg Array.toList Try.results200) rfl rfl rfl rfl rfl fun w0 O0 => ?_
 refine vSeq ?_
 refine vRegion ?_
 refine oAlloc tt rfl rfl rfl rfl rfl rfl rfl rfl rfl ?_
 refine vNil ?_
 change VC _ _ _ _
 refine vSeq ?_
 refine vRegion ?_
 refine oVal tt rfl rfl rfl rfl rfl trivial ?_
 refine oEmpty tt (wNone rfl) rfl rfl rfl rfl ?_
 refine oPure (wNone rfl) (pBuild bld_impl_Graph rfl rfl) rfl rfl ?_
 refine oAlloc tt rfl rfl rfl rfl rfl rfl rfl rfl rfl ?_
 refine oStore tt rfl rfl rfl rfl rfl rfl rfl rfl rfl rfl rfl ⟨trivial, trivial, trivial⟩ ?_
 refine vNil ?_
 change VC _ _ _ _
 iterate 2 refine vSeq ?_
 refine vRegion ?_
 iterate 2 refine oVal tt rfl rfl rfl rfl rfl trivial ?_
 refine vNil ?_
 change VC _ _ _ _
 refine vCond rfl (fun hb1 => ?_) (fun hb1 => ?_)
 ·replace h := cnd_t hb1 h
  refine vSeq ?_
  refine vRegion ?_
  refine oVal tt rfl rfl rfl rfl rfl trivial ?_
  refine oStore tt rfl rfl rfl rfl rfl rfl rfl rfl rfl rfl rfl ⟨trivial, trivial, trivial⟩ ?_
  refine vNil ?_
  change VC _ _ _ _
  refine vNilB 4 1 9001 111 (.pairs []) rfl rfl rfl rfl rfl ?_
  refine vRet ?_
  change ∃ _, _
  cases h
  exact ⟨[9001], rfl, ⟨rfl, trivial⟩, ⟨rfl, trivial⟩, rfl⟩
 ·replace h := cnd_f hb1 h
  refine vSkip ?_
  change VC _ _ _ _
  refine vSeq ?_
  refine vRegion ?_
  refine oVal tt rfl rfl rfl rfl rfl trivial ?_
  refine oPure (wNone rfl) (pBuild bld_impl_Bar rfl rfl) rfl rfl ?_
  obtain ⟨v1, hc2, h⟩ := bind_inv h
  refine oCall (S_l2Put_w N (⟨n_1, ([] : List (Int × Int))⟩ : Grf) ((0 : Int), (1 : Int)) v1 hc2) rfl rfl rfl rfl rfl rfl rfl rfl ⟨⟨rfl, rfl, trivial⟩, ⟨rfl, rfl, trivial⟩, trivial⟩ ?_
  refine oStore tt rfl rfl rfl rfl rfl rfl rfl rfl rfl rfl rfl ⟨trivial, trivial, trivial⟩ ?_
  refine vNil ?_
  change VC _ _ _ _
  iterate 2 refine vSeq ?_
  refine vRegion ?_
  refine oVal tt rfl rfl rfl rfl rfl trivial ?_
  refine vNil ?_
  change VC _ _ _ _
  refine vJoin (F := fun k => S_l6Laman_l1 N c_0 n_1 k) h (α := (List (Int × Int)) × Int × Int × Int) (J := fun | (l58, c59, c60, c61) => (⟨[(4, .ptr 4 0), (5, .ptr 5 0)], [(1200, some (111, .pairs l58))], [(1000000, some [.ro false (.bytes c_0.b), .int c59, .int c60]), (4, some [.int (0 : Int), .nil]), (5, some [.int c61, .row 1200 0 l58.length])]⟩ : PS)) ?_ ?_
  ·rintro ⟨l58, c59, c60, c61⟩ h
   show VC _ _ _ (⟨[(4, .ptr 4 0), (5, .ptr 5 0)], [(1200, some (111, .pairs l58))], [(1000000, some [.ro false (.bytes c_0.b), .int c59, .int c60]), (4, some [.int (0 : Int), .nil]), (5, some [.int c61, .row 1200 0 l58.length])]⟩ : PS)
   refine vSeq ?_
   refine vRegion ?_
   refine oVal tt rfl rfl rfl rfl rfl trivial ?_
   refine oStore tt rfl rfl rfl rfl rfl rfl rfl rfl rfl rfl rfl ⟨trivial, trivial, trivial⟩ ?_
   refine vNil ?_
   change VC _ _ _ _
   refine vRet ?_
   change ∃ _, _
   cases h
   exact ⟨[1200], rfl, ⟨rfl, trivial⟩, ⟨rfl, trivial⟩, rfl⟩
  ·intro k h
   refine vBlock ?_
   refine vLoopS (α := (List (Int × Int)) × Int × Int × Int × Int) (fun | (l80, v81, c82, c83, c84) => (⟨[(0, .ptr 1000000 0), (1, .int n_1), (4, .ptr 4 0), (5, .ptr 5 0), (6, .int v81)], [(1200, some (111, .pairs l80))], [(1000000, some [.ro false (.bytes c_0.b), .int c82, .int c83]), (4, some [.int (0 : Int), .nil]), (5, some [.int c84, .row 1200 0 l80.length])]⟩ : PS)) (S_l6Laman_l1 N c_0 n_1 k) h (En.of ⟨rfl, rfl, rfl, rfl, rfl, trivial⟩ ⟨rfl, trivial⟩ ⟨rfl, rfl, rfl, trivial⟩) (fun _ => rfl) ?_
   rintro n ⟨l80, v81, c82, c83, c84⟩ h
   rw [S_l6Laman_l1] at h
   show VC _ _ _ (⟨[(0, .ptr 1000000 0), (1, .int n_1), (4, .ptr 4 0), (5, .ptr 5 0), (6, .int v81)], [(1200, some (111, .pairs l80))], [(1000000, some [.ro false (.bytes c_0.b), .int c82, .int c83]), (4, some [.int (0 : Int), .nil]), (5, some [.int c84, .row 1200 0 l80.length])]⟩ : PS)
   iterate 2 refine vSeq ?_
   refine vRegion ?_
   iterate 3 refine oVal tt rfl rfl rfl rfl rfl trivial ?_
   refine vNil ?_
   change VC _ _ _ _
   refine vCond rfl (fun hb3 => ?_) (fun hb3 => ?_)
   ·replace h := cnd_t hb3 h
    refine vSkip ?_
    change VC _ _ _ _
    refine vSeq ?_
    refine vBlock ?_
    refine vSeq ?_
    refine vRegion ?_
    iterate 2 refine oVal tt rfl rfl rfl rfl rfl trivial ?_
    obtain ⟨v102, hc4, h⟩ := bind_inv h
    refine oMCall (S_l1Below_w N (⟨c_0.b, c82, c83⟩ : Cur) v81 v102 hc4) [] [1000000] [] rfl rfl rfl rfl rfl rfl trivial ⟨rfl, trivial⟩ ⟨⟨rfl, rfl⟩, ⟨rfl, rfl⟩, trivial⟩ ?_
    refine oVal tt rfl rfl rfl rfl rfl trivial ?_
    refine vNil ?_
    change VC _ _ _ _
    refine vSeq ?_
    refine vRegion ?_
    refine oVal tt rfl rfl rfl rfl rfl trivial ?_
    obtain ⟨hg5, h⟩ := grd_inv h
    refine oVal tt rfl rfl rfl rfl rfl hg5 ?_
    iterate 2 refine oVal tt rfl rfl rfl rfl rfl trivial ?_
    obtain ⟨hg6, h⟩ := grd_inv h
    refine oVal tt rfl rfl rfl rfl rfl hg6 ?_
    obtain ⟨v103, hc7, h⟩ := bind_inv h
    refine oMCall (S_l1Below_w N (⟨c_0.b, v102.2.1, v102.2.2⟩ : Cur) (v81 - (1 : Int)) v103 hc7) [] [1000000] [] rfl rfl rfl rfl rfl rfl trivial ⟨rfl, trivial⟩ ⟨⟨rfl, rfl⟩, ⟨rfl, rfl⟩, trivial⟩ ?_
    obtain ⟨hg8, h⟩ := grd_inv h
    refine oVal tt rfl rfl rfl rfl rfl hg8 ?_
    refine oVal tt rfl rfl rfl rfl rfl trivial ?_
    obtain ⟨hg9, h⟩ := grd_inv h
    refine oVal tt rfl rfl rfl rfl rfl hg9 ?_
    refine oVal tt rfl rfl rfl rfl rfl trivial ?_
    refine vNil ?_
    change VC _ _ _ _
    refine vSeq ?_
    refine vRegion ?_
    refine oVal tt rfl rfl rfl rfl rfl trivial ?_
    obtain ⟨v104, hc10, h⟩ := bind_inv h
    refine oMCall (S_l1Once_w N (⟨c_0.b, v103.2.1, v103.2.2⟩ : Cur) (2 : Int) v104 hc10) [] [1000000] [] rfl rfl rfl rfl rfl rfl trivial ⟨rfl, trivial⟩ ⟨⟨rfl, rfl⟩, ⟨rfl, rfl⟩, trivial⟩ ?_
    refine oVal tt rfl rfl rfl rfl rfl trivial ?_
    refine oSplit rfl rfl rfl (fun hb11 => ?_) (fun hb11 => ?_)
    ·replace h := cnd_t hb11 h
     iterate 2 refine oValG tt rfl rfl rfl rfl rfl hb11 rfl rfl rfl trivial ?_
     refine oPick rfl rfl rfl rfl rfl hb11 rfl ?_
     refine vNil ?_
     change VC _ _ _ _
     refine vCond rfl (fun hb12 => ?_) (fun hb12 => ?_)
     ·replace h := cnd_t hb12 h
      refine vSeq ?_
      refine vRegion ?_
      iterate 4 refine oVal tt rfl rfl rfl rfl rfl trivial ?_
      obtain ⟨v105, hc13, h⟩ := bind_inv h
      refine oMCall (S_l1Below_w N (⟨c_0.b, v104.2.1, v104.2.2⟩ : Cur) (l80.length : Int) v105 hc13) [] [1000000] [] rfl rfl rfl rfl rfl rfl trivial ⟨rfl, trivial⟩ ⟨⟨rfl, rfl⟩, ⟨rfl, rfl⟩, trivial⟩ ?_
      refine oVal tt rfl rfl rfl rfl rfl trivial ?_
      refine vNil ?_
      change VC _ _ _ _
      refine vSeq ?_
      refine vRegion ?_
      iterate 3 refine oVal tt rfl rfl rfl rfl rfl trivial ?_
      obtain ⟨hg14, h⟩ := grd_inv h
      iterate 2 refine oVal tt rfl rfl rfl rfl rfl hg14 ?_
      refine oAlloc tt rfl rfl rfl rfl rfl rfl rfl rfl rfl ?_
      refine oStore tt rfl rfl rfl rfl rfl rfl rfl rfl rfl rfl rfl ⟨trivial, trivial, trivial⟩ ?_
      refine vNil ?_
      change VC _ _ _ _
      refine vSeq ?_
      refine vRegion ?_
      refine oVal tt rfl rfl rfl rfl rfl trivial ?_
      refine vNil ?_
      change VC _ _ _ _
      refine vSeq ?_
      refine vJoin (F := fun k => S_l6Laman_l2 N l80 v105 k) h (α := Int) (J := fun (w107 : Int) => (⟨[(0, .ptr 1000000 0), (1, .int n_1), (4, .ptr 4 0), (5, .ptr 5 0), (6, .int v81), (9, .int v105.1), (10, .ptr 10 0), (11, .int w107)], [(1200, some (111, .pairs l80))], [(1000000, some [.ro false (.bytes c_0.b), .int v105.2.1, .int v105.2.2]), (4, some [.int (0 : Int), .nil]), (5, some [.int c84, .row 1200 0 l80.length]), (10, some [.int ((l80.getD ((v105.1).toNat) (0, 0)).1), .int ((l80.getD ((v105.1).toNat) (0, 0)).2)])]⟩ : PS)) ?_ ?_
      ·rintro w107 h
       show VC _ _ _ (⟨[(0, .ptr 1000000 0), (1, .int n_1), (4, .ptr 4 0), (5, .ptr 5 0), (6, .int v81), (9, .int v105.1), (10, .ptr 10 0), (11, .int w107)], [(1200, some (111, .pairs l80))], [(1000000, some [.ro false (.bytes c_0.b), .int v105.2.1, .int v105.2.2]), (4, some [.int (0 : Int), .nil]), (5, some [.int c84, .row 1200 0 l80.length]), (10, some [.int ((l80.getD ((v105.1).toNat) (0, 0)).1), .int ((l80.getD ((v105.1).toNat) (0, 0)).2)])]⟩ : PS)
       refine vSeq ?_
       refine vRegion ?_
       iterate 4 refine oVal tt rfl rfl rfl rfl rfl trivial ?_
       obtain ⟨v108, hc15, h⟩ := bind_inv h
       refine oMCall (S_l6Third_w N (⟨c_0.b, v105.2.1, v105.2.2⟩ : Cur) v81 ((l80.getD ((v105.1).toNat) (0, 0)).1, (l80.getD ((v105.1).toNat) (0, 0)).2) w107 v108 hc15) [] [1000000] [] rfl rfl rfl rfl rfl rfl trivial ⟨rfl, trivial⟩ ⟨⟨rfl, rfl⟩, ⟨rfl, rfl⟩, ⟨⟨rfl, rfl⟩, ⟨rfl, rfl⟩, trivial⟩, ⟨rfl, rfl⟩, trivial⟩ ?_
       refine oVal tt rfl rfl rfl rfl rfl trivial ?_
       refine vNil ?_
       change VC _ _ _ _
       refine vSeq ?_
       refine vRegion ?_
       iterate 2 refine oVal tt rfl rfl rfl rfl rfl trivial ?_
       obtain ⟨v109, hc16, h⟩ := bind_inv h
       refine oCall (S_RemoveBar_w N (⟨c84, l80⟩ : Grf) v105.1 v109 hc16) rfl rfl rfl rfl rfl rfl rfl rfl ⟨⟨rfl, (.inl ⟨rfl, rfl⟩), trivial⟩, rfl, trivial⟩ ?_
       iterate 3 refine oVal tt rfl rfl rfl rfl rfl trivial ?_
       refine oStore tt rfl rfl rfl rfl rfl rfl rfl rfl rfl rfl rfl ⟨trivial, trivial, trivial⟩ ?_
       refine vNil ?_
       change VC _ _ _ _
       refine vRegionN 14 [5, 10] [0, 0, 2, 0, 14, 31, 0, 64, 0, 448, 1023, 0, 0, 6144, 16383, 32767] (by kernel_rfl) (by kernel_rfl) (by kernel_rfl) (by kernel_rfl) (by kernel_rfl) rfl (by rfl) ?_
       iterate 4 refine nVal tt rfl (wNone rfl) rfl rfl rfl rfl rfl trivial ?_
       refine nPure (wNone rfl) (pBuild bld_impl_Bar rfl rfl) rfl rfl rfl rfl ?_
       obtain ⟨v110, hc17, h⟩ := bind_inv h
       refine nCallR (S_l2Put_w N v109.1 ((l80.getD ((v105.1).toNat) (0, 0)).1, v81) v110 hc17) rfl (wNone rfl) rfl rfl rfl rfl rfl rfl (by first | rfl | kernel_rfl | (simp [nrL, nm, gdst, nmT, rowB]; done)) rfl (by first | rfl | kernel_rfl | (simp [chkE, nrL, nm, gdst, nmT, rowB, hid, ment, mentA, mentS]; done) | (simp [chkE, nrL, nm, gdst, nmT, rowB, hid, ment, mentA, mentS]; decide)) ⟨⟨rfl, (.inl ⟨rfl, rfl⟩), trivial⟩, ⟨rfl, rfl, trivial⟩, trivial⟩ ?_
       iterate 3 refine nVal tt rfl (wNone rfl) rfl rfl rfl rfl rfl trivial ?_
       refine nPure (wNone rfl) (pBuild bld_impl_Bar rfl rfl) rfl rfl rfl rfl ?_
       obtain ⟨v111, hc18, h⟩ := bind_inv h
       refine nCallR (S_l2Put_w N v110 ((l80.getD ((v105.1).toNat) (0, 0)).2, v81) v111 hc18) rfl (wNone rfl) rfl rfl rfl rfl rfl rfl (by first | rfl | kernel_rfl | (simp [nrL, nm, gdst, nmT, rowB]; done)) rfl (by first | rfl | kernel_rfl | (simp [chkE, nrL, nm, gdst, nmT, rowB, hid, ment, mentA, mentS]; done) | (simp [chkE, nrL, nm, gdst, nmT, rowB, hid, ment, mentA, mentS]; decide)) ⟨⟨rfl, (.inl ⟨rfl, rfl⟩), trivial⟩, ⟨rfl, rfl, trivial⟩, trivial⟩ ?_
       iterate 2 refine nVal tt rfl (wNone rfl) rfl rfl rfl rfl rfl trivial ?_
       refine nPure (wNone rfl) (pBuild bld_impl_Bar rfl rfl) rfl rfl rfl rfl ?_
       refine nNil ?_
       change VO _ _ _ _ _
       obtain ⟨v112, hc19, h⟩ := bind_inv h
       refine oCall (S_l2Put_w N v111 (v108.1, v81) v112 hc19) rfl rfl rfl rfl rfl rfl rfl rfl ⟨⟨rfl, (.inl ⟨rfl, rfl⟩), trivial⟩, ⟨rfl, rfl, trivial⟩, trivial⟩ ?_
       refine oStore tt rfl rfl rfl rfl rfl rfl rfl rfl rfl rfl rfl ⟨trivial, trivial, trivial⟩ ?_
       refine vNil ?_
       change VC _ _ _ _
       refine vRegion ?_
       refine oVal tt rfl rfl rfl rfl rfl trivial ?_
       obtain ⟨hg20, h⟩ := grd_inv h
       refine oVal tt rfl rfl rfl rfl rfl hg20 ?_
       refine oVal tt rfl rfl rfl rfl rfl trivial ?_
       refine vNil ?_
       change ∃ _, _
       exact ⟨(v112.bars, (v81 + (1 : Int)), v108.2.1, v108.2.2, v112.n), (En.ren [1200] [1910] rfl ⟨.inr rfl, .inr rfl, .inr rfl, .inr rfl, .inr rfl, trivial⟩ ⟨.inr rfl, trivial⟩ ⟨.inr ⟨_, _, rfl, rfl, ⟨.inr rfl, .inr rfl, .inr rfl, trivial⟩⟩, .inr ⟨_, _, rfl, rfl, ⟨.inr rfl, .inr rfl, trivial⟩⟩, .inr ⟨_, _, rfl, rfl, ⟨.inr rfl, .inr rfl, trivial⟩⟩, trivial⟩), h⟩
      ·intro k h
       refine vBlock ?_
       refine vLoopS (α := Int) (fun (w114 : Int) => (⟨[(0, .ptr 1000000 0), (1, .int n_1), (4, .ptr 4 0), (5, .ptr 5 0), (6, .int v81), (9, .int v105.1), (10, .ptr 10 0), (11, .int w114)], [(1200, some (111, .pairs l80))], [(1000000, some [.ro false (.bytes c_0.b), .int v105.2.1, .int v105.2.2]), (4, some [.int (0 : Int), .nil]), (5, some [.int c84, .row 1200 0 l80.length]), (10, some [.int ((l80.getD ((v105.1).toNat) (0, 0)).1), .int ((l80.getD ((v105.1).toNat) (0, 0)).2)])]⟩ : PS)) (S_l6Laman_l2 N l80 v105 k) h (En.of ⟨rfl, rfl, rfl, rfl, rfl, rfl, rfl, rfl, trivial⟩ ⟨rfl, trivial⟩ ⟨rfl, rfl, rfl, rfl, trivial⟩) (fun _ => rfl) ?_
       rintro n w114 h
       rw [S_l6Laman_l2] at h
       show VC _ _ _ (⟨[(0, .ptr 1000000 0), (1, .int n_1), (4, .ptr 4 0), (5, .ptr 5 0), (6, .int v81), (9, .int v105.1), (10, .ptr 10 0), (11, .int w114)], [(1200, some (111, .pairs l80))], [(1000000, some [.ro false (.bytes c_0.b), .int v105.2.1, .int v105.2.2]), (4, some [.int (0 : Int), .nil]), (5, some [.int c84, .row 1200 0 l80.length]), (10, some [.int ((l80.getD ((v105.1).toNat) (0, 0)).1), .int ((l80.getD ((v105.1).toNat) (0, 0)).2)])]⟩ : PS)
       iterate 2 refine vSeq ?_
       refine vRegion ?_
       iterate 5 refine oVal tt rfl rfl rfl rfl rfl trivial ?_
       refine oSplit rfl rfl rfl (fun hb21 => ?_) (fun hb21 => ?_)
       ·replace h := cnd_t hb21 h
        iterate 4 refine oNoF rfl rfl rfl rfl hb21 rfl rfl ?_
        refine oPick rfl rfl rfl rfl rfl hb21 rfl ?_
        refine vNil ?_
        change VC _ _ _ _
        refine vCondT rfl rfl ?_
        refine vSkip ?_
        change VC _ _ _ _
        refine vBlock ?_
        refine vRegion ?_
        refine oVal tt rfl rfl rfl rfl rfl trivial ?_
        obtain ⟨hg22, h⟩ := grd_inv h
        refine oVal tt rfl rfl rfl rfl rfl hg22 ?_
        refine oVal tt rfl rfl rfl rfl rfl trivial ?_
        refine vNil ?_
        change ∃ _, _
        exact ⟨(w114 + (1 : Int)), (En.of ⟨rfl, rfl, rfl, rfl, rfl, rfl, rfl, rfl, trivial⟩ ⟨rfl, trivial⟩ ⟨rfl, rfl, rfl, rfl, trivial⟩), h⟩
       ·replace h := cnd_f hb21 h
        iterate 4 refine oValG tt rfl rfl rfl rfl rfl hb21 rfl rfl rfl trivial ?_
        refine oPickF rfl rfl rfl rfl rfl hb21 rfl ?_
        refine vNil ?_
        change VC _ _ _ _
        refine vCond rfl (fun hb23 => ?_) (fun hb23 => ?_)
        ·replace h := cnd_t hb23 h
         refine vSkip ?_
         change VC _ _ _ _
         refine vBlock ?_
         refine vRegion ?_
         refine oVal tt rfl rfl rfl rfl rfl trivial ?_
         obtain ⟨hg24, h⟩ := grd_inv h
         refine oVal tt rfl rfl rfl rfl rfl hg24 ?_
         refine oVal tt rfl rfl rfl rfl rfl trivial ?_
         refine vNil ?_
         change ∃ _, _
         exact ⟨(w114 + (1 : Int)), (En.of ⟨rfl, rfl, rfl, rfl, rfl, rfl, rfl, rfl, trivial⟩ ⟨rfl, trivial⟩ ⟨rfl, rfl, rfl, rfl, trivial⟩), h⟩
        ·replace h := cnd_f hb23 h
         refine vExit ?_
         change ∃ _, _
         exact ⟨w114, (En.of ⟨rfl, rfl, rfl, rfl, rfl, rfl, rfl, rfl, trivial⟩ ⟨rfl, trivial⟩ ⟨rfl, rfl, rfl, rfl, trivial⟩), h⟩
     ·replace h := cnd_f hb12 h
      refine vRegion ?_
      iterate 3 refine oVal tt rfl rfl rfl rfl rfl trivial ?_
      refine oPure (wNone rfl) (pBuild bld_impl_Bar rfl rfl) rfl rfl ?_
      obtain ⟨v115, hc25, h⟩ := bind_inv h
      refine oCall (S_l2Put_w N (⟨c84, l80⟩ : Grf) (v102.1, v81) v115 hc25) rfl rfl rfl rfl rfl rfl rfl rfl ⟨⟨rfl, (.inl ⟨rfl, rfl⟩), trivial⟩, ⟨rfl, rfl, trivial⟩, trivial⟩ ?_
      iterate 2 refine oVal tt rfl rfl rfl rfl rfl trivial ?_
      refine oPure (wNone rfl) (pBuild bld_impl_Bar rfl rfl) rfl rfl ?_
      obtain ⟨v116, hc26, h⟩ := bind_inv h
      refine oCall (S_l2Put_w N v115 ((Int.tmod ((v102.1 + (1 : Int)) + v103.1) v81), v81) v116 hc26) rfl rfl rfl rfl rfl rfl rfl rfl ⟨⟨rfl, (.inl ⟨rfl, rfl⟩), trivial⟩, ⟨rfl, rfl, trivial⟩, trivial⟩ ?_
      refine oStore tt rfl rfl rfl rfl rfl rfl rfl rfl rfl rfl rfl ⟨trivial, trivial, trivial⟩ ?_
      refine vNil ?_
      change VC _ _ _ _
      refine vRegion ?_
      refine oVal tt rfl rfl rfl rfl rfl trivial ?_
      obtain ⟨hg27, h⟩ := grd_inv h
      refine oVal tt rfl rfl rfl rfl rfl hg27 ?_
      refine oVal tt rfl rfl rfl rfl rfl trivial ?_
      refine vNil ?_
      change ∃ _, _
      exact ⟨(v116.bars, (v81 + (1 : Int)), v104.2.1, v104.2.2, v116.n), (En.ren [1200] [2000] rfl ⟨.inr rfl, .inr rfl, .inr rfl, .inr rfl, .inr rfl, trivial⟩ ⟨.inr rfl, trivial⟩ ⟨.inr ⟨_, _, rfl, rfl, ⟨.inr rfl, .inr rfl, .inr rfl, trivial⟩⟩, .inr ⟨_, _, rfl, rfl, ⟨.inr rfl, .inr rfl, trivial⟩⟩, .inr ⟨_, _, rfl, rfl, ⟨.inr rfl, .inr rfl, trivial⟩⟩, trivial⟩), h⟩
    ·replace h := cnd_f hb11 h
     iterate 2 refine oNoT rfl rfl rfl rfl hb11 rfl rfl ?_
     refine oPickF rfl rfl rfl rfl rfl hb11 rfl ?_
     refine vNil ?_
     change VC _ _ _ _
     refine vCondF rfl rfl ?_
     refine vRegion ?_
     iterate 3 refine oVal tt rfl rfl rfl rfl rfl trivial ?_
     refine oPure (wNone rfl) (pBuild bld_impl_Bar rfl rfl) rfl rfl ?_
     obtain ⟨v117, hc28, h⟩ := bind_inv h
     refine oCall (S_l2Put_w N (⟨c84, l80⟩ : Grf) (v102.1, v81) v117 hc28) rfl rfl rfl rfl rfl rfl rfl rfl ⟨⟨rfl, (.inl ⟨rfl, rfl⟩), trivial⟩, ⟨rfl, rfl, trivial⟩, trivial⟩ ?_
     iterate 2 refine oVal tt rfl rfl rfl rfl rfl trivial ?_
     refine oPure (wNone rfl) (pBuild bld_impl_Bar rfl rfl) rfl rfl ?_
     obtain ⟨v118, hc29, h⟩ := bind_inv h
     refine oCall (S_l2Put_w N v117 ((Int.tmod ((v102.1 + (1 : Int)) + v103.1) v81), v81) v118 hc29) rfl rfl rfl rfl rfl rfl rfl rfl ⟨⟨rfl, (.inl ⟨rfl, rfl⟩), trivial⟩, ⟨rfl, rfl, trivial⟩, trivial⟩ ?_
     refine oStore tt rfl rfl rfl rfl rfl rfl rfl rfl rfl rfl rfl ⟨trivial, trivial, trivial⟩ ?_
     refine vNil ?_
     change VC _ _ _ _
     refine vRegion ?_
     refine oVal tt rfl rfl rfl rfl rfl trivial ?_
     obtain ⟨hg30, h⟩ := grd_inv h
     refine oVal tt rfl rfl rfl rfl rfl hg30 ?_
     refine oVal tt rfl rfl rfl rfl rfl trivial ?_
     refine vNil ?_
     change ∃ _, _
     exact ⟨(v118.bars, (v81 + (1 : Int)), v104.2.1, v104.2.2, v118.n), (En.ren [1200] [2000] rfl ⟨.inr rfl, .inr rfl, .inr rfl, .inr rfl, .inr rfl, trivial⟩ ⟨.inr rfl, trivial⟩ ⟨.inr ⟨_, _, rfl, rfl, ⟨.inr rfl, .inr rfl, .inr rfl, trivial⟩⟩, .inr ⟨_, _, rfl, rfl, ⟨.inr rfl, .inr rfl, trivial⟩⟩, .inr ⟨_, _, rfl, rfl, ⟨.inr rfl, .inr rfl, trivial⟩⟩, trivial⟩), h⟩
   ·replace h := cnd_f hb3 h
    refine vExit ?_
    change ∃ _, _
    exact ⟨(l80, c82, c83, c84), (En.of ⟨rfl, rfl, trivial⟩ ⟨rfl, trivial⟩ ⟨rfl, rfl, rfl, trivial⟩), h⟩
end Go.Proofs.Ytcljhpldfanhkaa
namespace Go.Proofs.Ytcljhpldfanhkaa
open Go.RowKit Go.Deep
section
variable {C : Cx} {ops : Array Oper} {K : PS → Prop} {l : List Oper} {s s' : PS} {TT : List (Nat × Ty)} {tm : List (Nat × D)} {rw' : List (Nat × Option (TypeId × Sq))} {bx : List (Nat × Option (List D))}
end
end Go.Proofs.Ytcljhpldfanhkaa
namespace Go.Proofs.Ytcljhpldfanhkaa
open Go.RowKit
end Go.Proofs.Ytcljhpldfanhkaa
namespace Go.Proofs.Ytcljhpldfanhkaa
open Go.RowKit
end Go.Proofs.Ytcljhpldfanhkaa
namespace Go.Proofs.Ytcljhpldfanhkaa
open Go.RowKit
end Go.Proofs.Ytcljhpldfanhkaa
namespace Go.Proofs.Ytcljhpldfanhkaa
open Go.RowKit
end Go.Proofs.Ytcljhpldfanhkaa
namespace Go.Proofs.Ytcljhpldfanhkaa
open Go.RowKit
def I_SteadyPoints_l2 (N : Nat) (p_0 : Pin) (v2 : List (Int × Int)) (x116 : Int) (k : Bool → Option (List Int)) : Nat → (Bool × Int) → Option (List Int)
 | 0, _ => none
 | n + 1, (steady147, x148) =>
  cnd (decide (x148 < (p_0.ground.length : Int))) (
   grd (0 ≤ x148 ∧ x148 < (p_0.ground.length : Int)) <|
   cnd steady147 (
    cnd ((p_0.ground.getD ((x148).toNat) 0) == x116) (
     grd (Rg64 (x148 + (1 : Int))) <|
     I_SteadyPoints_l2 N p_0 v2 x116 k n (true, (x148 + (1 : Int)))) (
     (I_bar N (p_0.ground.getD ((x148).toNat) 0) x116).bind fun v151 =>
     (I_raises N p_0.g.n (v2 ++ p_0.g.bars) v151).bind fun v152 =>
     grd (Rg64 (x148 + (1 : Int))) <|
     I_SteadyPoints_l2 N p_0 v2 x116 k n ((!v152), (x148 + (1 : Int))))) (
    grd (Rg64 (x148 + (1 : Int))) <|
    I_SteadyPoints_l2 N p_0 v2 x116 k n (false, (x148 + (1 : Int))))) (
   k steady147)
def I_SteadyPoints_l1 (N : Nat) (p_0 : Pin) (v2 : List (Int × Int)) (k : (List Int) → Option (List Int)) : Nat → ((List Int) × Int) → Option (List Int)
 | 0, _ => none
 | n + 1, (l115, x116) =>
  cnd (decide (x116 < p_0.g.n)) (
   I_SteadyPoints_l2 N p_0 v2 x116 (fun (steady143 : Bool) =>
      cnd steady143 (
       grd (l115.length + 1 ≤ 4294967296) <|
       grd (Rg64 (x116 + (1 : Int))) <|
       I_SteadyPoints_l1 N p_0 v2 k n ((l115 ++ ([x116] : List Int)), (x116 + (1 : Int)))) (
       grd (Rg64 (x116 + (1 : Int))) <|
       I_SteadyPoints_l1 N p_0 v2 k n (l115, (x116 + (1 : Int))))) N (true, (0 : Int))) (
   k l115)
def I_SteadyPoints (N : Nat) (p_0 : Pin) : Option (List Int) :=
 (I_IsPinned N p_0).bind fun v1 =>
 cnd (!v1) (
  some ([] : List Int)) (
  (M_Pinned_held N p_0).bind fun v2 =>
  grd (v2.length + p_0.g.bars.length ≤ 4294967296) <|
  I_SteadyPoints_l1 N p_0 v2 (fun (l77 : List Int) =>
     some l77) N (([] : List Int), (0 : Int)))
end Go.Proofs.Ytcljhpldfanhkaa
namespace Go.Proofs.Ytcljhpldfanhkaa
open Go.RowKit
def G_Delete_Bar (N : Nat) (s_0 : List (Int × Int)) (i_1 : Int) (j_2 : Int) : Option (List (Int × Int)) :=
 grd (0 ≤ i_1 ∧ i_1 ≤ j_2 ∧ j_2 ≤ (s_0.length : Int) ∧ (s_0.length : Int) ≤ (s_0.length : Int)) <|
 cnd (i_1 == j_2) (
  some s_0) (
  grd (0 ≤ i_1 ∧ i_1 ≤ (s_0.length : Int)) <|
  grd (0 ≤ j_2 ∧ j_2 ≤ (s_0.length : Int)) <|
  grd ((0 + ((j_2).toNat)) + (s_0.length - ((j_2).toNat)) ≤ s_0.length) <|
  grd (((i_1).toNat) + ((s_0.take ((0 + ((j_2).toNat)) + (s_0.length - ((j_2).toNat)))).drop (0 + ((j_2).toNat))).length ≤ s_0.length) <|
  grd (0 ≤ ((((i_1).toNat) + ((s_0.take ((0 + ((j_2).toNat)) + (s_0.length - ((j_2).toNat)))).drop (0 + ((j_2).toNat))).length) : Int) ∧ ((((i_1).toNat) + ((s_0.take ((0 + ((j_2).toNat)) + (s_0.length - ((j_2).toNat)))).drop (0 + ((j_2).toNat))).length) : Int) ≤ (s_0.length : Int) ∧ (s_0.length : Int) ≤ (((s_0.take ((i_1).toNat) ++ ((s_0.take ((0 + ((j_2).toNat)) + (s_0.length - ((j_2).toNat)))).drop (0 + ((j_2).toNat)))) ++ s_0.drop (((i_1).toNat) + ((s_0.take ((0 + ((j_2).toNat)) + (s_0.length - ((j_2).toNat)))).drop (0 + ((j_2).toNat))).length)).length : Int)) <|
  grd (((((((i_1).toNat) + ((s_0.take ((0 + ((j_2).toNat)) + (s_0.length - ((j_2).toNat)))).drop (0 + ((j_2).toNat))).length) : Int)).toNat) + ((((s_0.length : Int)).toNat) - ((((((i_1).toNat) + ((s_0.take ((0 + ((j_2).toNat)) + (s_0.length - ((j_2).toNat)))).drop (0 + ((j_2).toNat))).length) : Int)).toNat)) ≤ ((s_0.take ((i_1).toNat) ++ ((s_0.take ((0 + ((j_2).toNat)) + (s_0.length - ((j_2).toNat)))).drop (0 + ((j_2).toNat)))) ++ s_0.drop (((i_1).toNat) + ((s_0.take ((0 + ((j_2).toNat)) + (s_0.length - ((j_2).toNat)))).drop (0 + ((j_2).toNat))).length)).length) <|
  grd ((((i_1).toNat) + ((s_0.take ((0 + ((j_2).toNat)) + (s_0.length - ((j_2).toNat)))).drop (0 + ((j_2).toNat))).length) = (((((s_0.take ((i_1).toNat) ++ ((s_0.take ((0 + ((j_2).toNat)) + (s_0.length - ((j_2).toNat)))).drop (0 + ((j_2).toNat)))) ++ s_0.drop (((i_1).toNat) + ((s_0.take ((0 + ((j_2).toNat)) + (s_0.length - ((j_2).toNat)))).drop (0 + ((j_2).toNat))).length)).take ((((((i_1).toNat) + ((s_0.take ((0 + ((j_2).toNat)) + (s_0.length - ((j_2).toNat)))).drop (0 + ((j_2).toNat))).length) : Int)).toNat) ++ (List.replicate ((((s_0.length : Int)).toNat) - ((((((i_1).toNat) + ((s_0.take ((0 + ((j_2).toNat)) + (s_0.length - ((j_2).toNat)))).drop (0 + ((j_2).toNat))).length) : Int)).toNat)) ((0, 0) : Int × Int))) ++ ((s_0.take ((i_1).toNat) ++ ((s_0.take ((0 + ((j_2).toNat)) + (s_0.length - ((j_2).toNat)))).drop (0 + ((j_2).toNat)))) ++ s_0.drop (((i_1).toNat) + ((s_0.take ((0 + ((j_2).toNat)) + (s_0.length - ((j_2).toNat)))).drop (0 + ((j_2).toNat))).length)).drop (((((((i_1).toNat) + ((s_0.take ((0 + ((j_2).toNat)) + (s_0.length - ((j_2).toNat)))).drop (0 + ((j_2).toNat))).length) : Int)).toNat) + ((((s_0.length : Int)).toNat) - ((((((i_1).toNat) + ((s_0.take ((0 + ((j_2).toNat)) + (s_0.length - ((j_2).toNat)))).drop (0 + ((j_2).toNat))).length) : Int)).toNat)))).take (((i_1).toNat) + ((s_0.take ((0 + ((j_2).toNat)) + (s_0.length - ((j_2).toNat)))).drop (0 + ((j_2).toNat))).length)).length) <|
  some (((((s_0.take ((i_1).toNat) ++ ((s_0.take ((0 + ((j_2).toNat)) + (s_0.length - ((j_2).toNat)))).drop (0 + ((j_2).toNat)))) ++ s_0.drop (((i_1).toNat) + ((s_0.take ((0 + ((j_2).toNat)) + (s_0.length - ((j_2).toNat)))).drop (0 + ((j_2).toNat))).length)).take ((((((i_1).toNat) + ((s_0.take ((0 + ((j_2).toNat)) + (s_0.length - ((j_2).toNat)))).drop (0 + ((j_2).toNat))).length) : Int)).toNat) ++ (List.replicate ((((s_0.length : Int)).toNat) - ((((((i_1).toNat) + ((s_0.take ((0 + ((j_2).toNat)) + (s_0.length - ((j_2).toNat)))).drop (0 + ((j_2).toNat))).length) : Int)).toNat)) ((0, 0) : Int × Int))) ++ ((s_0.take ((i_1).toNat) ++ ((s_0.take ((0 + ((j_2).toNat)) + (s_0.length - ((j_2).toNat)))).drop (0 + ((j_2).toNat)))) ++ s_0.drop (((i_1).toNat) + ((s_0.take ((0 + ((j_2).toNat)) + (s_0.length - ((j_2).toNat)))).drop (0 + ((j_2).toNat))).length)).drop (((((((i_1).toNat) + ((s_0.take ((0 + ((j_2).toNat)) + (s_0.length - ((j_2).toNat)))).drop (0 + ((j_2).toNat))).length) : Int)).toNat) + ((((s_0.length : Int)).toNat) - ((((((i_1).toNat) + ((s_0.take ((0 + ((j_2).toNat)) + (s_0.length - ((j_2).toNat)))).drop (0 + ((j_2).toNat))).length) : Int)).toNat)))).take (((i_1).toNat) + ((s_0.take ((0 + ((j_2).toNat)) + (s_0.length - ((j_2).toNat)))).drop (0 + ((j_2).toNat))).length)))
def I_withoutBar (N : Nat) (p_0 : Pin) (e_1 : Int) : Option (Pin) :=
 (I_copyPinned N p_0).bind fun v1 =>
 grd (Rg64 (e_1 + (1 : Int))) <|
 (G_Delete_Bar N v1.g.bars e_1 (e_1 + (1 : Int))).bind fun v2 =>
 some (⟨⟨v1.g.n, v2⟩, v1.ground⟩ : Pin)
end Go.Proofs.Ytcljhpldfanhkaa
namespace Go.Proofs.Ytcljhpldfanhkaa
open Go.RowKit
def I_FallsWith_l1 (N : Nat) (v4 : List Int) (v5 : List Int) (k : (List Int) → Option (List Int)) : Nat → ((List Int) × Int) → Option (List Int)
 | 0, _ => none
 | n + 1, (l16, x17) =>
  cnd (decide (x17 < (v5.length : Int))) (
   grd (0 ≤ x17 ∧ x17 < (v5.length : Int)) <|
   (G_Contains_int N v4 (v5.getD ((x17).toNat) 0)).bind fun v19 =>
   cnd (!v19) (
    grd (l16.length + 1 ≤ 4294967296) <|
    grd (Rg64 (x17 + (1 : Int))) <|
    I_FallsWith_l1 N v4 v5 k n ((l16 ++ ([(v5.getD ((x17).toNat) 0)] : List Int)), (x17 + (1 : Int)))) (
    grd (Rg64 (x17 + (1 : Int))) <|
    I_FallsWith_l1 N v4 v5 k n (l16, (x17 + (1 : Int))))) (
   k l16)
def I_FallsWith (N : Nat) (p_0 : Pin) (bar_1 : Int) : Option (List Int) :=
 (I_IsPinned N p_0).bind fun v1 =>
 cnd (!v1) (
  some ([] : List Int)) (
  grd (Rg64 ((p_0.g.bars.length : Int) - (1 : Int))) <|
  (I_within N bar_1 (0 : Int) ((p_0.g.bars.length : Int) - (1 : Int))).bind fun v2 =>
  cnd (!v2) (
   some ([] : List Int)) (
   (I_withoutBar N p_0 bar_1).bind fun v3 =>
   (I_SteadyPoints N v3).bind fun v4 =>
   (I_SteadyPoints N p_0).bind fun v5 =>
   I_FallsWith_l1 N v4 v5 (fun (l12 : List Int) =>
      some l12) N (([] : List Int), (0 : Int))))
end Go.Proofs.Ytcljhpldfanhkaa
namespace Go.Proofs.Ytcljhpldfanhkaa
open Go.RowKit
def L_FnPinned_l1 (N : Nat) (v2 : Pin) (k : Unit → Option (Bool)) : Nat → Int → Option (Bool)
 | 0, _ => none
 | n + 1, i33 =>
  cnd (decide (i33 < (v2.g.bars.length : Int))) (
   (I_IsIsostatic N v2).bind fun v36 =>
   cnd v36 (
    (I_FallsWith N v2 i33).bind fun v37 =>
    cnd ((v37.length : Int) == (0 : Int)) (
     some false) (
     grd (Rg64 (i33 + (1 : Int))) <|
     L_FnPinned_l1 N v2 k n (i33 + (1 : Int)))) (
    k ())) (
   k ())
def S_l24Linkage (N : Nat) (c_0 : Cur) : Option (Lnk × Int × Int) :=
 (S_l1Below N c_0 (3 : Int)).bind fun v1 =>
 grd (Rg64 ((2 : Int) + v1.1)) <|
 (S_l1Below N (⟨c_0.b, v1.2.1, v1.2.2⟩ : Cur) (3 : Int)).bind fun v2 =>
 cnd (v2.1 == (0 : Int)) (
  (S_l6Laman N (⟨c_0.b, v2.2.1, v2.2.2⟩ : Cur) ((2 : Int) + v1.1)).bind fun v3 =>
  (S_l10Of N (⟨c_0.b, v3.2.1, v3.2.2⟩ : Cur) (⟨v3.1.n, v3.1.bars⟩ : Grf)).bind fun v4 =>
  grd (Rg64 (((2 : Int) + v1.1) - (1 : Int))) <|
  grd (Rg64 (((2 : Int) + v1.1) - (min (2 : Int) (((2 : Int) + v1.1) - (1 : Int))))) <|
  grd (0 ≤ (((2 : Int) + v1.1) - (min (2 : Int) (((2 : Int) + v1.1) - (1 : Int)))) ∧ (((2 : Int) + v1.1) - (min (2 : Int) (((2 : Int) + v1.1) - (1 : Int)))) < 64 ∧ Rg64 ((1 : Int) * 2 ^ (((((2 : Int) + v1.1) - (min (2 : Int) (((2 : Int) + v1.1) - (1 : Int))))).toNat))) <|
  grd (Rg64 (((1 : Int) * 2 ^ (((((2 : Int) + v1.1) - (min (2 : Int) (((2 : Int) + v1.1) - (1 : Int))))).toNat)) - (1 : Int))) <|
  (S_l3Set N ((2 : Int) + v1.1) (((1 : Int) * 2 ^ (((((2 : Int) + v1.1) - (min (2 : Int) (((2 : Int) + v1.1) - (1 : Int))))).toNat)) - (1 : Int))).bind fun v5 =>
  some ((⟨⟨⟨v4.1.g.n, v4.1.g.bars⟩, v4.1.places⟩, v5⟩ : Lnk), v4.2.1, v4.2.2)) (
  cnd (v2.1 == (1 : Int)) (
   (S_l6Laman N (⟨c_0.b, v2.2.1, v2.2.2⟩ : Cur) ((2 : Int) + v1.1)).bind fun v6 =>
   (S_l1Below N (⟨c_0.b, v6.2.1, v6.2.2⟩ : Cur) (v6.1.bars.length : Int)).bind fun v7 =>
   (S_RemoveBar N v6.1 v7.1).bind fun v8 =>
   (S_l10Of N (⟨c_0.b, v7.2.1, v7.2.2⟩ : Cur) (⟨v8.1.n, v8.1.bars⟩ : Grf)).bind fun v9 =>
   grd (Rg64 (((2 : Int) + v1.1) - (1 : Int))) <|
   grd (Rg64 (((2 : Int) + v1.1) - (min (2 : Int) (((2 : Int) + v1.1) - (1 : Int))))) <|
   grd (0 ≤ (((2 : Int) + v1.1) - (min (2 : Int) (((2 : Int) + v1.1) - (1 : Int)))) ∧ (((2 : Int) + v1.1) - (min (2 : Int) (((2 : Int) + v1.1) - (1 : Int)))) < 64 ∧ Rg64 ((1 : Int) * 2 ^ (((((2 : Int) + v1.1) - (min (2 : Int) (((2 : Int) + v1.1) - (1 : Int))))).toNat))) <|
   grd (Rg64 (((1 : Int) * 2 ^ (((((2 : Int) + v1.1) - (min (2 : Int) (((2 : Int) + v1.1) - (1 : Int))))).toNat)) - (1 : Int))) <|
   (S_l3Set N ((2 : Int) + v1.1) (((1 : Int) * 2 ^ (((((2 : Int) + v1.1) - (min (2 : Int) (((2 : Int) + v1.1) - (1 : Int))))).toNat)) - (1 : Int))).bind fun v10 =>
   some ((⟨⟨⟨v9.1.g.n, v9.1.g.bars⟩, v9.1.places⟩, v10⟩ : Lnk), v9.2.1, v9.2.2)) (
   grd (Rg64 ((4 : Int) - (1 : Int))) <|
   grd (Rg64 ((4 : Int) - (min (2 : Int) ((4 : Int) - (1 : Int))))) <|
   grd (0 ≤ ((4 : Int) - (min (2 : Int) ((4 : Int) - (1 : Int)))) ∧ ((4 : Int) - (min (2 : Int) ((4 : Int) - (1 : Int)))) < 64 ∧ Rg64 ((1 : Int) * 2 ^ ((((4 : Int) - (min (2 : Int) ((4 : Int) - (1 : Int))))).toNat))) <|
   grd (Rg64 (((1 : Int) * 2 ^ ((((4 : Int) - (min (2 : Int) ((4 : Int) - (1 : Int))))).toNat)) - (1 : Int))) <|
   (S_l3Set N (4 : Int) (((1 : Int) * 2 ^ ((((4 : Int) - (min (2 : Int) ((4 : Int) - (1 : Int))))).toNat)) - (1 : Int))).bind fun v11 =>
   some ((⟨⟨⟨(4 : Int), ([((0 : Int), (2 : Int)), ((1 : Int), (3 : Int)), ((2 : Int), (3 : Int))] : List (Int × Int))⟩, ([((1 : Int), (1 : Int)), ((3 : Int), (1 : Int)), ((1 : Int), (2 : Int)), ((3 : Int), (2 : Int))] : List (Int × Int))⟩, v11⟩ : Lnk), v2.2.1, v2.2.2)))
set_option maxRecDepth 20000 in
set_option maxHeartbeats 1600000 in
theorem S_l24Linkage_w (N : Nat) (c_0 : Cur) (r : Lnk × Int × Int) (h : S_l24Linkage N c_0 = some r) : MCall Try.prog 188 [.ptr 1000000 0] [900101, 900102, 900103] [1000000] [(111, .pairs []), (71, .pairs []), (3, .ints [])] [(111, .pairs r.1.f.g.bars), (71, .pairs r.1.f.places), (3, .ints r.1.ground)] [[.ro false (.bytes c_0.b), .int c_0.i, .int c_0.h]] [[.ro false (.bytes c_0.b), .int r.2.1, .int r.2.2]] (.agg [.int r.1.f.g.n, .row 900101 0 r.1.f.g.bars.length, .row 900102 0 r.1.f.places.length, .row 900103 0 r.1.ground.length]) := by
 unfold S_l24Linkage at h
 refine mcall_intro (TT := TT) tt Try.func188 rfl rfl Try.ntmps188 (congrArg Array.toList Try.results188) rfl rfl rfl rfl rfl fun w0 O0 => ?_
 refine vSeq ?_
 refine vRegion ?_
 refine oAlloc tt rfl rfl rfl rfl rfl rfl rfl rfl rfl ?_
 refine vNil ?_
 change VC _ _ _ _
 refine vSeq ?_
 refine vRegion ?_
 refine oVal tt rfl rfl rfl rfl rfl trivial ?_
 obtain ⟨v1, hc1, h⟩ := bind_inv h
 refine oMCall (S_l1Below_w N c_0 (3 : Int) v1 hc1) [] [1000000] [] rfl rfl rfl rfl rfl rfl trivial ⟨rfl, trivial⟩ ⟨⟨rfl, rfl⟩, ⟨rfl, rfl⟩, trivial⟩ ?_
 obtain ⟨hg2, h⟩ := grd_inv h
 refine oVal tt rfl rfl rfl rfl rfl hg2 ?_
 refine oVal tt rfl rfl rfl rfl rfl trivial ?_
 refine vNil ?_
 change VC _ _ _ _
 refine vSeq ?_
 refine vRegion ?_
 refine oPure (wNone rfl) (pBuild bld_impl_Framework rfl rfl) rfl rfl ?_
 refine oAlloc tt rfl rfl rfl rfl rfl rfl rfl rfl rfl ?_
 refine oStore tt rfl rfl rfl rfl rfl rfl rfl rfl rfl rfl rfl ⟨trivial, trivial, trivial, trivial⟩ ?_
 refine vNil ?_
 change VC _ _ _ _
 iterate 2 refine vSeq ?_
 refine vRegion ?_
 refine oVal tt rfl rfl rfl rfl rfl trivial ?_
 obtain ⟨v2, hc3, h⟩ := bind_inv h
 refine oMCall (S_l1Below_w N (⟨c_0.b, v1.2.1, v1.2.2⟩ : Cur) (3 : Int) v2 hc3) [] [1000000] [] rfl rfl rfl rfl rfl rfl trivial ⟨rfl, trivial⟩ ⟨⟨rfl, rfl⟩, ⟨rfl, rfl⟩, trivial⟩ ?_
 refine vNil ?_
 change VC _ _ _ _
 refine vBlock ?_
 refine vSeq ?_
 refine vRegion ?_
 iterate 2 refine oVal tt rfl rfl rfl rfl rfl trivial ?_
 refine vNil ?_
 change VC _ _ _ _
 refine vCond rfl (fun hb4 => ?_) (fun hb4 => ?_)
 ·replace h := cnd_t hb4 h
  refine vSeq ?_
  refine vRegion ?_
  iterate 2 refine oVal tt rfl rfl rfl rfl rfl trivial ?_
  refine vEnO (En.zero 9507 111 (.pairs []) rfl rfl) ?_
  obtain ⟨v3, hc5, h⟩ := bind_inv h
  refine oMCall (S_l6Laman_w N (⟨c_0.b, v2.2.1, v2.2.2⟩ : Cur) ((2 : Int) + v1.1) v3 hc5) [9507] [1000000] [1300] rfl rfl rfl rfl rfl rfl ⟨rfl, trivial⟩ ⟨rfl, trivial⟩ ⟨⟨rfl, rfl⟩, ⟨rfl, rfl⟩, trivial⟩ ?_
  refine oAlloc tt rfl rfl rfl rfl rfl rfl rfl rfl rfl ?_
  refine oStore tt rfl rfl rfl rfl rfl rfl rfl rfl rfl rfl rfl ⟨trivial, trivial, trivial⟩ ?_
  refine vNil ?_
  change VC _ _ _ _
  refine vRegion ?_
  iterate 2 refine oVal tt rfl rfl rfl rfl rfl trivial ?_
  refine oFreezeA 32 1 rfl rfl rfl rfl rfl ?_
  refine vEnO (En.zero 9508 111 (.pairs []) rfl rfl) ?_
  refine vEnO (En.zero 9509 71 (.pairs []) rfl rfl) ?_
  obtain ⟨v4, hc6, h⟩ := bind_inv h
  refine oMCall (S_l10Of_w N (⟨c_0.b, v3.2.1, v3.2.2⟩ : Cur) (⟨v3.1.n, v3.1.bars⟩ : Grf) v4 hc6) [9508, 9509] [1000000] [1330, 1331] rfl rfl rfl rfl rfl rfl ⟨rfl, rfl, trivial⟩ ⟨rfl, trivial⟩ ⟨⟨rfl, rfl⟩, ⟨⟨rfl, rfl⟩, (.inr (.inl ⟨rfl, rfl⟩)), trivial⟩, trivial⟩ ?_
  refine oStore tt rfl rfl rfl rfl rfl rfl rfl rfl rfl rfl rfl ⟨trivial, trivial, trivial, trivial⟩ ?_
  refine vNil ?_
  change VC _ _ _ _
  refine vSeq ?_
  refine vRegionN 10 [9] [0, 0, 0, 0, 8, 24, 60, 124, 252, 510, 1023, 2047] (by kernel_rfl) (by kernel_rfl) (by kernel_rfl) (by kernel_rfl) (by kernel_rfl) rfl (by rfl) ?_
  iterate 4 refine nVal tt rfl (wNone rfl) rfl rfl rfl rfl rfl trivial ?_
  obtain ⟨hg7, h⟩ := grd_inv h
  refine nVal tt rfl (wNone rfl) rfl rfl rfl rfl rfl hg7 ?_
  refine nVal tt rfl (wNone rfl) rfl rfl rfl rfl rfl trivial ?_
  obtain ⟨hg8, h⟩ := grd_inv h
  refine nVal tt rfl (wNone rfl) rfl rfl rfl rfl rfl hg8 ?_
  obtain ⟨hg9, h⟩ := grd_inv h
  refine nVal tt rfl (wNone rfl) rfl rfl rfl rfl rfl hg9 ?_
  obtain ⟨hg10, h⟩ := grd_inv h
  refine nVal tt rfl (wNone rfl) rfl rfl rfl rfl rfl hg10 ?_
  obtain ⟨v5, hc11, h⟩ := bind_inv h
  refine nCallR (S_l3Set_w N ((2 : Int) + v1.1) (((1 : Int) * 2 ^ (((((2 : Int) + v1.1) - (min (2 : Int) (((2 : Int) + v1.1) - (1 : Int))))).toNat)) - (1 : Int)) v5 hc11) rfl (wNone rfl) rfl rfl rfl rfl rfl rfl (by first | rfl | kernel_rfl | (simp [nrL, nm, gdst, nmT, rowB]; done)) rfl (by first | rfl | kernel_rfl | (simp [chkE, nrL, nm, gdst, nmT, rowB, hid, ment, mentA, mentS]; done) | (simp [chkE, nrL, nm, gdst, nmT, rowB, hid, ment, mentA, mentS]; decide)) ⟨rfl, rfl, trivial⟩ ?_
  refine nNil ?_
  change VO _ _ _ _ _
  refine oPure (wNone rfl) (pBuild bld_impl_Linkage rfl rfl) rfl rfl ?_
  refine oStore tt rfl rfl rfl rfl rfl rfl rfl rfl rfl rfl rfl ⟨trivial, trivial, trivial, trivial, trivial⟩ ?_
  refine vNil ?_
  change VC _ _ _ _
  refine vRet ?_
  change ∃ _, _
  cases h
  exact ⟨[1330, 1331, 1610], rfl, ⟨rfl, rfl, rfl, trivial⟩, ⟨rfl, trivial⟩, rfl⟩
 ·replace h := cnd_f hb4 h
  refine vSeq ?_
  refine vRegion ?_
  iterate 2 refine oVal tt rfl rfl rfl rfl rfl trivial ?_
  refine vNil ?_
  change VC _ _ _ _
  refine vCond rfl (fun hb12 => ?_) (fun hb12 => ?_)
  ·replace h := cnd_t hb12 h
   refine vSeq ?_
   refine vRegion ?_
   iterate 2 refine oVal tt rfl rfl rfl rfl rfl trivial ?_
   refine vEnO (En.zero 9510 111 (.pairs []) rfl rfl) ?_
   obtain ⟨v6, hc13, h⟩ := bind_inv h
   refine oMCall (S_l6Laman_w N (⟨c_0.b, v2.2.1, v2.2.2⟩ : Cur) ((2 : Int) + v1.1) v6 hc13) [9510] [1000000] [1380] rfl rfl rfl rfl rfl rfl ⟨rfl, trivial⟩ ⟨rfl, trivial⟩ ⟨⟨rfl, rfl⟩, ⟨rfl, rfl⟩, trivial⟩ ?_
   refine oAlloc tt rfl rfl rfl rfl rfl rfl rfl rfl rfl ?_
   refine oStore tt rfl rfl rfl rfl rfl rfl rfl rfl rfl rfl rfl ⟨trivial, trivial, trivial⟩ ?_
   refine vNil ?_
   change VC _ _ _ _
   refine vSeq ?_
   refine vRegionN 12 [5, 6, 10, 1051000000, 1110000007] [0, 0, 0, 4, 12, 30, 63, 127, 255, 255, 0, 1535, 4095] (by kernel_rfl) (by kernel_rfl) (by kernel_rfl) (by kernel_rfl) (by kernel_rfl) rfl (by rfl) ?_
   iterate 5 refine nVal tt rfl (wNone rfl) rfl rfl rfl rfl rfl trivial ?_
   obtain ⟨v7, hc14, h⟩ := bind_inv h
   refine nMCall (rids := []) (bids := []) (pids := []) (wNone rfl) (S_l1Below_w N (⟨c_0.b, v6.2.1, v6.2.2⟩ : Cur) (v6.1.bars.length : Int) v7 hc14) [] [1000000] [] rfl rfl rfl rfl rfl (by first | rfl | kernel_rfl) rfl rfl rfl rfl rfl (by first | rfl | kernel_rfl)  trivial ⟨rfl, trivial⟩ ⟨⟨rfl, rfl⟩, ⟨rfl, rfl⟩, trivial⟩ ?_
   obtain ⟨v8, hc15, h⟩ := bind_inv h
   refine nCallR (S_RemoveBar_w N v6.1 v7.1 v8 hc15) rfl (wNone rfl) rfl rfl rfl rfl rfl rfl (by first | rfl | kernel_rfl | (simp [nrL, nm, gdst, nmT, rowB]; done)) rfl (by first | rfl | kernel_rfl | (simp [chkE, nrL, nm, gdst, nmT, rowB, hid, ment, mentA, mentS]; done) | (simp [chkE, nrL, nm, gdst, nmT, rowB, hid, ment, mentA, mentS]; decide)) ⟨⟨rfl, (.inl ⟨rfl, rfl⟩), trivial⟩, rfl, trivial⟩ ?_
   iterate 3 refine nVal tt rfl (wNone rfl) rfl rfl rfl rfl rfl trivial ?_
   refine nAlloc tt (wNone rfl) rfl rfl rfl rfl rfl rfl rfl rfl rfl rfl ?_
   refine nStoreB tt (wNone rfl) rfl rfl rfl rfl rfl rfl rfl rfl rfl rfl rfl rfl ?_
   refine nNil ?_
   change VO _ _ _ _ _
   refine oVal tt rfl rfl rfl rfl rfl trivial ?_
   refine vNil ?_
   change VC _ _ _ _
   refine vRegion ?_
   iterate 2 refine oVal tt rfl rfl rfl rfl rfl trivial ?_
   refine oFreezeA 50 1 rfl rfl rfl rfl rfl ?_
   refine vEnO (En.zero 9511 111 (.pairs []) rfl rfl) ?_
   refine vEnO (En.zero 9512 71 (.pairs []) rfl rfl) ?_
   obtain ⟨v9, hc16, h⟩ := bind_inv h
   refine oMCall (S_l10Of_w N (⟨c_0.b, v7.2.1, v7.2.2⟩ : Cur) (⟨v8.1.n, v8.1.bars⟩ : Grf) v9 hc16) [9511, 9512] [1000000] [1510, 1511] rfl rfl rfl rfl rfl rfl ⟨rfl, rfl, trivial⟩ ⟨rfl, trivial⟩ ⟨⟨rfl, rfl⟩, ⟨⟨rfl, rfl⟩, (.inr (.inl ⟨rfl, rfl⟩)), trivial⟩, trivial⟩ ?_
   refine oStore tt rfl rfl rfl rfl rfl rfl rfl rfl rfl rfl rfl ⟨trivial, trivial, trivial, trivial⟩ ?_
   refine vNil ?_
   change VC _ _ _ _
   refine vSeq ?_
   refine vRegionN 10 [9] [0, 0, 0, 0, 8, 24, 60, 124, 252, 510, 1023, 2047] (by kernel_rfl) (by kernel_rfl) (by kernel_rfl) (by kernel_rfl) (by kernel_rfl) rfl (by rfl) ?_
   iterate 4 refine nVal tt rfl (wNone rfl) rfl rfl rfl rfl rfl trivial ?_
   obtain ⟨hg17, h⟩ := grd_inv h
   refine nVal tt rfl (wNone rfl) rfl rfl rfl rfl rfl hg17 ?_
   refine nVal tt rfl (wNone rfl) rfl rfl rfl rfl rfl trivial ?_
   obtain ⟨hg18, h⟩ := grd_inv h
   refine nVal tt rfl (wNone rfl) rfl rfl rfl rfl rfl hg18 ?_
   obtain ⟨hg19, h⟩ := grd_inv h
   refine nVal tt rfl (wNone rfl) rfl rfl rfl rfl rfl hg19 ?_
   obtain ⟨hg20, h⟩ := grd_inv h
   refine nVal tt rfl (wNone rfl) rfl rfl rfl rfl rfl hg20 ?_
   obtain ⟨v10, hc21, h⟩ := bind_inv h
   refine nCallR (S_l3Set_w N ((2 : Int) + v1.1) (((1 : Int) * 2 ^ (((((2 : Int) + v1.1) - (min (2 : Int) (((2 : Int) + v1.1) - (1 : Int))))).toNat)) - (1 : Int)) v10 hc21) rfl (wNone rfl) rfl rfl rfl rfl rfl rfl (by first | rfl | kernel_rfl | (simp [nrL, nm, gdst, nmT, rowB]; done)) rfl (by first | rfl | kernel_rfl | (simp [chkE, nrL, nm, gdst, nmT, rowB, hid, ment, mentA, mentS]; done) | (simp [chkE, nrL, nm, gdst, nmT, rowB, hid, ment, mentA, mentS]; decide)) ⟨rfl, rfl, trivial⟩ ?_
   refine nNil ?_
   change VO _ _ _ _ _
   refine oPure (wNone rfl) (pBuild bld_impl_Linkage rfl rfl) rfl rfl ?_
   refine oStore tt rfl rfl rfl rfl rfl rfl rfl rfl rfl rfl rfl ⟨trivial, trivial, trivial, trivial, trivial⟩ ?_
   refine vNil ?_
   change VC _ _ _ _
   refine vRet ?_
   change ∃ _, _
   cases h
   exact ⟨[1510, 1511, 1610], rfl, ⟨rfl, rfl, rfl, trivial⟩, ⟨rfl, trivial⟩, rfl⟩
  ·replace h := cnd_f hb12 h
   refine vSeq ?_
   refine vRegion ?_
   refine oVal tt rfl rfl rfl rfl rfl trivial ?_
   refine vNil ?_
   change VC _ _ _ _
   refine vRegion ?_
   iterate 3 refine oPure (wNone rfl) (pBuild bld_impl_Bar rfl rfl) rfl rfl ?_
   refine oBuild tt rfl rfl rfl rfl rfl rfl rfl rfl rfl rfl rfl ?_
   refine oPure (wNone rfl) (pBuild bld_impl_Graph rfl rfl) rfl rfl ?_
   iterate 4 refine oPure (wNone rfl) (pBuild bld_impl_Place rfl rfl) rfl rfl ?_
   refine oBuild tt rfl rfl rfl rfl rfl rfl rfl rfl rfl rfl rfl ?_
   refine oPure (wNone rfl) (pBuild bld_impl_Framework rfl rfl) rfl rfl ?_
   refine oStore tt rfl rfl rfl rfl rfl rfl rfl rfl rfl rfl rfl ⟨trivial, trivial, trivial, trivial⟩ ?_
   refine vNil ?_
   change VC _ _ _ _
   refine vSeq ?_
   refine vRegionN 10 [9] [0, 0, 0, 0, 8, 24, 60, 124, 252, 510, 1023, 2047] (by kernel_rfl) (by kernel_rfl) (by kernel_rfl) (by kernel_rfl) (by kernel_rfl) rfl (by rfl) ?_
   iterate 4 refine nVal tt rfl (wNone rfl) rfl rfl rfl rfl rfl trivial ?_
   obtain ⟨hg22, h⟩ := grd_inv h
   refine nVal tt rfl (wNone rfl) rfl rfl rfl rfl rfl hg22 ?_
   refine nVal tt rfl (wNone rfl) rfl rfl rfl rfl rfl trivial ?_
   obtain ⟨hg23, h⟩ := grd_inv h
   refine nVal tt rfl (wNone rfl) rfl rfl rfl rfl rfl hg23 ?_
   obtain ⟨hg24, h⟩ := grd_inv h
   refine nVal tt rfl (wNone rfl) rfl rfl rfl rfl rfl hg24 ?_
   obtain ⟨hg25, h⟩ := grd_inv h
   refine nVal tt rfl (wNone rfl) rfl rfl rfl rfl rfl hg25 ?_
   obtain ⟨v11, hc26, h⟩ := bind_inv h
   refine nCallR (S_l3Set_w N (4 : Int) (((1 : Int) * 2 ^ ((((4 : Int) - (min (2 : Int) ((4 : Int) - (1 : Int))))).toNat)) - (1 : Int)) v11 hc26) rfl (wNone rfl) rfl rfl rfl rfl rfl rfl (by first | rfl | kernel_rfl | (simp [nrL, nm, gdst, nmT, rowB]; done)) rfl (by first | rfl | kernel_rfl | (simp [chkE, nrL, nm, gdst, nmT, rowB, hid, ment, mentA, mentS]; done) | (simp [chkE, nrL, nm, gdst, nmT, rowB, hid, ment, mentA, mentS]; decide)) ⟨rfl, rfl, trivial⟩ ?_
   refine nNil ?_
   change VO _ _ _ _ _
   refine oPure (wNone rfl) (pBuild bld_impl_Linkage rfl rfl) rfl rfl ?_
   refine oStore tt rfl rfl rfl rfl rfl rfl rfl rfl rfl rfl rfl ⟨trivial, trivial, trivial, trivial, trivial⟩ ?_
   refine vNil ?_
   change VC _ _ _ _
   refine vRet ?_
   change ∃ _, _
   cases h
   exact ⟨[18, 24, 1610], rfl, ⟨rfl, rfl, rfl, trivial⟩, ⟨rfl, trivial⟩, rfl⟩
def S_l24Any (N : Nat) (c_0 : Cur) : Option (Lnk × Int × Int) :=
 (S_l24Linkage N c_0).bind fun v1 =>
 (S_l1Below N (⟨c_0.b, v1.2.1, v1.2.2⟩ : Cur) (14 : Int)).bind fun v2 =>
 cnd (v2.1 == (0 : Int)) (
  some ((⟨⟨⟨v1.1.f.g.n, v1.1.f.g.bars⟩, v1.1.f.places⟩, ([] : List Int)⟩ : Lnk), v2.2.1, v2.2.2)) (
  cnd (v2.1 == (1 : Int)) (
   grd (v1.1.ground.length + 1 ≤ 4294967296) <|
   some ((⟨⟨⟨v1.1.f.g.n, v1.1.f.g.bars⟩, v1.1.f.places⟩, (v1.1.ground ++ ([(0 : Int)] : List Int))⟩ : Lnk), v2.2.1, v2.2.2)) (
   some ((⟨⟨⟨v1.1.f.g.n, v1.1.f.g.bars⟩, v1.1.f.places⟩, v1.1.ground⟩ : Lnk), v2.2.1, v2.2.2)))
set_option maxRecDepth 20000 in
set_option maxHeartbeats 1600000 in
theorem S_l24Any_w (N : Nat) (c_0 : Cur) (r : Lnk × Int × Int) (h : S_l24Any N c_0 = some r) : MCall Try.prog 153 [.ptr 1000000 0] [900101, 900102, 900103] [1000000] [(111, .pairs []), (71, .pairs []), (3, .ints [])] [(111, .pairs r.1.f.g.bars), (71, .pairs r.1.f.places), (3, .ints r.1.ground)] [[.ro false (.bytes c_0.b), .int c_0.i, .int c_0.h]] [[.ro false (.bytes c_0.b), .int r.2.1, .int r.2.2]] (.agg [.int r.1.f.g.n, .row 900101 0 r.1.f.g.bars.length, .row 900102 0 r.1.f.places.length, .row 900103 0 r.1.ground.length]) := by
 unfold S_l24Any at h
 refine mcall_intro (TT := TT) tt Try.func153 rfl rfl Try.ntmps153 (congrArg Array.toList Try.results153) rfl rfl rfl rfl rfl fun w0 O0 => ?_
 refine vSeq ?_
 refine vRegion ?_
 refine oAlloc tt rfl rfl rfl rfl rfl rfl rfl rfl rfl ?_
 refine vNil ?_
 change VC _ _ _ _
 refine vSeq ?_
 refine vRegion ?_
 refine oVal tt rfl rfl rfl rfl rfl trivial ?_
 refine vEnO (En.zero 9504 111 (.pairs []) rfl rfl) ?_
 refine vEnO (En.zero 9505 71 (.pairs []) rfl rfl) ?_
 refine vEnO (En.zero 9506 3 (.ints []) rfl rfl) ?_
 obtain ⟨v1, hc1, h⟩ := bind_inv h
 refine oMCall (S_l24Linkage_w N c_0 v1 hc1) [9504, 9505, 9506] [1000000] [1050, 1051, 1052] rfl rfl rfl rfl rfl rfl ⟨rfl, rfl, rfl, trivial⟩ ⟨rfl, trivial⟩ ⟨⟨rfl, rfl⟩, trivial⟩ ?_
 refine oAlloc tt rfl rfl rfl rfl rfl rfl rfl rfl rfl ?_
 refine oStore tt rfl rfl rfl rfl rfl rfl rfl rfl rfl rfl rfl ⟨trivial, trivial, trivial, trivial, trivial⟩ ?_
 refine vNil ?_
 change VC _ _ _ _
 iterate 2 refine vSeq ?_
 refine vRegion ?_
 refine oVal tt rfl rfl rfl rfl rfl trivial ?_
 obtain ⟨v2, hc2, h⟩ := bind_inv h
 refine oMCall (S_l1Below_w N (⟨c_0.b, v1.2.1, v1.2.2⟩ : Cur) (14 : Int) v2 hc2) [] [1000000] [] rfl rfl rfl rfl rfl rfl trivial ⟨rfl, trivial⟩ ⟨⟨rfl, rfl⟩, ⟨rfl, rfl⟩, trivial⟩ ?_
 refine vNil ?_
 change VC _ _ _ _
 refine vBlock ?_
 refine vSeq ?_
 refine vRegion ?_
 iterate 2 refine oVal tt rfl rfl rfl rfl rfl trivial ?_
 refine vNil ?_
 change VC _ _ _ _
 refine vCond rfl (fun hb3 => ?_) (fun hb3 => ?_)
 ·replace h := cnd_t hb3 h
  refine vRegion ?_
  refine oEmpty tt (wNone rfl) rfl rfl rfl rfl ?_
  refine oVal tt rfl rfl rfl rfl rfl trivial ?_
  refine oStore tt rfl rfl rfl rfl rfl rfl rfl rfl rfl rfl rfl ⟨trivial, trivial⟩ ?_
  refine vNil ?_
  change VC _ _ _ _
  refine vSeq ?_
  refine vRegion ?_
  refine oVal tt rfl rfl rfl rfl rfl trivial ?_
  refine oStore tt rfl rfl rfl rfl rfl rfl rfl rfl rfl rfl rfl ⟨trivial, trivial, trivial, trivial, trivial⟩ ?_
  refine vNil ?_
  change VC _ _ _ _
  refine vNilB 2 3 9001 3 (.ints []) rfl rfl rfl rfl rfl ?_
  refine vRet ?_
  change ∃ _, _
  cases h
  exact ⟨[1050, 1051, 9001], rfl, ⟨rfl, rfl, rfl, trivial⟩, ⟨rfl, trivial⟩, rfl⟩
 ·replace h := cnd_f hb3 h
  refine vSeq ?_
  refine vRegion ?_
  iterate 2 refine oVal tt rfl rfl rfl rfl rfl trivial ?_
  refine vNil ?_
  change VC _ _ _ _
  refine vCond rfl (fun hb4 => ?_) (fun hb4 => ?_)
  ·replace h := cnd_t hb4 h
   refine vRegion ?_
   iterate 2 refine oVal tt rfl rfl rfl rfl rfl trivial ?_
   refine oBuild tt rfl rfl rfl rfl rfl rfl rfl rfl rfl rfl rfl ?_
   obtain ⟨hg5, h⟩ := grd_inv h
   refine oAppend tt rfl rfl rfl rfl rfl rfl rfl rfl rfl rfl rfl rfl rfl rfl rfl rfl (Nat.le_of_eq (Nat.zero_add _)) hg5 ?_
   refine oVal tt rfl rfl rfl rfl rfl trivial ?_
   refine oStore tt rfl rfl rfl rfl rfl rfl rfl rfl rfl rfl rfl ⟨trivial, trivial⟩ ?_
   refine vNil ?_
   change VC _ _ _ _
   refine vSeq ?_
   refine vRegion ?_
   refine oVal tt rfl rfl rfl rfl rfl trivial ?_
   refine oStore tt rfl rfl rfl rfl rfl rfl rfl rfl rfl rfl rfl ⟨trivial, trivial, trivial, trivial, trivial⟩ ?_
   refine vNil ?_
   change VC _ _ _ _
   refine vRet ?_
   change ∃ _, _
   cases h
   exact ⟨[1050, 1051, 1052], rfl, ⟨rfl, rfl, rfl, trivial⟩, ⟨rfl, trivial⟩, rfl⟩
  ·replace h := cnd_f hb4 h
   refine vSkip ?_
   change VC _ _ _ _
   refine vSeq ?_
   refine vRegion ?_
   refine oVal tt rfl rfl rfl rfl rfl trivial ?_
   refine oStore tt rfl rfl rfl rfl rfl rfl rfl rfl rfl rfl rfl ⟨trivial, trivial, trivial, trivial, trivial⟩ ?_
   refine vNil ?_
   change VC _ _ _ _
   refine vRet ?_
   change ∃ _, _
   cases h
   exact ⟨[1050, 1051, 1052], rfl, ⟨rfl, rfl, rfl, trivial⟩, ⟨rfl, trivial⟩, rfl⟩
def S_DrawPosesOf (N : Nat) (code_0 : List Int) : Option (Lnk) :=
 (S_l1New N code_0).bind fun v1 =>
 (S_l24Any N v1).bind fun v2 =>
 some (⟨⟨⟨v2.1.f.g.n, v2.1.f.g.bars⟩, v2.1.f.places⟩, v2.1.ground⟩ : Lnk)
set_option maxRecDepth 20000 in
set_option maxHeartbeats 1600000 in
theorem S_DrawPosesOf_w (N : Nat) (code_0 : List Int) (r : Lnk) (h : S_DrawPosesOf N code_0 = some r) : PCall Try.prog 79 [.ro false (.bytes code_0)] [(111, .pairs r.f.g.bars), (71, .pairs r.f.places), (3, .ints r.ground)] (.agg [.int r.f.g.n, .row 0 0 r.f.g.bars.length, .row 1 0 r.f.places.length, .row 2 0 r.ground.length]) := by
 unfold S_DrawPosesOf at h
 refine pcall_intro (TT := TT) tt Try.func79 rfl rfl Try.ntmps79 (congrArg Array.toList Try.results79) rfl rfl fun w0 => ?_
 refine vSeq ?_
 refine vRegion ?_
 refine oAlloc tt rfl rfl rfl rfl rfl rfl rfl rfl rfl ?_
 refine vNil ?_
 change VC _ _ _ _
 refine vSeq ?_
 refine vRegion ?_
 refine oVal tt rfl rfl rfl rfl rfl trivial ?_
 obtain ⟨v1, hc1, h⟩ := bind_inv h
 refine oCallB (S_l1New_w N code_0 v1 hc1) rfl rfl rfl rfl rfl ⟨rfl, rfl, trivial⟩ ?_
 refine vEnO (En.zero 9504 111 (.pairs []) rfl rfl) ?_
 refine vEnO (En.zero 9505 71 (.pairs []) rfl rfl) ?_
 refine vEnO (En.zero 9506 3 (.ints []) rfl rfl) ?_
 obtain ⟨v2, hc2, h⟩ := bind_inv h
 refine oMCall (S_l24Any_w N v1 v2 hc2) [9504, 9505, 9506] [4] [1050, 1051, 1052] rfl rfl rfl rfl rfl rfl ⟨rfl, rfl, rfl, trivial⟩ ⟨rfl, trivial⟩ ⟨⟨rfl, rfl⟩, trivial⟩ ?_
 refine oStore tt rfl rfl rfl rfl rfl rfl rfl rfl rfl rfl rfl ⟨trivial, trivial, trivial, trivial, trivial⟩ ?_
 refine vNil ?_
 change VC _ _ _ _
 refine vRet ?_
 change ∃ _, _
 cases h
 exact ⟨[1050, 1051, 1052], _, rfl, ⟨rfl, rfl, rfl, trivial⟩, rfl, (.eq rfl), rfl⟩
def L_samePlaces_l1 (N : Nat) (a_0 : List (Int × Int)) (b_1 : List (Int × Int)) (k : Unit → Option (Bool)) : Nat → Int → Option (Bool)
 | 0, _ => none
 | n + 1, i3 =>
  cnd (decide (i3 < (a_0.length : Int))) (
   grd (0 ≤ i3 ∧ i3 < (a_0.length : Int)) <|
   grd (0 ≤ i3 ∧ i3 < (b_1.length : Int)) <|
   cnd (!(((a_0.getD ((i3).toNat) (0, 0)).1 == (b_1.getD ((i3).toNat) (0, 0)).1) && ((a_0.getD ((i3).toNat) (0, 0)).2 == (b_1.getD ((i3).toNat) (0, 0)).2))) (
    some false) (
    grd (Rg64 (i3 + (1 : Int))) <|
    L_samePlaces_l1 N a_0 b_1 k n (i3 + (1 : Int)))) (
   k ())
def L_samePlaces (N : Nat) (a_0 : List (Int × Int)) (b_1 : List (Int × Int)) : Option (Bool) :=
 cnd ((a_0.length : Int) != (b_1.length : Int)) (
  some false) (
  L_samePlaces_l1 N a_0 b_1 (fun (_ : Unit) =>
     some true) N (0 : Int))
set_option maxRecDepth 20000 in
set_option maxHeartbeats 1600000 in
theorem L_samePlaces_w (N : Nat) (a_0 : List (Int × Int)) (b_1 : List (Int × Int)) (r : Bool) (h : L_samePlaces N a_0 b_1 = some r) : PCall Try.prog 87 [.ro false (.pairs a_0), .ro false (.pairs b_1)] [] (.bool r) := by
 unfold L_samePlaces at h
 refine pcall_intro (TT := TT) tt Try.func87 rfl rfl Try.ntmps87 (congrArg Array.toList Try.results87) rfl rfl fun w0 => ?_
 refine vSeq ?_
 refine vRegion ?_
 refine oVal tt rfl rfl rfl rfl rfl trivial ?_
 refine vNil ?_
 change VC _ _ _ _
 iterate 2 refine vSeq ?_
 refine vRegion ?_
 iterate 5 refine oVal tt rfl rfl rfl rfl rfl trivial ?_
 refine vNil ?_
 change VC _ _ _ _
 refine vCond rfl (fun hb1 => ?_) (fun hb1 => ?_)
 ·replace h := cnd_t hb1 h
  refine vSeq ?_
  refine vRegion ?_
  refine oVal tt rfl rfl rfl rfl rfl trivial ?_
  refine vNil ?_
  change VC _ _ _ _
  refine vRet ?_
  change ∃ _, _
  cases h
  exact ⟨[], _, rfl, trivial, rfl, (.eq rfl), rfl⟩
 ·replace h := cnd_f hb1 h
  refine vSkip ?_
  change VC _ _ _ _
  iterate 2 refine vSeq ?_
  refine vRegion ?_
  refine oVal tt rfl rfl rfl rfl rfl trivial ?_
  refine vNil ?_
  change VC _ _ _ _
  refine vJoin (F := fun k => L_samePlaces_l1 N a_0 b_1 k) h (α := Unit) (J := fun (_ : Unit) => (⟨[], [], []⟩ : PS)) ?_ ?_
  ·rintro ⟨⟩ h
   show VC _ _ _ (⟨[], [], []⟩ : PS)
   refine vSeq ?_
   refine vRegion ?_
   refine oVal tt rfl rfl rfl rfl rfl trivial ?_
   refine vNil ?_
   change VC _ _ _ _
   refine vRet ?_
   change ∃ _, _
   cases h
   exact ⟨[], _, rfl, trivial, rfl, (.eq rfl), rfl⟩
  ·intro k h
   refine vBlock ?_
   refine vLoopS (α := Int) (fun (i3 : Int) => (⟨[(0, .ro false (.pairs a_0)), (1, .ro false (.pairs b_1)), (5, .int i3)], [], []⟩ : PS)) (L_samePlaces_l1 N a_0 b_1 k) h (En.of ⟨rfl, rfl, rfl, trivial⟩ trivial trivial) (fun _ => rfl) ?_
   rintro n i3 h
   rw [L_samePlaces_l1] at h
   show VC _ _ _ (⟨[(0, .ro false (.pairs a_0)), (1, .ro false (.pairs b_1)), (5, .int i3)], [], []⟩ : PS)
   iterate 2 refine vSeq ?_
   refine vRegion ?_
   iterate 4 refine oVal tt rfl rfl rfl rfl rfl trivial ?_
   refine vNil ?_
   change VC _ _ _ _
   refine vCond rfl (fun hb2 => ?_) (fun hb2 => ?_)
   ·replace h := cnd_t hb2 h
    refine vSkip ?_
    change VC _ _ _ _
    refine vSeq ?_
    refine vBlock ?_
    refine vSeq ?_
    refine vRegionD (by kernel_rfl) (by kernel_rfl) ?_
    iterate 2 refine cVal tt rfl (wNone rfl) rfl rfl rfl trivial ?_
    obtain ⟨hg3, h⟩ := grd_inv h
    refine cVal tt rfl (wNone rfl) rfl rfl rfl hg3 ?_
    iterate 3 refine cVal tt rfl (wNone rfl) rfl rfl rfl trivial ?_
    obtain ⟨hg4, h⟩ := grd_inv h
    refine cVal tt rfl (wNone rfl) rfl rfl rfl hg4 ?_
    refine cVal tt rfl (wNone rfl) rfl rfl rfl trivial ?_
    refine cPure (wNone rfl) (pNeP eqP_impl_Place rfl rfl rfl) rfl rfl ?_
    refine cNil ?_
    change VC _ _ _ _
    refine vCond rfl (fun hb5 => ?_) (fun hb5 => ?_)
    ·replace h := cnd_t hb5 h
     refine vSeq ?_
     refine vRegion ?_
     refine oVal tt rfl rfl rfl rfl rfl trivial ?_
     refine vNil ?_
     change VC _ _ _ _
     refine vRet ?_
     change ∃ _, _
     cases h
     exact ⟨[], _, rfl, trivial, rfl, (.eq rfl), rfl⟩
    ·replace h := cnd_f hb5 h
     refine vSkip ?_
     change VC _ _ _ _
     refine vRegion ?_
     refine oVal tt rfl rfl rfl rfl rfl trivial ?_
     obtain ⟨hg6, h⟩ := grd_inv h
     refine oVal tt rfl rfl rfl rfl rfl hg6 ?_
     refine oVal tt rfl rfl rfl rfl rfl trivial ?_
     refine vNil ?_
     change ∃ _, _
     exact ⟨(i3 + (1 : Int)), (En.of ⟨rfl, rfl, rfl, trivial⟩ trivial trivial), h⟩
   ·replace h := cnd_f hb2 h
    refine vExit ?_
    change ∃ _, _
    exact ⟨(), (En.of trivial trivial trivial), h⟩
end Go.Proofs.Ytcljhpldfanhkaa
