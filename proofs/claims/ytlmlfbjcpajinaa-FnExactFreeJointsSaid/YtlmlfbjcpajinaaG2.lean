/- Plain texts of functions, and that the program computes them (printed by gen.py). -/
import Derived.Test.YtlmlfbjcpajinaaShb
import Derived.Test.YtlmlfbjcpajinaaG1
namespace Go.Proofs.Ytlmlfbjcpajinaa
open Go.RowKit
set_option linter.unusedVariables false
set_option linter.unusedSimpArgs false
def I_areSquares_l1 (N : Nat) (d_1 : List Int) (k : Unit → Option (Bool)) : Nat → Int → Option (Bool)
  | 0, _ => none
  | n + 1, x7 =>
    cnd (decide (x7 < (d_1.length : Int))) (
      grd (0 ≤ x7 ∧ x7 < (d_1.length : Int)) <|
      (I_within N (d_1.getD ((x7).toNat) 0) (0 : Int) (200 : Int)).bind fun v9 =>
      cnd (!v9) (
        some false) (
        grd (Rg64 (x7 + (1 : Int))) <|
        I_areSquares_l1 N d_1 k n (x7 + (1 : Int)))) (
      k ())
def I_areSquares (N : Nat) (n_0 : Int) (d_1 : List Int) : Option (Bool) :=
  I_areSquares_l1 N d_1 (fun (_ : Unit) =>
        some ((d_1.length : Int) == n_0)) N (0 : Int)
set_option maxRecDepth 20000 in
set_option maxHeartbeats 1600000 in
theorem I_areSquares_w (N : Nat) (n_0 : Int) (d_1 : List Int) (r : Bool) (h : I_areSquares N n_0 d_1 = some r) : PCall Try.prog 68 [.int n_0, .ro false (.ints d_1)] [] (.bool r) := by
  unfold I_areSquares at h
  refine pcall_intro (TT := TT) tt Try.func68 rfl rfl Try.ntmps68 (congrArg Array.toList Try.results68) rfl rfl fun w0 => ?_
  refine vSeq ?_
  refine vRegion ?_
  refine oVal tt rfl rfl rfl rfl rfl trivial ?_
  refine vNil ?_
  change VC _ _ _ _
  iterate 2 refine vSeq ?_
  refine vRegion ?_
  iterate 3 refine oVal tt rfl rfl rfl rfl rfl trivial ?_
  refine vNil ?_
  change VC _ _ _ _
  refine vJoin (F := fun k => I_areSquares_l1 N d_1 k) h (α := Unit) (J := fun (_ : Unit) => (⟨[(0, .int n_0), (1, .ro false (.ints d_1))], [], []⟩ : PS)) ?_ ?_
  · rintro ⟨⟩ h
    show VC _ _ _ (⟨[(0, .int n_0), (1, .ro false (.ints d_1))], [], []⟩ : PS)
    refine vSeq ?_
    refine vRegion ?_
    iterate 5 refine oVal tt rfl rfl rfl rfl rfl trivial ?_
    refine vNil ?_
    change VC _ _ _ _
    refine vRet ?_
    change ∃ _, _
    cases h
    exact ⟨[], _, rfl, trivial, rfl, (.eq rfl), rfl⟩
  · intro k h
    refine vBlock ?_
    refine vLoopS (α := Int) (fun (x7 : Int) => (⟨[(0, .int n_0), (1, .ro false (.ints d_1)), (7, .ro false (.ints d_1)), (8, .int (d_1.length : Int)), (9, .int x7)], [], []⟩ : PS)) (I_areSquares_l1 N d_1 k) h (En.of ⟨rfl, rfl, rfl, rfl, rfl, trivial⟩ trivial trivial) (fun _ => rfl) ?_
    rintro n x7 h
    rw [I_areSquares_l1] at h
    show VC _ _ _ (⟨[(0, .int n_0), (1, .ro false (.ints d_1)), (7, .ro false (.ints d_1)), (8, .int (d_1.length : Int)), (9, .int x7)], [], []⟩ : PS)
    refine vSeq ?_
    refine vRegion ?_
    refine oVal tt rfl rfl rfl rfl rfl trivial ?_
    refine vNil ?_
    change VC _ _ _ _
    refine vSeq ?_
    refine vCond rfl (fun hb1 => ?_) (fun hb1 => ?_)
    · replace h := cnd_t hb1 h
      refine vSkip ?_
      change VC _ _ _ _
      refine vSeq ?_
      refine vBlock ?_
      refine vSeq ?_
      refine vRegion ?_
      obtain ⟨hg2, h⟩ := grd_inv h
      refine oVal tt rfl rfl rfl rfl rfl hg2 ?_
      iterate 2 refine oVal tt rfl rfl rfl rfl rfl trivial ?_
      refine vNil ?_
      change VC _ _ _ _
      refine vSeq ?_
      refine vRegion ?_
      refine oVal tt rfl rfl rfl rfl rfl trivial ?_
      obtain ⟨v9, hc3, h⟩ := bind_inv h
      refine oCall (I_within_w N (d_1.getD ((x7).toNat) 0) (0 : Int) (200 : Int) v9 hc3) rfl rfl rfl rfl rfl rfl rfl rfl ⟨rfl, rfl, rfl, trivial⟩ ?_
      refine oVal tt rfl rfl rfl rfl rfl trivial ?_
      refine vNil ?_
      change VC _ _ _ _
      refine vCond rfl (fun hb4 => ?_) (fun hb4 => ?_)
      · replace h := cnd_t hb4 h
        refine vSeq ?_
        refine vRegion ?_
        refine oVal tt rfl rfl rfl rfl rfl trivial ?_
        refine vNil ?_
        change VC _ _ _ _
        refine vRet ?_
        change ∃ _, _
        cases h
        exact ⟨[], _, rfl, trivial, rfl, (.eq rfl), rfl⟩
      · replace h := cnd_f hb4 h
        refine vSkip ?_
        change VC _ _ _ _
        refine vRegion ?_
        obtain ⟨hg5, h⟩ := grd_inv h
        refine oVal tt rfl rfl rfl rfl rfl hg5 ?_
        refine oVal tt rfl rfl rfl rfl rfl trivial ?_
        refine vNil ?_
        change ∃ _, _
        exact ⟨(x7 + (1 : Int)), (En.of ⟨rfl, rfl, rfl, rfl, rfl, trivial⟩ trivial trivial), h⟩
    · replace h := cnd_f hb1 h
      refine vExit ?_
      change ∃ _, _
      exact ⟨(), (En.of ⟨rfl, rfl, trivial⟩ trivial trivial), h⟩
def I_copyInts (N : Nat) (l_0 : List Int) : Option (List Int) :=
  grd (l_0.length ≤ 4294967296) <|
  some (([] : List Int) ++ l_0)
set_option maxRecDepth 20000 in
set_option maxHeartbeats 1600000 in
theorem I_copyInts_w (N : Nat) (l_0 : List Int) (r : List Int) (h : I_copyInts N l_0 = some r) : PCall Try.prog 75 [.ro false (.ints l_0)] [(3, .ints r)] (.row 0 0 r.length) := by
  unfold I_copyInts at h
  refine pcall_intro (TT := TT) tt Try.func75 rfl rfl Try.ntmps75 (congrArg Array.toList Try.results75) rfl rfl fun w0 => ?_
  refine vSeq ?_
  refine vRegion ?_
  refine oVal tt rfl rfl rfl rfl rfl trivial ?_
  refine vNil ?_
  change VC _ _ _ _
  refine vSeq ?_
  refine vRegion ?_
  refine oEmpty tt (wNone rfl) rfl rfl rfl rfl ?_
  refine oVal tt rfl rfl rfl rfl rfl trivial ?_
  obtain ⟨hg1, h⟩ := grd_inv h
  refine oAppNil tt (wNone rfl) rfl rfl rfl rfl rfl rfl rfl (fun _ => rfl) rfl rfl rfl rfl rfl hg1 ?_
  refine oVal tt rfl rfl rfl rfl rfl trivial ?_
  refine vNil ?_
  change VC _ _ _ _
  refine vRet ?_
  change ∃ _, _
  cases h
  exact ⟨[5], _, rfl, ⟨rfl, trivial⟩, rfl, (.eq rfl), rfl⟩
def I_HeronOf (N : Nat) (a_0 : Int) (b_1 : Int) (c_2 : Int) : Option (Int) :=
  (I_areSquares N (3 : Int) ([a_0, b_1, c_2] : List Int)).bind fun v1 =>
  cnd (!v1) (
    some (0 : Int)) (
    grd (Rg64 (a_0 * b_1)) <|
    grd (Rg64 (b_1 * c_2)) <|
    grd (Rg64 ((a_0 * b_1) + (b_1 * c_2))) <|
    grd (Rg64 (c_2 * a_0)) <|
    grd (Rg64 (((a_0 * b_1) + (b_1 * c_2)) + (c_2 * a_0))) <|
    grd (Rg64 ((2 : Int) * (((a_0 * b_1) + (b_1 * c_2)) + (c_2 * a_0)))) <|
    grd (Rg64 (a_0 * a_0)) <|
    grd (Rg64 (((2 : Int) * (((a_0 * b_1) + (b_1 * c_2)) + (c_2 * a_0))) - (a_0 * a_0))) <|
    grd (Rg64 (b_1 * b_1)) <|
    grd (Rg64 ((((2 : Int) * (((a_0 * b_1) + (b_1 * c_2)) + (c_2 * a_0))) - (a_0 * a_0)) - (b_1 * b_1))) <|
    grd (Rg64 (c_2 * c_2)) <|
    grd (Rg64 (((((2 : Int) * (((a_0 * b_1) + (b_1 * c_2)) + (c_2 * a_0))) - (a_0 * a_0)) - (b_1 * b_1)) - (c_2 * c_2))) <|
    some (((((2 : Int) * (((a_0 * b_1) + (b_1 * c_2)) + (c_2 * a_0))) - (a_0 * a_0)) - (b_1 * b_1)) - (c_2 * c_2)))
set_option maxRecDepth 20000 in
set_option maxHeartbeats 1600000 in
theorem I_HeronOf_w (N : Nat) (a_0 : Int) (b_1 : Int) (c_2 : Int) (r : Int) (h : I_HeronOf N a_0 b_1 c_2 = some r) : PCall Try.prog 116 [.int a_0, .int b_1, .int c_2] [] (.int r) := by
  unfold I_HeronOf at h
  refine pcall_intro (TT := TT) tt Try.func116 rfl rfl Try.ntmps116 (congrArg Array.toList Try.results116) rfl rfl fun w0 => ?_
  refine vSeq ?_
  refine vRegion ?_
  refine oVal tt rfl rfl rfl rfl rfl trivial ?_
  refine vNil ?_
  change VC _ _ _ _
  iterate 2 refine vSeq ?_
  refine vRegion ?_
  iterate 3 refine oVal tt rfl rfl rfl rfl rfl trivial ?_
  refine oBuild tt rfl rfl rfl rfl rfl rfl rfl rfl rfl rfl rfl ?_
  obtain ⟨v1, hc1, h⟩ := bind_inv h
  refine oCall (I_areSquares_w N (3 : Int) ([a_0, b_1, c_2] : List Int) v1 hc1) rfl rfl rfl rfl rfl rfl rfl rfl ⟨rfl, (.inl ⟨rfl, rfl⟩), trivial⟩ ?_
  refine oVal tt rfl rfl rfl rfl rfl trivial ?_
  refine vNil ?_
  change VC _ _ _ _
  refine vCond rfl (fun hb2 => ?_) (fun hb2 => ?_)
  · replace h := cnd_t hb2 h
    refine vSeq ?_
    refine vRegion ?_
    refine oVal tt rfl rfl rfl rfl rfl trivial ?_
    refine vNil ?_
    change VC _ _ _ _
    refine vRet ?_
    change ∃ _, _
    cases h
    exact ⟨[], _, rfl, trivial, rfl, (.eq rfl), rfl⟩
  · replace h := cnd_f hb2 h
    refine vSkip ?_
    change VC _ _ _ _
    refine vSeq ?_
    refine vRegion ?_
    iterate 2 refine oVal tt rfl rfl rfl rfl rfl trivial ?_
    obtain ⟨hg3, h⟩ := grd_inv h
    refine oVal tt rfl rfl rfl rfl rfl hg3 ?_
    iterate 2 refine oVal tt rfl rfl rfl rfl rfl trivial ?_
    obtain ⟨hg4, h⟩ := grd_inv h
    refine oVal tt rfl rfl rfl rfl rfl hg4 ?_
    obtain ⟨hg5, h⟩ := grd_inv h
    refine oVal tt rfl rfl rfl rfl rfl hg5 ?_
    iterate 2 refine oVal tt rfl rfl rfl rfl rfl trivial ?_
    obtain ⟨hg6, h⟩ := grd_inv h
    refine oVal tt rfl rfl rfl rfl rfl hg6 ?_
    obtain ⟨hg7, h⟩ := grd_inv h
    refine oVal tt rfl rfl rfl rfl rfl hg7 ?_
    obtain ⟨hg8, h⟩ := grd_inv h
    refine oVal tt rfl rfl rfl rfl rfl hg8 ?_
    iterate 2 refine oVal tt rfl rfl rfl rfl rfl trivial ?_
    obtain ⟨hg9, h⟩ := grd_inv h
    refine oVal tt rfl rfl rfl rfl rfl hg9 ?_
    obtain ⟨hg10, h⟩ := grd_inv h
    refine oVal tt rfl rfl rfl rfl rfl hg10 ?_
    iterate 2 refine oVal tt rfl rfl rfl rfl rfl trivial ?_
    obtain ⟨hg11, h⟩ := grd_inv h
    refine oVal tt rfl rfl rfl rfl rfl hg11 ?_
    obtain ⟨hg12, h⟩ := grd_inv h
    refine oVal tt rfl rfl rfl rfl rfl hg12 ?_
    iterate 2 refine oVal tt rfl rfl rfl rfl rfl trivial ?_
    obtain ⟨hg13, h⟩ := grd_inv h
    refine oVal tt rfl rfl rfl rfl rfl hg13 ?_
    obtain ⟨hg14, h⟩ := grd_inv h
    refine oVal tt rfl rfl rfl rfl rfl hg14 ?_
    refine oVal tt rfl rfl rfl rfl rfl trivial ?_
    refine vNil ?_
    change VC _ _ _ _
    refine vRet ?_
    change ∃ _, _
    cases h
    exact ⟨[], _, rfl, trivial, rfl, (.eq rfl), rfl⟩
def I_IsTriangle (N : Nat) (a_0 : Int) (b_1 : Int) (c_2 : Int) : Option (Bool) :=
  (I_areSquares N (3 : Int) ([a_0, b_1, c_2] : List Int)).bind fun v1 =>
  cnd v1 (
    (I_HeronOf N a_0 b_1 c_2).bind fun v2 =>
    some (decide (v2 ≥ (0 : Int)))) (
    some false)
set_option maxRecDepth 20000 in
set_option maxHeartbeats 1600000 in
theorem I_IsTriangle_w (N : Nat) (a_0 : Int) (b_1 : Int) (c_2 : Int) (r : Bool) (h : I_IsTriangle N a_0 b_1 c_2 = some r) : PCall Try.prog 70 [.int a_0, .int b_1, .int c_2] [] (.bool r) := by
  unfold I_IsTriangle at h
  refine pcall_intro (TT := TT) tt Try.func70 rfl rfl Try.ntmps70 (congrArg Array.toList Try.results70) rfl rfl fun w0 => ?_
  refine vSeq ?_
  refine vRegion ?_
  refine oVal tt rfl rfl rfl rfl rfl trivial ?_
  refine vNil ?_
  change VC _ _ _ _
  refine vSeq ?_
  refine vRegion ?_
  iterate 3 refine oVal tt rfl rfl rfl rfl rfl trivial ?_
  refine oBuild tt rfl rfl rfl rfl rfl rfl rfl rfl rfl rfl rfl ?_
  obtain ⟨v1, hc1, h⟩ := bind_inv h
  refine oCall (I_areSquares_w N (3 : Int) ([a_0, b_1, c_2] : List Int) v1 hc1) rfl rfl rfl rfl rfl rfl rfl rfl ⟨rfl, (.inl ⟨rfl, rfl⟩), trivial⟩ ?_
  refine oVal tt rfl rfl rfl rfl rfl trivial ?_
  refine oSplit rfl rfl rfl (fun hb2 => ?_) (fun hb2 => ?_)
  · replace h := cnd_t hb2 h
    iterate 3 refine oValG tt rfl rfl rfl rfl rfl hb2 rfl rfl rfl trivial ?_
    obtain ⟨v2, hc3, h⟩ := bind_inv h
    refine oCallG (I_HeronOf_w N a_0 b_1 c_2 v2 hc3) rfl rfl rfl rfl hb2 rfl rfl rfl rfl rfl rfl rfl ⟨rfl, rfl, rfl, trivial⟩ ?_
    refine oValG tt rfl rfl rfl rfl rfl hb2 rfl rfl rfl trivial ?_
    refine oPick rfl rfl rfl rfl rfl hb2 rfl ?_
    refine oVal tt rfl rfl rfl rfl rfl trivial ?_
    refine vNil ?_
    change VC _ _ _ _
    refine vRet ?_
    change ∃ _, _
    cases h
    exact ⟨[], _, rfl, trivial, rfl, (.eq rfl), rfl⟩
  · replace h := cnd_f hb2 h
    iterate 5 refine oNoT rfl rfl rfl rfl hb2 rfl rfl ?_
    refine oPickF rfl rfl rfl rfl rfl hb2 rfl ?_
    refine oVal tt rfl rfl rfl rfl rfl trivial ?_
    refine vNil ?_
    change VC _ _ _ _
    refine vRet ?_
    change ∃ _, _
    cases h
    exact ⟨[], _, rfl, trivial, rfl, (.eq rfl), rfl⟩
def L_eqIntS_l1 (N : Nat) (a_0 : List Int) (b_1 : List Int) (k : Unit → Option (Bool)) : Nat → Int → Option (Bool)
  | 0, _ => none
  | n + 1, i3 =>
    cnd (decide (i3 < (a_0.length : Int))) (
      grd (0 ≤ i3 ∧ i3 < (a_0.length : Int)) <|
      grd (0 ≤ i3 ∧ i3 < (b_1.length : Int)) <|
      cnd ((a_0.getD ((i3).toNat) 0) != (b_1.getD ((i3).toNat) 0)) (
        some false) (
        grd (Rg64 (i3 + (1 : Int))) <|
        L_eqIntS_l1 N a_0 b_1 k n (i3 + (1 : Int)))) (
      k ())
def L_eqIntS (N : Nat) (a_0 : List Int) (b_1 : List Int) : Option (Bool) :=
  cnd ((a_0.length : Int) != (b_1.length : Int)) (
    some false) (
    L_eqIntS_l1 N a_0 b_1 (fun (_ : Unit) =>
          some true) N (0 : Int))
set_option maxRecDepth 20000 in
set_option maxHeartbeats 1600000 in
theorem L_eqIntS_w (N : Nat) (a_0 : List Int) (b_1 : List Int) (r : Bool) (h : L_eqIntS N a_0 b_1 = some r) : PCall Try.prog 18 [.ro false (.ints a_0), .ro false (.ints b_1)] [] (.bool r) := by
  unfold L_eqIntS at h
  refine pcall_intro (TT := TT) tt Try.func18 rfl rfl Try.ntmps18 (congrArg Array.toList Try.results18) rfl rfl fun w0 => ?_
  refine vSeq ?_
  refine vRegion ?_
  refine oVal tt rfl rfl rfl rfl rfl trivial ?_
  refine vNil ?_
  change VC _ _ _ _
  iterate 2 refine vSeq ?_
  refine vRegion ?_
  iterate 5 refine oVal tt rfl rfl rfl rfl rfl trivial ?_
  refine vNil ?_
  change VC _ _ _ _
  refine vCond rfl (fun hb1 => ?_) (fun hb1 => ?_)
  · replace h := cnd_t hb1 h
    refine vSeq ?_
    refine vRegion ?_
    refine oVal tt rfl rfl rfl rfl rfl trivial ?_
    refine vNil ?_
    change VC _ _ _ _
    refine vRet ?_
    change ∃ _, _
    cases h
    exact ⟨[], _, rfl, trivial, rfl, (.eq rfl), rfl⟩
  · replace h := cnd_f hb1 h
    refine vSkip ?_
    change VC _ _ _ _
    iterate 2 refine vSeq ?_
    refine vRegion ?_
    refine oVal tt rfl rfl rfl rfl rfl trivial ?_
    refine vNil ?_
    change VC _ _ _ _
    refine vJoin (F := fun k => L_eqIntS_l1 N a_0 b_1 k) h (α := Unit) (J := fun (_ : Unit) => (⟨[], [], []⟩ : PS)) ?_ ?_
    · rintro ⟨⟩ h
      show VC _ _ _ (⟨[], [], []⟩ : PS)
      refine vSeq ?_
      refine vRegion ?_
      refine oVal tt rfl rfl rfl rfl rfl trivial ?_
      refine vNil ?_
      change VC _ _ _ _
      refine vRet ?_
      change ∃ _, _
      cases h
      exact ⟨[], _, rfl, trivial, rfl, (.eq rfl), rfl⟩
    · intro k h
      refine vBlock ?_
      refine vLoopS (α := Int) (fun (i3 : Int) => (⟨[(0, .ro false (.ints a_0)), (1, .ro false (.ints b_1)), (5, .int i3)], [], []⟩ : PS)) (L_eqIntS_l1 N a_0 b_1 k) h (En.of ⟨rfl, rfl, rfl, trivial⟩ trivial trivial) (fun _ => rfl) ?_
      rintro n i3 h
      rw [L_eqIntS_l1] at h
      show VC _ _ _ (⟨[(0, .ro false (.ints a_0)), (1, .ro false (.ints b_1)), (5, .int i3)], [], []⟩ : PS)
      iterate 2 refine vSeq ?_
      refine vRegion ?_
      iterate 4 refine oVal tt rfl rfl rfl rfl rfl trivial ?_
      refine vNil ?_
      change VC _ _ _ _
      refine vCond rfl (fun hb2 => ?_) (fun hb2 => ?_)
      · replace h := cnd_t hb2 h
        refine vSkip ?_
        change VC _ _ _ _
        refine vSeq ?_
        refine vBlock ?_
        refine vSeq ?_
        refine vRegionD (by kernel_rfl) (by kernel_rfl) ?_
        iterate 2 refine cVal tt rfl (wNone rfl) rfl rfl rfl trivial ?_
        obtain ⟨hg3, h⟩ := grd_inv h
        refine cVal tt rfl (wNone rfl) rfl rfl rfl hg3 ?_
        iterate 3 refine cVal tt rfl (wNone rfl) rfl rfl rfl trivial ?_
        obtain ⟨hg4, h⟩ := grd_inv h
        refine cVal tt rfl (wNone rfl) rfl rfl rfl hg4 ?_
        iterate 2 refine cVal tt rfl (wNone rfl) rfl rfl rfl trivial ?_
        refine cNil ?_
        change VC _ _ _ _
        refine vCond rfl (fun hb5 => ?_) (fun hb5 => ?_)
        · replace h := cnd_t hb5 h
          refine vSeq ?_
          refine vRegion ?_
          refine oVal tt rfl rfl rfl rfl rfl trivial ?_
          refine vNil ?_
          change VC _ _ _ _
          refine vRet ?_
          change ∃ _, _
          cases h
          exact ⟨[], _, rfl, trivial, rfl, (.eq rfl), rfl⟩
        · replace h := cnd_f hb5 h
          refine vSkip ?_
          change VC _ _ _ _
          refine vRegion ?_
          refine oVal tt rfl rfl rfl rfl rfl trivial ?_
          obtain ⟨hg6, h⟩ := grd_inv h
          refine oVal tt rfl rfl rfl rfl rfl hg6 ?_
          refine oVal tt rfl rfl rfl rfl rfl trivial ?_
          refine vNil ?_
          change ∃ _, _
          exact ⟨(i3 + (1 : Int)), (En.of ⟨rfl, rfl, rfl, trivial⟩ trivial trivial), h⟩
      · replace h := cnd_f hb2 h
        refine vExit ?_
        change ∃ _, _
        exact ⟨(), (En.of trivial trivial trivial), h⟩
def L_szIntS (N : Nat) (a_0 : List Int) (left_1 : Int) : Option (Int) :=
  grd (Rg64 (left_1 - (a_0.length : Int))) <|
  cnd (decide ((left_1 - (a_0.length : Int)) < (0 : Int))) (
    some (-1 : Int)) (
    some (left_1 - (a_0.length : Int)))
set_option maxRecDepth 20000 in
set_option maxHeartbeats 1600000 in
theorem L_szIntS_w (N : Nat) (a_0 : List Int) (left_1 : Int) (r : Int) (h : L_szIntS N a_0 left_1 = some r) : PCall Try.prog 87 [.ro false (.ints a_0), .int left_1] [] (.int r) := by
  unfold L_szIntS at h
  refine pcall_intro (TT := TT) tt Try.func87 rfl rfl Try.ntmps87 (congrArg Array.toList Try.results87) rfl rfl fun w0 => ?_
  refine vSeq ?_
  refine vRegion ?_
  refine oVal tt rfl rfl rfl rfl rfl trivial ?_
  refine vNil ?_
  change VC _ _ _ _
  refine vSeq ?_
  refine vRegion ?_
  iterate 3 refine oVal tt rfl rfl rfl rfl rfl trivial ?_
  obtain ⟨hg1, h⟩ := grd_inv h
  refine oVal tt rfl rfl rfl rfl rfl hg1 ?_
  refine oVal tt rfl rfl rfl rfl rfl trivial ?_
  refine vNil ?_
  change VC _ _ _ _
  iterate 2 refine vSeq ?_
  refine vRegion ?_
  iterate 2 refine oVal tt rfl rfl rfl rfl rfl trivial ?_
  refine vNil ?_
  change VC _ _ _ _
  refine vCond rfl (fun hb2 => ?_) (fun hb2 => ?_)
  · replace h := cnd_t hb2 h
    refine vSeq ?_
    refine vRegion ?_
    refine oVal tt rfl rfl rfl rfl rfl trivial ?_
    refine vNil ?_
    change VC _ _ _ _
    refine vRet ?_
    change ∃ _, _
    cases h
    exact ⟨[], _, rfl, trivial, rfl, (.eq rfl), rfl⟩
  · replace h := cnd_f hb2 h
    refine vSkip ?_
    change VC _ _ _ _
    refine vSeq ?_
    refine vRegion ?_
    iterate 2 refine oVal tt rfl rfl rfl rfl rfl trivial ?_
    refine vNil ?_
    change VC _ _ _ _
    refine vRet ?_
    change ∃ _, _
    cases h
    exact ⟨[], _, rfl, trivial, rfl, (.eq rfl), rfl⟩
end Go.Proofs.Ytlmlfbjcpajinaa
