/- Plain texts of functions, and that the program computes them (printed by gen.py). -/
import Derived.Test.YtkpmijmlbpdknaaShb
import Derived.Test.YtkpmijmlbpdknaaG1
import Derived.Test.YtkpmijmlbpdknaaG2
namespace Go.Proofs.Ytkpmijmlbpdknaa
open Go.RowKit
set_option linter.unusedVariables false
set_option linter.unusedSimpArgs false
def L_szRaise (N : Nat) (a_0 : Rse) (left_1 : Int) : Option (Int) :=
  (L_szIntS N a_0.bars left_1).bind fun v1 =>
  cnd (decide (v1 < (0 : Int))) (
    some (-1 : Int)) (
    some v1)
set_option maxRecDepth 20000 in
set_option maxHeartbeats 1600000 in
theorem L_szRaise_w (N : Nat) (a_0 : Rse) (left_1 : Int) (r : Int) (h : L_szRaise N a_0 left_1 = some r) : PCall Try.prog 83 [rD a_0, .int left_1] [] (.int r) := by
  unfold L_szRaise at h
  refine pcall_intro (TT := TT) tt Try.func83 rfl rfl Try.ntmps83 (congrArg Array.toList Try.results83) rfl rfl fun w0 => ?_
  refine vSeq ?_
  refine vRegion ?_
  refine oBox rfl rfl rfl rfl rfl rfl rfl rfl rfl ?_
  refine oVal tt rfl rfl rfl rfl rfl trivial ?_
  refine vNil ?_
  change VC _ _ _ _
  refine vSeq ?_
  refine vRegion ?_
  iterate 3 refine oVal tt rfl rfl rfl rfl rfl trivial ?_
  obtain ⟨v1, hc1, h⟩ := bind_inv h
  refine oCall (L_szIntS_w N a_0.bars left_1 v1 hc1) rfl rfl rfl rfl rfl rfl rfl rfl ⟨rfl, rfl, trivial⟩ ?_
  refine oVal tt rfl rfl rfl rfl rfl trivial ?_
  refine vNil ?_
  change VC _ _ _ _
  iterate 2 refine vSeq ?_
  refine vRegion ?_
  iterate 2 refine oVal tt rfl rfl rfl rfl rfl trivial ?_
  refine vNil ?_
  change VC _ _ _ _
  refine vCond rfl (fun hb2 => ?_) (fun hb2 => ?_)
  · replace h := cnd_t hb2 h
    refine vSeq ?_
    refine vRegion ?_
    refine oVal tt rfl rfl rfl rfl rfl trivial ?_
    refine vNil ?_
    change VC _ _ _ _
    refine vRet ?_
    change ∃ _, _
    cases h
    exact ⟨[], _, rfl, trivial, rfl, (.eq rfl), rfl⟩
  · replace h := cnd_f hb2 h
    refine vSkip ?_
    change VC _ _ _ _
    refine vSeq ?_
    refine vRegion ?_
    iterate 2 refine oVal tt rfl rfl rfl rfl rfl trivial ?_
    refine vNil ?_
    change VC _ _ _ _
    refine vRet ?_
    change ∃ _, _
    cases h
    exact ⟨[], _, rfl, trivial, rfl, (.eq rfl), rfl⟩
def L_szRaiseS_l1 (N : Nat) (a_0 : List (Int × List Int)) (k : Int → Option (Int)) : Nat → (Int × Int) → Option (Int)
  | 0, _ => none
  | n + 1, (left9, i10) =>
    cnd (decide (i10 < (a_0.length : Int))) (
      grd (0 ≤ i10 ∧ i10 < (a_0.length : Int)) <|
      (L_szRaise N (⟨(a_0.getD ((i10).toNat) (0, [])).1, (a_0.getD ((i10).toNat) (0, [])).2⟩ : Rse) left9).bind fun v12 =>
      cnd (decide (v12 < (0 : Int))) (
        some (-1 : Int)) (
        grd (Rg64 (i10 + (1 : Int))) <|
        L_szRaiseS_l1 N a_0 k n (v12, (i10 + (1 : Int))))) (
      k left9)
def L_szRaiseS (N : Nat) (a_0 : List (Int × List Int)) (left_1 : Int) : Option (Int) :=
  grd (Rg64 (left_1 - (a_0.length : Int))) <|
  cnd (decide ((left_1 - (a_0.length : Int)) < (0 : Int))) (
    some (-1 : Int)) (
    L_szRaiseS_l1 N a_0 (fun (left6 : Int) =>
          some left6) N ((left_1 - (a_0.length : Int)), (0 : Int)))
set_option maxRecDepth 20000 in
set_option maxHeartbeats 1600000 in
theorem L_szRaiseS_w (N : Nat) (a_0 : List (Int × List Int)) (left_1 : Int) (r : Int) (h : L_szRaiseS N a_0 left_1 = some r) : PCall Try.prog 45 [.ro false (.raises a_0), .int left_1] [] (.int r) := by
  unfold L_szRaiseS at h
  refine pcall_intro (TT := TT) tt Try.func45 rfl rfl Try.ntmps45 (congrArg Array.toList Try.results45) rfl rfl fun w0 => ?_
  refine vSeq ?_
  refine vRegion ?_
  refine oVal tt rfl rfl rfl rfl rfl trivial ?_
  refine vNil ?_
  change VC _ _ _ _
  refine vSeq ?_
  refine vRegion ?_
  iterate 3 refine oVal tt rfl rfl rfl rfl rfl trivial ?_
  obtain ⟨hg1, h⟩ := grd_inv h
  refine oVal tt rfl rfl rfl rfl rfl hg1 ?_
  refine oVal tt rfl rfl rfl rfl rfl trivial ?_
  refine vNil ?_
  change VC _ _ _ _
  iterate 2 refine vSeq ?_
  refine vRegion ?_
  iterate 2 refine oVal tt rfl rfl rfl rfl rfl trivial ?_
  refine vNil ?_
  change VC _ _ _ _
  refine vCond rfl (fun hb2 => ?_) (fun hb2 => ?_)
  · replace h := cnd_t hb2 h
    refine vSeq ?_
    refine vRegion ?_
    refine oVal tt rfl rfl rfl rfl rfl trivial ?_
    refine vNil ?_
    change VC _ _ _ _
    refine vRet ?_
    change ∃ _, _
    cases h
    exact ⟨[], _, rfl, trivial, rfl, (.eq rfl), rfl⟩
  · replace h := cnd_f hb2 h
    refine vSkip ?_
    change VC _ _ _ _
    iterate 2 refine vSeq ?_
    refine vRegion ?_
    refine oVal tt rfl rfl rfl rfl rfl trivial ?_
    refine vNil ?_
    change VC _ _ _ _
    refine vJoin (F := fun k => L_szRaiseS_l1 N a_0 k) h (α := Int) (J := fun (left6 : Int) => (⟨[(1, .int left6)], [], []⟩ : PS)) ?_ ?_
    · rintro left6 h
      show VC _ _ _ (⟨[(1, .int left6)], [], []⟩ : PS)
      refine vSeq ?_
      refine vRegion ?_
      iterate 2 refine oVal tt rfl rfl rfl rfl rfl trivial ?_
      refine vNil ?_
      change VC _ _ _ _
      refine vRet ?_
      change ∃ _, _
      cases h
      exact ⟨[], _, rfl, trivial, rfl, (.eq rfl), rfl⟩
    · intro k h
      refine vBlock ?_
      refine vLoopS (α := Int × Int) (fun | (left9, i10) => (⟨[(0, .ro false (.raises a_0)), (1, .int left9), (5, .int i10)], [], []⟩ : PS)) (L_szRaiseS_l1 N a_0 k) h (En.of ⟨rfl, rfl, rfl, trivial⟩ trivial trivial) (fun _ => rfl) ?_
      rintro n ⟨left9, i10⟩ h
      rw [L_szRaiseS_l1] at h
      show VC _ _ _ (⟨[(0, .ro false (.raises a_0)), (1, .int left9), (5, .int i10)], [], []⟩ : PS)
      iterate 2 refine vSeq ?_
      refine vRegion ?_
      iterate 4 refine oVal tt rfl rfl rfl rfl rfl trivial ?_
      refine vNil ?_
      change VC _ _ _ _
      refine vCond rfl (fun hb3 => ?_) (fun hb3 => ?_)
      · replace h := cnd_t hb3 h
        refine vSkip ?_
        change VC _ _ _ _
        refine vSeq ?_
        refine vBlock ?_
        refine vSeq ?_
        refine vRegion ?_
        iterate 2 refine oVal tt rfl rfl rfl rfl rfl trivial ?_
        obtain ⟨hg4, h⟩ := grd_inv h
        refine oVal tt rfl rfl rfl rfl rfl hg4 ?_
        iterate 2 refine oVal tt rfl rfl rfl rfl rfl trivial ?_
        obtain ⟨v12, hc5, h⟩ := bind_inv h
        refine oCall (L_szRaise_w N (⟨(a_0.getD ((i10).toNat) (0, [])).1, (a_0.getD ((i10).toNat) (0, [])).2⟩ : Rse) left9 v12 hc5) rfl rfl rfl rfl rfl rfl rfl rfl ⟨⟨rfl, rfl, trivial⟩, rfl, trivial⟩ ?_
        refine oVal tt rfl rfl rfl rfl rfl trivial ?_
        refine vNil ?_
        change VC _ _ _ _
        refine vSeq ?_
        refine vRegion ?_
        iterate 2 refine oVal tt rfl rfl rfl rfl rfl trivial ?_
        refine vNil ?_
        change VC _ _ _ _
        refine vCond rfl (fun hb6 => ?_) (fun hb6 => ?_)
        · replace h := cnd_t hb6 h
          refine vSeq ?_
          refine vRegion ?_
          refine oVal tt rfl rfl rfl rfl rfl trivial ?_
          refine vNil ?_
          change VC _ _ _ _
          refine vRet ?_
          change ∃ _, _
          cases h
          exact ⟨[], _, rfl, trivial, rfl, (.eq rfl), rfl⟩
        · replace h := cnd_f hb6 h
          refine vSkip ?_
          change VC _ _ _ _
          refine vRegion ?_
          refine oVal tt rfl rfl rfl rfl rfl trivial ?_
          obtain ⟨hg7, h⟩ := grd_inv h
          refine oVal tt rfl rfl rfl rfl rfl hg7 ?_
          refine oVal tt rfl rfl rfl rfl rfl trivial ?_
          refine vNil ?_
          change ∃ _, _
          exact ⟨(v12, (i10 + (1 : Int))), (En.of ⟨rfl, rfl, rfl, trivial⟩ trivial trivial), h⟩
      · replace h := cnd_f hb3 h
        refine vExit ?_
        change ∃ _, _
        exact ⟨left9, (En.of ⟨rfl, trivial⟩ trivial trivial), h⟩
def L_toRaise (N : Nat) (a_0 : Rse) : Option (Rse) :=
  (L_toIntS N a_0.bars).bind fun v1 =>
  some (⟨a_0.p, v1⟩ : Rse)
set_option maxRecDepth 20000 in
set_option maxHeartbeats 1600000 in
theorem L_toRaise_w (N : Nat) (a_0 : Rse) (r : Rse) (h : L_toRaise N a_0 = some r) : PCall Try.prog 85 [rD a_0] [(3, .ints r.bars)] (.agg [.int r.p, .row 0 0 r.bars.length]) := by
  unfold L_toRaise at h
  refine pcall_intro (TT := TT) tt Try.func85 rfl rfl Try.ntmps85 (congrArg Array.toList Try.results85) rfl rfl fun w0 => ?_
  refine vSeq ?_
  refine vRegion ?_
  refine oBox rfl rfl rfl rfl rfl rfl rfl rfl rfl ?_
  refine oAlloc tt rfl rfl rfl rfl rfl rfl rfl rfl rfl ?_
  refine vNil ?_
  change VC _ _ _ _
  refine vSeq ?_
  refine vRegion ?_
  refine oAlloc tt rfl rfl rfl rfl rfl rfl rfl rfl rfl ?_
  refine vNil ?_
  change VC _ _ _ _
  refine vSeq ?_
  refine vRegion ?_
  iterate 3 refine oVal tt rfl rfl rfl rfl rfl trivial ?_
  refine oStore tt rfl rfl rfl rfl rfl rfl rfl rfl rfl rfl rfl ⟨trivial, trivial⟩ ?_
  refine vNil ?_
  change VC _ _ _ _
  refine vSeq ?_
  refine vRegion ?_
  iterate 2 refine oVal tt rfl rfl rfl rfl rfl trivial ?_
  obtain ⟨v1, hc1, h⟩ := bind_inv h
  refine oCall (L_toIntS_w N a_0.bars v1 hc1) rfl rfl rfl rfl rfl rfl rfl rfl ⟨rfl, trivial⟩ ?_
  refine oVal tt rfl rfl rfl rfl rfl trivial ?_
  refine oStore tt rfl rfl rfl rfl rfl rfl rfl rfl rfl rfl rfl ⟨trivial, trivial⟩ ?_
  refine vNil ?_
  change VC _ _ _ _
  refine vSeq ?_
  refine vRegion ?_
  refine oVal tt rfl rfl rfl rfl rfl trivial ?_
  refine oStore tt rfl rfl rfl rfl rfl rfl rfl rfl rfl rfl rfl ⟨trivial, trivial, trivial⟩ ?_
  refine vNil ?_
  change VC _ _ _ _
  refine vRet ?_
  change ∃ _, _
  cases h
  exact ⟨[1090], _, rfl, ⟨rfl, trivial⟩, rfl, (.eq rfl), rfl⟩
def L_eqRaise (N : Nat) (a_0 : Rse) (b_1 : Rse) : Option (Bool) :=
  cnd (a_0.p != b_1.p) (
    some false) (
    (L_eqIntS N a_0.bars b_1.bars).bind fun v1 =>
    cnd (!v1) (
      some false) (
      some true))
set_option maxRecDepth 20000 in
set_option maxHeartbeats 1600000 in
theorem L_eqRaise_w (N : Nat) (a_0 : Rse) (b_1 : Rse) (r : Bool) (h : L_eqRaise N a_0 b_1 = some r) : PCall Try.prog 87 [rD a_0, rD b_1] [] (.bool r) := by
  unfold L_eqRaise at h
  refine pcall_intro (TT := TT) tt Try.func87 rfl rfl Try.ntmps87 (congrArg Array.toList Try.results87) rfl rfl fun w0 => ?_
  refine vSeq ?_
  refine vRegion ?_
  iterate 2 refine oBox rfl rfl rfl rfl rfl rfl rfl rfl rfl ?_
  refine oVal tt rfl rfl rfl rfl rfl trivial ?_
  refine vNil ?_
  change VC _ _ _ _
  iterate 2 refine vSeq ?_
  refine vRegion ?_
  iterate 5 refine oVal tt rfl rfl rfl rfl rfl trivial ?_
  refine vNil ?_
  change VC _ _ _ _
  refine vCond rfl (fun hb1 => ?_) (fun hb1 => ?_)
  · replace h := cnd_t hb1 h
    refine vSeq ?_
    refine vRegion ?_
    refine oVal tt rfl rfl rfl rfl rfl trivial ?_
    refine vNil ?_
    change VC _ _ _ _
    refine vRet ?_
    change ∃ _, _
    cases h
    exact ⟨[], _, rfl, trivial, rfl, (.eq rfl), rfl⟩
  · replace h := cnd_f hb1 h
    refine vSkip ?_
    change VC _ _ _ _
    iterate 2 refine vSeq ?_
    refine vRegion ?_
    iterate 4 refine oVal tt rfl rfl rfl rfl rfl trivial ?_
    obtain ⟨v1, hc2, h⟩ := bind_inv h
    refine oCall (L_eqIntS_w N a_0.bars b_1.bars v1 hc2) rfl rfl rfl rfl rfl rfl rfl rfl ⟨rfl, rfl, trivial⟩ ?_
    refine oVal tt rfl rfl rfl rfl rfl trivial ?_
    refine vNil ?_
    change VC _ _ _ _
    refine vCond rfl (fun hb3 => ?_) (fun hb3 => ?_)
    · replace h := cnd_t hb3 h
      refine vSeq ?_
      refine vRegion ?_
      refine oVal tt rfl rfl rfl rfl rfl trivial ?_
      refine vNil ?_
      change VC _ _ _ _
      refine vRet ?_
      change ∃ _, _
      cases h
      exact ⟨[], _, rfl, trivial, rfl, (.eq rfl), rfl⟩
    · replace h := cnd_f hb3 h
      refine vSkip ?_
      change VC _ _ _ _
      refine vSeq ?_
      refine vRegion ?_
      refine oVal tt rfl rfl rfl rfl rfl trivial ?_
      refine vNil ?_
      change VC _ _ _ _
      refine vRet ?_
      change ∃ _, _
      cases h
      exact ⟨[], _, rfl, trivial, rfl, (.eq rfl), rfl⟩
def L_eqRaiseS_l1 (N : Nat) (a_0 : List (Int × List Int)) (b_1 : List (Int × List Int)) (k : Unit → Option (Bool)) : Nat → Int → Option (Bool)
  | 0, _ => none
  | n + 1, i7 =>
    cnd (decide (i7 < (a_0.length : Int))) (
      grd (0 ≤ i7 ∧ i7 < (a_0.length : Int)) <|
      grd (0 ≤ i7 ∧ i7 < (b_1.length : Int)) <|
      (L_eqRaise N (⟨(a_0.getD ((i7).toNat) (0, [])).1, (a_0.getD ((i7).toNat) (0, [])).2⟩ : Rse) (⟨(b_1.getD ((i7).toNat) (0, [])).1, (b_1.getD ((i7).toNat) (0, [])).2⟩ : Rse)).bind fun v9 =>
      cnd (!v9) (
        some false) (
        grd (Rg64 (i7 + (1 : Int))) <|
        L_eqRaiseS_l1 N a_0 b_1 k n (i7 + (1 : Int)))) (
      k ())
def L_eqRaiseS (N : Nat) (a_0 : List (Int × List Int)) (b_1 : List (Int × List Int)) : Option (Bool) :=
  cnd ((a_0.length : Int) != (b_1.length : Int)) (
    some false) (
    L_eqRaiseS_l1 N a_0 b_1 (fun (_ : Unit) =>
          some true) N (0 : Int))
set_option maxRecDepth 20000 in
set_option maxHeartbeats 1600000 in
theorem L_eqRaiseS_w (N : Nat) (a_0 : List (Int × List Int)) (b_1 : List (Int × List Int)) (r : Bool) (h : L_eqRaiseS N a_0 b_1 = some r) : PCall Try.prog 49 [.ro false (.raises a_0), .ro false (.raises b_1)] [] (.bool r) := by
  unfold L_eqRaiseS at h
  refine pcall_intro (TT := TT) tt Try.func49 rfl rfl Try.ntmps49 (congrArg Array.toList Try.results49) rfl rfl fun w0 => ?_
  refine vSeq ?_
  refine vRegion ?_
  refine oVal tt rfl rfl rfl rfl rfl trivial ?_
  refine vNil ?_
  change VC _ _ _ _
  iterate 2 refine vSeq ?_
  refine vRegion ?_
  iterate 5 refine oVal tt rfl rfl rfl rfl rfl trivial ?_
  refine vNil ?_
  change VC _ _ _ _
  refine vCond rfl (fun hb1 => ?_) (fun hb1 => ?_)
  · replace h := cnd_t hb1 h
    refine vSeq ?_
    refine vRegion ?_
    refine oVal tt rfl rfl rfl rfl rfl trivial ?_
    refine vNil ?_
    change VC _ _ _ _
    refine vRet ?_
    change ∃ _, _
    cases h
    exact ⟨[], _, rfl, trivial, rfl, (.eq rfl), rfl⟩
  · replace h := cnd_f hb1 h
    refine vSkip ?_
    change VC _ _ _ _
    iterate 2 refine vSeq ?_
    refine vRegion ?_
    refine oVal tt rfl rfl rfl rfl rfl trivial ?_
    refine vNil ?_
    change VC _ _ _ _
    refine vJoin (F := fun k => L_eqRaiseS_l1 N a_0 b_1 k) h (α := Unit) (J := fun (_ : Unit) => (⟨[], [], []⟩ : PS)) ?_ ?_
    · rintro ⟨⟩ h
      show VC _ _ _ (⟨[], [], []⟩ : PS)
      refine vSeq ?_
      refine vRegion ?_
      refine oVal tt rfl rfl rfl rfl rfl trivial ?_
      refine vNil ?_
      change VC _ _ _ _
      refine vRet ?_
      change ∃ _, _
      cases h
      exact ⟨[], _, rfl, trivial, rfl, (.eq rfl), rfl⟩
    · intro k h
      refine vBlock ?_
      refine vLoopS (α := Int) (fun (i7 : Int) => (⟨[(0, .ro false (.raises a_0)), (1, .ro false (.raises b_1)), (5, .int i7)], [], []⟩ : PS)) (L_eqRaiseS_l1 N a_0 b_1 k) h (En.of ⟨rfl, rfl, rfl, trivial⟩ trivial trivial) (fun _ => rfl) ?_
      rintro n i7 h
      rw [L_eqRaiseS_l1] at h
      show VC _ _ _ (⟨[(0, .ro false (.raises a_0)), (1, .ro false (.raises b_1)), (5, .int i7)], [], []⟩ : PS)
      iterate 2 refine vSeq ?_
      refine vRegion ?_
      iterate 4 refine oVal tt rfl rfl rfl rfl rfl trivial ?_
      refine vNil ?_
      change VC _ _ _ _
      refine vCond rfl (fun hb2 => ?_) (fun hb2 => ?_)
      · replace h := cnd_t hb2 h
        refine vSkip ?_
        change VC _ _ _ _
        refine vSeq ?_
        refine vBlock ?_
        refine vSeq ?_
        refine vRegionD (by kernel_rfl) (by kernel_rfl) ?_
        iterate 2 refine cVal tt rfl (wNone rfl) rfl rfl rfl trivial ?_
        obtain ⟨hg3, h⟩ := grd_inv h
        refine cVal tt rfl (wNone rfl) rfl rfl rfl hg3 ?_
        iterate 3 refine cVal tt rfl (wNone rfl) rfl rfl rfl trivial ?_
        obtain ⟨hg4, h⟩ := grd_inv h
        refine cVal tt rfl (wNone rfl) rfl rfl rfl hg4 ?_
        refine cVal tt rfl (wNone rfl) rfl rfl rfl trivial ?_
        obtain ⟨v9, hc5, h⟩ := bind_inv h
        refine cCall (L_eqRaise_w N (⟨(a_0.getD ((i7).toNat) (0, [])).1, (a_0.getD ((i7).toNat) (0, [])).2⟩ : Rse) (⟨(b_1.getD ((i7).toNat) (0, [])).1, (b_1.getD ((i7).toNat) (0, [])).2⟩ : Rse) v9 hc5) rfl (wNone rfl) rfl rfl rfl rfl rfl rfl ⟨⟨rfl, rfl, trivial⟩, ⟨rfl, rfl, trivial⟩, trivial⟩ ?_
        refine cVal tt rfl (wNone rfl) rfl rfl rfl trivial ?_
        refine cNil ?_
        change VC _ _ _ _
        refine vCond rfl (fun hb6 => ?_) (fun hb6 => ?_)
        · replace h := cnd_t hb6 h
          refine vSeq ?_
          refine vRegion ?_
          refine oVal tt rfl rfl rfl rfl rfl trivial ?_
          refine vNil ?_
          change VC _ _ _ _
          refine vRet ?_
          change ∃ _, _
          cases h
          exact ⟨[], _, rfl, trivial, rfl, (.eq rfl), rfl⟩
        · replace h := cnd_f hb6 h
          refine vSkip ?_
          change VC _ _ _ _
          refine vRegion ?_
          refine oVal tt rfl rfl rfl rfl rfl trivial ?_
          obtain ⟨hg7, h⟩ := grd_inv h
          refine oVal tt rfl rfl rfl rfl rfl hg7 ?_
          refine oVal tt rfl rfl rfl rfl rfl trivial ?_
          refine vNil ?_
          change ∃ _, _
          exact ⟨(i7 + (1 : Int)), (En.of ⟨rfl, rfl, rfl, trivial⟩ trivial trivial), h⟩
      · replace h := cnd_f hb2 h
        refine vExit ?_
        change ∃ _, _
        exact ⟨(), (En.of trivial trivial trivial), h⟩
def L_heldIntS_l1 (N : Nat) (a_0 : List Int) (k : Int → Option (Int)) : Nat → (Int × Int) → Option (Int)
  | 0, _ => none
  | n + 1, (k5, i6) =>
    cnd (decide (i6 < (a_0.length : Int))) (
      grd (0 ≤ i6 ∧ i6 < (a_0.length : Int)) <|
      cnd ((a_0.getD ((i6).toNat) 0) != k5) (
        some (-1 : Int)) (
        grd (Rg64 (k5 + (1 : Int))) <|
        grd (Rg64 (i6 + (1 : Int))) <|
        L_heldIntS_l1 N a_0 k n ((k5 + (1 : Int)), (i6 + (1 : Int))))) (
      k k5)
def L_heldIntS (N : Nat) (a_0 : List Int) (k_1 : Int) : Option (Int) :=
  L_heldIntS_l1 N a_0 (fun (k3 : Int) =>
        some k3) N (k_1, (0 : Int))
set_option maxRecDepth 20000 in
set_option maxHeartbeats 1600000 in
theorem L_heldIntS_w (N : Nat) (a_0 : List Int) (k_1 : Int) (r : Int) (h : L_heldIntS N a_0 k_1 = some r) : PCall Try.prog 29 [.ro false (.ints a_0), .int k_1] [] (.int r) := by
  unfold L_heldIntS at h
  refine pcall_intro (TT := TT) tt Try.func29 rfl rfl Try.ntmps29 (congrArg Array.toList Try.results29) rfl rfl fun w0 => ?_
  refine vSeq ?_
  refine vRegion ?_
  refine oVal tt rfl rfl rfl rfl rfl trivial ?_
  refine vNil ?_
  change VC _ _ _ _
  iterate 2 refine vSeq ?_
  refine vRegion ?_
  refine oVal tt rfl rfl rfl rfl rfl trivial ?_
  refine vNil ?_
  change VC _ _ _ _
  refine vJoin (F := fun k => L_heldIntS_l1 N a_0 k) h (α := Int) (J := fun (k3 : Int) => (⟨[(1, .int k3)], [], []⟩ : PS)) ?_ ?_
  · rintro k3 h
    show VC _ _ _ (⟨[(1, .int k3)], [], []⟩ : PS)
    refine vSeq ?_
    refine vRegion ?_
    iterate 2 refine oVal tt rfl rfl rfl rfl rfl trivial ?_
    refine vNil ?_
    change VC _ _ _ _
    refine vRet ?_
    change ∃ _, _
    cases h
    exact ⟨[], _, rfl, trivial, rfl, (.eq rfl), rfl⟩
  · intro k h
    refine vBlock ?_
    refine vLoopS (α := Int × Int) (fun | (k5, i6) => (⟨[(0, .ro false (.ints a_0)), (1, .int k5), (5, .int i6)], [], []⟩ : PS)) (L_heldIntS_l1 N a_0 k) h (En.of ⟨rfl, rfl, rfl, trivial⟩ trivial trivial) (fun _ => rfl) ?_
    rintro n ⟨k5, i6⟩ h
    rw [L_heldIntS_l1] at h
    show VC _ _ _ (⟨[(0, .ro false (.ints a_0)), (1, .int k5), (5, .int i6)], [], []⟩ : PS)
    iterate 2 refine vSeq ?_
    refine vRegion ?_
    iterate 4 refine oVal tt rfl rfl rfl rfl rfl trivial ?_
    refine vNil ?_
    change VC _ _ _ _
    refine vCond rfl (fun hb1 => ?_) (fun hb1 => ?_)
    · replace h := cnd_t hb1 h
      refine vSkip ?_
      change VC _ _ _ _
      refine vSeq ?_
      refine vBlock ?_
      iterate 2 refine vSeq ?_
      refine vRegion ?_
      iterate 2 refine oVal tt rfl rfl rfl rfl rfl trivial ?_
      obtain ⟨hg2, h⟩ := grd_inv h
      refine oVal tt rfl rfl rfl rfl rfl hg2 ?_
      iterate 3 refine oVal tt rfl rfl rfl rfl rfl trivial ?_
      refine vNil ?_
      change VC _ _ _ _
      refine vCond rfl (fun hb3 => ?_) (fun hb3 => ?_)
      · replace h := cnd_t hb3 h
        refine vSeq ?_
        refine vRegion ?_
        refine oVal tt rfl rfl rfl rfl rfl trivial ?_
        refine vNil ?_
        change VC _ _ _ _
        refine vRet ?_
        change ∃ _, _
        cases h
        exact ⟨[], _, rfl, trivial, rfl, (.eq rfl), rfl⟩
      · replace h := cnd_f hb3 h
        refine vSkip ?_
        change VC _ _ _ _
        refine vRegion ?_
        refine oVal tt rfl rfl rfl rfl rfl trivial ?_
        obtain ⟨hg4, h⟩ := grd_inv h
        refine oVal tt rfl rfl rfl rfl rfl hg4 ?_
        refine oVal tt rfl rfl rfl rfl rfl trivial ?_
        refine vNil ?_
        change VC _ _ _ _
        refine vRegion ?_
        refine oVal tt rfl rfl rfl rfl rfl trivial ?_
        obtain ⟨hg5, h⟩ := grd_inv h
        refine oVal tt rfl rfl rfl rfl rfl hg5 ?_
        refine oVal tt rfl rfl rfl rfl rfl trivial ?_
        refine vNil ?_
        change ∃ _, _
        exact ⟨((k5 + (1 : Int)), (i6 + (1 : Int))), (En.of ⟨rfl, rfl, rfl, trivial⟩ trivial trivial), h⟩
    · replace h := cnd_f hb1 h
      refine vExit ?_
      change ∃ _, _
      exact ⟨k5, (En.of ⟨rfl, trivial⟩ trivial trivial), h⟩
end Go.Proofs.Ytkpmijmlbpdknaa
