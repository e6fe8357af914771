/- Texts that the proof needs, put together: G72 G73 G75 G76 Qu Pe Pf. -/
import Derived.Test.YtkklfgcelmeccaaBGa3
import Derived.Test.YtkklfgcelmeccaaBGa4
import Derived.Test.YtkklfgcelmeccaaBGa5
set_option linter.unusedVariables false
set_option linter.unusedSimpArgs false
namespace Go.Proofs.Ytkklfgcelmeccaa
open Go.RowKit
def S_OrderOfGroups_l3 (N : Nat) (v1 : (List (List Int)) × Bool) (l1011 : List Int) (i1222 : Int) (v1244 : List Int) (k : Bool → Option ((List (List Int)) × Bool)) : Nat → (Bool × Int) → Option ((List (List Int)) × Bool)
 | 0, _ => none
 | n + 1, (ready1257, k1258) =>
  cnd (decide (k1258 < (v1244.length : Int))) (
   cnd ready1257 (
    grd (0 ≤ k1258 ∧ k1258 < (v1244.length : Int)) <|
    (S_l2Has N l1011 (v1244.getD ((k1258).toNat) 0)).bind fun v1261 =>
    cnd v1261 (
     grd (Rg64 (k1258 + (1 : Int))) <|
     S_OrderOfGroups_l3 N v1 l1011 i1222 v1244 k n (true, (k1258 + (1 : Int)))) (
     (S_l2Has N (v1.1.getD ((i1222).toNat) []) (v1244.getD ((k1258).toNat) 0)).bind fun v1262 =>
     grd (Rg64 (k1258 + (1 : Int))) <|
     S_OrderOfGroups_l3 N v1 l1011 i1222 v1244 k n (v1262, (k1258 + (1 : Int))))) (
    grd (Rg64 (k1258 + (1 : Int))) <|
    S_OrderOfGroups_l3 N v1 l1011 i1222 v1244 k n (false, (k1258 + (1 : Int))))) (
   k ready1257)
def S_OrderOfGroups_l2 (N : Nat) (p_0 : Pin) (v1 : (List (List Int)) × Bool) (v2 : (List Int) × Bool) (l1010 : List (List Int)) (l1011 : List Int) (k : ((List (List Int)) × (List Int)) → Option ((List (List Int)) × Bool)) : Nat → Int → Option ((List (List Int)) × Bool)
 | 0, _ => none
 | n + 1, i1222 =>
  cnd (decide (i1222 < (v1.1.length : Int))) (
   grd (0 ≤ i1222 ∧ i1222 < (v1.1.length : Int)) <|
   grd (0 ≤ (0 : Int) ∧ (0 : Int) < ((v1.1.getD ((i1222).toNat) []).length : Int)) <|
   (S_l2Has N l1011 ((v1.1.getD ((i1222).toNat) []).getD ((0 : Int).toNat) 0)).bind fun v1243 =>
   cnd v1243 (
    grd (Rg64 (i1222 + (1 : Int))) <|
    S_OrderOfGroups_l2 N p_0 v1 v2 l1010 l1011 k n (i1222 + (1 : Int))) (
    (S_l21Reach N p_0 v2.1 ((v1.1.getD ((i1222).toNat) []).getD ((0 : Int).toNat) 0)).bind fun v1244 =>
    S_OrderOfGroups_l3 N v1 l1011 i1222 v1244 (fun (ready1253 : Bool) =>
       cnd ready1253 (
        grd ((v1.1.getD ((i1222).toNat) []).length ≤ 4294967296) <|
        grd (l1010.length + 1 ≤ 4294967296) <|
        grd (l1011.length + (v1.1.getD ((i1222).toNat) []).length ≤ 4294967296) <|
        k ((l1010 ++ ([(([] : List Int) ++ (v1.1.getD ((i1222).toNat) []))] : List (List Int))), (l1011 ++ (v1.1.getD ((i1222).toNat) [])))) (
        grd (Rg64 (i1222 + (1 : Int))) <|
        S_OrderOfGroups_l2 N p_0 v1 v2 l1010 l1011 k n (i1222 + (1 : Int)))) N (true, (0 : Int)))) (
   k (l1010, l1011))
def S_l3Set_l1 (N : Nat) (n_0 : Int) (mask_1 : Int) (k : (List Int) → Option (List Int)) : Nat → ((List Int) × Int) → Option (List Int)
 | 0, _ => none
 | n + 1, (l5, i6) =>
  cnd (decide (i6 < n_0)) (
   grd (0 ≤ i6) <|
   cnd ((andI (shrI mask_1 i6) (1 : Int)) == (1 : Int)) (
    grd (l5.length + 1 ≤ 4294967296) <|
    grd (Rg64 (i6 + (1 : Int))) <|
    S_l3Set_l1 N n_0 mask_1 k n ((l5 ++ ([i6] : List Int)), (i6 + (1 : Int)))) (
    grd (Rg64 (i6 + (1 : Int))) <|
    S_l3Set_l1 N n_0 mask_1 k n (l5, (i6 + (1 : Int))))) (
   k l5)
def S_l3Set (N : Nat) (n_0 : Int) (mask_1 : Int) : Option (List Int) :=
 S_l3Set_l1 N n_0 mask_1 (fun (l3 : List Int) =>
    some l3) N (([] : List Int), (0 : Int))
set_option maxRecDepth 20000 in
set_option maxHeartbeats 1600000 in
theorem S_l3Set_w (N : Nat) (n_0 : Int) (mask_1 : Int) (r : List Int) (h : S_l3Set N n_0 mask_1 = some r) : PCall Try.prog 64 [.int n_0, .int mask_1] [(3, .ints r)] (.row 0 0 r.length) := by
 unfold S_l3Set at h
 refine pcall_intro (TT := TT) tt Try.func64 rfl rfl Try.ntmps64 (congrArg Array.toList Try.results64) rfl rfl fun w0 => ?_
 refine vSeq ?_
 refine vRegion ?_
 refine oVal tt rfl rfl rfl rfl rfl trivial ?_
 refine vNil ?_
 change VC _ _ _ _
 refine vSeq ?_
 refine vRegion ?_
 refine oEmpty tt (wNone rfl) rfl rfl rfl rfl ?_
 refine oVal tt rfl rfl rfl rfl rfl trivial ?_
 refine vNil ?_
 change VC _ _ _ _
 iterate 2 refine vSeq ?_
 refine vRegion ?_
 refine oVal tt rfl rfl rfl rfl rfl trivial ?_
 refine vNil ?_
 change VC _ _ _ _
 refine vJoin (F := fun k => S_l3Set_l1 N n_0 mask_1 k) h (α := List Int) (J := fun (l3 : List Int) => (⟨[(5, .row 21 0 l3.length)], [(21, some (3, .ints l3))], []⟩ : PS)) ?_ ?_
 ·rintro l3 h
  show VC _ _ _ (⟨[(5, .row 21 0 l3.length)], [(21, some (3, .ints l3))], []⟩ : PS)
  refine vSeq ?_
  refine vRegion ?_
  iterate 2 refine oVal tt rfl rfl rfl rfl rfl trivial ?_
  refine vNil ?_
  change VC _ _ _ _
  refine vRet ?_
  change ∃ _, _
  cases h
  exact ⟨[21], _, rfl, ⟨rfl, trivial⟩, rfl, (.eq rfl), rfl⟩
 ·intro k h
  refine vBlock ?_
  refine vNilT 5 21 3 (.ints []) rfl rfl rfl rfl ?_
  refine vLoopS (α := (List Int) × Int) (fun | (l5, i6) => (⟨[(0, .int n_0), (1, .int mask_1), (5, .row 21 0 l5.length), (6, .int i6)], [(21, some (3, .ints l5))], []⟩ : PS)) (S_l3Set_l1 N n_0 mask_1 k) h (En.of ⟨rfl, rfl, rfl, rfl, trivial⟩ ⟨rfl, trivial⟩ trivial) (fun _ => rfl) ?_
  rintro n ⟨l5, i6⟩ h
  rw [S_l3Set_l1] at h
  show VC _ _ _ (⟨[(0, .int n_0), (1, .int mask_1), (5, .row 21 0 l5.length), (6, .int i6)], [(21, some (3, .ints l5))], []⟩ : PS)
  iterate 2 refine vSeq ?_
  refine vRegion ?_
  iterate 3 refine oVal tt rfl rfl rfl rfl rfl trivial ?_
  refine vNil ?_
  change VC _ _ _ _
  refine vCond rfl (fun hb1 => ?_) (fun hb1 => ?_)
  ·replace h := cnd_t hb1 h
   refine vSkip ?_
   change VC _ _ _ _
   refine vSeq ?_
   refine vBlock ?_
   refine vSeq ?_
   refine vRegion ?_
   iterate 2 refine oVal tt rfl rfl rfl rfl rfl trivial ?_
   obtain ⟨hg2, h⟩ := grd_inv h
   refine oVal tt rfl rfl rfl rfl rfl hg2 ?_
   iterate 2 refine oVal tt rfl rfl rfl rfl rfl trivial ?_
   refine vNil ?_
   change VC _ _ _ _
   refine vCond rfl (fun hb3 => ?_) (fun hb3 => ?_)
   ·replace h := cnd_t hb3 h
    refine vRegion ?_
    iterate 2 refine oVal tt rfl rfl rfl rfl rfl trivial ?_
    refine oBuild tt rfl rfl rfl rfl rfl rfl rfl rfl rfl rfl rfl ?_
    obtain ⟨hg4, h⟩ := grd_inv h
    refine oAppend tt rfl rfl rfl rfl rfl rfl rfl rfl rfl rfl rfl rfl rfl rfl rfl rfl (Nat.le_of_eq (Nat.zero_add _)) hg4 ?_
    refine oVal tt rfl rfl rfl rfl rfl trivial ?_
    refine vNil ?_
    change VC _ _ _ _
    refine vRegion ?_
    refine oVal tt rfl rfl rfl rfl rfl trivial ?_
    obtain ⟨hg5, h⟩ := grd_inv h
    refine oVal tt rfl rfl rfl rfl rfl hg5 ?_
    refine oVal tt rfl rfl rfl rfl rfl trivial ?_
    refine vNil ?_
    change ∃ _, _
    exact ⟨((l5 ++ ([i6] : List Int)), (i6 + (1 : Int))), (En.of ⟨rfl, rfl, rfl, rfl, trivial⟩ ⟨rfl, trivial⟩ trivial), h⟩
   ·replace h := cnd_f hb3 h
    refine vSkip ?_
    change VC _ _ _ _
    refine vRegion ?_
    refine oVal tt rfl rfl rfl rfl rfl trivial ?_
    obtain ⟨hg6, h⟩ := grd_inv h
    refine oVal tt rfl rfl rfl rfl rfl hg6 ?_
    refine oVal tt rfl rfl rfl rfl rfl trivial ?_
    refine vNil ?_
    change ∃ _, _
    exact ⟨(l5, (i6 + (1 : Int))), (En.of ⟨rfl, rfl, rfl, rfl, trivial⟩ ⟨rfl, trivial⟩ trivial), h⟩
  ·replace h := cnd_f hb1 h
   refine vExit ?_
   change ∃ _, _
   exact ⟨l5, (En.of ⟨rfl, trivial⟩ ⟨rfl, trivial⟩ trivial), h⟩
def S_IsRange (N : Nat) (k_0 : Int) (l_1 : Int) : Option (Bool) :=
 (S_l1In N k_0 (1 : Int) (3 : Int)).bind fun v1 =>
 cnd v1 (
  cnd (decide (l_1 ≥ (0 : Int))) (
   grd (Rg64 ((2 : Int) * k_0)) <|
   some (decide (l_1 < ((2 : Int) * k_0)))) (
   some false)) (
  some false)
set_option maxRecDepth 20000 in
set_option maxHeartbeats 1600000 in
theorem S_IsRange_w (N : Nat) (k_0 : Int) (l_1 : Int) (r : Bool) (h : S_IsRange N k_0 l_1 = some r) : PCall Try.prog 163 [.int k_0, .int l_1] [] (.bool r) := by
 unfold S_IsRange at h
 refine pcall_intro (TT := TT) tt Try.func163 rfl rfl Try.ntmps163 (congrArg Array.toList Try.results163) rfl rfl fun w0 => ?_
 refine vSeq ?_
 refine vRegion ?_
 refine oVal tt rfl rfl rfl rfl rfl trivial ?_
 refine vNil ?_
 change VC _ _ _ _
 refine vSeq ?_
 refine vRegion ?_
 refine oVal tt rfl rfl rfl rfl rfl trivial ?_
 obtain ⟨v1, hc1, h⟩ := bind_inv h
 refine oCall (S_l1In_w N k_0 (1 : Int) (3 : Int) v1 hc1) rfl rfl rfl rfl rfl rfl rfl rfl ⟨rfl, rfl, rfl, trivial⟩ ?_
 refine oVal tt rfl rfl rfl rfl rfl trivial ?_
 refine oSplit rfl rfl rfl (fun hb2 => ?_) (fun hb2 => ?_)
 ·replace h := cnd_t hb2 h
  iterate 2 refine oValG tt rfl rfl rfl rfl rfl hb2 rfl rfl rfl trivial ?_
  refine oPick rfl rfl rfl rfl rfl hb2 rfl ?_
  refine oVal tt rfl rfl rfl rfl rfl trivial ?_
  refine oSplit rfl rfl rfl (fun hb3 => ?_) (fun hb3 => ?_)
  ·replace h := cnd_t hb3 h
   iterate 2 refine oValG tt rfl rfl rfl rfl rfl hb3 rfl rfl rfl trivial ?_
   obtain ⟨hg4, h⟩ := grd_inv h
   refine oValG tt rfl rfl rfl rfl rfl hb3 rfl rfl rfl hg4 ?_
   refine oValG tt rfl rfl rfl rfl rfl hb3 rfl rfl rfl trivial ?_
   refine oPick rfl rfl rfl rfl rfl hb3 rfl ?_
   refine oVal tt rfl rfl rfl rfl rfl trivial ?_
   refine vNil ?_
   change VC _ _ _ _
   refine vRet ?_
   change ∃ _, _
   cases h
   exact ⟨[], _, rfl, trivial, rfl, (.eq rfl), rfl⟩
  ·replace h := cnd_f hb3 h
   iterate 4 refine oNoT rfl rfl rfl rfl hb3 rfl rfl ?_
   refine oPickF rfl rfl rfl rfl rfl hb3 rfl ?_
   refine oVal tt rfl rfl rfl rfl rfl trivial ?_
   refine vNil ?_
   change VC _ _ _ _
   refine vRet ?_
   change ∃ _, _
   cases h
   exact ⟨[], _, rfl, trivial, rfl, (.eq rfl), rfl⟩
 ·replace h := cnd_f hb2 h
  iterate 2 refine oNoT rfl rfl rfl rfl hb2 rfl rfl ?_
  refine oPickF rfl rfl rfl rfl rfl hb2 rfl ?_
  refine oVal tt rfl rfl rfl rfl rfl trivial ?_
  iterate 4 refine oNoT rfl rfl rfl rfl rfl rfl rfl ?_
  refine oPickF rfl rfl rfl rfl rfl rfl rfl ?_
  refine oVal tt rfl rfl rfl rfl rfl trivial ?_
  refine vNil ?_
  change VC _ _ _ _
  refine vRet ?_
  change ∃ _, _
  cases h
  exact ⟨[], _, rfl, trivial, rfl, (.eq rfl), rfl⟩
def S_l4Tail_l1 (N : Nat) (p_0 : Pbl) (v_1 : Int) (k : Int → Option (Int)) : Nat → (Int × Int) → Option (Int)
 | 0, _ => none
 | n + 1, (n5, i6) =>
  cnd (decide (i6 < (p_0.tails.length : Int))) (
   grd (0 ≤ i6 ∧ i6 < (p_0.tails.length : Int)) <|
   cnd ((p_0.tails.getD ((i6).toNat) 0) == v_1) (
    grd (Rg64 (n5 + (1 : Int))) <|
    grd (Rg64 (i6 + (1 : Int))) <|
    S_l4Tail_l1 N p_0 v_1 k n ((n5 + (1 : Int)), (i6 + (1 : Int)))) (
    grd (Rg64 (i6 + (1 : Int))) <|
    S_l4Tail_l1 N p_0 v_1 k n (n5, (i6 + (1 : Int))))) (
   k n5)
def S_l4Tail (N : Nat) (p_0 : Pbl) (v_1 : Int) : Option (Int) :=
 S_l4Tail_l1 N p_0 v_1 (fun (n3 : Int) =>
    some n3) N ((0 : Int), (0 : Int))
set_option maxRecDepth 20000 in
set_option maxHeartbeats 1600000 in
theorem S_l4Tail_w (N : Nat) (p_0 : Pbl) (v_1 : Int) (r : Int) (h : S_l4Tail N p_0 v_1 = some r) : PCall Try.prog 176 [bD p_0, .int v_1] [] (.int r) := by
 unfold S_l4Tail at h
 refine pcall_intro (TT := TT) tt Try.func176 rfl rfl Try.ntmps176 (congrArg Array.toList Try.results176) rfl rfl fun w0 => ?_
 refine vSeq ?_
 refine vRegion ?_
 refine oBox rfl rfl rfl rfl rfl rfl rfl rfl rfl ?_
 refine oVal tt rfl rfl rfl rfl rfl trivial ?_
 refine vNil ?_
 change VC _ _ _ _
 refine vSeq ?_
 refine vRegion ?_
 refine oVal tt rfl rfl rfl rfl rfl trivial ?_
 refine vNil ?_
 change VC _ _ _ _
 iterate 2 refine vSeq ?_
 refine vRegion ?_
 refine oVal tt rfl rfl rfl rfl rfl trivial ?_
 refine vNil ?_
 change VC _ _ _ _
 refine vJoin (F := fun k => S_l4Tail_l1 N p_0 v_1 k) h (α := Int) (J := fun (n3 : Int) => (⟨[(5, .int n3)], [], []⟩ : PS)) ?_ ?_
 ·rintro n3 h
  show VC _ _ _ (⟨[(5, .int n3)], [], []⟩ : PS)
  refine vSeq ?_
  refine vRegion ?_
  iterate 2 refine oVal tt rfl rfl rfl rfl rfl trivial ?_
  refine vNil ?_
  change VC _ _ _ _
  refine vRet ?_
  change ∃ _, _
  cases h
  exact ⟨[], _, rfl, trivial, rfl, (.eq rfl), rfl⟩
 ·intro k h
  refine vBlock ?_
  refine vLoopS (α := Int × Int) (fun | (n5, i6) => (⟨[(1, .int v_1), (2, .ptr 2 0), (5, .int n5), (6, .int i6)], [], [(2, some [.ro false (.ints p_0.free), .ro false (.ints p_0.tails), .ro false (.ints p_0.placed)])]⟩ : PS)) (S_l4Tail_l1 N p_0 v_1 k) h (En.of ⟨rfl, rfl, rfl, rfl, trivial⟩ trivial ⟨rfl, trivial⟩) (fun _ => rfl) ?_
  rintro n ⟨n5, i6⟩ h
  rw [S_l4Tail_l1] at h
  show VC _ _ _ (⟨[(1, .int v_1), (2, .ptr 2 0), (5, .int n5), (6, .int i6)], [], [(2, some [.ro false (.ints p_0.free), .ro false (.ints p_0.tails), .ro false (.ints p_0.placed)])]⟩ : PS)
  iterate 2 refine vSeq ?_
  refine vRegion ?_
  iterate 5 refine oVal tt rfl rfl rfl rfl rfl trivial ?_
  refine vNil ?_
  change VC _ _ _ _
  refine vCond rfl (fun hb1 => ?_) (fun hb1 => ?_)
  ·replace h := cnd_t hb1 h
   refine vSkip ?_
   change VC _ _ _ _
   refine vSeq ?_
   refine vBlock ?_
   refine vSeq ?_
   refine vRegion ?_
   iterate 3 refine oVal tt rfl rfl rfl rfl rfl trivial ?_
   obtain ⟨hg2, h⟩ := grd_inv h
   refine oVal tt rfl rfl rfl rfl rfl hg2 ?_
   iterate 3 refine oVal tt rfl rfl rfl rfl rfl trivial ?_
   refine vNil ?_
   change VC _ _ _ _
   refine vCond rfl (fun hb3 => ?_) (fun hb3 => ?_)
   ·replace h := cnd_t hb3 h
    refine vRegion ?_
    refine oVal tt rfl rfl rfl rfl rfl trivial ?_
    obtain ⟨hg4, h⟩ := grd_inv h
    refine oVal tt rfl rfl rfl rfl rfl hg4 ?_
    refine oVal tt rfl rfl rfl rfl rfl trivial ?_
    refine vNil ?_
    change VC _ _ _ _
    refine vRegion ?_
    refine oVal tt rfl rfl rfl rfl rfl trivial ?_
    obtain ⟨hg5, h⟩ := grd_inv h
    refine oVal tt rfl rfl rfl rfl rfl hg5 ?_
    refine oVal tt rfl rfl rfl rfl rfl trivial ?_
    refine vNil ?_
    change ∃ _, _
    exact ⟨((n5 + (1 : Int)), (i6 + (1 : Int))), (En.of ⟨rfl, rfl, rfl, rfl, trivial⟩ trivial ⟨rfl, trivial⟩), h⟩
   ·replace h := cnd_f hb3 h
    refine vSkip ?_
    change VC _ _ _ _
    refine vRegion ?_
    refine oVal tt rfl rfl rfl rfl rfl trivial ?_
    obtain ⟨hg6, h⟩ := grd_inv h
    refine oVal tt rfl rfl rfl rfl rfl hg6 ?_
    refine oVal tt rfl rfl rfl rfl rfl trivial ?_
    refine vNil ?_
    change ∃ _, _
    exact ⟨(n5, (i6 + (1 : Int))), (En.of ⟨rfl, rfl, rfl, rfl, trivial⟩ trivial ⟨rfl, trivial⟩), h⟩
  ·replace h := cnd_f hb1 h
   refine vExit ?_
   change ∃ _, _
   exact ⟨n5, (En.of ⟨rfl, trivial⟩ trivial trivial), h⟩
def S_IsPebbles_l1 (N : Nat) (g_0 : Grf) (k_1 : Int) (p_2 : Pbl) (k : Unit → Option (Bool)) : Nat → Int → Option (Bool)
 | 0, _ => none
 | n + 1, v10 =>
  cnd (decide (v10 < g_0.n)) (
   grd (0 ≤ v10 ∧ v10 < (p_2.free.length : Int)) <|
   cnd (decide ((p_2.free.getD ((v10).toNat) 0) < (0 : Int))) (
    some false) (
    (S_l4Tail N p_2 v10).bind fun v12 =>
    grd (Rg64 ((p_2.free.getD ((v10).toNat) 0) + v12)) <|
    cnd (((p_2.free.getD ((v10).toNat) 0) + v12) != k_1) (
     some false) (
     grd (Rg64 (v10 + (1 : Int))) <|
     S_IsPebbles_l1 N g_0 k_1 p_2 k n (v10 + (1 : Int))))) (
   k ())
def S_IsPebbles_l2 (N : Nat) (g_0 : Grf) (p_2 : Pbl) (k : Unit → Option (Bool)) : Nat → Int → Option (Bool)
 | 0, _ => none
 | n + 1, i14 =>
  cnd (decide (i14 < (p_2.placed.length : Int))) (
   grd (0 ≤ i14 ∧ i14 < (p_2.placed.length : Int)) <|
   cnd (decide ((p_2.placed.getD ((i14).toNat) 0) < (0 : Int))) (
    some false) (
    cnd (decide ((p_2.placed.getD ((i14).toNat) 0) ≥ (g_0.bars.length : Int))) (
     some false) (
     cnd (decide (i14 > (0 : Int))) (
      grd (Rg64 (i14 - (1 : Int))) <|
      grd (0 ≤ (i14 - (1 : Int)) ∧ (i14 - (1 : Int)) < (p_2.placed.length : Int)) <|
      cnd (decide ((p_2.placed.getD (((i14 - (1 : Int))).toNat) 0) ≥ (p_2.placed.getD ((i14).toNat) 0))) (
       some false) (
       grd (0 ≤ i14 ∧ i14 < (p_2.tails.length : Int)) <|
       grd (0 ≤ (p_2.placed.getD ((i14).toNat) 0) ∧ (p_2.placed.getD ((i14).toNat) 0) < (g_0.bars.length : Int)) <|
       cnd ((p_2.tails.getD ((i14).toNat) 0) != ((g_0.bars.getD (((p_2.placed.getD ((i14).toNat) 0)).toNat) (0, 0)).1)) (
        cnd ((p_2.tails.getD ((i14).toNat) 0) != ((g_0.bars.getD (((p_2.placed.getD ((i14).toNat) 0)).toNat) (0, 0)).2)) (
         some false) (
         grd (Rg64 (i14 + (1 : Int))) <|
         S_IsPebbles_l2 N g_0 p_2 k n (i14 + (1 : Int)))) (
        grd (Rg64 (i14 + (1 : Int))) <|
        S_IsPebbles_l2 N g_0 p_2 k n (i14 + (1 : Int))))) (
      grd (0 ≤ i14 ∧ i14 < (p_2.tails.length : Int)) <|
      grd (0 ≤ (p_2.placed.getD ((i14).toNat) 0) ∧ (p_2.placed.getD ((i14).toNat) 0) < (g_0.bars.length : Int)) <|
      cnd ((p_2.tails.getD ((i14).toNat) 0) != ((g_0.bars.getD (((p_2.placed.getD ((i14).toNat) 0)).toNat) (0, 0)).1)) (
       cnd ((p_2.tails.getD ((i14).toNat) 0) != ((g_0.bars.getD (((p_2.placed.getD ((i14).toNat) 0)).toNat) (0, 0)).2)) (
        some false) (
        grd (Rg64 (i14 + (1 : Int))) <|
        S_IsPebbles_l2 N g_0 p_2 k n (i14 + (1 : Int)))) (
       grd (Rg64 (i14 + (1 : Int))) <|
       S_IsPebbles_l2 N g_0 p_2 k n (i14 + (1 : Int))))))) (
   k ())
def S_IsPebbles (N : Nat) (g_0 : Grf) (k_1 : Int) (p_2 : Pbl) : Option (Bool) :=
 (S_IsGraph N g_0).bind fun v1 =>
 cnd (!v1) (
  some false) (
  (S_l1In N k_1 (1 : Int) (3 : Int)).bind fun v2 =>
  cnd (!v2) (
   some false) (
   cnd ((p_2.free.length : Int) != g_0.n) (
    some false) (
    cnd ((p_2.tails.length : Int) != (p_2.placed.length : Int)) (
     some false) (
     S_IsPebbles_l2 N g_0 p_2 (fun (_ : Unit) =>
        S_IsPebbles_l1 N g_0 k_1 p_2 (fun (_ : Unit) =>
           some true) N (0 : Int)) N (0 : Int)))))
set_option maxRecDepth 20000 in
set_option maxHeartbeats 1600000 in
theorem S_IsPebbles_w (N : Nat) (g_0 : Grf) (k_1 : Int) (p_2 : Pbl) (r : Bool) (h : S_IsPebbles N g_0 k_1 p_2 = some r) : PCall Try.prog 171 [gD g_0, .int k_1, bD p_2] [] (.bool r) := by
 unfold S_IsPebbles at h
 refine pcall_intro (TT := TT) tt Try.func171 rfl rfl Try.ntmps171 (congrArg Array.toList Try.results171) rfl rfl fun w0 => ?_
 refine vSeq ?_
 refine vRegion ?_
 iterate 2 refine oBox rfl rfl rfl rfl rfl rfl rfl rfl rfl ?_
 refine oVal tt rfl rfl rfl rfl rfl trivial ?_
 refine vNil ?_
 change VC _ _ _ _
 iterate 2 refine vSeq ?_
 refine vRegion ?_
 refine oVal tt rfl rfl rfl rfl rfl trivial ?_
 obtain ⟨v1, hc1, h⟩ := bind_inv h
 refine oCall (S_IsGraph_w N g_0 v1 hc1) rfl rfl rfl rfl rfl rfl rfl rfl ⟨⟨rfl, rfl, trivial⟩, trivial⟩ ?_
 iterate 2 refine oVal tt rfl rfl rfl rfl rfl trivial ?_
 refine oSplit rfl rfl rfl (fun hb2 => ?_) (fun hb2 => ?_)
 ·replace h := cnd_t hb2 h
  iterate 3 refine oNoF rfl rfl rfl rfl hb2 rfl rfl ?_
  refine oPick rfl rfl rfl rfl rfl hb2 rfl ?_
  refine oVal tt rfl rfl rfl rfl rfl trivial ?_
  iterate 6 refine oNoF rfl rfl rfl rfl rfl rfl rfl ?_
  refine oPick rfl rfl rfl rfl rfl rfl rfl ?_
  refine oVal tt rfl rfl rfl rfl rfl trivial ?_
  iterate 7 refine oNoF rfl rfl rfl rfl rfl rfl rfl ?_
  refine oPick rfl rfl rfl rfl rfl rfl rfl ?_
  refine vNil ?_
  change VC _ _ _ _
  refine vCondT rfl rfl ?_
  refine vSeq ?_
  refine vRegion ?_
  refine oVal tt rfl rfl rfl rfl rfl trivial ?_
  refine vNil ?_
  change VC _ _ _ _
  refine vRet ?_
  change ∃ _, _
  cases h
  exact ⟨[], _, rfl, trivial, rfl, (.eq rfl), rfl⟩
 ·replace h := cnd_f hb2 h
  refine oValG tt rfl rfl rfl rfl rfl hb2 rfl rfl rfl trivial ?_
  obtain ⟨v2, hc3, h⟩ := bind_inv h
  refine oCallG (S_l1In_w N k_1 (1 : Int) (3 : Int) v2 hc3) rfl rfl rfl rfl hb2 rfl rfl rfl rfl rfl rfl rfl ⟨rfl, rfl, rfl, trivial⟩ ?_
  refine oValG tt rfl rfl rfl rfl rfl hb2 rfl rfl rfl trivial ?_
  refine oPickF rfl rfl rfl rfl rfl hb2 rfl ?_
  refine oVal tt rfl rfl rfl rfl rfl trivial ?_
  refine oSplit rfl rfl rfl (fun hb4 => ?_) (fun hb4 => ?_)
  ·replace h := cnd_t hb4 h
   iterate 6 refine oNoF rfl rfl rfl rfl hb4 rfl rfl ?_
   refine oPick rfl rfl rfl rfl rfl hb4 rfl ?_
   refine oVal tt rfl rfl rfl rfl rfl trivial ?_
   iterate 7 refine oNoF rfl rfl rfl rfl rfl rfl rfl ?_
   refine oPick rfl rfl rfl rfl rfl rfl rfl ?_
   refine vNil ?_
   change VC _ _ _ _
   refine vCondT rfl rfl ?_
   refine vSeq ?_
   refine vRegion ?_
   refine oVal tt rfl rfl rfl rfl rfl trivial ?_
   refine vNil ?_
   change VC _ _ _ _
   refine vRet ?_
   change ∃ _, _
   cases h
   exact ⟨[], _, rfl, trivial, rfl, (.eq rfl), rfl⟩
  ·replace h := cnd_f hb4 h
   iterate 6 refine oValG tt rfl rfl rfl rfl rfl hb4 rfl rfl rfl trivial ?_
   refine oPickF rfl rfl rfl rfl rfl hb4 rfl ?_
   refine oVal tt rfl rfl rfl rfl rfl trivial ?_
   refine oSplit rfl rfl rfl (fun hb5 => ?_) (fun hb5 => ?_)
   ·replace h := cnd_t hb5 h
    iterate 7 refine oNoF rfl rfl rfl rfl hb5 rfl rfl ?_
    refine oPick rfl rfl rfl rfl rfl hb5 rfl ?_
    refine vNil ?_
    change VC _ _ _ _
    refine vCondT rfl rfl ?_
    refine vSeq ?_
    refine vRegion ?_
    refine oVal tt rfl rfl rfl rfl rfl trivial ?_
    refine vNil ?_
    change VC _ _ _ _
    refine vRet ?_
    change ∃ _, _
    cases h
    exact ⟨[], _, rfl, trivial, rfl, (.eq rfl), rfl⟩
   ·replace h := cnd_f hb5 h
    iterate 7 refine oValG tt rfl rfl rfl rfl rfl hb5 rfl rfl rfl trivial ?_
    refine oPickF rfl rfl rfl rfl rfl hb5 rfl ?_
    refine vNil ?_
    change VC _ _ _ _
    refine vCond rfl (fun hb6 => ?_) (fun hb6 => ?_)
    ·replace h := cnd_t hb6 h
     refine vSeq ?_
     refine vRegion ?_
     refine oVal tt rfl rfl rfl rfl rfl trivial ?_
     refine vNil ?_
     change VC _ _ _ _
     refine vRet ?_
     change ∃ _, _
     cases h
     exact ⟨[], _, rfl, trivial, rfl, (.eq rfl), rfl⟩
    ·replace h := cnd_f hb6 h
     refine vSkip ?_
     change VC _ _ _ _
     iterate 2 refine vSeq ?_
     refine vRegion ?_
     refine oVal tt rfl rfl rfl rfl rfl trivial ?_
     refine vNil ?_
     change VC _ _ _ _
     refine vJoin (F := fun k => S_IsPebbles_l2 N g_0 p_2 k) h (α := Unit) (J := fun (_ : Unit) => (⟨[(1, .int k_1), (3, .ptr 3 0), (5, .ptr 5 0)], [], [(3, some [.int g_0.n, .ro false (.pairs g_0.bars)]), (5, some [.ro false (.ints p_2.free), .ro false (.ints p_2.tails), .ro false (.ints p_2.placed)])]⟩ : PS)) ?_ ?_
     ·rintro ⟨⟩ h
      show VC _ _ _ (⟨[(1, .int k_1), (3, .ptr 3 0), (5, .ptr 5 0)], [], [(3, some [.int g_0.n, .ro false (.pairs g_0.bars)]), (5, some [.ro false (.ints p_2.free), .ro false (.ints p_2.tails), .ro false (.ints p_2.placed)])]⟩ : PS)
      iterate 2 refine vSeq ?_
      refine vRegion ?_
      refine oVal tt rfl rfl rfl rfl rfl trivial ?_
      refine vNil ?_
      change VC _ _ _ _
      refine vJoin (F := fun k => S_IsPebbles_l1 N g_0 k_1 p_2 k) h (α := Unit) (J := fun (_ : Unit) => (⟨[], [], []⟩ : PS)) ?_ ?_
      ·rintro ⟨⟩ h
       show VC _ _ _ (⟨[], [], []⟩ : PS)
       refine vSeq ?_
       refine vRegion ?_
       refine oVal tt rfl rfl rfl rfl rfl trivial ?_
       refine vNil ?_
       change VC _ _ _ _
       refine vRet ?_
       change ∃ _, _
       cases h
       exact ⟨[], _, rfl, trivial, rfl, (.eq rfl), rfl⟩
      ·intro k h
       refine vBlock ?_
       refine vLoopS (α := Int) (fun (v10 : Int) => (⟨[(1, .int k_1), (3, .ptr 3 0), (5, .ptr 5 0), (9, .int v10)], [], [(3, some [.int g_0.n, .ro false (.pairs g_0.bars)]), (5, some [.ro false (.ints p_2.free), .ro false (.ints p_2.tails), .ro false (.ints p_2.placed)])]⟩ : PS)) (S_IsPebbles_l1 N g_0 k_1 p_2 k) h (En.of ⟨rfl, rfl, rfl, rfl, trivial⟩ trivial ⟨rfl, rfl, trivial⟩) (fun _ => rfl) ?_
       rintro n v10 h
       rw [S_IsPebbles_l1] at h
       show VC _ _ _ (⟨[(1, .int k_1), (3, .ptr 3 0), (5, .ptr 5 0), (9, .int v10)], [], [(3, some [.int g_0.n, .ro false (.pairs g_0.bars)]), (5, some [.ro false (.ints p_2.free), .ro false (.ints p_2.tails), .ro false (.ints p_2.placed)])]⟩ : PS)
       iterate 2 refine vSeq ?_
       refine vRegion ?_
       iterate 4 refine oVal tt rfl rfl rfl rfl rfl trivial ?_
       refine vNil ?_
       change VC _ _ _ _
       refine vCond rfl (fun hb7 => ?_) (fun hb7 => ?_)
       ·replace h := cnd_t hb7 h
        refine vSkip ?_
        change VC _ _ _ _
        refine vSeq ?_
        refine vBlock ?_
        refine vSeq ?_
        refine vRegionD (by kernel_rfl) (by kernel_rfl) ?_
        iterate 3 refine cVal tt rfl (wNone rfl) rfl rfl rfl trivial ?_
        obtain ⟨hg8, h⟩ := grd_inv h
        refine cVal tt rfl (wNone rfl) rfl rfl rfl hg8 ?_
        iterate 3 refine cVal tt rfl (wNone rfl) rfl rfl rfl trivial ?_
        refine cSplit rfl rfl rfl (fun hb9 => ?_) (fun hb9 => ?_)
        ·replace h := cnd_t hb9 h
         iterate 11 refine cNoF rfl rfl rfl rfl hb9 rfl rfl ?_
         refine cPickT rfl (wNone rfl) rfl rfl rfl hb9 rfl ?_
         refine cNil ?_
         change VC _ _ _ _
         refine vCondT rfl rfl ?_
         refine vSeq ?_
         refine vRegion ?_
         refine oVal tt rfl rfl rfl rfl rfl trivial ?_
         refine vNil ?_
         change VC _ _ _ _
         refine vRet ?_
         change ∃ _, _
         cases h
         exact ⟨[], _, rfl, trivial, rfl, (.eq rfl), rfl⟩
        ·replace h := cnd_f hb9 h
         iterate 3 refine cVal tt rfl (wSome rfl rfl rfl rfl hb9) rfl rfl rfl trivial ?_
         refine cVal tt rfl (wSome rfl rfl rfl rfl hb9) rfl rfl rfl hg8 ?_
         iterate 3 refine cVal tt rfl (wSome rfl rfl rfl rfl hb9) rfl rfl rfl trivial ?_
         obtain ⟨v12, hc10, h⟩ := bind_inv h
         refine cCall (S_l4Tail_w N p_2 v10 v12 hc10) rfl (wSome rfl rfl rfl rfl hb9) rfl rfl rfl rfl rfl rfl ⟨⟨rfl, rfl, rfl, trivial⟩, rfl, trivial⟩ ?_
         obtain ⟨hg11, h⟩ := grd_inv h
         refine cVal tt rfl (wSome rfl rfl rfl rfl hb9) rfl rfl rfl hg11 ?_
         iterate 2 refine cVal tt rfl (wSome rfl rfl rfl rfl hb9) rfl rfl rfl trivial ?_
         refine cPickF rfl (wNone rfl) rfl rfl rfl hb9 rfl ?_
         refine cNil ?_
         change VC _ _ _ _
         refine vCond rfl (fun hb12 => ?_) (fun hb12 => ?_)
         ·replace h := cnd_t hb12 h
          refine vSeq ?_
          refine vRegion ?_
          refine oVal tt rfl rfl rfl rfl rfl trivial ?_
          refine vNil ?_
          change VC _ _ _ _
          refine vRet ?_
          change ∃ _, _
          cases h
          exact ⟨[], _, rfl, trivial, rfl, (.eq rfl), rfl⟩
         ·replace h := cnd_f hb12 h
          refine vSkip ?_
          change VC _ _ _ _
          refine vRegion ?_
          refine oVal tt rfl rfl rfl rfl rfl trivial ?_
          obtain ⟨hg13, h⟩ := grd_inv h
          refine oVal tt rfl rfl rfl rfl rfl hg13 ?_
          refine oVal tt rfl rfl rfl rfl rfl trivial ?_
          refine vNil ?_
          change ∃ _, _
          exact ⟨(v10 + (1 : Int)), (En.of ⟨rfl, rfl, rfl, rfl, trivial⟩ trivial ⟨rfl, rfl, trivial⟩), h⟩
       ·replace h := cnd_f hb7 h
        refine vExit ?_
        change ∃ _, _
        exact ⟨(), (En.of trivial trivial trivial), h⟩
     ·intro k h
      refine vBlock ?_
      refine vLoopS (α := Int) (fun (i14 : Int) => (⟨[(1, .int k_1), (3, .ptr 3 0), (5, .ptr 5 0), (7, .int i14)], [], [(3, some [.int g_0.n, .ro false (.pairs g_0.bars)]), (5, some [.ro false (.ints p_2.free), .ro false (.ints p_2.tails), .ro false (.ints p_2.placed)])]⟩ : PS)) (S_IsPebbles_l2 N g_0 p_2 k) h (En.of ⟨rfl, rfl, rfl, rfl, trivial⟩ trivial ⟨rfl, rfl, trivial⟩) (fun _ => rfl) ?_
      rintro n i14 h
      rw [S_IsPebbles_l2] at h
      show VC _ _ _ (⟨[(1, .int k_1), (3, .ptr 3 0), (5, .ptr 5 0), (7, .int i14)], [], [(3, some [.int g_0.n, .ro false (.pairs g_0.bars)]), (5, some [.ro false (.ints p_2.free), .ro false (.ints p_2.tails), .ro false (.ints p_2.placed)])]⟩ : PS)
      iterate 2 refine vSeq ?_
      refine vRegion ?_
      iterate 5 refine oVal tt rfl rfl rfl rfl rfl trivial ?_
      refine vNil ?_
      change VC _ _ _ _
      refine vCond rfl (fun hb14 => ?_) (fun hb14 => ?_)
      ·replace h := cnd_t hb14 h
       refine vSkip ?_
       change VC _ _ _ _
       refine vSeq ?_
       refine vBlock ?_
       refine vSeq ?_
       refine vRegion ?_
       iterate 3 refine oVal tt rfl rfl rfl rfl rfl trivial ?_
       obtain ⟨hg15, h⟩ := grd_inv h
       refine oVal tt rfl rfl rfl rfl rfl hg15 ?_
       iterate 2 refine oVal tt rfl rfl rfl rfl rfl trivial ?_
       refine vNil ?_
       change VC _ _ _ _
       refine vSeq ?_
       refine vRegionD (by kernel_rfl) (by kernel_rfl) ?_
       iterate 3 refine cVal tt rfl (wNone rfl) rfl rfl rfl trivial ?_
       refine cSplit rfl rfl rfl (fun hb16 => ?_) (fun hb16 => ?_)
       ·replace h := cnd_t hb16 h
        iterate 5 refine cNoF rfl rfl rfl rfl hb16 rfl rfl ?_
        refine cPickT rfl (wNone rfl) rfl rfl rfl hb16 rfl ?_
        refine cVal tt rfl (wNone rfl) rfl rfl rfl trivial ?_
        iterate 3 refine cNoF rfl rfl rfl rfl rfl rfl rfl ?_
        iterate 8 refine cNoU rfl rfl rfl rfl rfl ?_
        refine cNoF rfl rfl rfl rfl rfl rfl rfl ?_
        refine cPickT rfl (wNone rfl) rfl rfl rfl rfl rfl ?_
        refine cVal tt rfl (wNone rfl) rfl rfl rfl trivial ?_
        iterate 13 refine cNoF rfl rfl rfl rfl rfl rfl rfl ?_
        iterate 12 refine cNoU rfl rfl rfl rfl rfl ?_
        refine cNoF rfl rfl rfl rfl rfl rfl rfl ?_
        refine cPickT rfl (wNone rfl) rfl rfl rfl rfl rfl ?_
        refine cNil ?_
        change VC _ _ _ _
        refine vCondT rfl rfl ?_
        refine vSeq ?_
        refine vRegion ?_
        refine oVal tt rfl rfl rfl rfl rfl trivial ?_
        refine vNil ?_
        change VC _ _ _ _
        refine vRet ?_
        change ∃ _, _
        cases h
        exact ⟨[], _, rfl, trivial, rfl, (.eq rfl), rfl⟩
       ·replace h := cnd_f hb16 h
        iterate 5 refine cVal tt rfl (wSome rfl rfl rfl rfl hb16) rfl rfl rfl trivial ?_
        refine cPickF rfl (wNone rfl) rfl rfl rfl hb16 rfl ?_
        refine cVal tt rfl (wNone rfl) rfl rfl rfl trivial ?_
        refine cSplit rfl rfl rfl (fun hb17 => ?_) (fun hb17 => ?_)
        ·replace h := cnd_t hb17 h
         iterate 3 refine cNoF rfl rfl rfl rfl hb17 rfl rfl ?_
         iterate 8 refine cNoU rfl rfl rfl rfl rfl ?_
         refine cNoF rfl rfl rfl rfl hb17 rfl rfl ?_
         refine cPickT rfl (wNone rfl) rfl rfl rfl hb17 rfl ?_
         refine cVal tt rfl (wNone rfl) rfl rfl rfl trivial ?_
         iterate 13 refine cNoF rfl rfl rfl rfl rfl rfl rfl ?_
         iterate 12 refine cNoU rfl rfl rfl rfl rfl ?_
         refine cNoF rfl rfl rfl rfl rfl rfl rfl ?_
         refine cPickT rfl (wNone rfl) rfl rfl rfl rfl rfl ?_
         refine cNil ?_
         change VC _ _ _ _
         refine vCondT rfl rfl ?_
         refine vSeq ?_
         refine vRegion ?_
         refine oVal tt rfl rfl rfl rfl rfl trivial ?_
         refine vNil ?_
         change VC _ _ _ _
         refine vRet ?_
         change ∃ _, _
         cases h
         exact ⟨[], _, rfl, trivial, rfl, (.eq rfl), rfl⟩
        ·replace h := cnd_f hb17 h
         iterate 3 refine cVal tt rfl (wSome rfl rfl rfl rfl hb17) rfl rfl rfl trivial ?_
         refine cSplit rfl rfl rfl (fun hb18 => ?_) (fun hb18 => ?_)
         ·replace h := cnd_t hb18 h
          iterate 3 refine cVal tt rfl (wSome rfl rfl rfl rfl hb18) rfl rfl rfl trivial ?_
          obtain ⟨hg19, h⟩ := grd_inv h
          refine cVal tt rfl (wSome rfl rfl rfl rfl hb18) rfl rfl rfl hg19 ?_
          obtain ⟨hg20, h⟩ := grd_inv h
          refine cVal tt rfl (wSome rfl rfl rfl rfl hb18) rfl rfl rfl hg20 ?_
          iterate 3 refine cVal tt rfl (wSome rfl rfl rfl rfl hb18) rfl rfl rfl trivial ?_
          refine cPickT rfl (wSome rfl rfl rfl rfl hb17) rfl rfl rfl hb18 rfl ?_
          refine cPickF rfl (wNone rfl) rfl rfl rfl hb17 rfl ?_
          refine cVal tt rfl (wNone rfl) rfl rfl rfl trivial ?_
          refine cSplit rfl rfl rfl (fun hb21 => ?_) (fun hb21 => ?_)
          ·replace h := cnd_t hb21 h
           iterate 13 refine cNoF rfl rfl rfl rfl hb21 rfl rfl ?_
           iterate 12 refine cNoU rfl rfl rfl rfl rfl ?_
           refine cNoF rfl rfl rfl rfl hb21 rfl rfl ?_
           refine cPickT rfl (wNone rfl) rfl rfl rfl hb21 rfl ?_
           refine cNil ?_
           change VC _ _ _ _
           refine vCondT rfl rfl ?_
           refine vSeq ?_
           refine vRegion ?_
           refine oVal tt rfl rfl rfl rfl rfl trivial ?_
           refine vNil ?_
           change VC _ _ _ _
           refine vRet ?_
           change ∃ _, _
           cases h
           exact ⟨[], _, rfl, trivial, rfl, (.eq rfl), rfl⟩
          ·replace h := cnd_f hb21 h
           iterate 3 refine cVal tt rfl (wSome rfl rfl rfl rfl hb21) rfl rfl rfl trivial ?_
           obtain ⟨hg22, h⟩ := grd_inv h
           refine cVal tt rfl (wSome rfl rfl rfl rfl hb21) rfl rfl rfl hg22 ?_
           iterate 4 refine cVal tt rfl (wSome rfl rfl rfl rfl hb21) rfl rfl rfl trivial ?_
           obtain ⟨hg23, h⟩ := grd_inv h
           refine cVal tt rfl (wSome rfl rfl rfl rfl hb21) rfl rfl rfl hg23 ?_
           iterate 4 refine cVal tt rfl (wSome rfl rfl rfl rfl hb21) rfl rfl rfl trivial ?_
           refine cSplit rfl rfl rfl (fun hb24 => ?_) (fun hb24 => ?_)
           ·replace h := cnd_t hb24 h
            iterate 3 refine cVal tt rfl (wSome rfl rfl rfl rfl hb24) rfl rfl rfl trivial ?_
            refine cVal tt rfl (wSome rfl rfl rfl rfl hb24) rfl rfl rfl hg22 ?_
            iterate 4 refine cVal tt rfl (wSome rfl rfl rfl rfl hb24) rfl rfl rfl trivial ?_
            refine cVal tt rfl (wSome rfl rfl rfl rfl hb24) rfl rfl rfl hg23 ?_
            iterate 3 refine cVal tt rfl (wSome rfl rfl rfl rfl hb24) rfl rfl rfl trivial ?_
            refine cPickT rfl (wSome rfl rfl rfl rfl hb21) rfl rfl rfl hb24 rfl ?_
            refine cPickF rfl (wNone rfl) rfl rfl rfl hb21 rfl ?_
            refine cNil ?_
            change VC _ _ _ _
            refine vCond rfl (fun hb25 => ?_) (fun hb25 => ?_)
            ·replace h := cnd_t hb25 h
             refine vSeq ?_
             refine vRegion ?_
             refine oVal tt rfl rfl rfl rfl rfl trivial ?_
             refine vNil ?_
             change VC _ _ _ _
             refine vRet ?_
             change ∃ _, _
             cases h
             exact ⟨[], _, rfl, trivial, rfl, (.eq rfl), rfl⟩
            ·replace h := cnd_f hb25 h
             refine vSkip ?_
             change VC _ _ _ _
             refine vRegion ?_
             refine oVal tt rfl rfl rfl rfl rfl trivial ?_
             obtain ⟨hg26, h⟩ := grd_inv h
             refine oVal tt rfl rfl rfl rfl rfl hg26 ?_
             refine oVal tt rfl rfl rfl rfl rfl trivial ?_
             refine vNil ?_
             change ∃ _, _
             exact ⟨(i14 + (1 : Int)), (En.of ⟨rfl, rfl, rfl, rfl, trivial⟩ trivial ⟨rfl, rfl, trivial⟩), h⟩
           ·replace h := cnd_f hb24 h
            iterate 12 refine cNoT rfl rfl rfl rfl hb24 rfl rfl ?_
            refine cPickF rfl (wSome rfl rfl rfl rfl hb21) rfl rfl rfl hb24 rfl ?_
            refine cPickF rfl (wNone rfl) rfl rfl rfl hb21 rfl ?_
            refine cNil ?_
            change VC _ _ _ _
            refine vCondF rfl rfl ?_
            refine vSkip ?_
            change VC _ _ _ _
            refine vRegion ?_
            refine oVal tt rfl rfl rfl rfl rfl trivial ?_
            obtain ⟨hg27, h⟩ := grd_inv h
            refine oVal tt rfl rfl rfl rfl rfl hg27 ?_
            refine oVal tt rfl rfl rfl rfl rfl trivial ?_
            refine vNil ?_
            change ∃ _, _
            exact ⟨(i14 + (1 : Int)), (En.of ⟨rfl, rfl, rfl, rfl, trivial⟩ trivial ⟨rfl, rfl, trivial⟩), h⟩
         ·replace h := cnd_f hb18 h
          iterate 8 refine cNoT rfl rfl rfl rfl hb18 rfl rfl ?_
          refine cPickF rfl (wSome rfl rfl rfl rfl hb17) rfl rfl rfl hb18 rfl ?_
          refine cPickF rfl (wNone rfl) rfl rfl rfl hb17 rfl ?_
          refine cVal tt rfl (wNone rfl) rfl rfl rfl trivial ?_
          iterate 3 refine cVal tt rfl (wSome rfl rfl rfl rfl rfl) rfl rfl rfl trivial ?_
          obtain ⟨hg28, h⟩ := grd_inv h
          refine cVal tt rfl (wSome rfl rfl rfl rfl rfl) rfl rfl rfl hg28 ?_
          iterate 4 refine cVal tt rfl (wSome rfl rfl rfl rfl rfl) rfl rfl rfl trivial ?_
          obtain ⟨hg29, h⟩ := grd_inv h
          refine cVal tt rfl (wSome rfl rfl rfl rfl rfl) rfl rfl rfl hg29 ?_
          iterate 4 refine cVal tt rfl (wSome rfl rfl rfl rfl rfl) rfl rfl rfl trivial ?_
          refine cSplit rfl rfl rfl (fun hb30 => ?_) (fun hb30 => ?_)
          ·replace h := cnd_t hb30 h
           iterate 3 refine cVal tt rfl (wSome rfl rfl rfl rfl hb30) rfl rfl rfl trivial ?_
           refine cVal tt rfl (wSome rfl rfl rfl rfl hb30) rfl rfl rfl hg28 ?_
           iterate 4 refine cVal tt rfl (wSome rfl rfl rfl rfl hb30) rfl rfl rfl trivial ?_
           refine cVal tt rfl (wSome rfl rfl rfl rfl hb30) rfl rfl rfl hg29 ?_
           iterate 3 refine cVal tt rfl (wSome rfl rfl rfl rfl hb30) rfl rfl rfl trivial ?_
           refine cPickT rfl (wSome rfl rfl rfl rfl rfl) rfl rfl rfl hb30 rfl ?_
           refine cPickF rfl (wNone rfl) rfl rfl rfl rfl rfl ?_
           refine cNil ?_
           change VC _ _ _ _
           refine vCond rfl (fun hb31 => ?_) (fun hb31 => ?_)
           ·replace h := cnd_t hb31 h
            refine vSeq ?_
            refine vRegion ?_
            refine oVal tt rfl rfl rfl rfl rfl trivial ?_
            refine vNil ?_
            change VC _ _ _ _
            refine vRet ?_
            change ∃ _, _
            cases h
            exact ⟨[], _, rfl, trivial, rfl, (.eq rfl), rfl⟩
           ·replace h := cnd_f hb31 h
            refine vSkip ?_
            change VC _ _ _ _
            refine vRegion ?_
            refine oVal tt rfl rfl rfl rfl rfl trivial ?_
            obtain ⟨hg32, h⟩ := grd_inv h
            refine oVal tt rfl rfl rfl rfl rfl hg32 ?_
            refine oVal tt rfl rfl rfl rfl rfl trivial ?_
            refine vNil ?_
            change ∃ _, _
            exact ⟨(i14 + (1 : Int)), (En.of ⟨rfl, rfl, rfl, rfl, trivial⟩ trivial ⟨rfl, rfl, trivial⟩), h⟩
          ·replace h := cnd_f hb30 h
           iterate 12 refine cNoT rfl rfl rfl rfl hb30 rfl rfl ?_
           refine cPickF rfl (wSome rfl rfl rfl rfl rfl) rfl rfl rfl hb30 rfl ?_
           refine cPickF rfl (wNone rfl) rfl rfl rfl rfl rfl ?_
           refine cNil ?_
           change VC _ _ _ _
           refine vCondF rfl rfl ?_
           refine vSkip ?_
           change VC _ _ _ _
           refine vRegion ?_
           refine oVal tt rfl rfl rfl rfl rfl trivial ?_
           obtain ⟨hg33, h⟩ := grd_inv h
           refine oVal tt rfl rfl rfl rfl rfl hg33 ?_
           refine oVal tt rfl rfl rfl rfl rfl trivial ?_
           refine vNil ?_
           change ∃ _, _
           exact ⟨(i14 + (1 : Int)), (En.of ⟨rfl, rfl, rfl, rfl, trivial⟩ trivial ⟨rfl, rfl, trivial⟩), h⟩
      ·replace h := cnd_f hb14 h
       refine vExit ?_
       change ∃ _, _
       exact ⟨(), (En.of ⟨rfl, rfl, rfl, trivial⟩ trivial ⟨rfl, rfl, trivial⟩), h⟩
def S_PlaceBar (N : Nat) (g_0 : Grf) (k_1 : Int) (l_2 : Int) (p_3 : Pbl) (bar_4 : Int) : Option (Pbl × Bool) :=
 (S_IsPebbles N g_0 k_1 p_3).bind fun v1 =>
 cnd (!v1) (
  (S_l4Copy N p_3).bind fun v2 =>
  some ((⟨v2.free, v2.tails, v2.placed⟩ : Pbl), false)) (
  (S_IsRange N k_1 l_2).bind fun v3 =>
  cnd (!v3) (
   (S_l4Copy N p_3).bind fun v4 =>
   some ((⟨v4.free, v4.tails, v4.placed⟩ : Pbl), false)) (
   cnd (decide (bar_4 < (0 : Int))) (
    (S_l4Copy N p_3).bind fun v5 =>
    some ((⟨v5.free, v5.tails, v5.placed⟩ : Pbl), false)) (
    cnd (decide (bar_4 ≥ (g_0.bars.length : Int))) (
     (S_l4Copy N p_3).bind fun v6 =>
     some ((⟨v6.free, v6.tails, v6.placed⟩ : Pbl), false)) (
     cnd (decide ((p_3.placed.length : Int) > (0 : Int))) (
      grd (Rg64 ((p_3.placed.length : Int) - (1 : Int))) <|
      grd (0 ≤ ((p_3.placed.length : Int) - (1 : Int)) ∧ ((p_3.placed.length : Int) - (1 : Int)) < (p_3.placed.length : Int)) <|
      cnd (decide ((p_3.placed.getD ((((p_3.placed.length : Int) - (1 : Int))).toNat) 0) ≥ bar_4)) (
       (S_l4Copy N p_3).bind fun v7 =>
       some ((⟨v7.free, v7.tails, v7.placed⟩ : Pbl), false)) (
       grd (0 ≤ bar_4 ∧ bar_4 < (g_0.bars.length : Int)) <|
       grd (Rg64 (l_2 + (1 : Int))) <|
       (S_l4Gather N g_0 p_3 ((g_0.bars.getD ((bar_4).toNat) (0, 0)).1) ((g_0.bars.getD ((bar_4).toNat) (0, 0)).2) (l_2 + (1 : Int))).bind fun v8 =>
       cnd (!v8.2) (
        (S_l4Copy N p_3).bind fun v9 =>
        some ((⟨v9.free, v9.tails, v9.placed⟩ : Pbl), false)) (
        grd (0 ≤ ((g_0.bars.getD ((bar_4).toNat) (0, 0)).1) ∧ ((g_0.bars.getD ((bar_4).toNat) (0, 0)).1) < (v8.1.free.length : Int)) <|
        jn (fun (tail10 : Int) =>
           grd (0 ≤ tail10 ∧ tail10 < (v8.1.free.length : Int)) <|
           grd (Rg64 ((v8.1.free.getD ((tail10).toNat) 0) - (1 : Int))) <|
           grd (v8.1.tails.length + 1 ≤ 4294967296) <|
           grd (v8.1.placed.length + 1 ≤ 4294967296) <|
           grd (v8.1.free.length = (v8.1.free.set ((tail10).toNat) ((v8.1.free.getD ((tail10).toNat) 0) - (1 : Int))).length) <|
           some ((⟨(v8.1.free.set ((tail10).toNat) ((v8.1.free.getD ((tail10).toNat) 0) - (1 : Int))), (v8.1.tails ++ ([tail10] : List Int)), (v8.1.placed ++ ([bar_4] : List Int))⟩ : Pbl), true)) fun k11 =>
         cnd ((v8.1.free.getD (((g_0.bars.getD ((bar_4).toNat) (0, 0)).1).toNat) 0) == (0 : Int)) (
          k11 ((g_0.bars.getD ((bar_4).toNat) (0, 0)).2)) (
          k11 ((g_0.bars.getD ((bar_4).toNat) (0, 0)).1))))) (
      grd (0 ≤ bar_4 ∧ bar_4 < (g_0.bars.length : Int)) <|
      grd (Rg64 (l_2 + (1 : Int))) <|
      (S_l4Gather N g_0 p_3 ((g_0.bars.getD ((bar_4).toNat) (0, 0)).1) ((g_0.bars.getD ((bar_4).toNat) (0, 0)).2) (l_2 + (1 : Int))).bind fun v12 =>
      cnd (!v12.2) (
       (S_l4Copy N p_3).bind fun v13 =>
       some ((⟨v13.free, v13.tails, v13.placed⟩ : Pbl), false)) (
       grd (0 ≤ ((g_0.bars.getD ((bar_4).toNat) (0, 0)).1) ∧ ((g_0.bars.getD ((bar_4).toNat) (0, 0)).1) < (v12.1.free.length : Int)) <|
       jn (fun (tail14 : Int) =>
          grd (0 ≤ tail14 ∧ tail14 < (v12.1.free.length : Int)) <|
          grd (Rg64 ((v12.1.free.getD ((tail14).toNat) 0) - (1 : Int))) <|
          grd (v12.1.tails.length + 1 ≤ 4294967296) <|
          grd (v12.1.placed.length + 1 ≤ 4294967296) <|
          grd (v12.1.free.length = (v12.1.free.set ((tail14).toNat) ((v12.1.free.getD ((tail14).toNat) 0) - (1 : Int))).length) <|
          some ((⟨(v12.1.free.set ((tail14).toNat) ((v12.1.free.getD ((tail14).toNat) 0) - (1 : Int))), (v12.1.tails ++ ([tail14] : List Int)), (v12.1.placed ++ ([bar_4] : List Int))⟩ : Pbl), true)) fun k15 =>
        cnd ((v12.1.free.getD (((g_0.bars.getD ((bar_4).toNat) (0, 0)).1).toNat) 0) == (0 : Int)) (
         k15 ((g_0.bars.getD ((bar_4).toNat) (0, 0)).2)) (
         k15 ((g_0.bars.getD ((bar_4).toNat) (0, 0)).1))))))))
set_option maxRecDepth 20000 in
set_option maxHeartbeats 1600000 in
theorem S_PlaceBar_w (N : Nat) (g_0 : Grf) (k_1 : Int) (l_2 : Int) (p_3 : Pbl) (bar_4 : Int) (r : Pbl × Bool) (h : S_PlaceBar N g_0 k_1 l_2 p_3 bar_4 = some r) : PCall Try.prog 164 [gD g_0, .int k_1, .int l_2, bD p_3, .int bar_4] [(3, .ints r.1.free), (3, .ints r.1.tails), (3, .ints r.1.placed)] (.tup [.agg [.row 0 0 r.1.free.length, .row 1 0 r.1.tails.length, .row 2 0 r.1.placed.length], .bool r.2]) := by
 unfold S_PlaceBar at h
 refine pcall_intro (TT := TT) tt Try.func164 rfl rfl Try.ntmps164 (congrArg Array.toList Try.results164) rfl rfl fun w0 => ?_
 refine vSeq ?_
 refine vRegion ?_
 iterate 2 refine oBox rfl rfl rfl rfl rfl rfl rfl rfl rfl ?_
 refine oAlloc tt rfl rfl rfl rfl rfl rfl rfl rfl rfl ?_
 refine oVal tt rfl rfl rfl rfl rfl trivial ?_
 refine vNil ?_
 change VC _ _ _ _
 iterate 2 refine vSeq ?_
 refine vRegion ?_
 iterate 3 refine oVal tt rfl rfl rfl rfl rfl trivial ?_
 obtain ⟨v1, hc1, h⟩ := bind_inv h
 refine oCall (S_IsPebbles_w N g_0 k_1 p_3 v1 hc1) rfl rfl rfl rfl rfl rfl rfl rfl ⟨⟨rfl, rfl, trivial⟩, rfl, ⟨rfl, rfl, rfl, trivial⟩, trivial⟩ ?_
 iterate 2 refine oVal tt rfl rfl rfl rfl rfl trivial ?_
 refine oSplit rfl rfl rfl (fun hb2 => ?_) (fun hb2 => ?_)
 ·replace h := cnd_t hb2 h
  iterate 4 refine oNoF rfl rfl rfl rfl hb2 rfl rfl ?_
  refine oPick rfl rfl rfl rfl rfl hb2 rfl ?_
  refine oVal tt rfl rfl rfl rfl rfl trivial ?_
  iterate 2 refine oNoF rfl rfl rfl rfl rfl rfl rfl ?_
  refine oPick rfl rfl rfl rfl rfl rfl rfl ?_
  refine oVal tt rfl rfl rfl rfl rfl trivial ?_
  iterate 5 refine oNoF rfl rfl rfl rfl rfl rfl rfl ?_
  refine oPick rfl rfl rfl rfl rfl rfl rfl ?_
  refine oVal tt rfl rfl rfl rfl rfl trivial ?_
  iterate 5 refine oNoF rfl rfl rfl rfl rfl rfl rfl ?_
  iterate 10 refine oNoU rfl rfl rfl rfl rfl ?_
  refine oNoF rfl rfl rfl rfl rfl rfl rfl ?_
  refine oPick rfl rfl rfl rfl rfl rfl rfl ?_
  refine vNil ?_
  change VC _ _ _ _
  refine vCondT rfl rfl ?_
  refine vSeq ?_
  refine vRegion ?_
  refine oVal tt rfl rfl rfl rfl rfl trivial ?_
  obtain ⟨v2, hc3, h⟩ := bind_inv h
  refine oCall (S_l4Copy_w N p_3 v2 hc3) rfl rfl rfl rfl rfl rfl rfl rfl ⟨⟨rfl, rfl, rfl, trivial⟩, trivial⟩ ?_
  refine oStore tt rfl rfl rfl rfl rfl rfl rfl rfl rfl rfl rfl ⟨trivial, trivial, trivial, trivial⟩ ?_
  refine oVal tt rfl rfl rfl rfl rfl trivial ?_
  refine vNil ?_
  change VC _ _ _ _
  refine vRet ?_
  change ∃ _, _
  cases h
  exact ⟨[1570, 1571, 1572], _, rfl, ⟨rfl, rfl, rfl, trivial⟩, rfl, (.eq rfl), rfl⟩
 ·replace h := cnd_f hb2 h
  iterate 2 refine oValG tt rfl rfl rfl rfl rfl hb2 rfl rfl rfl trivial ?_
  obtain ⟨v3, hc4, h⟩ := bind_inv h
  refine oCallG (S_IsRange_w N k_1 l_2 v3 hc4) rfl rfl rfl rfl hb2 rfl rfl rfl rfl rfl rfl rfl ⟨rfl, rfl, trivial⟩ ?_
  refine oValG tt rfl rfl rfl rfl rfl hb2 rfl rfl rfl trivial ?_
  refine oPickF rfl rfl rfl rfl rfl hb2 rfl ?_
  refine oVal tt rfl rfl rfl rfl rfl trivial ?_
  refine oSplit rfl rfl rfl (fun hb5 => ?_) (fun hb5 => ?_)
  ·replace h := cnd_t hb5 h
   iterate 2 refine oNoF rfl rfl rfl rfl hb5 rfl rfl ?_
   refine oPick rfl rfl rfl rfl rfl hb5 rfl ?_
   refine oVal tt rfl rfl rfl rfl rfl trivial ?_
   iterate 5 refine oNoF rfl rfl rfl rfl rfl rfl rfl ?_
   refine oPick rfl rfl rfl rfl rfl rfl rfl ?_
   refine oVal tt rfl rfl rfl rfl rfl trivial ?_
   iterate 5 refine oNoF rfl rfl rfl rfl rfl rfl rfl ?_
   iterate 10 refine oNoU rfl rfl rfl rfl rfl ?_
   refine oNoF rfl rfl rfl rfl rfl rfl rfl ?_
   refine oPick rfl rfl rfl rfl rfl rfl rfl ?_
   refine vNil ?_
   change VC _ _ _ _
   refine vCondT rfl rfl ?_
   refine vSeq ?_
   refine vRegion ?_
   refine oVal tt rfl rfl rfl rfl rfl trivial ?_
   obtain ⟨v4, hc6, h⟩ := bind_inv h
   refine oCall (S_l4Copy_w N p_3 v4 hc6) rfl rfl rfl rfl rfl rfl rfl rfl ⟨⟨rfl, rfl, rfl, trivial⟩, trivial⟩ ?_
   refine oStore tt rfl rfl rfl rfl rfl rfl rfl rfl rfl rfl rfl ⟨trivial, trivial, trivial, trivial⟩ ?_
   refine oVal tt rfl rfl rfl rfl rfl trivial ?_
   refine vNil ?_
   change VC _ _ _ _
   refine vRet ?_
   change ∃ _, _
   cases h
   exact ⟨[1570, 1571, 1572], _, rfl, ⟨rfl, rfl, rfl, trivial⟩, rfl, (.eq rfl), rfl⟩
  ·replace h := cnd_f hb5 h
   iterate 2 refine oValG tt rfl rfl rfl rfl rfl hb5 rfl rfl rfl trivial ?_
   refine oPickF rfl rfl rfl rfl rfl hb5 rfl ?_
   refine oVal tt rfl rfl rfl rfl rfl trivial ?_
   refine oSplit rfl rfl rfl (fun hb7 => ?_) (fun hb7 => ?_)
   ·replace h := cnd_t hb7 h
    iterate 5 refine oNoF rfl rfl rfl rfl hb7 rfl rfl ?_
    refine oPick rfl rfl rfl rfl rfl hb7 rfl ?_
    refine oVal tt rfl rfl rfl rfl rfl trivial ?_
    iterate 5 refine oNoF rfl rfl rfl rfl rfl rfl rfl ?_
    iterate 10 refine oNoU rfl rfl rfl rfl rfl ?_
    refine oNoF rfl rfl rfl rfl rfl rfl rfl ?_
    refine oPick rfl rfl rfl rfl rfl rfl rfl ?_
    refine vNil ?_
    change VC _ _ _ _
    refine vCondT rfl rfl ?_
    refine vSeq ?_
    refine vRegion ?_
    refine oVal tt rfl rfl rfl rfl rfl trivial ?_
    obtain ⟨v5, hc8, h⟩ := bind_inv h
    refine oCall (S_l4Copy_w N p_3 v5 hc8) rfl rfl rfl rfl rfl rfl rfl rfl ⟨⟨rfl, rfl, rfl, trivial⟩, trivial⟩ ?_
    refine oStore tt rfl rfl rfl rfl rfl rfl rfl rfl rfl rfl rfl ⟨trivial, trivial, trivial, trivial⟩ ?_
    refine oVal tt rfl rfl rfl rfl rfl trivial ?_
    refine vNil ?_
    change VC _ _ _ _
    refine vRet ?_
    change ∃ _, _
    cases h
    exact ⟨[1570, 1571, 1572], _, rfl, ⟨rfl, rfl, rfl, trivial⟩, rfl, (.eq rfl), rfl⟩
   ·replace h := cnd_f hb7 h
    iterate 5 refine oValG tt rfl rfl rfl rfl rfl hb7 rfl rfl rfl trivial ?_
    refine oPickF rfl rfl rfl rfl rfl hb7 rfl ?_
    refine oVal tt rfl rfl rfl rfl rfl trivial ?_
    refine oSplit rfl rfl rfl (fun hb9 => ?_) (fun hb9 => ?_)
    ·replace h := cnd_t hb9 h
     iterate 5 refine oNoF rfl rfl rfl rfl hb9 rfl rfl ?_
     iterate 10 refine oNoU rfl rfl rfl rfl rfl ?_
     refine oNoF rfl rfl rfl rfl hb9 rfl rfl ?_
     refine oPick rfl rfl rfl rfl rfl hb9 rfl ?_
     refine vNil ?_
     change VC _ _ _ _
     refine vCondT rfl rfl ?_
     refine vSeq ?_
     refine vRegion ?_
     refine oVal tt rfl rfl rfl rfl rfl trivial ?_
     obtain ⟨v6, hc10, h⟩ := bind_inv h
     refine oCall (S_l4Copy_w N p_3 v6 hc10) rfl rfl rfl rfl rfl rfl rfl rfl ⟨⟨rfl, rfl, rfl, trivial⟩, trivial⟩ ?_
     refine oStore tt rfl rfl rfl rfl rfl rfl rfl rfl rfl rfl rfl ⟨trivial, trivial, trivial, trivial⟩ ?_
     refine oVal tt rfl rfl rfl rfl rfl trivial ?_
     refine vNil ?_
     change VC _ _ _ _
     refine vRet ?_
     change ∃ _, _
     cases h
     exact ⟨[1570, 1571, 1572], _, rfl, ⟨rfl, rfl, rfl, trivial⟩, rfl, (.eq rfl), rfl⟩
    ·replace h := cnd_f hb9 h
     iterate 5 refine oValG tt rfl rfl rfl rfl rfl hb9 rfl rfl rfl trivial ?_
     refine oSplit rfl rfl rfl (fun hb11 => ?_) (fun hb11 => ?_)
     ·replace h := cnd_t hb11 h
      iterate 5 refine oValG tt rfl rfl rfl rfl rfl hb11 rfl rfl rfl trivial ?_
      obtain ⟨hg12, h⟩ := grd_inv h
      refine oValG tt rfl rfl rfl rfl rfl hb11 rfl rfl rfl hg12 ?_
      obtain ⟨hg13, h⟩ := grd_inv h
      refine oValG tt rfl rfl rfl rfl rfl hb11 rfl rfl rfl hg13 ?_
      iterate 3 refine oValG tt rfl rfl rfl rfl rfl hb11 rfl rfl rfl trivial ?_
      refine oPickGT rfl rfl rfl rfl hb9 rfl rfl rfl rfl hb11 rfl ?_
      refine oPickF rfl rfl rfl rfl rfl hb9 rfl ?_
      refine vNil ?_
      change VC _ _ _ _
      refine vCond rfl (fun hb14 => ?_) (fun hb14 => ?_)
      ·replace h := cnd_t hb14 h
       refine vSeq ?_
       refine vRegion ?_
       refine oVal tt rfl rfl rfl rfl rfl trivial ?_
       obtain ⟨v7, hc15, h⟩ := bind_inv h
       refine oCall (S_l4Copy_w N p_3 v7 hc15) rfl rfl rfl rfl rfl rfl rfl rfl ⟨⟨rfl, rfl, rfl, trivial⟩, trivial⟩ ?_
       refine oStore tt rfl rfl rfl rfl rfl rfl rfl rfl rfl rfl rfl ⟨trivial, trivial, trivial, trivial⟩ ?_
       refine oVal tt rfl rfl rfl rfl rfl trivial ?_
       refine vNil ?_
       change VC _ _ _ _
       refine vRet ?_
       change ∃ _, _
       cases h
       exact ⟨[1570, 1571, 1572], _, rfl, ⟨rfl, rfl, rfl, trivial⟩, rfl, (.eq rfl), rfl⟩
      ·replace h := cnd_f hb14 h
       refine vSkip ?_
       change VC _ _ _ _
       refine vSeq ?_
       refine vRegion ?_
       iterate 3 refine oVal tt rfl rfl rfl rfl rfl trivial ?_
       obtain ⟨hg16, h⟩ := grd_inv h
       refine oVal tt rfl rfl rfl rfl rfl hg16 ?_
       refine oVal tt rfl rfl rfl rfl rfl trivial ?_
       refine oAlloc tt rfl rfl rfl rfl rfl rfl rfl rfl rfl ?_
       refine oStore tt rfl rfl rfl rfl rfl rfl rfl rfl rfl rfl rfl ⟨trivial, trivial, trivial⟩ ?_
       refine vNil ?_
       change VC _ _ _ _
       refine vSeq ?_
       refine vRegion ?_
       iterate 7 refine oVal tt rfl rfl rfl rfl rfl trivial ?_
       obtain ⟨hg17, h⟩ := grd_inv h
       refine oVal tt rfl rfl rfl rfl rfl hg17 ?_
       obtain ⟨v8, hc18, h⟩ := bind_inv h
       refine oCall (S_l4Gather_w N g_0 p_3 ((g_0.bars.getD ((bar_4).toNat) (0, 0)).1) ((g_0.bars.getD ((bar_4).toNat) (0, 0)).2) (l_2 + (1 : Int)) v8 hc18) rfl rfl rfl rfl rfl rfl rfl rfl ⟨⟨rfl, rfl, trivial⟩, ⟨rfl, rfl, rfl, trivial⟩, rfl, rfl, rfl, trivial⟩ ?_
       iterate 3 refine oVal tt rfl rfl rfl rfl rfl trivial ?_
       refine oAlloc tt rfl rfl rfl rfl rfl rfl rfl rfl rfl ?_
       refine oStore tt rfl rfl rfl rfl rfl rfl rfl rfl rfl rfl rfl ⟨trivial, trivial, trivial, trivial⟩ ?_
       refine oVal tt rfl rfl rfl rfl rfl trivial ?_
       refine vNil ?_
       change VC _ _ _ _
       iterate 2 refine vSeq ?_
       refine vRegion ?_
       iterate 2 refine oVal tt rfl rfl rfl rfl rfl trivial ?_
       refine vNil ?_
       change VC _ _ _ _
       refine vCond rfl (fun hb19 => ?_) (fun hb19 => ?_)
       ·replace h := cnd_t hb19 h
        refine vSeq ?_
        refine vRegion ?_
        refine oVal tt rfl rfl rfl rfl rfl trivial ?_
        obtain ⟨v9, hc20, h⟩ := bind_inv h
        refine oCall (S_l4Copy_w N p_3 v9 hc20) rfl rfl rfl rfl rfl rfl rfl rfl ⟨⟨rfl, rfl, rfl, trivial⟩, trivial⟩ ?_
        refine oStore tt rfl rfl rfl rfl rfl rfl rfl rfl rfl rfl rfl ⟨trivial, trivial, trivial, trivial⟩ ?_
        refine oVal tt rfl rfl rfl rfl rfl trivial ?_
        refine vNil ?_
        change VC _ _ _ _
        refine vRet ?_
        change ∃ _, _
        cases h
        exact ⟨[1780, 1781, 1782], _, rfl, ⟨rfl, rfl, rfl, trivial⟩, rfl, (.eq rfl), rfl⟩
       ·replace h := cnd_f hb19 h
        refine vSkip ?_
        change VC _ _ _ _
        refine vSeq ?_
        refine vRegion ?_
        iterate 3 refine oVal tt rfl rfl rfl rfl rfl trivial ?_
        refine vNil ?_
        change VC _ _ _ _
        iterate 2 refine vSeq ?_
        refine vRegion ?_
        iterate 4 refine oVal tt rfl rfl rfl rfl rfl trivial ?_
        obtain ⟨hg21, h⟩ := grd_inv h
        iterate 2 refine oVal tt rfl rfl rfl rfl rfl hg21 ?_
        refine oVal tt rfl rfl rfl rfl rfl trivial ?_
        refine vNil ?_
        change VC _ _ _ _
        refine vJoinN h (α := Int) (J := fun (tail10 : Int) => (⟨[(4, .int bar_4), (10, .ptr 10 0), (13, .ptr 13 0), (15, .int tail10)], [(1720, some (3, .ints v8.1.free)), (1721, some (3, .ints v8.1.tails)), (1722, some (3, .ints v8.1.placed))], [(10, some [.nil, .nil, .nil]), (13, some [.row 1720 0 v8.1.free.length, .row 1721 0 v8.1.tails.length, .row 1722 0 v8.1.placed.length])]⟩ : PS)) ?_ ?_
        ·rintro tail10 h
         show VC _ _ _ (⟨[(4, .int bar_4), (10, .ptr 10 0), (13, .ptr 13 0), (15, .int tail10)], [(1720, some (3, .ints v8.1.free)), (1721, some (3, .ints v8.1.tails)), (1722, some (3, .ints v8.1.placed))], [(10, some [.nil, .nil, .nil]), (13, some [.row 1720 0 v8.1.free.length, .row 1721 0 v8.1.tails.length, .row 1722 0 v8.1.placed.length])]⟩ : PS)
         refine vSeq ?_
         refine vRegionN 9 [] [0, 1, 0, 0, 8, 0, 56, 120, 248, 511, 1023] (by kernel_rfl) (by kernel_rfl) (by kernel_rfl) (by kernel_rfl) (by kernel_rfl) rfl (by rfl) ?_
         iterate 6 refine nVal tt rfl (wNone rfl) rfl rfl rfl rfl rfl trivial ?_
         obtain ⟨hg22, h⟩ := grd_inv h
         iterate 2 refine nVal tt rfl (wNone rfl) rfl rfl rfl rfl rfl hg22 ?_
         obtain ⟨hg23, h⟩ := grd_inv h
         refine nVal tt rfl (wNone rfl) rfl rfl rfl rfl rfl hg23 ?_
         refine nNil ?_
         change VO _ _ _ _ _
         refine oVal tt rfl rfl rfl rfl rfl hg22 ?_
         refine oStore tt rfl rfl rfl rfl rfl rfl rfl rfl rfl rfl ⟨_, _, rfl, hg22.1, hg22.2⟩ ⟨hg22, trivial⟩ ?_
         refine vNil ?_
         change VC _ _ _ _
         refine vSeq ?_
         refine vRegion ?_
         iterate 3 refine oVal tt rfl rfl rfl rfl rfl trivial ?_
         refine oBuild tt rfl rfl rfl rfl rfl rfl rfl rfl rfl rfl rfl ?_
         obtain ⟨hg24, h⟩ := grd_inv h
         refine oAppend tt rfl rfl rfl rfl rfl rfl rfl rfl rfl rfl rfl rfl rfl rfl rfl rfl (Nat.le_of_eq (Nat.zero_add _)) hg24 ?_
         refine oVal tt rfl rfl rfl rfl rfl trivial ?_
         refine oStore tt rfl rfl rfl rfl rfl rfl rfl rfl rfl rfl rfl ⟨trivial, trivial⟩ ?_
         refine vNil ?_
         change VC _ _ _ _
         refine vSeq ?_
         refine vRegion ?_
         iterate 3 refine oVal tt rfl rfl rfl rfl rfl trivial ?_
         refine oBuild tt rfl rfl rfl rfl rfl rfl rfl rfl rfl rfl rfl ?_
         obtain ⟨hg25, h⟩ := grd_inv h
         refine oAppend tt rfl rfl rfl rfl rfl rfl rfl rfl rfl rfl rfl rfl rfl rfl rfl rfl (Nat.le_of_eq (Nat.zero_add _)) hg25 ?_
         refine oVal tt rfl rfl rfl rfl rfl trivial ?_
         refine oStore tt rfl rfl rfl rfl rfl rfl rfl rfl rfl rfl rfl ⟨trivial, trivial⟩ ?_
         refine vNil ?_
         change VC _ _ _ _
         refine vSeq ?_
         refine vRegion ?_
         refine oVal tt rfl rfl rfl rfl rfl trivial ?_
         refine oStore tt rfl rfl rfl rfl rfl rfl rfl rfl rfl rfl rfl ⟨trivial, trivial, trivial, trivial⟩ ?_
         refine oVal tt rfl rfl rfl rfl rfl trivial ?_
         refine vNil ?_
         change VC _ _ _ _
         obtain ⟨hg26, h⟩ := grd_inv h
         refine vRet ?_
         change ∃ _, _
         cases h
         exact ⟨[1720, 1721, 1722], _, rfl, ⟨rfl, rfl, rfl, trivial⟩, rfl, (.eq (by simp only [hg26]; rfl)), rfl⟩
        ·intro k11 h
         refine vCond rfl (fun hb27 => ?_) (fun hb27 => ?_)
         ·replace h := cnd_t hb27 h
          refine vRegion ?_
          iterate 3 refine oVal tt rfl rfl rfl rfl rfl trivial ?_
          refine vNil ?_
          change ∃ _, _
          exact ⟨(g_0.bars.getD ((bar_4).toNat) (0, 0)).2, (En.of ⟨rfl, rfl, rfl, rfl, trivial⟩ ⟨rfl, rfl, rfl, trivial⟩ ⟨rfl, rfl, trivial⟩), h⟩
         ·replace h := cnd_f hb27 h
          refine vSkip ?_
          change ∃ _, _
          exact ⟨(g_0.bars.getD ((bar_4).toNat) (0, 0)).1, (En.of ⟨rfl, rfl, rfl, rfl, trivial⟩ ⟨rfl, rfl, rfl, trivial⟩ ⟨rfl, rfl, trivial⟩), h⟩
     ·replace h := cnd_f hb11 h
      iterate 10 refine oNoT rfl rfl rfl rfl hb11 rfl rfl ?_
      refine oPickGF rfl rfl rfl rfl hb9 rfl rfl rfl rfl hb11 rfl ?_
      refine oPickF rfl rfl rfl rfl rfl hb9 rfl ?_
      refine vNil ?_
      change VC _ _ _ _
      refine vCondF rfl rfl ?_
      refine vSkip ?_
      change VC _ _ _ _
      refine vSeq ?_
      refine vRegion ?_
      iterate 3 refine oVal tt rfl rfl rfl rfl rfl trivial ?_
      obtain ⟨hg28, h⟩ := grd_inv h
      refine oVal tt rfl rfl rfl rfl rfl hg28 ?_
      refine oVal tt rfl rfl rfl rfl rfl trivial ?_
      refine oAlloc tt rfl rfl rfl rfl rfl rfl rfl rfl rfl ?_
      refine oStore tt rfl rfl rfl rfl rfl rfl rfl rfl rfl rfl rfl ⟨trivial, trivial, trivial⟩ ?_
      refine vNil ?_
      change VC _ _ _ _
      refine vSeq ?_
      refine vRegion ?_
      iterate 7 refine oVal tt rfl rfl rfl rfl rfl trivial ?_
      obtain ⟨hg29, h⟩ := grd_inv h
      refine oVal tt rfl rfl rfl rfl rfl hg29 ?_
      obtain ⟨v12, hc30, h⟩ := bind_inv h
      refine oCall (S_l4Gather_w N g_0 p_3 ((g_0.bars.getD ((bar_4).toNat) (0, 0)).1) ((g_0.bars.getD ((bar_4).toNat) (0, 0)).2) (l_2 + (1 : Int)) v12 hc30) rfl rfl rfl rfl rfl rfl rfl rfl ⟨⟨rfl, rfl, trivial⟩, ⟨rfl, rfl, rfl, trivial⟩, rfl, rfl, rfl, trivial⟩ ?_
      iterate 3 refine oVal tt rfl rfl rfl rfl rfl trivial ?_
      refine oAlloc tt rfl rfl rfl rfl rfl rfl rfl rfl rfl ?_
      refine oStore tt rfl rfl rfl rfl rfl rfl rfl rfl rfl rfl rfl ⟨trivial, trivial, trivial, trivial⟩ ?_
      refine oVal tt rfl rfl rfl rfl rfl trivial ?_
      refine vNil ?_
      change VC _ _ _ _
      iterate 2 refine vSeq ?_
      refine vRegion ?_
      iterate 2 refine oVal tt rfl rfl rfl rfl rfl trivial ?_
      refine vNil ?_
      change VC _ _ _ _
      refine vCond rfl (fun hb31 => ?_) (fun hb31 => ?_)
      ·replace h := cnd_t hb31 h
       refine vSeq ?_
       refine vRegion ?_
       refine oVal tt rfl rfl rfl rfl rfl trivial ?_
       obtain ⟨v13, hc32, h⟩ := bind_inv h
       refine oCall (S_l4Copy_w N p_3 v13 hc32) rfl rfl rfl rfl rfl rfl rfl rfl ⟨⟨rfl, rfl, rfl, trivial⟩, trivial⟩ ?_
       refine oStore tt rfl rfl rfl rfl rfl rfl rfl rfl rfl rfl rfl ⟨trivial, trivial, trivial, trivial⟩ ?_
       refine oVal tt rfl rfl rfl rfl rfl trivial ?_
       refine vNil ?_
       change VC _ _ _ _
       refine vRet ?_
       change ∃ _, _
       cases h
       exact ⟨[1780, 1781, 1782], _, rfl, ⟨rfl, rfl, rfl, trivial⟩, rfl, (.eq rfl), rfl⟩
      ·replace h := cnd_f hb31 h
       refine vSkip ?_
       change VC _ _ _ _
       refine vSeq ?_
       refine vRegion ?_
       iterate 3 refine oVal tt rfl rfl rfl rfl rfl trivial ?_
       refine vNil ?_
       change VC _ _ _ _
       iterate 2 refine vSeq ?_
       refine vRegion ?_
       iterate 4 refine oVal tt rfl rfl rfl rfl rfl trivial ?_
       obtain ⟨hg33, h⟩ := grd_inv h
       iterate 2 refine oVal tt rfl rfl rfl rfl rfl hg33 ?_
       refine oVal tt rfl rfl rfl rfl rfl trivial ?_
       refine vNil ?_
       change VC _ _ _ _
       refine vJoinN h (α := Int) (J := fun (tail14 : Int) => (⟨[(4, .int bar_4), (10, .ptr 10 0), (13, .ptr 13 0), (15, .int tail14)], [(1720, some (3, .ints v12.1.free)), (1721, some (3, .ints v12.1.tails)), (1722, some (3, .ints v12.1.placed))], [(10, some [.nil, .nil, .nil]), (13, some [.row 1720 0 v12.1.free.length, .row 1721 0 v12.1.tails.length, .row 1722 0 v12.1.placed.length])]⟩ : PS)) ?_ ?_
       ·rintro tail14 h
        show VC _ _ _ (⟨[(4, .int bar_4), (10, .ptr 10 0), (13, .ptr 13 0), (15, .int tail14)], [(1720, some (3, .ints v12.1.free)), (1721, some (3, .ints v12.1.tails)), (1722, some (3, .ints v12.1.placed))], [(10, some [.nil, .nil, .nil]), (13, some [.row 1720 0 v12.1.free.length, .row 1721 0 v12.1.tails.length, .row 1722 0 v12.1.placed.length])]⟩ : PS)
        refine vSeq ?_
        refine vRegionN 9 [] [0, 1, 0, 0, 8, 0, 56, 120, 248, 511, 1023] (by kernel_rfl) (by kernel_rfl) (by kernel_rfl) (by kernel_rfl) (by kernel_rfl) rfl (by rfl) ?_
        iterate 6 refine nVal tt rfl (wNone rfl) rfl rfl rfl rfl rfl trivial ?_
        obtain ⟨hg34, h⟩ := grd_inv h
        iterate 2 refine nVal tt rfl (wNone rfl) rfl rfl rfl rfl rfl hg34 ?_
        obtain ⟨hg35, h⟩ := grd_inv h
        refine nVal tt rfl (wNone rfl) rfl rfl rfl rfl rfl hg35 ?_
        refine nNil ?_
        change VO _ _ _ _ _
        refine oVal tt rfl rfl rfl rfl rfl hg34 ?_
        refine oStore tt rfl rfl rfl rfl rfl rfl rfl rfl rfl rfl ⟨_, _, rfl, hg34.1, hg34.2⟩ ⟨hg34, trivial⟩ ?_
        refine vNil ?_
        change VC _ _ _ _
        refine vSeq ?_
        refine vRegion ?_
        iterate 3 refine oVal tt rfl rfl rfl rfl rfl trivial ?_
        refine oBuild tt rfl rfl rfl rfl rfl rfl rfl rfl rfl rfl rfl ?_
        obtain ⟨hg36, h⟩ := grd_inv h
        refine oAppend tt rfl rfl rfl rfl rfl rfl rfl rfl rfl rfl rfl rfl rfl rfl rfl rfl (Nat.le_of_eq (Nat.zero_add _)) hg36 ?_
        refine oVal tt rfl rfl rfl rfl rfl trivial ?_
        refine oStore tt rfl rfl rfl rfl rfl rfl rfl rfl rfl rfl rfl ⟨trivial, trivial⟩ ?_
        refine vNil ?_
        change VC _ _ _ _
        refine vSeq ?_
        refine vRegion ?_
        iterate 3 refine oVal tt rfl rfl rfl rfl rfl trivial ?_
        refine oBuild tt rfl rfl rfl rfl rfl rfl rfl rfl rfl rfl rfl ?_
        obtain ⟨hg37, h⟩ := grd_inv h
        refine oAppend tt rfl rfl rfl rfl rfl rfl rfl rfl rfl rfl rfl rfl rfl rfl rfl rfl (Nat.le_of_eq (Nat.zero_add _)) hg37 ?_
        refine oVal tt rfl rfl rfl rfl rfl trivial ?_
        refine oStore tt rfl rfl rfl rfl rfl rfl rfl rfl rfl rfl rfl ⟨trivial, trivial⟩ ?_
        refine vNil ?_
        change VC _ _ _ _
        refine vSeq ?_
        refine vRegion ?_
        refine oVal tt rfl rfl rfl rfl rfl trivial ?_
        refine oStore tt rfl rfl rfl rfl rfl rfl rfl rfl rfl rfl rfl ⟨trivial, trivial, trivial, trivial⟩ ?_
        refine oVal tt rfl rfl rfl rfl rfl trivial ?_
        refine vNil ?_
        change VC _ _ _ _
        obtain ⟨hg38, h⟩ := grd_inv h
        refine vRet ?_
        change ∃ _, _
        cases h
        exact ⟨[1720, 1721, 1722], _, rfl, ⟨rfl, rfl, rfl, trivial⟩, rfl, (.eq (by simp only [hg38]; rfl)), rfl⟩
       ·intro k15 h
        refine vCond rfl (fun hb39 => ?_) (fun hb39 => ?_)
        ·replace h := cnd_t hb39 h
         refine vRegion ?_
         iterate 3 refine oVal tt rfl rfl rfl rfl rfl trivial ?_
         refine vNil ?_
         change ∃ _, _
         exact ⟨(g_0.bars.getD ((bar_4).toNat) (0, 0)).2, (En.of ⟨rfl, rfl, rfl, rfl, trivial⟩ ⟨rfl, rfl, rfl, trivial⟩ ⟨rfl, rfl, trivial⟩), h⟩
        ·replace h := cnd_f hb39 h
         refine vSkip ?_
         change ∃ _, _
         exact ⟨(g_0.bars.getD ((bar_4).toNat) (0, 0)).1, (En.of ⟨rfl, rfl, rfl, rfl, trivial⟩ ⟨rfl, rfl, rfl, trivial⟩ ⟨rfl, rfl, trivial⟩), h⟩
end Go.Proofs.Ytkklfgcelmeccaa
namespace Go.Proofs.Ytkklfgcelmeccaa
open Go.RowKit
def S_RunPebbles_l1 (N : Nat) (g_0 : Grf) (k_1 : Int) (l_2 : Int) (k : ((List Int) × (List Int) × (List Int)) → Option (Pbl × Bool)) : Nat → ((List Int) × (List Int) × (List Int) × Int) → Option (Pbl × Bool)
 | 0, _ => none
 | n + 1, (l29, l30, l31, i32) =>
  cnd (decide (i32 < (g_0.bars.length : Int))) (
   (S_PlaceBar N g_0 k_1 l_2 (⟨l29, l30, l31⟩ : Pbl) i32).bind fun v34 =>
   grd (Rg64 (i32 + (1 : Int))) <|
   S_RunPebbles_l1 N g_0 k_1 l_2 k n (v34.1.free, v34.1.tails, v34.1.placed, (i32 + (1 : Int)))) (
   k (l29, l30, l31))
def S_RunPebbles (N : Nat) (g_0 : Grf) (k_1 : Int) (l_2 : Int) : Option (Pbl × Bool) :=
 (S_NewPebbles N g_0 k_1).bind fun v1 =>
 cnd (!v1.2) (
  some ((⟨([] : List Int), ([] : List Int), ([] : List Int)⟩ : Pbl), false)) (
  (S_IsRange N k_1 l_2).bind fun v2 =>
  cnd (!v2) (
   some ((⟨([] : List Int), ([] : List Int), ([] : List Int)⟩ : Pbl), false)) (
   S_RunPebbles_l1 N g_0 k_1 l_2 (fun (x : (List Int) × (List Int) × (List Int)) =>
     match x with
     | (l17, l18, l19) =>
      some ((⟨l17, l18, l19⟩ : Pbl), true)) N (v1.1.free, ([] : List Int), ([] : List Int), (0 : Int))))
set_option maxRecDepth 20000 in
set_option maxHeartbeats 1600000 in
theorem S_RunPebbles_w (N : Nat) (g_0 : Grf) (k_1 : Int) (l_2 : Int) (r : Pbl × Bool) (h : S_RunPebbles N g_0 k_1 l_2 = some r) : PCall Try.prog 154 [gD g_0, .int k_1, .int l_2] [(3, .ints r.1.free), (3, .ints r.1.tails), (3, .ints r.1.placed)] (.tup [.agg [.row 0 0 r.1.free.length, .row 1 0 r.1.tails.length, .row 2 0 r.1.placed.length], .bool r.2]) := by
 unfold S_RunPebbles at h
 refine pcall_intro (TT := TT) tt Try.func154 rfl rfl Try.ntmps154 (congrArg Array.toList Try.results154) rfl rfl fun w0 => ?_
 refine vSeq ?_
 refine vRegion ?_
 refine oBox rfl rfl rfl rfl rfl rfl rfl rfl rfl ?_
 refine oAlloc tt rfl rfl rfl rfl rfl rfl rfl rfl rfl ?_
 refine oVal tt rfl rfl rfl rfl rfl trivial ?_
 refine vNil ?_
 change VC _ _ _ _
 refine vSeq ?_
 refine vRegion ?_
 iterate 2 refine oVal tt rfl rfl rfl rfl rfl trivial ?_
 obtain ⟨v1, hc1, h⟩ := bind_inv h
 refine oCall (S_NewPebbles_w N g_0 k_1 v1 hc1) rfl rfl rfl rfl rfl rfl rfl rfl ⟨⟨rfl, rfl, trivial⟩, rfl, trivial⟩ ?_
 iterate 3 refine oVal tt rfl rfl rfl rfl rfl trivial ?_
 refine oAlloc tt rfl rfl rfl rfl rfl rfl rfl rfl rfl ?_
 refine oStore tt rfl rfl rfl rfl rfl rfl rfl rfl rfl rfl rfl ⟨trivial, trivial, trivial, trivial⟩ ?_
 refine oVal tt rfl rfl rfl rfl rfl trivial ?_
 refine vNil ?_
 change VC _ _ _ _
 iterate 2 refine vSeq ?_
 refine vRegion ?_
 iterate 3 refine oVal tt rfl rfl rfl rfl rfl trivial ?_
 refine oSplit rfl rfl rfl (fun hb2 => ?_) (fun hb2 => ?_)
 ·replace h := cnd_t hb2 h
  iterate 4 refine oNoF rfl rfl rfl rfl hb2 rfl rfl ?_
  refine oPick rfl rfl rfl rfl rfl hb2 rfl ?_
  refine vNil ?_
  change VC _ _ _ _
  refine vCondT rfl rfl ?_
  refine vSeq ?_
  refine vRegion ?_
  refine oPure (wNone rfl) (pBuild bld_impl_Pebbles rfl rfl) rfl rfl ?_
  refine oStore tt rfl rfl rfl rfl rfl rfl rfl rfl rfl rfl rfl ⟨trivial, trivial, trivial, trivial⟩ ?_
  refine oVal tt rfl rfl rfl rfl rfl trivial ?_
  refine vNil ?_
  change VC _ _ _ _
  refine vNilB 6 0 9001 3 (.ints []) rfl rfl rfl rfl rfl ?_
  refine vNilB 6 1 9002 3 (.ints []) rfl rfl rfl rfl rfl ?_
  refine vNilB 6 2 9003 3 (.ints []) rfl rfl rfl rfl rfl ?_
  refine vRet ?_
  change ∃ _, _
  cases h
  exact ⟨[9001, 9002, 9003], _, rfl, ⟨rfl, rfl, rfl, trivial⟩, rfl, (.eq rfl), rfl⟩
 ·replace h := cnd_f hb2 h
  iterate 2 refine oValG tt rfl rfl rfl rfl rfl hb2 rfl rfl rfl trivial ?_
  obtain ⟨v2, hc3, h⟩ := bind_inv h
  refine oCallG (S_IsRange_w N k_1 l_2 v2 hc3) rfl rfl rfl rfl hb2 rfl rfl rfl rfl rfl rfl rfl ⟨rfl, rfl, trivial⟩ ?_
  refine oValG tt rfl rfl rfl rfl rfl hb2 rfl rfl rfl trivial ?_
  refine oPickF rfl rfl rfl rfl rfl hb2 rfl ?_
  refine vNil ?_
  change VC _ _ _ _
  refine vCond rfl (fun hb4 => ?_) (fun hb4 => ?_)
  ·replace h := cnd_t hb4 h
   refine vSeq ?_
   refine vRegion ?_
   refine oPure (wNone rfl) (pBuild bld_impl_Pebbles rfl rfl) rfl rfl ?_
   refine oStore tt rfl rfl rfl rfl rfl rfl rfl rfl rfl rfl rfl ⟨trivial, trivial, trivial, trivial⟩ ?_
   refine oVal tt rfl rfl rfl rfl rfl trivial ?_
   refine vNil ?_
   change VC _ _ _ _
   refine vNilB 6 0 9001 3 (.ints []) rfl rfl rfl rfl rfl ?_
   refine vNilB 6 1 9002 3 (.ints []) rfl rfl rfl rfl rfl ?_
   refine vNilB 6 2 9003 3 (.ints []) rfl rfl rfl rfl rfl ?_
   refine vRet ?_
   change ∃ _, _
   cases h
   exact ⟨[9001, 9002, 9003], _, rfl, ⟨rfl, rfl, rfl, trivial⟩, rfl, (.eq rfl), rfl⟩
  ·replace h := cnd_f hb4 h
   refine vSkip ?_
   change VC _ _ _ _
   iterate 2 refine vSeq ?_
   refine vRegion ?_
   refine oVal tt rfl rfl rfl rfl rfl trivial ?_
   refine vNil ?_
   change VC _ _ _ _
   refine vJoin (F := fun k => S_RunPebbles_l1 N g_0 k_1 l_2 k) h (α := (List Int) × (List Int) × (List Int)) (J := fun | (l17, l18, l19) => (⟨[(6, .ptr 6 0), (8, .ptr 8 0)], [(1140, some (3, .ints l17)), (9505, some (3, .ints l18)), (9506, some (3, .ints l19))], [(6, some [.nil, .nil, .nil]), (8, some [.row 1140 0 l17.length, .row 9505 0 l18.length, .row 9506 0 l19.length])]⟩ : PS)) ?_ ?_
   ·rintro ⟨l17, l18, l19⟩ h
    show VC _ _ _ (⟨[(6, .ptr 6 0), (8, .ptr 8 0)], [(1140, some (3, .ints l17)), (9505, some (3, .ints l18)), (9506, some (3, .ints l19))], [(6, some [.nil, .nil, .nil]), (8, some [.row 1140 0 l17.length, .row 9505 0 l18.length, .row 9506 0 l19.length])]⟩ : PS)
    refine vSeq ?_
    refine vRegion ?_
    refine oVal tt rfl rfl rfl rfl rfl trivial ?_
    refine oStore tt rfl rfl rfl rfl rfl rfl rfl rfl rfl rfl rfl ⟨trivial, trivial, trivial, trivial⟩ ?_
    refine oVal tt rfl rfl rfl rfl rfl trivial ?_
    refine vNil ?_
    change VC _ _ _ _
    refine vRet ?_
    change ∃ _, _
    cases h
    exact ⟨[1140, 9505, 9506], _, rfl, ⟨rfl, rfl, rfl, trivial⟩, rfl, (.eq rfl), rfl⟩
   ·intro k h
    refine vBlock ?_
    refine vNilB 8 1 9507 3 (.ints []) rfl rfl rfl rfl rfl ?_
    refine vNilB 8 2 9508 3 (.ints []) rfl rfl rfl rfl rfl ?_
    refine vLoopS (α := (List Int) × (List Int) × (List Int) × Int) (fun | (l29, l30, l31, i32) => (⟨[(1, .int k_1), (2, .int l_2), (3, .ptr 3 0), (6, .ptr 6 0), (8, .ptr 8 0), (10, .int i32)], [(1140, some (3, .ints l29)), (9507, some (3, .ints l30)), (9508, some (3, .ints l31))], [(3, some [.int g_0.n, .ro false (.pairs g_0.bars)]), (6, some [.nil, .nil, .nil]), (8, some [.row 1140 0 l29.length, .row 9507 0 l30.length, .row 9508 0 l31.length])]⟩ : PS)) (S_RunPebbles_l1 N g_0 k_1 l_2 k) h (En.of ⟨rfl, rfl, rfl, rfl, rfl, rfl, trivial⟩ ⟨rfl, rfl, rfl, trivial⟩ ⟨rfl, rfl, rfl, trivial⟩) (fun _ => rfl) ?_
    rintro n ⟨l29, l30, l31, i32⟩ h
    rw [S_RunPebbles_l1] at h
    show VC _ _ _ (⟨[(1, .int k_1), (2, .int l_2), (3, .ptr 3 0), (6, .ptr 6 0), (8, .ptr 8 0), (10, .int i32)], [(1140, some (3, .ints l29)), (9507, some (3, .ints l30)), (9508, some (3, .ints l31))], [(3, some [.int g_0.n, .ro false (.pairs g_0.bars)]), (6, some [.nil, .nil, .nil]), (8, some [.row 1140 0 l29.length, .row 9507 0 l30.length, .row 9508 0 l31.length])]⟩ : PS)
    iterate 2 refine vSeq ?_
    refine vRegion ?_
    iterate 5 refine oVal tt rfl rfl rfl rfl rfl trivial ?_
    refine vNil ?_
    change VC _ _ _ _
    refine vCond rfl (fun hb5 => ?_) (fun hb5 => ?_)
    ·replace h := cnd_t hb5 h
     refine vSkip ?_
     change VC _ _ _ _
     refine vSeq ?_
     refine vBlock ?_
     refine vRegion ?_
     iterate 5 refine oVal tt rfl rfl rfl rfl rfl trivial ?_
     obtain ⟨v34, hc6, h⟩ := bind_inv h
     refine oCall (S_PlaceBar_w N g_0 k_1 l_2 (⟨l29, l30, l31⟩ : Pbl) i32 v34 hc6) rfl rfl rfl rfl rfl rfl rfl rfl ⟨⟨rfl, rfl, trivial⟩, rfl, rfl, ⟨(.inl ⟨rfl, rfl⟩), (.inl ⟨rfl, rfl⟩), (.inl ⟨rfl, rfl⟩), trivial⟩, rfl, trivial⟩ ?_
     iterate 3 refine oVal tt rfl rfl rfl rfl rfl trivial ?_
     refine oStore tt rfl rfl rfl rfl rfl rfl rfl rfl rfl rfl rfl ⟨trivial, trivial, trivial, trivial⟩ ?_
     refine vNil ?_
     change VC _ _ _ _
     refine vRegion ?_
     refine oVal tt rfl rfl rfl rfl rfl trivial ?_
     obtain ⟨hg7, h⟩ := grd_inv h
     refine oVal tt rfl rfl rfl rfl rfl hg7 ?_
     refine oVal tt rfl rfl rfl rfl rfl trivial ?_
     refine vNil ?_
     change ∃ _, _
     exact ⟨(v34.1.free, v34.1.tails, v34.1.placed, (i32 + (1 : Int))), (En.ren [1140, 9507, 9508] [1390, 1391, 1392] rfl ⟨.inr rfl, .inr rfl, .inr rfl, .inr rfl, .inr rfl, .inr rfl, trivial⟩ ⟨.inr rfl, .inr rfl, .inr rfl, trivial⟩ ⟨.inr ⟨_, _, rfl, rfl, ⟨.inr rfl, .inr rfl, trivial⟩⟩, .inr ⟨_, _, rfl, rfl, ⟨.inr rfl, .inr rfl, .inr rfl, trivial⟩⟩, .inr ⟨_, _, rfl, rfl, ⟨.inr rfl, .inr rfl, .inr rfl, trivial⟩⟩, trivial⟩), h⟩
    ·replace h := cnd_f hb5 h
     refine vExit ?_
     change ∃ _, _
     exact ⟨(l29, l30, l31), (En.ren [9505, 9506] [9507, 9508] rfl ⟨.inr rfl, .inr rfl, trivial⟩ ⟨.inr rfl, .inr rfl, .inr rfl, trivial⟩ ⟨.inr ⟨_, _, rfl, rfl, ⟨.inr rfl, .inr rfl, .inr rfl, trivial⟩⟩, .inr ⟨_, _, rfl, rfl, ⟨.inr rfl, .inr rfl, .inr rfl, trivial⟩⟩, trivial⟩), h⟩
def S_RankOf (N : Nat) (g_0 : Grf) (k_1 : Int) (l_2 : Int) : Option (Int) :=
 (S_RunPebbles N g_0 k_1 l_2).bind fun v1 =>
 cnd (!v1.2) (
  some (-1 : Int)) (
  some (v1.1.placed.length : Int))
set_option maxRecDepth 20000 in
set_option maxHeartbeats 1600000 in
theorem S_RankOf_w (N : Nat) (g_0 : Grf) (k_1 : Int) (l_2 : Int) (r : Int) (h : S_RankOf N g_0 k_1 l_2 = some r) : PCall Try.prog 142 [gD g_0, .int k_1, .int l_2] [] (.int r) := by
 unfold S_RankOf at h
 refine pcall_intro (TT := TT) tt Try.func142 rfl rfl Try.ntmps142 (congrArg Array.toList Try.results142) rfl rfl fun w0 => ?_
 refine vSeq ?_
 refine vRegion ?_
 refine oBox rfl rfl rfl rfl rfl rfl rfl rfl rfl ?_
 refine oVal tt rfl rfl rfl rfl rfl trivial ?_
 refine vNil ?_
 change VC _ _ _ _
 refine vSeq ?_
 refine vRegion ?_
 iterate 3 refine oVal tt rfl rfl rfl rfl rfl trivial ?_
 obtain ⟨v1, hc1, h⟩ := bind_inv h
 refine oCall (S_RunPebbles_w N g_0 k_1 l_2 v1 hc1) rfl rfl rfl rfl rfl rfl rfl rfl ⟨⟨rfl, rfl, trivial⟩, rfl, rfl, trivial⟩ ?_
 iterate 3 refine oVal tt rfl rfl rfl rfl rfl trivial ?_
 refine oAlloc tt rfl rfl rfl rfl rfl rfl rfl rfl rfl ?_
 refine oStore tt rfl rfl rfl rfl rfl rfl rfl rfl rfl rfl rfl ⟨trivial, trivial, trivial, trivial⟩ ?_
 refine oVal tt rfl rfl rfl rfl rfl trivial ?_
 refine vNil ?_
 change VC _ _ _ _
 iterate 2 refine vSeq ?_
 refine vRegion ?_
 iterate 2 refine oVal tt rfl rfl rfl rfl rfl trivial ?_
 refine vNil ?_
 change VC _ _ _ _
 refine vCond rfl (fun hb2 => ?_) (fun hb2 => ?_)
 ·replace h := cnd_t hb2 h
  refine vSeq ?_
  refine vRegion ?_
  refine oVal tt rfl rfl rfl rfl rfl trivial ?_
  refine vNil ?_
  change VC _ _ _ _
  refine vRet ?_
  change ∃ _, _
  cases h
  exact ⟨[], _, rfl, trivial, rfl, (.eq rfl), rfl⟩
 ·replace h := cnd_f hb2 h
  refine vSkip ?_
  change VC _ _ _ _
  refine vSeq ?_
  refine vRegion ?_
  iterate 4 refine oVal tt rfl rfl rfl rfl rfl trivial ?_
  refine vNil ?_
  change VC _ _ _ _
  refine vRet ?_
  change ∃ _, _
  cases h
  exact ⟨[], _, rfl, trivial, rfl, (.eq rfl), rfl⟩
def S_FreedomOf (N : Nat) (g_0 : Grf) : Option (Int) :=
 (S_IsGraph N g_0).bind fun v1 =>
 cnd (!v1) (
  some (-1 : Int)) (
  grd (Rg64 ((2 : Int) * g_0.n)) <|
  grd (Rg64 (((2 : Int) * g_0.n) - (3 : Int))) <|
  (S_RankOf N g_0 (2 : Int) (3 : Int)).bind fun v2 =>
  grd (Rg64 ((max (0 : Int) (((2 : Int) * g_0.n) - (3 : Int))) - v2)) <|
  some ((max (0 : Int) (((2 : Int) * g_0.n) - (3 : Int))) - v2))
set_option maxRecDepth 20000 in
set_option maxHeartbeats 1600000 in
theorem S_FreedomOf_w (N : Nat) (g_0 : Grf) (r : Int) (h : S_FreedomOf N g_0 = some r) : PCall Try.prog 129 [gD g_0] [] (.int r) := by
 unfold S_FreedomOf at h
 refine pcall_intro (TT := TT) tt Try.func129 rfl rfl Try.ntmps129 (congrArg Array.toList Try.results129) rfl rfl fun w0 => ?_
 refine vSeq ?_
 refine vRegion ?_
 refine oBox rfl rfl rfl rfl rfl rfl rfl rfl rfl ?_
 refine oVal tt rfl rfl rfl rfl rfl trivial ?_
 refine vNil ?_
 change VC _ _ _ _
 iterate 2 refine vSeq ?_
 refine vRegion ?_
 refine oVal tt rfl rfl rfl rfl rfl trivial ?_
 obtain ⟨v1, hc1, h⟩ := bind_inv h
 refine oCall (S_IsGraph_w N g_0 v1 hc1) rfl rfl rfl rfl rfl rfl rfl rfl ⟨⟨rfl, rfl, trivial⟩, trivial⟩ ?_
 refine oVal tt rfl rfl rfl rfl rfl trivial ?_
 refine vNil ?_
 change VC _ _ _ _
 refine vCond rfl (fun hb2 => ?_) (fun hb2 => ?_)
 ·replace h := cnd_t hb2 h
  refine vSeq ?_
  refine vRegion ?_
  refine oVal tt rfl rfl rfl rfl rfl trivial ?_
  refine vNil ?_
  change VC _ _ _ _
  refine vRet ?_
  change ∃ _, _
  cases h
  exact ⟨[], _, rfl, trivial, rfl, (.eq rfl), rfl⟩
 ·replace h := cnd_f hb2 h
  refine vSkip ?_
  change VC _ _ _ _
  refine vSeq ?_
  refine vRegionD (by kernel_rfl) (by kernel_rfl) ?_
  iterate 2 refine cVal tt rfl (wNone rfl) rfl rfl rfl trivial ?_
  obtain ⟨hg3, h⟩ := grd_inv h
  refine cVal tt rfl (wNone rfl) rfl rfl rfl hg3 ?_
  obtain ⟨hg4, h⟩ := grd_inv h
  refine cVal tt rfl (wNone rfl) rfl rfl rfl hg4 ?_
  iterate 2 refine cVal tt rfl (wNone rfl) rfl rfl rfl trivial ?_
  obtain ⟨v2, hc5, h⟩ := bind_inv h
  refine cCall (S_RankOf_w N g_0 (2 : Int) (3 : Int) v2 hc5) rfl (wNone rfl) rfl rfl rfl rfl rfl rfl ⟨⟨rfl, rfl, trivial⟩, rfl, rfl, trivial⟩ ?_
  obtain ⟨hg6, h⟩ := grd_inv h
  refine cVal tt rfl (wNone rfl) rfl rfl rfl hg6 ?_
  refine cVal tt rfl (wNone rfl) rfl rfl rfl trivial ?_
  refine cNil ?_
  change VC _ _ _ _
  refine vRet ?_
  change ∃ _, _
  cases h
  exact ⟨[], _, rfl, trivial, rfl, (.eq rfl), rfl⟩
def S_IsRigid (N : Nat) (g_0 : Grf) : Option (Bool) :=
 (S_FreedomOf N g_0).bind fun v1 =>
 some (v1 == (0 : Int))
set_option maxRecDepth 20000 in
set_option maxHeartbeats 1600000 in
theorem S_IsRigid_w (N : Nat) (g_0 : Grf) (r : Bool) (h : S_IsRigid N g_0 = some r) : PCall Try.prog 117 [gD g_0] [] (.bool r) := by
 unfold S_IsRigid at h
 refine pcall_intro (TT := TT) tt Try.func117 rfl rfl Try.ntmps117 (congrArg Array.toList Try.results117) rfl rfl fun w0 => ?_
 refine vSeq ?_
 refine vRegion ?_
 refine oBox rfl rfl rfl rfl rfl rfl rfl rfl rfl ?_
 refine oVal tt rfl rfl rfl rfl rfl trivial ?_
 refine vNil ?_
 change VC _ _ _ _
 refine vSeq ?_
 refine vRegion ?_
 refine oVal tt rfl rfl rfl rfl rfl trivial ?_
 obtain ⟨v1, hc1, h⟩ := bind_inv h
 refine oCall (S_FreedomOf_w N g_0 v1 hc1) rfl rfl rfl rfl rfl rfl rfl rfl ⟨⟨rfl, rfl, trivial⟩, trivial⟩ ?_
 iterate 2 refine oVal tt rfl rfl rfl rfl rfl trivial ?_
 refine vNil ?_
 change VC _ _ _ _
 refine vRet ?_
 change ∃ _, _
 cases h
 exact ⟨[], _, rfl, trivial, rfl, (.eq rfl), rfl⟩
def S_WithoutPoints_l1 (N : Nat) (g_0 : Grf) (l7 : List Int) (k : (List (Int × Int)) → Option (Grf)) : Nat → ((List (Int × Int)) × Int) → Option (Grf)
 | 0, _ => none
 | n + 1, (l21, i22) =>
  cnd (decide (i22 < (g_0.bars.length : Int))) (
   (S_IsGraph N g_0).bind fun v24 =>
   cnd v24 (
    grd (0 ≤ i22 ∧ i22 < (g_0.bars.length : Int)) <|
    grd (0 ≤ ((g_0.bars.getD ((i22).toNat) (0, 0)).1) ∧ ((g_0.bars.getD ((i22).toNat) (0, 0)).1) < ((List.replicate (((max (0 : Int) (min (8 : Int) g_0.n))).toNat) (0 : Int)).length : Int)) <|
    grd (0 ≤ ((g_0.bars.getD ((i22).toNat) (0, 0)).1) ∧ ((g_0.bars.getD ((i22).toNat) (0, 0)).1) < (l7.length : Int)) <|
    grd (0 ≤ ((g_0.bars.getD ((i22).toNat) (0, 0)).2) ∧ ((g_0.bars.getD ((i22).toNat) (0, 0)).2) < ((List.replicate (((max (0 : Int) (min (8 : Int) g_0.n))).toNat) (0 : Int)).length : Int)) <|
    grd (0 ≤ ((g_0.bars.getD ((i22).toNat) (0, 0)).2) ∧ ((g_0.bars.getD ((i22).toNat) (0, 0)).2) < (l7.length : Int)) <|
    cnd (decide ((l7.getD (((g_0.bars.getD ((i22).toNat) (0, 0)).1).toNat) 0) ≥ (0 : Int))) (
     cnd (decide ((l7.getD (((g_0.bars.getD ((i22).toNat) (0, 0)).2).toNat) 0) ≥ (0 : Int))) (
      grd (l21.length + 1 ≤ 4294967296) <|
      grd (Rg64 (i22 + (1 : Int))) <|
      S_WithoutPoints_l1 N g_0 l7 k n ((l21 ++ ([((l7.getD (((g_0.bars.getD ((i22).toNat) (0, 0)).1).toNat) 0), (l7.getD (((g_0.bars.getD ((i22).toNat) (0, 0)).2).toNat) 0))] : List (Int × Int))), (i22 + (1 : Int)))) (
      grd (Rg64 (i22 + (1 : Int))) <|
      S_WithoutPoints_l1 N g_0 l7 k n (l21, (i22 + (1 : Int))))) (
     grd (Rg64 (i22 + (1 : Int))) <|
     S_WithoutPoints_l1 N g_0 l7 k n (l21, (i22 + (1 : Int))))) (
    k l21)) (
   k l21)
def S_WithoutPoints_l2 (N : Nat) (g_0 : Grf) (set_1 : List Int) (k : ((List Int) × Int) → Option (Grf)) : Nat → ((List Int) × Int × Int) → Option (Grf)
 | 0, _ => none
 | n + 1, (l27, n28, i29) =>
  cnd (decide (i29 < ((List.replicate (((max (0 : Int) (min (8 : Int) g_0.n))).toNat) (0 : Int)).length : Int))) (
   grd (0 ≤ i29 ∧ i29 < ((List.replicate (((max (0 : Int) (min (8 : Int) g_0.n))).toNat) (0 : Int)).length : Int)) <|
   grd (0 ≤ i29 ∧ i29 < (l27.length : Int)) <|
   (S_l2Has N set_1 i29).bind fun v31 =>
   cnd (!v31) (
    grd (0 ≤ i29 ∧ i29 < ((l27.set ((i29).toNat) (-1 : Int)).length : Int)) <|
    grd (Rg64 (n28 + (1 : Int))) <|
    grd (Rg64 (i29 + (1 : Int))) <|
    S_WithoutPoints_l2 N g_0 set_1 k n (((l27.set ((i29).toNat) (-1 : Int)).set ((i29).toNat) n28), (n28 + (1 : Int)), (i29 + (1 : Int)))) (
    grd (Rg64 (i29 + (1 : Int))) <|
    S_WithoutPoints_l2 N g_0 set_1 k n ((l27.set ((i29).toNat) (-1 : Int)), n28, (i29 + (1 : Int))))) (
   k (l27, n28))
def S_WithoutPoints (N : Nat) (g_0 : Grf) (set_1 : List Int) : Option (Grf) :=
 grd (0 ≤ (max (0 : Int) (min (8 : Int) g_0.n)) ∧ (max (0 : Int) (min (8 : Int) g_0.n)) ≤ 4294967296) <|
 S_WithoutPoints_l2 N g_0 set_1 (fun (x : (List Int) × Int) =>
   match x with
   | (l7, n8) =>
    S_WithoutPoints_l1 N g_0 l7 (fun (l16 : List (Int × Int)) =>
       some (⟨n8, l16⟩ : Grf)) N (([] : List (Int × Int)), (0 : Int))) N ((List.replicate (((max (0 : Int) (min (8 : Int) g_0.n))).toNat) (0 : Int)), (0 : Int), (0 : Int))
set_option maxRecDepth 20000 in
set_option maxHeartbeats 1600000 in
theorem S_WithoutPoints_w (N : Nat) (g_0 : Grf) (set_1 : List Int) (r : Grf) (h : S_WithoutPoints N g_0 set_1 = some r) : PCall Try.prog 95 [gD g_0, .ro false (.ints set_1)] [(113, .pairs r.bars)] (.agg [.int r.n, .row 0 0 r.bars.length]) := by
 unfold S_WithoutPoints at h
 refine pcall_intro (TT := TT) tt Try.func95 rfl rfl Try.ntmps95 (congrArg Array.toList Try.results95) rfl rfl fun w0 => ?_
 refine vSeq ?_
 refine vRegion ?_
 refine oBox rfl rfl rfl rfl rfl rfl rfl rfl rfl ?_
 refine oAlloc tt rfl rfl rfl rfl rfl rfl rfl rfl rfl ?_
 refine vNil ?_
 change VC _ _ _ _
 refine vSeq ?_
 refine vRegion ?_
 iterate 4 refine oVal tt rfl rfl rfl rfl rfl trivial ?_
 obtain ⟨hg1, h⟩ := grd_inv h
 refine oMake tt rfl rfl rfl rfl rfl rfl rfl rfl rfl rfl rfl hg1 ?_
 refine oVal tt rfl rfl rfl rfl rfl trivial ?_
 refine vNil ?_
 change VC _ _ _ _
 refine vSeq ?_
 refine vRegion ?_
 refine oVal tt rfl rfl rfl rfl rfl trivial ?_
 refine vNil ?_
 change VC _ _ _ _
 iterate 2 refine vSeq ?_
 refine vRegion ?_
 refine oVal tt rfl rfl rfl rfl rfl trivial ?_
 refine vNil ?_
 change VC _ _ _ _
 refine vJoin (F := fun k => S_WithoutPoints_l2 N g_0 set_1 k) h (α := (List Int) × Int) (J := fun | (l7, n8) => (⟨[(2, .ptr 2 0), (4, .ptr 4 0), (5, .row 16 0 ((List.replicate (((max (0 : Int) (min (8 : Int) g_0.n))).toNat) (0 : Int)).length)), (6, .int n8)], [(16, some (3, .ints l7))], [(2, some [.int g_0.n, .ro false (.pairs g_0.bars)]), (4, some [.int (0 : Int), .nil])]⟩ : PS)) ?_ ?_
 ·rintro ⟨l7, n8⟩ h
  show VC _ _ _ (⟨[(2, .ptr 2 0), (4, .ptr 4 0), (5, .row 16 0 ((List.replicate (((max (0 : Int) (min (8 : Int) g_0.n))).toNat) (0 : Int)).length)), (6, .int n8)], [(16, some (3, .ints l7))], [(2, some [.int g_0.n, .ro false (.pairs g_0.bars)]), (4, some [.int (0 : Int), .nil])]⟩ : PS)
  refine vSeq ?_
  refine vRegion ?_
  refine oVal tt rfl rfl rfl rfl rfl trivial ?_
  refine oEmpty tt (wNone rfl) rfl rfl rfl rfl ?_
  refine oPure (wNone rfl) (pBuild bld_impl_Graph rfl rfl) rfl rfl ?_
  refine oAlloc tt rfl rfl rfl rfl rfl rfl rfl rfl rfl ?_
  refine oStore tt rfl rfl rfl rfl rfl rfl rfl rfl rfl rfl rfl ⟨trivial, trivial, trivial⟩ ?_
  refine vNil ?_
  change VC _ _ _ _
  iterate 2 refine vSeq ?_
  refine vRegion ?_
  refine oVal tt rfl rfl rfl rfl rfl trivial ?_
  refine vNil ?_
  change VC _ _ _ _
  refine vJoin (F := fun k => S_WithoutPoints_l1 N g_0 l7 k) h (α := List (Int × Int)) (J := fun (l16 : List (Int × Int)) => (⟨[(4, .ptr 4 0), (8, .ptr 8 0)], [(80, some (113, .pairs l16))], [(4, some [.int (0 : Int), .nil]), (8, some [.int n8, .row 80 0 l16.length])]⟩ : PS)) ?_ ?_
  ·rintro l16 h
   show VC _ _ _ (⟨[(4, .ptr 4 0), (8, .ptr 8 0)], [(80, some (113, .pairs l16))], [(4, some [.int (0 : Int), .nil]), (8, some [.int n8, .row 80 0 l16.length])]⟩ : PS)
   refine vSeq ?_
   refine vRegion ?_
   refine oVal tt rfl rfl rfl rfl rfl trivial ?_
   refine oStore tt rfl rfl rfl rfl rfl rfl rfl rfl rfl rfl rfl ⟨trivial, trivial, trivial⟩ ?_
   refine vNil ?_
   change VC _ _ _ _
   refine vRet ?_
   change ∃ _, _
   cases h
   exact ⟨[80], _, rfl, ⟨rfl, trivial⟩, rfl, (.eq rfl), rfl⟩
  ·intro k h
   refine vBlock ?_
   refine vNilB 8 1 80 113 (.pairs []) rfl rfl rfl rfl rfl ?_
   refine vLoopS (α := (List (Int × Int)) × Int) (fun | (l21, i22) => (⟨[(2, .ptr 2 0), (4, .ptr 4 0), (5, .row 16 0 ((List.replicate (((max (0 : Int) (min (8 : Int) g_0.n))).toNat) (0 : Int)).length)), (8, .ptr 8 0), (9, .int i22)], [(16, some (3, .ints l7)), (80, some (113, .pairs l21))], [(2, some [.int g_0.n, .ro false (.pairs g_0.bars)]), (4, some [.int (0 : Int), .nil]), (8, some [.int n8, .row 80 0 l21.length])]⟩ : PS)) (S_WithoutPoints_l1 N g_0 l7 k) h (En.of ⟨rfl, rfl, rfl, rfl, rfl, trivial⟩ ⟨rfl, rfl, trivial⟩ ⟨rfl, rfl, rfl, trivial⟩) (fun _ => rfl) ?_
   rintro n ⟨l21, i22⟩ h
   rw [S_WithoutPoints_l1] at h
   show VC _ _ _ (⟨[(2, .ptr 2 0), (4, .ptr 4 0), (5, .row 16 0 ((List.replicate (((max (0 : Int) (min (8 : Int) g_0.n))).toNat) (0 : Int)).length)), (8, .ptr 8 0), (9, .int i22)], [(16, some (3, .ints l7)), (80, some (113, .pairs l21))], [(2, some [.int g_0.n, .ro false (.pairs g_0.bars)]), (4, some [.int (0 : Int), .nil]), (8, some [.int n8, .row 80 0 l21.length])]⟩ : PS)
   iterate 2 refine vSeq ?_
   refine vRegion ?_
   iterate 6 refine oVal tt rfl rfl rfl rfl rfl trivial ?_
   refine oSplit rfl rfl rfl (fun hb2 => ?_) (fun hb2 => ?_)
   ·replace h := cnd_t hb2 h
    refine oValG tt rfl rfl rfl rfl rfl hb2 rfl rfl rfl trivial ?_
    obtain ⟨v24, hc3, h⟩ := bind_inv h
    refine oCallG (S_IsGraph_w N g_0 v24 hc3) rfl rfl rfl rfl hb2 rfl rfl rfl rfl rfl rfl rfl ⟨⟨rfl, rfl, trivial⟩, trivial⟩ ?_
    refine oPick rfl rfl rfl rfl rfl hb2 rfl ?_
    refine vNil ?_
    change VC _ _ _ _
    refine vCond rfl (fun hb4 => ?_) (fun hb4 => ?_)
    ·replace h := cnd_t hb4 h
     refine vSkip ?_
     change VC _ _ _ _
     refine vSeq ?_
     refine vBlock ?_
     refine vSeq ?_
     refine vRegion ?_
     iterate 4 refine oVal tt rfl rfl rfl rfl rfl trivial ?_
     obtain ⟨hg5, h⟩ := grd_inv h
     refine oVal tt rfl rfl rfl rfl rfl hg5 ?_
     iterate 2 refine oVal tt rfl rfl rfl rfl rfl trivial ?_
     obtain ⟨hg6, h⟩ := grd_inv h
     refine oVal tt rfl rfl rfl rfl rfl hg6 ?_
     obtain ⟨hg7, h⟩ := grd_inv h
     refine oVal tt rfl rfl rfl rfl rfl hg7 ?_
     refine oVal tt rfl rfl rfl rfl rfl trivial ?_
     refine vNil ?_
     change VC _ _ _ _
     refine vSeq ?_
     refine vRegion ?_
     iterate 4 refine oVal tt rfl rfl rfl rfl rfl trivial ?_
     refine oVal tt rfl rfl rfl rfl rfl hg5 ?_
     iterate 2 refine oVal tt rfl rfl rfl rfl rfl trivial ?_
     obtain ⟨hg8, h⟩ := grd_inv h
     refine oVal tt rfl rfl rfl rfl rfl hg8 ?_
     obtain ⟨hg9, h⟩ := grd_inv h
     refine oVal tt rfl rfl rfl rfl rfl hg9 ?_
     refine oVal tt rfl rfl rfl rfl rfl trivial ?_
     refine vNil ?_
     change VC _ _ _ _
     refine vSeq ?_
     refine vRegion ?_
     iterate 3 refine oVal tt rfl rfl rfl rfl rfl trivial ?_
     refine oSplit rfl rfl rfl (fun hb10 => ?_) (fun hb10 => ?_)
     ·replace h := cnd_t hb10 h
      iterate 2 refine oValG tt rfl rfl rfl rfl rfl hb10 rfl rfl rfl trivial ?_
      refine oPick rfl rfl rfl rfl rfl hb10 rfl ?_
      refine vNil ?_
      change VC _ _ _ _
      refine vCond rfl (fun hb11 => ?_) (fun hb11 => ?_)
      ·replace h := cnd_t hb11 h
       refine vRegion ?_
       iterate 4 refine oVal tt rfl rfl rfl rfl rfl trivial ?_
       refine oPure (wNone rfl) (pBuild bld_impl_Bar rfl rfl) rfl rfl ?_
       refine oBuild tt rfl rfl rfl rfl rfl rfl rfl rfl rfl rfl rfl ?_
       obtain ⟨hg12, h⟩ := grd_inv h
       refine oAppend tt rfl rfl rfl rfl rfl rfl rfl rfl rfl rfl rfl rfl rfl rfl rfl rfl (Nat.le_of_eq (Nat.zero_add _)) hg12 ?_
       refine oVal tt rfl rfl rfl rfl rfl trivial ?_
       refine oStore tt rfl rfl rfl rfl rfl rfl rfl rfl rfl rfl rfl ⟨trivial, trivial⟩ ?_
       refine vNil ?_
       change VC _ _ _ _
       refine vRegion ?_
       refine oVal tt rfl rfl rfl rfl rfl trivial ?_
       obtain ⟨hg13, h⟩ := grd_inv h
       refine oVal tt rfl rfl rfl rfl rfl hg13 ?_
       refine oVal tt rfl rfl rfl rfl rfl trivial ?_
       refine vNil ?_
       change ∃ _, _
       exact ⟨((l21 ++ ([((l7.getD (((g_0.bars.getD ((i22).toNat) (0, 0)).1).toNat) 0), (l7.getD (((g_0.bars.getD ((i22).toNat) (0, 0)).2).toNat) 0))] : List (Int × Int))), (i22 + (1 : Int))), (En.of ⟨rfl, rfl, rfl, rfl, rfl, trivial⟩ ⟨rfl, rfl, trivial⟩ ⟨rfl, rfl, rfl, trivial⟩), h⟩
      ·replace h := cnd_f hb11 h
       refine vSkip ?_
       change VC _ _ _ _
       refine vRegion ?_
       refine oVal tt rfl rfl rfl rfl rfl trivial ?_
       obtain ⟨hg14, h⟩ := grd_inv h
       refine oVal tt rfl rfl rfl rfl rfl hg14 ?_
       refine oVal tt rfl rfl rfl rfl rfl trivial ?_
       refine vNil ?_
       change ∃ _, _
       exact ⟨(l21, (i22 + (1 : Int))), (En.of ⟨rfl, rfl, rfl, rfl, rfl, trivial⟩ ⟨rfl, rfl, trivial⟩ ⟨rfl, rfl, rfl, trivial⟩), h⟩
     ·replace h := cnd_f hb10 h
      iterate 2 refine oNoT rfl rfl rfl rfl hb10 rfl rfl ?_
      refine oPickF rfl rfl rfl rfl rfl hb10 rfl ?_
      refine vNil ?_
      change VC _ _ _ _
      refine vCondF rfl rfl ?_
      refine vSkip ?_
      change VC _ _ _ _
      refine vRegion ?_
      refine oVal tt rfl rfl rfl rfl rfl trivial ?_
      obtain ⟨hg15, h⟩ := grd_inv h
      refine oVal tt rfl rfl rfl rfl rfl hg15 ?_
      refine oVal tt rfl rfl rfl rfl rfl trivial ?_
      refine vNil ?_
      change ∃ _, _
      exact ⟨(l21, (i22 + (1 : Int))), (En.of ⟨rfl, rfl, rfl, rfl, rfl, trivial⟩ ⟨rfl, rfl, trivial⟩ ⟨rfl, rfl, rfl, trivial⟩), h⟩
    ·replace h := cnd_f hb4 h
     refine vExit ?_
     change ∃ _, _
     exact ⟨l21, (En.of ⟨rfl, rfl, trivial⟩ ⟨rfl, trivial⟩ ⟨rfl, rfl, trivial⟩), h⟩
   ·replace h := cnd_f hb2 h
    iterate 2 refine oNoT rfl rfl rfl rfl hb2 rfl rfl ?_
    refine oPickF rfl rfl rfl rfl rfl hb2 rfl ?_
    refine vNil ?_
    change VC _ _ _ _
    refine vCondF rfl rfl ?_
    refine vExit ?_
    change ∃ _, _
    exact ⟨l21, (En.of ⟨rfl, rfl, trivial⟩ ⟨rfl, trivial⟩ ⟨rfl, rfl, trivial⟩), h⟩
 ·intro k h
  refine vBlock ?_
  refine vLoopS (α := (List Int) × Int × Int) (fun | (l27, n28, i29) => (⟨[(1, .ro false (.ints set_1)), (2, .ptr 2 0), (4, .ptr 4 0), (5, .row 16 0 ((List.replicate (((max (0 : Int) (min (8 : Int) g_0.n))).toNat) (0 : Int)).length)), (6, .int n28), (7, .int i29)], [(16, some (3, .ints l27))], [(2, some [.int g_0.n, .ro false (.pairs g_0.bars)]), (4, some [.int (0 : Int), .nil])]⟩ : PS)) (S_WithoutPoints_l2 N g_0 set_1 k) h (En.of ⟨rfl, rfl, rfl, rfl, rfl, rfl, trivial⟩ ⟨rfl, trivial⟩ ⟨rfl, rfl, trivial⟩) (fun _ => rfl) ?_
  rintro n ⟨l27, n28, i29⟩ h
  rw [S_WithoutPoints_l2] at h
  show VC _ _ _ (⟨[(1, .ro false (.ints set_1)), (2, .ptr 2 0), (4, .ptr 4 0), (5, .row 16 0 ((List.replicate (((max (0 : Int) (min (8 : Int) g_0.n))).toNat) (0 : Int)).length)), (6, .int n28), (7, .int i29)], [(16, some (3, .ints l27))], [(2, some [.int g_0.n, .ro false (.pairs g_0.bars)]), (4, some [.int (0 : Int), .nil])]⟩ : PS)
  iterate 2 refine vSeq ?_
  refine vRegion ?_
  iterate 4 refine oVal tt rfl rfl rfl rfl rfl trivial ?_
  refine vNil ?_
  change VC _ _ _ _
  refine vCond rfl (fun hb16 => ?_) (fun hb16 => ?_)
  ·replace h := cnd_t hb16 h
   refine vSkip ?_
   change VC _ _ _ _
   refine vSeq ?_
   refine vBlock ?_
   refine vSeq ?_
   refine vRegion ?_
   iterate 2 refine oVal tt rfl rfl rfl rfl rfl trivial ?_
   obtain ⟨hg17, h⟩ := grd_inv h
   refine oVal tt rfl rfl rfl rfl rfl hg17 ?_
   obtain ⟨hg18, h⟩ := grd_inv h
   refine oStore tt rfl rfl rfl rfl rfl rfl rfl rfl rfl rfl ⟨_, _, rfl, hg18.1, hg18.2⟩ ⟨hg18, trivial⟩ ?_
   refine vNil ?_
   change VC _ _ _ _
   refine vSeq ?_
   refine vRegion ?_
   iterate 2 refine oVal tt rfl rfl rfl rfl rfl trivial ?_
   obtain ⟨v31, hc19, h⟩ := bind_inv h
   refine oCall (S_l2Has_w N set_1 i29 v31 hc19) rfl rfl rfl rfl rfl rfl rfl rfl ⟨rfl, rfl, trivial⟩ ?_
   refine oVal tt rfl rfl rfl rfl rfl trivial ?_
   refine vNil ?_
   change VC _ _ _ _
   refine vCond rfl (fun hb20 => ?_) (fun hb20 => ?_)
   ·replace h := cnd_t hb20 h
    refine vSeq ?_
    refine vRegion ?_
    iterate 3 refine oVal tt rfl rfl rfl rfl rfl trivial ?_
    refine oVal tt rfl rfl rfl rfl rfl hg17 ?_
    obtain ⟨hg21, h⟩ := grd_inv h
    refine oStore tt rfl rfl rfl rfl rfl rfl rfl rfl rfl rfl ⟨_, _, rfl, hg21.1, hg21.2⟩ ⟨hg21, trivial⟩ ?_
    refine vNil ?_
    change VC _ _ _ _
    refine vRegion ?_
    refine oVal tt rfl rfl rfl rfl rfl trivial ?_
    obtain ⟨hg22, h⟩ := grd_inv h
    refine oVal tt rfl rfl rfl rfl rfl hg22 ?_
    refine oVal tt rfl rfl rfl rfl rfl trivial ?_
    refine vNil ?_
    change VC _ _ _ _
    refine vRegion ?_
    refine oVal tt rfl rfl rfl rfl rfl trivial ?_
    obtain ⟨hg23, h⟩ := grd_inv h
    refine oVal tt rfl rfl rfl rfl rfl hg23 ?_
    refine oVal tt rfl rfl rfl rfl rfl trivial ?_
    refine vNil ?_
    change ∃ _, _
    exact ⟨(((l27.set ((i29).toNat) (-1 : Int)).set ((i29).toNat) n28), (n28 + (1 : Int)), (i29 + (1 : Int))), (En.of ⟨rfl, rfl, rfl, rfl, rfl, rfl, trivial⟩ ⟨rfl, trivial⟩ ⟨rfl, rfl, trivial⟩), h⟩
   ·replace h := cnd_f hb20 h
    refine vSkip ?_
    change VC _ _ _ _
    refine vRegion ?_
    refine oVal tt rfl rfl rfl rfl rfl trivial ?_
    obtain ⟨hg24, h⟩ := grd_inv h
    refine oVal tt rfl rfl rfl rfl rfl hg24 ?_
    refine oVal tt rfl rfl rfl rfl rfl trivial ?_
    refine vNil ?_
    change ∃ _, _
    exact ⟨((l27.set ((i29).toNat) (-1 : Int)), n28, (i29 + (1 : Int))), (En.of ⟨rfl, rfl, rfl, rfl, rfl, rfl, trivial⟩ ⟨rfl, trivial⟩ ⟨rfl, rfl, trivial⟩), h⟩
  ·replace h := cnd_f hb16 h
   refine vExit ?_
   change ∃ _, _
   exact ⟨(l27, n28), (En.of ⟨rfl, rfl, rfl, rfl, trivial⟩ ⟨rfl, trivial⟩ ⟨rfl, rfl, trivial⟩), h⟩
def S_ReachOf_l1 (N : Nat) (g_0 : Grf) (l22 : List Bool) (k : (List Int) → Option (List Int)) : Nat → ((List Int) × Int) → Option (List Int)
 | 0, _ => none
 | n + 1, (l27, i28) =>
  cnd (decide (i28 < g_0.n)) (
   grd (0 ≤ i28 ∧ i28 < ((List.replicate ((g_0.n).toNat) (false : Bool)).length : Int)) <|
   grd (0 ≤ i28 ∧ i28 < (l22.length : Int)) <|
   cnd (l22.getD ((i28).toNat) false) (
    grd (l27.length + 1 ≤ 4294967296) <|
    grd (Rg64 (i28 + (1 : Int))) <|
    S_ReachOf_l1 N g_0 l22 k n ((l27 ++ ([i28] : List Int)), (i28 + (1 : Int)))) (
    grd (Rg64 (i28 + (1 : Int))) <|
    S_ReachOf_l1 N g_0 l22 k n (l27, (i28 + (1 : Int))))) (
   k l27)
def S_ReachOf_l3 (N : Nat) (g_0 : Grf) (k : (List Bool) → Option (List Int)) : Nat → ((List Bool) × Int) → Option (List Int)
 | 0, _ => none
 | n + 1, (l48, i49) =>
  cnd (decide (i49 < (g_0.bars.length : Int))) (
   grd (0 ≤ i49 ∧ i49 < (g_0.bars.length : Int)) <|
   grd (0 ≤ ((g_0.bars.getD ((i49).toNat) (0, 0)).1) ∧ ((g_0.bars.getD ((i49).toNat) (0, 0)).1) < ((List.replicate ((g_0.n).toNat) (false : Bool)).length : Int)) <|
   grd (0 ≤ ((g_0.bars.getD ((i49).toNat) (0, 0)).1) ∧ ((g_0.bars.getD ((i49).toNat) (0, 0)).1) < (l48.length : Int)) <|
   cnd (l48.getD (((g_0.bars.getD ((i49).toNat) (0, 0)).1).toNat) false) (
    grd (0 ≤ ((g_0.bars.getD ((i49).toNat) (0, 0)).2) ∧ ((g_0.bars.getD ((i49).toNat) (0, 0)).2) < ((List.replicate ((g_0.n).toNat) (false : Bool)).length : Int)) <|
    grd (0 ≤ ((g_0.bars.getD ((i49).toNat) (0, 0)).2) ∧ ((g_0.bars.getD ((i49).toNat) (0, 0)).2) < ((l48.set (((g_0.bars.getD ((i49).toNat) (0, 0)).1).toNat) true).length : Int)) <|
    grd (Rg64 (i49 + (1 : Int))) <|
    S_ReachOf_l3 N g_0 k n (((l48.set (((g_0.bars.getD ((i49).toNat) (0, 0)).1).toNat) true).set (((g_0.bars.getD ((i49).toNat) (0, 0)).2).toNat) true), (i49 + (1 : Int)))) (
    grd (0 ≤ ((g_0.bars.getD ((i49).toNat) (0, 0)).2) ∧ ((g_0.bars.getD ((i49).toNat) (0, 0)).2) < ((List.replicate ((g_0.n).toNat) (false : Bool)).length : Int)) <|
    grd (0 ≤ ((g_0.bars.getD ((i49).toNat) (0, 0)).2) ∧ ((g_0.bars.getD ((i49).toNat) (0, 0)).2) < (l48.length : Int)) <|
    cnd (l48.getD (((g_0.bars.getD ((i49).toNat) (0, 0)).2).toNat) false) (
     grd (0 ≤ ((g_0.bars.getD ((i49).toNat) (0, 0)).2) ∧ ((g_0.bars.getD ((i49).toNat) (0, 0)).2) < ((l48.set (((g_0.bars.getD ((i49).toNat) (0, 0)).1).toNat) true).length : Int)) <|
     grd (Rg64 (i49 + (1 : Int))) <|
     S_ReachOf_l3 N g_0 k n (((l48.set (((g_0.bars.getD ((i49).toNat) (0, 0)).1).toNat) true).set (((g_0.bars.getD ((i49).toNat) (0, 0)).2).toNat) true), (i49 + (1 : Int)))) (
     grd (Rg64 (i49 + (1 : Int))) <|
     S_ReachOf_l3 N g_0 k n (l48, (i49 + (1 : Int)))))) (
   k l48)
def S_ReachOf_l2 (N : Nat) (g_0 : Grf) (k : (List Bool) → Option (List Int)) : Nat → ((List Bool) × Int) → Option (List Int)
 | 0, _ => none
 | n + 1, (l36, n37) =>
  cnd (decide (n37 < g_0.n)) (
   S_ReachOf_l3 N g_0 (fun (l46 : List Bool) =>
      grd (Rg64 (n37 + (1 : Int))) <|
      S_ReachOf_l2 N g_0 k n (l46, (n37 + (1 : Int)))) N (l36, (0 : Int))) (
   k l36)
def S_ReachOf (N : Nat) (g_0 : Grf) (v_1 : Int) : Option (List Int) :=
 (S_IsGraph N g_0).bind fun v1 =>
 cnd (!v1) (
  some ([] : List Int)) (
  cnd (decide (v_1 < (0 : Int))) (
   some ([] : List Int)) (
   cnd (decide (v_1 ≥ g_0.n)) (
    some ([] : List Int)) (
    grd (0 ≤ g_0.n ∧ g_0.n ≤ 4294967296) <|
    grd (0 ≤ v_1 ∧ v_1 < ((List.replicate ((g_0.n).toNat) (false : Bool)).length : Int)) <|
    S_ReachOf_l2 N g_0 (fun (l22 : List Bool) =>
       S_ReachOf_l1 N g_0 l22 (fun (l25 : List Int) =>
          some l25) N (([] : List Int), (0 : Int))) N (((List.replicate ((g_0.n).toNat) (false : Bool)).set ((v_1).toNat) true), (0 : Int)))))
set_option maxRecDepth 20000 in
set_option maxHeartbeats 1600000 in
theorem S_ReachOf_w (N : Nat) (g_0 : Grf) (v_1 : Int) (r : List Int) (h : S_ReachOf N g_0 v_1 = some r) : PCall Try.prog 155 [gD g_0, .int v_1] [(3, .ints r)] (.row 0 0 r.length) := by
 unfold S_ReachOf at h
 refine pcall_intro (TT := TT) tt Try.func155 rfl rfl Try.ntmps155 (congrArg Array.toList Try.results155) rfl rfl fun w0 => ?_
 refine vSeq ?_
 refine vRegion ?_
 refine oBox rfl rfl rfl rfl rfl rfl rfl rfl rfl ?_
 refine oVal tt rfl rfl rfl rfl rfl trivial ?_
 refine vNil ?_
 change VC _ _ _ _
 refine vSeq ?_
 refine vRegion ?_
 refine oEmpty tt (wNone rfl) rfl rfl rfl rfl ?_
 refine oVal tt rfl rfl rfl rfl rfl trivial ?_
 refine vNil ?_
 change VC _ _ _ _
 iterate 2 refine vSeq ?_
 refine vRegion ?_
 refine oVal tt rfl rfl rfl rfl rfl trivial ?_
 obtain ⟨v1, hc1, h⟩ := bind_inv h
 refine oCall (S_IsGraph_w N g_0 v1 hc1) rfl rfl rfl rfl rfl rfl rfl rfl ⟨⟨rfl, rfl, trivial⟩, trivial⟩ ?_
 iterate 2 refine oVal tt rfl rfl rfl rfl rfl trivial ?_
 refine oSplit rfl rfl rfl (fun hb2 => ?_) (fun hb2 => ?_)
 ·replace h := cnd_t hb2 h
  iterate 2 refine oNoF rfl rfl rfl rfl hb2 rfl rfl ?_
  refine oPick rfl rfl rfl rfl rfl hb2 rfl ?_
  refine oVal tt rfl rfl rfl rfl rfl trivial ?_
  iterate 4 refine oNoF rfl rfl rfl rfl rfl rfl rfl ?_
  refine oPick rfl rfl rfl rfl rfl rfl rfl ?_
  refine vNil ?_
  change VC _ _ _ _
  refine vCondT rfl rfl ?_
  refine vSeq ?_
  refine vRegion ?_
  iterate 2 refine oVal tt rfl rfl rfl rfl rfl trivial ?_
  refine vNil ?_
  change VC _ _ _ _
  refine vNilT 4 9001 3 (.ints []) rfl rfl rfl rfl ?_
  refine vRet ?_
  change ∃ _, _
  cases h
  exact ⟨[9001], _, rfl, ⟨rfl, trivial⟩, rfl, (.eq rfl), rfl⟩
 ·replace h := cnd_f hb2 h
  iterate 2 refine oValG tt rfl rfl rfl rfl rfl hb2 rfl rfl rfl trivial ?_
  refine oPickF rfl rfl rfl rfl rfl hb2 rfl ?_
  refine oVal tt rfl rfl rfl rfl rfl trivial ?_
  refine oSplit rfl rfl rfl (fun hb3 => ?_) (fun hb3 => ?_)
  ·replace h := cnd_t hb3 h
   iterate 4 refine oNoF rfl rfl rfl rfl hb3 rfl rfl ?_
   refine oPick rfl rfl rfl rfl rfl hb3 rfl ?_
   refine vNil ?_
   change VC _ _ _ _
   refine vCondT rfl rfl ?_
   refine vSeq ?_
   refine vRegion ?_
   iterate 2 refine oVal tt rfl rfl rfl rfl rfl trivial ?_
   refine vNil ?_
   change VC _ _ _ _
   refine vNilT 4 9001 3 (.ints []) rfl rfl rfl rfl ?_
   refine vRet ?_
   change ∃ _, _
   cases h
   exact ⟨[9001], _, rfl, ⟨rfl, trivial⟩, rfl, (.eq rfl), rfl⟩
  ·replace h := cnd_f hb3 h
   iterate 4 refine oValG tt rfl rfl rfl rfl rfl hb3 rfl rfl rfl trivial ?_
   refine oPickF rfl rfl rfl rfl rfl hb3 rfl ?_
   refine vNil ?_
   change VC _ _ _ _
   refine vCond rfl (fun hb4 => ?_) (fun hb4 => ?_)
   ·replace h := cnd_t hb4 h
    refine vSeq ?_
    refine vRegion ?_
    iterate 2 refine oVal tt rfl rfl rfl rfl rfl trivial ?_
    refine vNil ?_
    change VC _ _ _ _
    refine vNilT 4 9001 3 (.ints []) rfl rfl rfl rfl ?_
    refine vRet ?_
    change ∃ _, _
    cases h
    exact ⟨[9001], _, rfl, ⟨rfl, trivial⟩, rfl, (.eq rfl), rfl⟩
   ·replace h := cnd_f hb4 h
    refine vSkip ?_
    change VC _ _ _ _
    refine vSeq ?_
    refine vRegion ?_
    iterate 2 refine oVal tt rfl rfl rfl rfl rfl trivial ?_
    obtain ⟨hg5, h⟩ := grd_inv h
    refine oMake tt rfl rfl rfl rfl rfl rfl rfl rfl rfl rfl rfl hg5 ?_
    refine oVal tt rfl rfl rfl rfl rfl trivial ?_
    refine vNil ?_
    change VC _ _ _ _
    refine vSeq ?_
    refine vRegion ?_
    iterate 2 refine oVal tt rfl rfl rfl rfl rfl trivial ?_
    obtain ⟨hg6, h⟩ := grd_inv h
    refine oVal tt rfl rfl rfl rfl rfl hg6 ?_
    refine oStore tt rfl rfl rfl rfl rfl rfl rfl rfl rfl rfl ⟨_, _, rfl, hg6.1, hg6.2⟩ ⟨hg6, trivial⟩ ?_
    refine vNil ?_
    change VC _ _ _ _
    iterate 2 refine vSeq ?_
    refine vRegion ?_
    refine oVal tt rfl rfl rfl rfl rfl trivial ?_
    refine vNil ?_
    change VC _ _ _ _
    refine vJoin (F := fun k => S_ReachOf_l2 N g_0 k) h (α := List Bool) (J := fun (l22 : List Bool) => (⟨[(2, .ptr 2 0), (5, .nil), (6, .row 27 0 ((List.replicate ((g_0.n).toNat) (false : Bool)).length))], [(27, some (4, .bools l22))], [(2, some [.int g_0.n, .ro false (.pairs g_0.bars)])]⟩ : PS)) ?_ ?_
    ·rintro l22 h
     show VC _ _ _ (⟨[(2, .ptr 2 0), (5, .nil), (6, .row 27 0 ((List.replicate ((g_0.n).toNat) (false : Bool)).length))], [(27, some (4, .bools l22))], [(2, some [.int g_0.n, .ro false (.pairs g_0.bars)])]⟩ : PS)
     iterate 2 refine vSeq ?_
     refine vRegion ?_
     refine oVal tt rfl rfl rfl rfl rfl trivial ?_
     refine vNil ?_
     change VC _ _ _ _
     refine vJoin (F := fun k => S_ReachOf_l1 N g_0 l22 k) h (α := List Int) (J := fun (l25 : List Int) => (⟨[(5, .row 93 0 l25.length)], [(93, some (3, .ints l25))], []⟩ : PS)) ?_ ?_
     ·rintro l25 h
      show VC _ _ _ (⟨[(5, .row 93 0 l25.length)], [(93, some (3, .ints l25))], []⟩ : PS)
      refine vSeq ?_
      refine vRegion ?_
      iterate 2 refine oVal tt rfl rfl rfl rfl rfl trivial ?_
      refine vNil ?_
      change VC _ _ _ _
      refine vRet ?_
      change ∃ _, _
      cases h
      exact ⟨[93], _, rfl, ⟨rfl, trivial⟩, rfl, (.eq rfl), rfl⟩
     ·intro k h
      refine vBlock ?_
      refine vNilT 5 93 3 (.ints []) rfl rfl rfl rfl ?_
      refine vLoopS (α := (List Int) × Int) (fun | (l27, i28) => (⟨[(2, .ptr 2 0), (5, .row 93 0 l27.length), (6, .row 27 0 ((List.replicate ((g_0.n).toNat) (false : Bool)).length)), (9, .int i28)], [(93, some (3, .ints l27)), (27, some (4, .bools l22))], [(2, some [.int g_0.n, .ro false (.pairs g_0.bars)])]⟩ : PS)) (S_ReachOf_l1 N g_0 l22 k) h (En.of ⟨rfl, rfl, rfl, rfl, trivial⟩ ⟨rfl, rfl, trivial⟩ ⟨rfl, trivial⟩) (fun _ => rfl) ?_
      rintro n ⟨l27, i28⟩ h
      rw [S_ReachOf_l1] at h
      show VC _ _ _ (⟨[(2, .ptr 2 0), (5, .row 93 0 l27.length), (6, .row 27 0 ((List.replicate ((g_0.n).toNat) (false : Bool)).length)), (9, .int i28)], [(93, some (3, .ints l27)), (27, some (4, .bools l22))], [(2, some [.int g_0.n, .ro false (.pairs g_0.bars)])]⟩ : PS)
      iterate 2 refine vSeq ?_
      refine vRegion ?_
      iterate 4 refine oVal tt rfl rfl rfl rfl rfl trivial ?_
      refine vNil ?_
      change VC _ _ _ _
      refine vCond rfl (fun hb7 => ?_) (fun hb7 => ?_)
      ·replace h := cnd_t hb7 h
       refine vSkip ?_
       change VC _ _ _ _
       refine vSeq ?_
       refine vBlock ?_
       refine vSeq ?_
       refine vRegion ?_
       iterate 2 refine oVal tt rfl rfl rfl rfl rfl trivial ?_
       obtain ⟨hg8, h⟩ := grd_inv h
       refine oVal tt rfl rfl rfl rfl rfl hg8 ?_
       obtain ⟨hg9, h⟩ := grd_inv h
       refine oVal tt rfl rfl rfl rfl rfl hg9 ?_
       refine vNil ?_
       change VC _ _ _ _
       refine vCond rfl (fun hb10 => ?_) (fun hb10 => ?_)
       ·replace h := cnd_t hb10 h
        refine vRegion ?_
        iterate 2 refine oVal tt rfl rfl rfl rfl rfl trivial ?_
        refine oBuild tt rfl rfl rfl rfl rfl rfl rfl rfl rfl rfl rfl ?_
        obtain ⟨hg11, h⟩ := grd_inv h
        refine oAppend tt rfl rfl rfl rfl rfl rfl rfl rfl rfl rfl rfl rfl rfl rfl rfl rfl (Nat.le_of_eq (Nat.zero_add _)) hg11 ?_
        refine oVal tt rfl rfl rfl rfl rfl trivial ?_
        refine vNil ?_
        change VC _ _ _ _
        refine vRegion ?_
        refine oVal tt rfl rfl rfl rfl rfl trivial ?_
        obtain ⟨hg12, h⟩ := grd_inv h
        refine oVal tt rfl rfl rfl rfl rfl hg12 ?_
        refine oVal tt rfl rfl rfl rfl rfl trivial ?_
        refine vNil ?_
        change ∃ _, _
        exact ⟨((l27 ++ ([i28] : List Int)), (i28 + (1 : Int))), (En.of ⟨rfl, rfl, rfl, rfl, trivial⟩ ⟨rfl, rfl, trivial⟩ ⟨rfl, trivial⟩), h⟩
       ·replace h := cnd_f hb10 h
        refine vSkip ?_
        change VC _ _ _ _
        refine vRegion ?_
        refine oVal tt rfl rfl rfl rfl rfl trivial ?_
        obtain ⟨hg13, h⟩ := grd_inv h
        refine oVal tt rfl rfl rfl rfl rfl hg13 ?_
        refine oVal tt rfl rfl rfl rfl rfl trivial ?_
        refine vNil ?_
        change ∃ _, _
        exact ⟨(l27, (i28 + (1 : Int))), (En.of ⟨rfl, rfl, rfl, rfl, trivial⟩ ⟨rfl, rfl, trivial⟩ ⟨rfl, trivial⟩), h⟩
      ·replace h := cnd_f hb7 h
       refine vExit ?_
       change ∃ _, _
       exact ⟨l27, (En.of ⟨rfl, trivial⟩ ⟨rfl, trivial⟩ trivial), h⟩
    ·intro k h
     refine vBlock ?_
     refine vLoopS (α := (List Bool) × Int) (fun | (l36, n37) => (⟨[(2, .ptr 2 0), (5, .nil), (6, .row 27 0 ((List.replicate ((g_0.n).toNat) (false : Bool)).length)), (7, .int n37)], [(27, some (4, .bools l36))], [(2, some [.int g_0.n, .ro false (.pairs g_0.bars)])]⟩ : PS)) (S_ReachOf_l2 N g_0 k) h (En.of ⟨rfl, rfl, rfl, rfl, trivial⟩ ⟨rfl, trivial⟩ ⟨rfl, trivial⟩) (fun _ => rfl) ?_
     rintro n ⟨l36, n37⟩ h
     rw [S_ReachOf_l2] at h
     show VC _ _ _ (⟨[(2, .ptr 2 0), (5, .nil), (6, .row 27 0 ((List.replicate ((g_0.n).toNat) (false : Bool)).length)), (7, .int n37)], [(27, some (4, .bools l36))], [(2, some [.int g_0.n, .ro false (.pairs g_0.bars)])]⟩ : PS)
     iterate 2 refine vSeq ?_
     refine vRegion ?_
     iterate 4 refine oVal tt rfl rfl rfl rfl rfl trivial ?_
     refine vNil ?_
     change VC _ _ _ _
     refine vCond rfl (fun hb14 => ?_) (fun hb14 => ?_)
     ·replace h := cnd_t hb14 h
      refine vSkip ?_
      change VC _ _ _ _
      refine vSeq ?_
      refine vBlock ?_
      refine vSeq ?_
      refine vRegion ?_
      refine oVal tt rfl rfl rfl rfl rfl trivial ?_
      refine vNil ?_
      change VC _ _ _ _
      refine vJoin (F := fun k => S_ReachOf_l3 N g_0 k) h (α := List Bool) (J := fun (l46 : List Bool) => (⟨[(2, .ptr 2 0), (5, .nil), (6, .row 27 0 ((List.replicate ((g_0.n).toNat) (false : Bool)).length)), (7, .int n37)], [(27, some (4, .bools l46))], [(2, some [.int g_0.n, .ro false (.pairs g_0.bars)])]⟩ : PS)) ?_ ?_
      ·rintro l46 h
       show VC _ _ _ (⟨[(2, .ptr 2 0), (5, .nil), (6, .row 27 0 ((List.replicate ((g_0.n).toNat) (false : Bool)).length)), (7, .int n37)], [(27, some (4, .bools l46))], [(2, some [.int g_0.n, .ro false (.pairs g_0.bars)])]⟩ : PS)
       refine vRegion ?_
       refine oVal tt rfl rfl rfl rfl rfl trivial ?_
       obtain ⟨hg15, h⟩ := grd_inv h
       refine oVal tt rfl rfl rfl rfl rfl hg15 ?_
       refine oVal tt rfl rfl rfl rfl rfl trivial ?_
       refine vNil ?_
       change ∃ _, _
       exact ⟨(l46, (n37 + (1 : Int))), (En.of ⟨rfl, rfl, rfl, rfl, trivial⟩ ⟨rfl, trivial⟩ ⟨rfl, trivial⟩), h⟩
      ·intro k h
       refine vBlock ?_
       refine vLoopS (α := (List Bool) × Int) (fun | (l48, i49) => (⟨[(2, .ptr 2 0), (5, .nil), (6, .row 27 0 ((List.replicate ((g_0.n).toNat) (false : Bool)).length)), (7, .int n37), (8, .int i49)], [(27, some (4, .bools l48))], [(2, some [.int g_0.n, .ro false (.pairs g_0.bars)])]⟩ : PS)) (S_ReachOf_l3 N g_0 k) h (En.of ⟨rfl, rfl, rfl, rfl, rfl, trivial⟩ ⟨rfl, trivial⟩ ⟨rfl, trivial⟩) (fun _ => rfl) ?_
       rintro n ⟨l48, i49⟩ h
       rw [S_ReachOf_l3] at h
       show VC _ _ _ (⟨[(2, .ptr 2 0), (5, .nil), (6, .row 27 0 ((List.replicate ((g_0.n).toNat) (false : Bool)).length)), (7, .int n37), (8, .int i49)], [(27, some (4, .bools l48))], [(2, some [.int g_0.n, .ro false (.pairs g_0.bars)])]⟩ : PS)
       iterate 2 refine vSeq ?_
       refine vRegion ?_
       iterate 5 refine oVal tt rfl rfl rfl rfl rfl trivial ?_
       refine vNil ?_
       change VC _ _ _ _
       refine vCond rfl (fun hb16 => ?_) (fun hb16 => ?_)
       ·replace h := cnd_t hb16 h
        refine vSkip ?_
        change VC _ _ _ _
        refine vSeq ?_
        refine vBlock ?_
        refine vSeq ?_
        refine vRegion ?_
        iterate 4 refine oVal tt rfl rfl rfl rfl rfl trivial ?_
        obtain ⟨hg17, h⟩ := grd_inv h
        refine oVal tt rfl rfl rfl rfl rfl hg17 ?_
        iterate 2 refine oVal tt rfl rfl rfl rfl rfl trivial ?_
        obtain ⟨hg18, h⟩ := grd_inv h
        refine oVal tt rfl rfl rfl rfl rfl hg18 ?_
        obtain ⟨hg19, h⟩ := grd_inv h
        refine oVal tt rfl rfl rfl rfl rfl hg19 ?_
        refine oVal tt rfl rfl rfl rfl rfl trivial ?_
        refine oSplit rfl rfl rfl (fun hb20 => ?_) (fun hb20 => ?_)
        ·replace h := cnd_t hb20 h
         iterate 9 refine oNoF rfl rfl rfl rfl hb20 rfl rfl ?_
         refine oPick rfl rfl rfl rfl rfl hb20 rfl ?_
         refine vNil ?_
         change VC _ _ _ _
         refine vCondT rfl rfl ?_
         refine vSeq ?_
         refine vRegion ?_
         iterate 4 refine oVal tt rfl rfl rfl rfl rfl trivial ?_
         refine oVal tt rfl rfl rfl rfl rfl hg17 ?_
         iterate 2 refine oVal tt rfl rfl rfl rfl rfl trivial ?_
         refine oVal tt rfl rfl rfl rfl rfl hg18 ?_
         refine oStore tt rfl rfl rfl rfl rfl rfl rfl rfl rfl rfl ⟨_, _, rfl, hg19.1, hg19.2⟩ ⟨hg19, trivial⟩ ?_
         refine vNil ?_
         change VC _ _ _ _
         refine vRegion ?_
         iterate 4 refine oVal tt rfl rfl rfl rfl rfl trivial ?_
         refine oVal tt rfl rfl rfl rfl rfl hg17 ?_
         iterate 2 refine oVal tt rfl rfl rfl rfl rfl trivial ?_
         obtain ⟨hg21, h⟩ := grd_inv h
         refine oVal tt rfl rfl rfl rfl rfl hg21 ?_
         obtain ⟨hg22, h⟩ := grd_inv h
         refine oStore tt rfl rfl rfl rfl rfl rfl rfl rfl rfl rfl ⟨_, _, rfl, hg22.1, hg22.2⟩ ⟨hg22, trivial⟩ ?_
         refine vNil ?_
         change VC _ _ _ _
         refine vRegion ?_
         refine oVal tt rfl rfl rfl rfl rfl trivial ?_
         obtain ⟨hg23, h⟩ := grd_inv h
         refine oVal tt rfl rfl rfl rfl rfl hg23 ?_
         refine oVal tt rfl rfl rfl rfl rfl trivial ?_
         refine vNil ?_
         change ∃ _, _
         exact ⟨(((l48.set (((g_0.bars.getD ((i49).toNat) (0, 0)).1).toNat) true).set (((g_0.bars.getD ((i49).toNat) (0, 0)).2).toNat) true), (i49 + (1 : Int))), (En.of ⟨rfl, rfl, rfl, rfl, rfl, trivial⟩ ⟨rfl, trivial⟩ ⟨rfl, trivial⟩), h⟩
        ·replace h := cnd_f hb20 h
         iterate 4 refine oValG tt rfl rfl rfl rfl rfl hb20 rfl rfl rfl trivial ?_
         refine oValG tt rfl rfl rfl rfl rfl hb20 rfl rfl rfl hg17 ?_
         iterate 2 refine oValG tt rfl rfl rfl rfl rfl hb20 rfl rfl rfl trivial ?_
         obtain ⟨hg24, h⟩ := grd_inv h
         refine oValG tt rfl rfl rfl rfl rfl hb20 rfl rfl rfl hg24 ?_
         obtain ⟨hg25, h⟩ := grd_inv h
         refine oValG tt rfl rfl rfl rfl rfl hb20 rfl rfl rfl hg25 ?_
         refine oPickF rfl rfl rfl rfl rfl hb20 rfl ?_
         refine vNil ?_
         change VC _ _ _ _
         refine vCond rfl (fun hb26 => ?_) (fun hb26 => ?_)
         ·replace h := cnd_t hb26 h
          refine vSeq ?_
          refine vRegion ?_
          iterate 4 refine oVal tt rfl rfl rfl rfl rfl trivial ?_
          refine oVal tt rfl rfl rfl rfl rfl hg17 ?_
          iterate 2 refine oVal tt rfl rfl rfl rfl rfl trivial ?_
          refine oVal tt rfl rfl rfl rfl rfl hg18 ?_
          refine oStore tt rfl rfl rfl rfl rfl rfl rfl rfl rfl rfl ⟨_, _, rfl, hg19.1, hg19.2⟩ ⟨hg19, trivial⟩ ?_
          refine vNil ?_
          change VC _ _ _ _
          refine vRegion ?_
          iterate 4 refine oVal tt rfl rfl rfl rfl rfl trivial ?_
          refine oVal tt rfl rfl rfl rfl rfl hg17 ?_
          iterate 2 refine oVal tt rfl rfl rfl rfl rfl trivial ?_
          refine oVal tt rfl rfl rfl rfl rfl hg24 ?_
          obtain ⟨hg27, h⟩ := grd_inv h
          refine oStore tt rfl rfl rfl rfl rfl rfl rfl rfl rfl rfl ⟨_, _, rfl, hg27.1, hg27.2⟩ ⟨hg27, trivial⟩ ?_
          refine vNil ?_
          change VC _ _ _ _
          refine vRegion ?_
          refine oVal tt rfl rfl rfl rfl rfl trivial ?_
          obtain ⟨hg28, h⟩ := grd_inv h
          refine oVal tt rfl rfl rfl rfl rfl hg28 ?_
          refine oVal tt rfl rfl rfl rfl rfl trivial ?_
          refine vNil ?_
          change ∃ _, _
          exact ⟨(((l48.set (((g_0.bars.getD ((i49).toNat) (0, 0)).1).toNat) true).set (((g_0.bars.getD ((i49).toNat) (0, 0)).2).toNat) true), (i49 + (1 : Int))), (En.of ⟨rfl, rfl, rfl, rfl, rfl, trivial⟩ ⟨rfl, trivial⟩ ⟨rfl, trivial⟩), h⟩
         ·replace h := cnd_f hb26 h
          refine vSkip ?_
          change VC _ _ _ _
          refine vRegion ?_
          refine oVal tt rfl rfl rfl rfl rfl trivial ?_
          obtain ⟨hg29, h⟩ := grd_inv h
          refine oVal tt rfl rfl rfl rfl rfl hg29 ?_
          refine oVal tt rfl rfl rfl rfl rfl trivial ?_
          refine vNil ?_
          change ∃ _, _
          exact ⟨(l48, (i49 + (1 : Int))), (En.of ⟨rfl, rfl, rfl, rfl, rfl, trivial⟩ ⟨rfl, trivial⟩ ⟨rfl, trivial⟩), h⟩
       ·replace h := cnd_f hb16 h
        refine vExit ?_
        change ∃ _, _
        exact ⟨l48, (En.of ⟨rfl, rfl, rfl, rfl, trivial⟩ ⟨rfl, trivial⟩ ⟨rfl, trivial⟩), h⟩
     ·replace h := cnd_f hb14 h
      refine vExit ?_
      change ∃ _, _
      exact ⟨l36, (En.of ⟨rfl, rfl, rfl, trivial⟩ ⟨rfl, trivial⟩ ⟨rfl, trivial⟩), h⟩
end Go.Proofs.Ytkklfgcelmeccaa
namespace Go.Proofs.Ytkklfgcelmeccaa
open Go.RowKit
def S_l23Part_l1 (N : Nat) (g_0 : Grf) (set_1 : List Int) (k : (List Int) → Option (Grf)) : Nat → ((List Int) × Int) → Option (Grf)
 | 0, _ => none
 | n + 1, (l12, v13) =>
  cnd (decide (v13 < g_0.n)) (
   (S_l2Has N set_1 v13).bind fun v15 =>
   cnd (!v15) (
    grd (l12.length + 1 ≤ 4294967296) <|
    grd (Rg64 (v13 + (1 : Int))) <|
    S_l23Part_l1 N g_0 set_1 k n ((l12 ++ ([v13] : List Int)), (v13 + (1 : Int)))) (
    grd (Rg64 (v13 + (1 : Int))) <|
    S_l23Part_l1 N g_0 set_1 k n (l12, (v13 + (1 : Int))))) (
   k l12)
def S_l23Part (N : Nat) (g_0 : Grf) (set_1 : List Int) : Option (Grf) :=
 S_l23Part_l1 N g_0 set_1 (fun (l7 : List Int) =>
    (S_WithoutPoints N g_0 l7).bind fun v8 =>
    some (⟨v8.n, v8.bars⟩ : Grf)) N (([] : List Int), (0 : Int))
set_option maxRecDepth 20000 in
set_option maxHeartbeats 1600000 in
theorem S_l23Part_w (N : Nat) (g_0 : Grf) (set_1 : List Int) (r : Grf) (h : S_l23Part N g_0 set_1 = some r) : PCall Try.prog 66 [gD g_0, .ro false (.ints set_1)] [(113, .pairs r.bars)] (.agg [.int r.n, .row 0 0 r.bars.length]) := by
 unfold S_l23Part at h
 refine pcall_intro (TT := TT) tt Try.func66 rfl rfl Try.ntmps66 (congrArg Array.toList Try.results66) rfl rfl fun w0 => ?_
 refine vSeq ?_
 refine vRegion ?_
 refine oBox rfl rfl rfl rfl rfl rfl rfl rfl rfl ?_
 refine oAlloc tt rfl rfl rfl rfl rfl rfl rfl rfl rfl ?_
 refine vNil ?_
 change VC _ _ _ _
 refine vSeq ?_
 refine vRegion ?_
 refine oEmpty tt (wNone rfl) rfl rfl rfl rfl ?_
 refine oVal tt rfl rfl rfl rfl rfl trivial ?_
 refine vNil ?_
 change VC _ _ _ _
 iterate 2 refine vSeq ?_
 refine vRegion ?_
 refine oVal tt rfl rfl rfl rfl rfl trivial ?_
 refine vNil ?_
 change VC _ _ _ _
 refine vJoin (F := fun k => S_l23Part_l1 N g_0 set_1 k) h (α := List Int) (J := fun (l7 : List Int) => (⟨[(2, .ptr 2 0), (4, .ptr 4 0), (5, .row 21 0 l7.length)], [(21, some (3, .ints l7))], [(2, some [.int g_0.n, .ro false (.pairs g_0.bars)]), (4, some [.int (0 : Int), .nil])]⟩ : PS)) ?_ ?_
 ·rintro l7 h
  show VC _ _ _ (⟨[(2, .ptr 2 0), (4, .ptr 4 0), (5, .row 21 0 l7.length)], [(21, some (3, .ints l7))], [(2, some [.int g_0.n, .ro false (.pairs g_0.bars)]), (4, some [.int (0 : Int), .nil])]⟩ : PS)
  refine vSeq ?_
  refine vRegion ?_
  iterate 2 refine oVal tt rfl rfl rfl rfl rfl trivial ?_
  obtain ⟨v8, hc1, h⟩ := bind_inv h
  refine oCall (S_WithoutPoints_w N g_0 l7 v8 hc1) rfl rfl rfl rfl rfl rfl rfl rfl ⟨⟨rfl, rfl, trivial⟩, (.inl ⟨rfl, rfl⟩), trivial⟩ ?_
  refine oStore tt rfl rfl rfl rfl rfl rfl rfl rfl rfl rfl rfl ⟨trivial, trivial, trivial⟩ ?_
  refine vNil ?_
  change VC _ _ _ _
  refine vRet ?_
  change ∃ _, _
  cases h
  exact ⟨[1240], _, rfl, ⟨rfl, trivial⟩, rfl, (.eq rfl), rfl⟩
 ·intro k h
  refine vBlock ?_
  refine vNilT 5 21 3 (.ints []) rfl rfl rfl rfl ?_
  refine vLoopS (α := (List Int) × Int) (fun | (l12, v13) => (⟨[(1, .ro false (.ints set_1)), (2, .ptr 2 0), (4, .ptr 4 0), (5, .row 21 0 l12.length), (6, .int v13)], [(21, some (3, .ints l12))], [(2, some [.int g_0.n, .ro false (.pairs g_0.bars)]), (4, some [.int (0 : Int), .nil])]⟩ : PS)) (S_l23Part_l1 N g_0 set_1 k) h (En.of ⟨rfl, rfl, rfl, rfl, rfl, trivial⟩ ⟨rfl, trivial⟩ ⟨rfl, rfl, trivial⟩) (fun _ => rfl) ?_
  rintro n ⟨l12, v13⟩ h
  rw [S_l23Part_l1] at h
  show VC _ _ _ (⟨[(1, .ro false (.ints set_1)), (2, .ptr 2 0), (4, .ptr 4 0), (5, .row 21 0 l12.length), (6, .int v13)], [(21, some (3, .ints l12))], [(2, some [.int g_0.n, .ro false (.pairs g_0.bars)]), (4, some [.int (0 : Int), .nil])]⟩ : PS)
  iterate 2 refine vSeq ?_
  refine vRegion ?_
  iterate 4 refine oVal tt rfl rfl rfl rfl rfl trivial ?_
  refine vNil ?_
  change VC _ _ _ _
  refine vCond rfl (fun hb2 => ?_) (fun hb2 => ?_)
  ·replace h := cnd_t hb2 h
   refine vSkip ?_
   change VC _ _ _ _
   refine vSeq ?_
   refine vBlock ?_
   refine vSeq ?_
   refine vRegion ?_
   iterate 2 refine oVal tt rfl rfl rfl rfl rfl trivial ?_
   obtain ⟨v15, hc3, h⟩ := bind_inv h
   refine oCall (S_l2Has_w N set_1 v13 v15 hc3) rfl rfl rfl rfl rfl rfl rfl rfl ⟨rfl, rfl, trivial⟩ ?_
   refine oVal tt rfl rfl rfl rfl rfl trivial ?_
   refine vNil ?_
   change VC _ _ _ _
   refine vCond rfl (fun hb4 => ?_) (fun hb4 => ?_)
   ·replace h := cnd_t hb4 h
    refine vRegion ?_
    iterate 2 refine oVal tt rfl rfl rfl rfl rfl trivial ?_
    refine oBuild tt rfl rfl rfl rfl rfl rfl rfl rfl rfl rfl rfl ?_
    obtain ⟨hg5, h⟩ := grd_inv h
    refine oAppend tt rfl rfl rfl rfl rfl rfl rfl rfl rfl rfl rfl rfl rfl rfl rfl rfl (Nat.le_of_eq (Nat.zero_add _)) hg5 ?_
    refine oVal tt rfl rfl rfl rfl rfl trivial ?_
    refine vNil ?_
    change VC _ _ _ _
    refine vRegion ?_
    refine oVal tt rfl rfl rfl rfl rfl trivial ?_
    obtain ⟨hg6, h⟩ := grd_inv h
    refine oVal tt rfl rfl rfl rfl rfl hg6 ?_
    refine oVal tt rfl rfl rfl rfl rfl trivial ?_
    refine vNil ?_
    change ∃ _, _
    exact ⟨((l12 ++ ([v13] : List Int)), (v13 + (1 : Int))), (En.of ⟨rfl, rfl, rfl, rfl, rfl, trivial⟩ ⟨rfl, trivial⟩ ⟨rfl, rfl, trivial⟩), h⟩
   ·replace h := cnd_f hb4 h
    refine vSkip ?_
    change VC _ _ _ _
    refine vRegion ?_
    refine oVal tt rfl rfl rfl rfl rfl trivial ?_
    obtain ⟨hg7, h⟩ := grd_inv h
    refine oVal tt rfl rfl rfl rfl rfl hg7 ?_
    refine oVal tt rfl rfl rfl rfl rfl trivial ?_
    refine vNil ?_
    change ∃ _, _
    exact ⟨(l12, (v13 + (1 : Int))), (En.of ⟨rfl, rfl, rfl, rfl, rfl, trivial⟩ ⟨rfl, trivial⟩ ⟨rfl, rfl, trivial⟩), h⟩
  ·replace h := cnd_f hb2 h
   refine vExit ?_
   change ∃ _, _
   exact ⟨l12, (En.of ⟨rfl, rfl, rfl, trivial⟩ ⟨rfl, trivial⟩ ⟨rfl, rfl, trivial⟩), h⟩
def I_setOf_l1 (N : Nat) (mask_0 : Int) (n_1 : Int) (k : (List Int) → Option (List Int)) : Nat → ((List Int) × Int) → Option (List Int)
 | 0, _ => none
 | n + 1, (l5, x6) =>
  cnd (decide (x6 < n_1)) (
   grd (0 ≤ x6) <|
   cnd ((andI (shrI mask_0 x6) (1 : Int)) == (1 : Int)) (
    grd (l5.length + 1 ≤ 4294967296) <|
    grd (Rg64 (x6 + (1 : Int))) <|
    I_setOf_l1 N mask_0 n_1 k n ((l5 ++ ([x6] : List Int)), (x6 + (1 : Int)))) (
    grd (Rg64 (x6 + (1 : Int))) <|
    I_setOf_l1 N mask_0 n_1 k n (l5, (x6 + (1 : Int))))) (
   k l5)
def I_setOf (N : Nat) (mask_0 : Int) (n_1 : Int) : Option (List Int) :=
 I_setOf_l1 N mask_0 n_1 (fun (l3 : List Int) =>
    some l3) N (([] : List Int), (0 : Int))
set_option maxRecDepth 20000 in
set_option maxHeartbeats 1600000 in
theorem I_setOf_w (N : Nat) (mask_0 : Int) (n_1 : Int) (r : List Int) (h : I_setOf N mask_0 n_1 = some r) : PCall Try.prog 69 [.int mask_0, .int n_1] [(3, .ints r)] (.row 0 0 r.length) := by
 unfold I_setOf at h
 refine pcall_intro (TT := TT) tt Try.func69 rfl rfl Try.ntmps69 (congrArg Array.toList Try.results69) rfl rfl fun w0 => ?_
 refine vSeq ?_
 refine vRegion ?_
 refine oVal tt rfl rfl rfl rfl rfl trivial ?_
 refine vNil ?_
 change VC _ _ _ _
 refine vSeq ?_
 refine vRegion ?_
 refine oEmpty tt (wNone rfl) rfl rfl rfl rfl ?_
 refine oVal tt rfl rfl rfl rfl rfl trivial ?_
 refine vNil ?_
 change VC _ _ _ _
 iterate 2 refine vSeq ?_
 refine vRegion ?_
 iterate 2 refine oVal tt rfl rfl rfl rfl rfl trivial ?_
 refine vNil ?_
 change VC _ _ _ _
 refine vJoin (F := fun k => I_setOf_l1 N mask_0 n_1 k) h (α := List Int) (J := fun (l3 : List Int) => (⟨[(5, .row 20 0 l3.length)], [(20, some (3, .ints l3))], []⟩ : PS)) ?_ ?_
 ·rintro l3 h
  show VC _ _ _ (⟨[(5, .row 20 0 l3.length)], [(20, some (3, .ints l3))], []⟩ : PS)
  refine vSeq ?_
  refine vRegion ?_
  iterate 2 refine oVal tt rfl rfl rfl rfl rfl trivial ?_
  refine vNil ?_
  change VC _ _ _ _
  refine vRet ?_
  change ∃ _, _
  cases h
  exact ⟨[20], _, rfl, ⟨rfl, trivial⟩, rfl, (.eq rfl), rfl⟩
 ·intro k h
  refine vBlock ?_
  refine vNilT 5 20 3 (.ints []) rfl rfl rfl rfl ?_
  refine vLoopS (α := (List Int) × Int) (fun | (l5, x6) => (⟨[(0, .int mask_0), (5, .row 20 0 l5.length), (8, .int n_1), (9, .int x6)], [(20, some (3, .ints l5))], []⟩ : PS)) (I_setOf_l1 N mask_0 n_1 k) h (En.of ⟨rfl, rfl, rfl, rfl, trivial⟩ ⟨rfl, trivial⟩ trivial) (fun _ => rfl) ?_
  rintro n ⟨l5, x6⟩ h
  rw [I_setOf_l1] at h
  show VC _ _ _ (⟨[(0, .int mask_0), (5, .row 20 0 l5.length), (8, .int n_1), (9, .int x6)], [(20, some (3, .ints l5))], []⟩ : PS)
  refine vSeq ?_
  refine vRegion ?_
  refine oVal tt rfl rfl rfl rfl rfl trivial ?_
  refine vNil ?_
  change VC _ _ _ _
  refine vSeq ?_
  refine vCond rfl (fun hb1 => ?_) (fun hb1 => ?_)
  ·replace h := cnd_t hb1 h
   refine vSkip ?_
   change VC _ _ _ _
   refine vSeq ?_
   refine vBlock ?_
   refine vSeq ?_
   refine vRegion ?_
   iterate 2 refine oVal tt rfl rfl rfl rfl rfl trivial ?_
   refine vNil ?_
   change VC _ _ _ _
   refine vSeq ?_
   refine vRegion ?_
   iterate 2 refine oVal tt rfl rfl rfl rfl rfl trivial ?_
   obtain ⟨hg2, h⟩ := grd_inv h
   refine oVal tt rfl rfl rfl rfl rfl hg2 ?_
   iterate 2 refine oVal tt rfl rfl rfl rfl rfl trivial ?_
   refine vNil ?_
   change VC _ _ _ _
   refine vCond rfl (fun hb3 => ?_) (fun hb3 => ?_)
   ·replace h := cnd_t hb3 h
    refine vRegion ?_
    iterate 2 refine oVal tt rfl rfl rfl rfl rfl trivial ?_
    refine oBuild tt rfl rfl rfl rfl rfl rfl rfl rfl rfl rfl rfl ?_
    obtain ⟨hg4, h⟩ := grd_inv h
    refine oAppend tt rfl rfl rfl rfl rfl rfl rfl rfl rfl rfl rfl rfl rfl rfl rfl rfl (Nat.le_of_eq (Nat.zero_add _)) hg4 ?_
    refine oVal tt rfl rfl rfl rfl rfl trivial ?_
    refine vNil ?_
    change VC _ _ _ _
    refine vRegion ?_
    obtain ⟨hg5, h⟩ := grd_inv h
    refine oVal tt rfl rfl rfl rfl rfl hg5 ?_
    refine oVal tt rfl rfl rfl rfl rfl trivial ?_
    refine vNil ?_
    change ∃ _, _
    exact ⟨((l5 ++ ([x6] : List Int)), (x6 + (1 : Int))), (En.of ⟨rfl, rfl, rfl, rfl, trivial⟩ ⟨rfl, trivial⟩ trivial), h⟩
   ·replace h := cnd_f hb3 h
    refine vSkip ?_
    change VC _ _ _ _
    refine vRegion ?_
    obtain ⟨hg6, h⟩ := grd_inv h
    refine oVal tt rfl rfl rfl rfl rfl hg6 ?_
    refine oVal tt rfl rfl rfl rfl rfl trivial ?_
    refine vNil ?_
    change ∃ _, _
    exact ⟨(l5, (x6 + (1 : Int))), (En.of ⟨rfl, rfl, rfl, rfl, trivial⟩ ⟨rfl, trivial⟩ trivial), h⟩
  ·replace h := cnd_f hb1 h
   refine vExit ?_
   change ∃ _, _
   exact ⟨l5, (En.of ⟨rfl, trivial⟩ ⟨rfl, trivial⟩ trivial), h⟩
def I_CountBar_l1 (N : Nat) (g_0 : Grf) (a_1 : Int) (b_2 : Int) (k : Int → Option (Int)) : Nat → (Int × Int) → Option (Int)
 | 0, _ => none
 | n + 1, (n5, x6) =>
  cnd (decide (x6 < (g_0.bars.length : Int))) (
   grd (0 ≤ x6 ∧ x6 < (g_0.bars.length : Int)) <|
   cnd (((g_0.bars.getD ((x6).toNat) (0, 0)).1) == a_1) (
    cnd (((g_0.bars.getD ((x6).toNat) (0, 0)).2) == b_2) (
     grd (Rg64 (n5 + (1 : Int))) <|
     grd (Rg64 (x6 + (1 : Int))) <|
     I_CountBar_l1 N g_0 a_1 b_2 k n ((n5 + (1 : Int)), (x6 + (1 : Int)))) (
     cnd (((g_0.bars.getD ((x6).toNat) (0, 0)).1) == b_2) (
      cnd (((g_0.bars.getD ((x6).toNat) (0, 0)).2) == a_1) (
       grd (Rg64 (n5 + (1 : Int))) <|
       grd (Rg64 (x6 + (1 : Int))) <|
       I_CountBar_l1 N g_0 a_1 b_2 k n ((n5 + (1 : Int)), (x6 + (1 : Int)))) (
       grd (Rg64 (x6 + (1 : Int))) <|
       I_CountBar_l1 N g_0 a_1 b_2 k n (n5, (x6 + (1 : Int))))) (
      grd (Rg64 (x6 + (1 : Int))) <|
      I_CountBar_l1 N g_0 a_1 b_2 k n (n5, (x6 + (1 : Int)))))) (
    cnd (((g_0.bars.getD ((x6).toNat) (0, 0)).1) == b_2) (
     cnd (((g_0.bars.getD ((x6).toNat) (0, 0)).2) == a_1) (
      grd (Rg64 (n5 + (1 : Int))) <|
      grd (Rg64 (x6 + (1 : Int))) <|
      I_CountBar_l1 N g_0 a_1 b_2 k n ((n5 + (1 : Int)), (x6 + (1 : Int)))) (
      grd (Rg64 (x6 + (1 : Int))) <|
      I_CountBar_l1 N g_0 a_1 b_2 k n (n5, (x6 + (1 : Int))))) (
     grd (Rg64 (x6 + (1 : Int))) <|
     I_CountBar_l1 N g_0 a_1 b_2 k n (n5, (x6 + (1 : Int)))))) (
   k n5)
def I_CountBar (N : Nat) (g_0 : Grf) (a_1 : Int) (b_2 : Int) : Option (Int) :=
 I_CountBar_l1 N g_0 a_1 b_2 (fun (n3 : Int) =>
    some n3) N ((0 : Int), (0 : Int))
set_option maxRecDepth 20000 in
set_option maxHeartbeats 1600000 in
theorem I_CountBar_w (N : Nat) (g_0 : Grf) (a_1 : Int) (b_2 : Int) (r : Int) (h : I_CountBar N g_0 a_1 b_2 = some r) : PCall Try.prog 145 [gD g_0, .int a_1, .int b_2] [] (.int r) := by
 unfold I_CountBar at h
 refine pcall_intro (TT := TT) tt Try.func145 rfl rfl Try.ntmps145 (congrArg Array.toList Try.results145) rfl rfl fun w0 => ?_
 refine vSeq ?_
 refine vRegion ?_
 refine oBox rfl rfl rfl rfl rfl rfl rfl rfl rfl ?_
 refine oVal tt rfl rfl rfl rfl rfl trivial ?_
 refine vNil ?_
 change VC _ _ _ _
 refine vSeq ?_
 refine vRegion ?_
 refine oVal tt rfl rfl rfl rfl rfl trivial ?_
 refine vNil ?_
 change VC _ _ _ _
 iterate 2 refine vSeq ?_
 refine vRegion ?_
 iterate 4 refine oVal tt rfl rfl rfl rfl rfl trivial ?_
 refine vNil ?_
 change VC _ _ _ _
 refine vJoin (F := fun k => I_CountBar_l1 N g_0 a_1 b_2 k) h (α := Int) (J := fun (n3 : Int) => (⟨[(7, .int n3)], [], []⟩ : PS)) ?_ ?_
 ·rintro n3 h
  show VC _ _ _ (⟨[(7, .int n3)], [], []⟩ : PS)
  refine vSeq ?_
  refine vRegion ?_
  iterate 2 refine oVal tt rfl rfl rfl rfl rfl trivial ?_
  refine vNil ?_
  change VC _ _ _ _
  refine vRet ?_
  change ∃ _, _
  cases h
  exact ⟨[], _, rfl, trivial, rfl, (.eq rfl), rfl⟩
 ·intro k h
  refine vBlock ?_
  refine vLoopS (α := Int × Int) (fun | (n5, x6) => (⟨[(1, .int a_1), (2, .int b_2), (7, .int n5), (11, .ro false (.pairs g_0.bars)), (12, .int (g_0.bars.length : Int)), (13, .int x6)], [], []⟩ : PS)) (I_CountBar_l1 N g_0 a_1 b_2 k) h (En.of ⟨rfl, rfl, rfl, rfl, rfl, rfl, trivial⟩ trivial trivial) (fun _ => rfl) ?_
  rintro n ⟨n5, x6⟩ h
  rw [I_CountBar_l1] at h
  show VC _ _ _ (⟨[(1, .int a_1), (2, .int b_2), (7, .int n5), (11, .ro false (.pairs g_0.bars)), (12, .int (g_0.bars.length : Int)), (13, .int x6)], [], []⟩ : PS)
  refine vSeq ?_
  refine vRegion ?_
  refine oVal tt rfl rfl rfl rfl rfl trivial ?_
  refine vNil ?_
  change VC _ _ _ _
  refine vSeq ?_
  refine vCond rfl (fun hb1 => ?_) (fun hb1 => ?_)
  ·replace h := cnd_t hb1 h
   refine vSkip ?_
   change VC _ _ _ _
   refine vSeq ?_
   refine vBlock ?_
   refine vSeq ?_
   refine vRegion ?_
   obtain ⟨hg2, h⟩ := grd_inv h
   refine oVal tt rfl rfl rfl rfl rfl hg2 ?_
   refine oVal tt rfl rfl rfl rfl rfl trivial ?_
   refine oAlloc tt rfl rfl rfl rfl rfl rfl rfl rfl rfl ?_
   refine oStore tt rfl rfl rfl rfl rfl rfl rfl rfl rfl rfl rfl ⟨trivial, trivial, trivial⟩ ?_
   refine vNil ?_
   change VC _ _ _ _
   refine vSeq ?_
   refine vRegion ?_
   iterate 5 refine oVal tt rfl rfl rfl rfl rfl trivial ?_
   refine oSplit rfl rfl rfl (fun hb3 => ?_) (fun hb3 => ?_)
   ·replace h := cnd_t hb3 h
    iterate 4 refine oValG tt rfl rfl rfl rfl rfl hb3 rfl rfl rfl trivial ?_
    refine oPick rfl rfl rfl rfl rfl hb3 rfl ?_
    refine oVal tt rfl rfl rfl rfl rfl trivial ?_
    refine oSplit rfl rfl rfl (fun hb4 => ?_) (fun hb4 => ?_)
    ·replace h := cnd_t hb4 h
     iterate 5 refine oNoF rfl rfl rfl rfl hb4 rfl rfl ?_
     iterate 4 refine oNoU rfl rfl rfl rfl rfl ?_
     refine oNoF rfl rfl rfl rfl hb4 rfl rfl ?_
     refine oPick rfl rfl rfl rfl rfl hb4 rfl ?_
     refine vNil ?_
     change VC _ _ _ _
     refine vCondT rfl rfl ?_
     refine vRegion ?_
     refine oVal tt rfl rfl rfl rfl rfl trivial ?_
     obtain ⟨hg5, h⟩ := grd_inv h
     refine oVal tt rfl rfl rfl rfl rfl hg5 ?_
     refine oVal tt rfl rfl rfl rfl rfl trivial ?_
     refine vNil ?_
     change VC _ _ _ _
     refine vRegion ?_
     obtain ⟨hg6, h⟩ := grd_inv h
     refine oVal tt rfl rfl rfl rfl rfl hg6 ?_
     refine oVal tt rfl rfl rfl rfl rfl trivial ?_
     refine vNil ?_
     change ∃ _, _
     exact ⟨((n5 + (1 : Int)), (x6 + (1 : Int))), (En.of ⟨rfl, rfl, rfl, rfl, rfl, rfl, trivial⟩ trivial trivial), h⟩
    ·replace h := cnd_f hb4 h
     iterate 5 refine oValG tt rfl rfl rfl rfl rfl hb4 rfl rfl rfl trivial ?_
     refine oSplit rfl rfl rfl (fun hb7 => ?_) (fun hb7 => ?_)
     ·replace h := cnd_t hb7 h
      iterate 4 refine oValG tt rfl rfl rfl rfl rfl hb7 rfl rfl rfl trivial ?_
      refine oPickGT rfl rfl rfl rfl hb4 rfl rfl rfl rfl hb7 rfl ?_
      refine oPickF rfl rfl rfl rfl rfl hb4 rfl ?_
      refine vNil ?_
      change VC _ _ _ _
      refine vCond rfl (fun hb8 => ?_) (fun hb8 => ?_)
      ·replace h := cnd_t hb8 h
       refine vRegion ?_
       refine oVal tt rfl rfl rfl rfl rfl trivial ?_
       obtain ⟨hg9, h⟩ := grd_inv h
       refine oVal tt rfl rfl rfl rfl rfl hg9 ?_
       refine oVal tt rfl rfl rfl rfl rfl trivial ?_
       refine vNil ?_
       change VC _ _ _ _
       refine vRegion ?_
       obtain ⟨hg10, h⟩ := grd_inv h
       refine oVal tt rfl rfl rfl rfl rfl hg10 ?_
       refine oVal tt rfl rfl rfl rfl rfl trivial ?_
       refine vNil ?_
       change ∃ _, _
       exact ⟨((n5 + (1 : Int)), (x6 + (1 : Int))), (En.of ⟨rfl, rfl, rfl, rfl, rfl, rfl, trivial⟩ trivial trivial), h⟩
      ·replace h := cnd_f hb8 h
       refine vSkip ?_
       change VC _ _ _ _
       refine vRegion ?_
       obtain ⟨hg11, h⟩ := grd_inv h
       refine oVal tt rfl rfl rfl rfl rfl hg11 ?_
       refine oVal tt rfl rfl rfl rfl rfl trivial ?_
       refine vNil ?_
       change ∃ _, _
       exact ⟨(n5, (x6 + (1 : Int))), (En.of ⟨rfl, rfl, rfl, rfl, rfl, rfl, trivial⟩ trivial trivial), h⟩
     ·replace h := cnd_f hb7 h
      iterate 4 refine oNoT rfl rfl rfl rfl hb7 rfl rfl ?_
      refine oPickGF rfl rfl rfl rfl hb4 rfl rfl rfl rfl hb7 rfl ?_
      refine oPickF rfl rfl rfl rfl rfl hb4 rfl ?_
      refine vNil ?_
      change VC _ _ _ _
      refine vCondF rfl rfl ?_
      refine vSkip ?_
      change VC _ _ _ _
      refine vRegion ?_
      obtain ⟨hg12, h⟩ := grd_inv h
      refine oVal tt rfl rfl rfl rfl rfl hg12 ?_
      refine oVal tt rfl rfl rfl rfl rfl trivial ?_
      refine vNil ?_
      change ∃ _, _
      exact ⟨(n5, (x6 + (1 : Int))), (En.of ⟨rfl, rfl, rfl, rfl, rfl, rfl, trivial⟩ trivial trivial), h⟩
   ·replace h := cnd_f hb3 h
    iterate 4 refine oNoT rfl rfl rfl rfl hb3 rfl rfl ?_
    refine oPickF rfl rfl rfl rfl rfl hb3 rfl ?_
    refine oVal tt rfl rfl rfl rfl rfl trivial ?_
    iterate 5 refine oValG tt rfl rfl rfl rfl rfl rfl rfl rfl rfl trivial ?_
    refine oSplit rfl rfl rfl (fun hb13 => ?_) (fun hb13 => ?_)
    ·replace h := cnd_t hb13 h
     iterate 4 refine oValG tt rfl rfl rfl rfl rfl hb13 rfl rfl rfl trivial ?_
     refine oPickGT rfl rfl rfl rfl rfl rfl rfl rfl rfl hb13 rfl ?_
     refine oPickF rfl rfl rfl rfl rfl rfl rfl ?_
     refine vNil ?_
     change VC _ _ _ _
     refine vCond rfl (fun hb14 => ?_) (fun hb14 => ?_)
     ·replace h := cnd_t hb14 h
      refine vRegion ?_
      refine oVal tt rfl rfl rfl rfl rfl trivial ?_
      obtain ⟨hg15, h⟩ := grd_inv h
      refine oVal tt rfl rfl rfl rfl rfl hg15 ?_
      refine oVal tt rfl rfl rfl rfl rfl trivial ?_
      refine vNil ?_
      change VC _ _ _ _
      refine vRegion ?_
      obtain ⟨hg16, h⟩ := grd_inv h
      refine oVal tt rfl rfl rfl rfl rfl hg16 ?_
      refine oVal tt rfl rfl rfl rfl rfl trivial ?_
      refine vNil ?_
      change ∃ _, _
      exact ⟨((n5 + (1 : Int)), (x6 + (1 : Int))), (En.of ⟨rfl, rfl, rfl, rfl, rfl, rfl, trivial⟩ trivial trivial), h⟩
     ·replace h := cnd_f hb14 h
      refine vSkip ?_
      change VC _ _ _ _
      refine vRegion ?_
      obtain ⟨hg17, h⟩ := grd_inv h
      refine oVal tt rfl rfl rfl rfl rfl hg17 ?_
      refine oVal tt rfl rfl rfl rfl rfl trivial ?_
      refine vNil ?_
      change ∃ _, _
      exact ⟨(n5, (x6 + (1 : Int))), (En.of ⟨rfl, rfl, rfl, rfl, rfl, rfl, trivial⟩ trivial trivial), h⟩
    ·replace h := cnd_f hb13 h
     iterate 4 refine oNoT rfl rfl rfl rfl hb13 rfl rfl ?_
     refine oPickGF rfl rfl rfl rfl rfl rfl rfl rfl rfl hb13 rfl ?_
     refine oPickF rfl rfl rfl rfl rfl rfl rfl ?_
     refine vNil ?_
     change VC _ _ _ _
     refine vCondF rfl rfl ?_
     refine vSkip ?_
     change VC _ _ _ _
     refine vRegion ?_
     obtain ⟨hg18, h⟩ := grd_inv h
     refine oVal tt rfl rfl rfl rfl rfl hg18 ?_
     refine oVal tt rfl rfl rfl rfl rfl trivial ?_
     refine vNil ?_
     change ∃ _, _
     exact ⟨(n5, (x6 + (1 : Int))), (En.of ⟨rfl, rfl, rfl, rfl, rfl, rfl, trivial⟩ trivial trivial), h⟩
  ·replace h := cnd_f hb1 h
   refine vExit ?_
   change ∃ _, _
   exact ⟨n5, (En.of ⟨rfl, trivial⟩ trivial trivial), h⟩
def I_MissingBars_l2 (N : Nat) (g_0 : Grf) (x83 : Int) (k : (List (Int × Int)) → Option (List (Int × Int))) : Nat → ((List (Int × Int)) × Int) → Option (List (Int × Int))
 | 0, _ => none
 | n + 1, (l104, b105) =>
  cnd (decide (b105 < g_0.n)) (
   (I_CountBar N g_0 x83 b105).bind fun v107 =>
   cnd (v107 == (0 : Int)) (
    grd (l104.length + 1 ≤ 4294967296) <|
    grd (Rg64 (b105 + (1 : Int))) <|
    I_MissingBars_l2 N g_0 x83 k n ((l104 ++ ([(x83, b105)] : List (Int × Int))), (b105 + (1 : Int)))) (
    grd (Rg64 (b105 + (1 : Int))) <|
    I_MissingBars_l2 N g_0 x83 k n (l104, (b105 + (1 : Int))))) (
   k l104)
def I_MissingBars_l1 (N : Nat) (g_0 : Grf) (k : (List (Int × Int)) → Option (List (Int × Int))) : Nat → ((List (Int × Int)) × Int) → Option (List (Int × Int))
 | 0, _ => none
 | n + 1, (l82, x83) =>
  cnd (decide (x83 < g_0.n)) (
   grd (Rg64 (x83 + (1 : Int))) <|
   I_MissingBars_l2 N g_0 x83 (fun (l101 : List (Int × Int)) =>
      I_MissingBars_l1 N g_0 k n (l101, (x83 + (1 : Int)))) N (l82, (x83 + (1 : Int)))) (
   k l82)
def I_MissingBars (N : Nat) (g_0 : Grf) : Option (List (Int × Int)) :=
 (I_IsGraph N g_0).bind fun v1 =>
 cnd (!v1) (
  some ([] : List (Int × Int))) (
  I_MissingBars_l1 N g_0 (fun (l54 : List (Int × Int)) =>
     some l54) N (([] : List (Int × Int)), (0 : Int)))
set_option maxRecDepth 20000 in
set_option maxHeartbeats 1600000 in
theorem I_MissingBars_w (N : Nat) (g_0 : Grf) (r : List (Int × Int)) (h : I_MissingBars N g_0 = some r) : PCall Try.prog 133 [gD g_0] [(113, .pairs r)] (.row 0 0 r.length) := by
 unfold I_MissingBars at h
 refine pcall_intro (TT := TT) tt Try.func133 rfl rfl Try.ntmps133 (congrArg Array.toList Try.results133) rfl rfl fun w0 => ?_
 refine vSeq ?_
 refine vRegion ?_
 refine oBox rfl rfl rfl rfl rfl rfl rfl rfl rfl ?_
 refine oVal tt rfl rfl rfl rfl rfl trivial ?_
 refine vNil ?_
 change VC _ _ _ _
 refine vSeq ?_
 refine vRegion ?_
 refine oEmpty tt (wNone rfl) rfl rfl rfl rfl ?_
 refine oVal tt rfl rfl rfl rfl rfl trivial ?_
 refine vNil ?_
 change VC _ _ _ _
 iterate 2 refine vSeq ?_
 refine vRegion ?_
 refine oVal tt rfl rfl rfl rfl rfl trivial ?_
 obtain ⟨v1, hc1, h⟩ := bind_inv h
 refine oCall (I_IsGraph_w N g_0 v1 hc1) rfl rfl rfl rfl rfl rfl rfl rfl ⟨⟨rfl, rfl, trivial⟩, trivial⟩ ?_
 refine oVal tt rfl rfl rfl rfl rfl trivial ?_
 refine vNil ?_
 change VC _ _ _ _
 refine vCond rfl (fun hb2 => ?_) (fun hb2 => ?_)
 ·replace h := cnd_t hb2 h
  refine vSeq ?_
  refine vRegion ?_
  iterate 2 refine oVal tt rfl rfl rfl rfl rfl trivial ?_
  refine vNil ?_
  change VC _ _ _ _
  refine vNilT 2 9001 113 (.pairs []) rfl rfl rfl rfl ?_
  refine vRet ?_
  change ∃ _, _
  cases h
  exact ⟨[9001], _, rfl, ⟨rfl, trivial⟩, rfl, (.eq rfl), rfl⟩
 ·replace h := cnd_f hb2 h
  refine vSkip ?_
  change VC _ _ _ _
  iterate 2 refine vSeq ?_
  refine vRegion ?_
  iterate 3 refine oVal tt rfl rfl rfl rfl rfl trivial ?_
  refine vNil ?_
  change VC _ _ _ _
  refine vJoin (F := fun k => I_MissingBars_l1 N g_0 k) h (α := List (Int × Int)) (J := fun (l54 : List (Int × Int)) => (⟨[(3, .row 34 0 l54.length)], [(34, some (113, .pairs l54))], []⟩ : PS)) ?_ ?_
  ·rintro l54 h
   show VC _ _ _ (⟨[(3, .row 34 0 l54.length)], [(34, some (113, .pairs l54))], []⟩ : PS)
   refine vSeq ?_
   refine vRegion ?_
   iterate 2 refine oVal tt rfl rfl rfl rfl rfl trivial ?_
   refine vNil ?_
   change VC _ _ _ _
   refine vRet ?_
   change ∃ _, _
   cases h
   exact ⟨[34], _, rfl, ⟨rfl, trivial⟩, rfl, (.eq rfl), rfl⟩
  ·intro k h
   refine vBlock ?_
   refine vNilT 3 34 113 (.pairs []) rfl rfl rfl rfl ?_
   refine vLoopS (α := (List (Int × Int)) × Int) (fun | (l82, x83) => (⟨[(1, .ptr 1 0), (3, .row 34 0 l82.length), (12, .int g_0.n), (13, .int x83)], [(34, some (113, .pairs l82))], [(1, some [.int g_0.n, .ro false (.pairs g_0.bars)])]⟩ : PS)) (I_MissingBars_l1 N g_0 k) h (En.of ⟨rfl, rfl, rfl, rfl, trivial⟩ ⟨rfl, trivial⟩ ⟨rfl, trivial⟩) (fun _ => rfl) ?_
   rintro n ⟨l82, x83⟩ h
   rw [I_MissingBars_l1] at h
   show VC _ _ _ (⟨[(1, .ptr 1 0), (3, .row 34 0 l82.length), (12, .int g_0.n), (13, .int x83)], [(34, some (113, .pairs l82))], [(1, some [.int g_0.n, .ro false (.pairs g_0.bars)])]⟩ : PS)
   refine vSeq ?_
   refine vRegion ?_
   refine oVal tt rfl rfl rfl rfl rfl trivial ?_
   refine vNil ?_
   change VC _ _ _ _
   refine vSeq ?_
   refine vCond rfl (fun hb3 => ?_) (fun hb3 => ?_)
   ·replace h := cnd_t hb3 h
    refine vSkip ?_
    change VC _ _ _ _
    refine vSeq ?_
    refine vBlock ?_
    refine vSeq ?_
    refine vRegion ?_
    iterate 2 refine oVal tt rfl rfl rfl rfl rfl trivial ?_
    refine vNil ?_
    change VC _ _ _ _
    refine vSeq ?_
    refine vRegion ?_
    refine oVal tt rfl rfl rfl rfl rfl trivial ?_
    obtain ⟨hg4, h⟩ := grd_inv h
    refine oVal tt rfl rfl rfl rfl rfl hg4 ?_
    refine oVal tt rfl rfl rfl rfl rfl trivial ?_
    refine vNil ?_
    change VC _ _ _ _
    refine vJoin (F := fun k => I_MissingBars_l2 N g_0 x83 k) h (α := List (Int × Int)) (J := fun (l101 : List (Int × Int)) => (⟨[(1, .ptr 1 0), (3, .row 34 0 l101.length), (12, .int g_0.n), (13, .int x83)], [(34, some (113, .pairs l101))], [(1, some [.int g_0.n, .ro false (.pairs g_0.bars)])]⟩ : PS)) ?_ ?_
    ·rintro l101 h
     show VC _ _ _ (⟨[(1, .ptr 1 0), (3, .row 34 0 l101.length), (12, .int g_0.n), (13, .int x83)], [(34, some (113, .pairs l101))], [(1, some [.int g_0.n, .ro false (.pairs g_0.bars)])]⟩ : PS)
     refine vRegion ?_
     refine oVal tt rfl rfl rfl rfl rfl hg4 ?_
     refine oVal tt rfl rfl rfl rfl rfl trivial ?_
     refine vNil ?_
     change ∃ _, _
     exact ⟨(l101, (x83 + (1 : Int))), (En.of ⟨rfl, rfl, rfl, rfl, trivial⟩ ⟨rfl, trivial⟩ ⟨rfl, trivial⟩), h⟩
    ·intro k h
     refine vBlock ?_
     refine vLoopS (α := (List (Int × Int)) × Int) (fun | (l104, b105) => (⟨[(1, .ptr 1 0), (3, .row 34 0 l104.length), (4, .int x83), (5, .int b105), (12, .int g_0.n), (13, .int x83)], [(34, some (113, .pairs l104))], [(1, some [.int g_0.n, .ro false (.pairs g_0.bars)])]⟩ : PS)) (I_MissingBars_l2 N g_0 x83 k) h (En.of ⟨rfl, rfl, rfl, rfl, rfl, rfl, trivial⟩ ⟨rfl, trivial⟩ ⟨rfl, trivial⟩) (fun _ => rfl) ?_
     rintro n ⟨l104, b105⟩ h
     rw [I_MissingBars_l2] at h
     show VC _ _ _ (⟨[(1, .ptr 1 0), (3, .row 34 0 l104.length), (4, .int x83), (5, .int b105), (12, .int g_0.n), (13, .int x83)], [(34, some (113, .pairs l104))], [(1, some [.int g_0.n, .ro false (.pairs g_0.bars)])]⟩ : PS)
     iterate 2 refine vSeq ?_
     refine vRegion ?_
     iterate 4 refine oVal tt rfl rfl rfl rfl rfl trivial ?_
     refine vNil ?_
     change VC _ _ _ _
     refine vCond rfl (fun hb5 => ?_) (fun hb5 => ?_)
     ·replace h := cnd_t hb5 h
      refine vSkip ?_
      change VC _ _ _ _
      refine vSeq ?_
      refine vBlock ?_
      refine vSeq ?_
      refine vRegion ?_
      iterate 3 refine oVal tt rfl rfl rfl rfl rfl trivial ?_
      obtain ⟨v107, hc6, h⟩ := bind_inv h
      refine oCall (I_CountBar_w N g_0 x83 b105 v107 hc6) rfl rfl rfl rfl rfl rfl rfl rfl ⟨⟨rfl, rfl, trivial⟩, rfl, rfl, trivial⟩ ?_
      refine oVal tt rfl rfl rfl rfl rfl trivial ?_
      refine vNil ?_
      change VC _ _ _ _
      refine vCond rfl (fun hb7 => ?_) (fun hb7 => ?_)
      ·replace h := cnd_t hb7 h
       refine vRegion ?_
       iterate 3 refine oVal tt rfl rfl rfl rfl rfl trivial ?_
       refine oPure (wNone rfl) (pBuild bld_impl_Bar rfl rfl) rfl rfl ?_
       refine oBuild tt rfl rfl rfl rfl rfl rfl rfl rfl rfl rfl rfl ?_
       obtain ⟨hg8, h⟩ := grd_inv h
       refine oAppend tt rfl rfl rfl rfl rfl rfl rfl rfl rfl rfl rfl rfl rfl rfl rfl rfl (Nat.le_of_eq (Nat.zero_add _)) hg8 ?_
       refine oVal tt rfl rfl rfl rfl rfl trivial ?_
       refine vNil ?_
       change VC _ _ _ _
       refine vRegion ?_
       refine oVal tt rfl rfl rfl rfl rfl trivial ?_
       obtain ⟨hg9, h⟩ := grd_inv h
       refine oVal tt rfl rfl rfl rfl rfl hg9 ?_
       refine oVal tt rfl rfl rfl rfl rfl trivial ?_
       refine vNil ?_
       change ∃ _, _
       exact ⟨((l104 ++ ([(x83, b105)] : List (Int × Int))), (b105 + (1 : Int))), (En.of ⟨rfl, rfl, rfl, rfl, rfl, rfl, trivial⟩ ⟨rfl, trivial⟩ ⟨rfl, trivial⟩), h⟩
      ·replace h := cnd_f hb7 h
       refine vSkip ?_
       change VC _ _ _ _
       refine vRegion ?_
       refine oVal tt rfl rfl rfl rfl rfl trivial ?_
       obtain ⟨hg10, h⟩ := grd_inv h
       refine oVal tt rfl rfl rfl rfl rfl hg10 ?_
       refine oVal tt rfl rfl rfl rfl rfl trivial ?_
       refine vNil ?_
       change ∃ _, _
       exact ⟨(l104, (b105 + (1 : Int))), (En.of ⟨rfl, rfl, rfl, rfl, rfl, rfl, trivial⟩ ⟨rfl, trivial⟩ ⟨rfl, trivial⟩), h⟩
     ·replace h := cnd_f hb5 h
      refine vExit ?_
      change ∃ _, _
      exact ⟨l104, (En.of ⟨rfl, rfl, rfl, rfl, trivial⟩ ⟨rfl, trivial⟩ ⟨rfl, trivial⟩), h⟩
   ·replace h := cnd_f hb3 h
    refine vExit ?_
    change ∃ _, _
    exact ⟨l82, (En.of ⟨rfl, trivial⟩ ⟨rfl, trivial⟩ trivial), h⟩
def I_IsRange (N : Nat) (k_0 : Int) (l_1 : Int) : Option (Bool) :=
 (I_within N k_0 (1 : Int) (3 : Int)).bind fun v1 =>
 cnd v1 (
  grd (Rg64 ((2 : Int) * k_0)) <|
  grd (Rg64 (((2 : Int) * k_0) - (1 : Int))) <|
  (I_within N l_1 (0 : Int) (((2 : Int) * k_0) - (1 : Int))).bind fun v2 =>
  some v2) (
  some false)
set_option maxRecDepth 20000 in
set_option maxHeartbeats 1600000 in
theorem I_IsRange_w (N : Nat) (k_0 : Int) (l_1 : Int) (r : Bool) (h : I_IsRange N k_0 l_1 = some r) : PCall Try.prog 172 [.int k_0, .int l_1] [] (.bool r) := by
 unfold I_IsRange at h
 refine pcall_intro (TT := TT) tt Try.func172 rfl rfl Try.ntmps172 (congrArg Array.toList Try.results172) rfl rfl fun w0 => ?_
 refine vSeq ?_
 refine vRegion ?_
 refine oVal tt rfl rfl rfl rfl rfl trivial ?_
 refine vNil ?_
 change VC _ _ _ _
 refine vSeq ?_
 refine vRegion ?_
 refine oVal tt rfl rfl rfl rfl rfl trivial ?_
 obtain ⟨v1, hc1, h⟩ := bind_inv h
 refine oCall (I_within_w N k_0 (1 : Int) (3 : Int) v1 hc1) rfl rfl rfl rfl rfl rfl rfl rfl ⟨rfl, rfl, rfl, trivial⟩ ?_
 refine oVal tt rfl rfl rfl rfl rfl trivial ?_
 refine oSplit rfl rfl rfl (fun hb2 => ?_) (fun hb2 => ?_)
 ·replace h := cnd_t hb2 h
  iterate 2 refine oValG tt rfl rfl rfl rfl rfl hb2 rfl rfl rfl trivial ?_
  obtain ⟨hg3, h⟩ := grd_inv h
  refine oValG tt rfl rfl rfl rfl rfl hb2 rfl rfl rfl hg3 ?_
  obtain ⟨hg4, h⟩ := grd_inv h
  refine oValG tt rfl rfl rfl rfl rfl hb2 rfl rfl rfl hg4 ?_
  obtain ⟨v2, hc5, h⟩ := bind_inv h
  refine oCallG (I_within_w N l_1 (0 : Int) (((2 : Int) * k_0) - (1 : Int)) v2 hc5) rfl rfl rfl rfl hb2 rfl rfl rfl rfl rfl rfl rfl ⟨rfl, rfl, rfl, trivial⟩ ?_
  refine oPick rfl rfl rfl rfl rfl hb2 rfl ?_
  refine oVal tt rfl rfl rfl rfl rfl trivial ?_
  refine vNil ?_
  change VC _ _ _ _
  refine vRet ?_
  change ∃ _, _
  cases h
  exact ⟨[], _, rfl, trivial, rfl, (.eq rfl), rfl⟩
 ·replace h := cnd_f hb2 h
  iterate 5 refine oNoT rfl rfl rfl rfl hb2 rfl rfl ?_
  refine oPickF rfl rfl rfl rfl rfl hb2 rfl ?_
  refine oVal tt rfl rfl rfl rfl rfl trivial ?_
  refine vNil ?_
  change VC _ _ _ _
  refine vRet ?_
  change ∃ _, _
  cases h
  exact ⟨[], _, rfl, trivial, rfl, (.eq rfl), rfl⟩
def I_RunPebbles (N : Nat) (g_0 : Grf) (k_1 : Int) (l_2 : Int) : Option (Pbl × Bool) :=
 (I_IsGraph N g_0).bind fun v1 =>
 cnd (!v1) (
  some ((⟨([] : List Int), ([] : List Int), ([] : List Int)⟩ : Pbl), false)) (
  (I_IsRange N k_1 l_2).bind fun v2 =>
  cnd (!v2) (
   some ((⟨([] : List Int), ([] : List Int), ([] : List Int)⟩ : Pbl), false)) (
   (I_play N g_0.n g_0.bars k_1 l_2).bind fun v3 =>
   some ((⟨v3.free, v3.tails, v3.placed⟩ : Pbl), true)))
set_option maxRecDepth 20000 in
set_option maxHeartbeats 1600000 in
theorem I_RunPebbles_w (N : Nat) (g_0 : Grf) (k_1 : Int) (l_2 : Int) (r : Pbl × Bool) (h : I_RunPebbles N g_0 k_1 l_2 = some r) : PCall Try.prog 166 [gD g_0, .int k_1, .int l_2] [(3, .ints r.1.free), (3, .ints r.1.tails), (3, .ints r.1.placed)] (.tup [.agg [.row 0 0 r.1.free.length, .row 1 0 r.1.tails.length, .row 2 0 r.1.placed.length], .bool r.2]) := by
 unfold I_RunPebbles at h
 refine pcall_intro (TT := TT) tt Try.func166 rfl rfl Try.ntmps166 (congrArg Array.toList Try.results166) rfl rfl fun w0 => ?_
 refine vSeq ?_
 refine vRegion ?_
 refine oBox rfl rfl rfl rfl rfl rfl rfl rfl rfl ?_
 refine oAlloc tt rfl rfl rfl rfl rfl rfl rfl rfl rfl ?_
 refine oVal tt rfl rfl rfl rfl rfl trivial ?_
 refine vNil ?_
 change VC _ _ _ _
 iterate 2 refine vSeq ?_
 refine vRegion ?_
 refine oVal tt rfl rfl rfl rfl rfl trivial ?_
 obtain ⟨v1, hc1, h⟩ := bind_inv h
 refine oCall (I_IsGraph_w N g_0 v1 hc1) rfl rfl rfl rfl rfl rfl rfl rfl ⟨⟨rfl, rfl, trivial⟩, trivial⟩ ?_
 iterate 2 refine oVal tt rfl rfl rfl rfl rfl trivial ?_
 refine oSplit rfl rfl rfl (fun hb2 => ?_) (fun hb2 => ?_)
 ·replace h := cnd_t hb2 h
  iterate 4 refine oNoF rfl rfl rfl rfl hb2 rfl rfl ?_
  refine oPick rfl rfl rfl rfl rfl hb2 rfl ?_
  refine vNil ?_
  change VC _ _ _ _
  refine vCondT rfl rfl ?_
  refine vSeq ?_
  refine vRegion ?_
  refine oPure (wNone rfl) (pBuild bld_impl_Pebbles rfl rfl) rfl rfl ?_
  refine oStore tt rfl rfl rfl rfl rfl rfl rfl rfl rfl rfl rfl ⟨trivial, trivial, trivial, trivial⟩ ?_
  refine oVal tt rfl rfl rfl rfl rfl trivial ?_
  refine vNil ?_
  change VC _ _ _ _
  refine vNilB 6 0 9001 3 (.ints []) rfl rfl rfl rfl rfl ?_
  refine vNilB 6 1 9002 3 (.ints []) rfl rfl rfl rfl rfl ?_
  refine vNilB 6 2 9003 3 (.ints []) rfl rfl rfl rfl rfl ?_
  refine vRet ?_
  change ∃ _, _
  cases h
  exact ⟨[9001, 9002, 9003], _, rfl, ⟨rfl, rfl, rfl, trivial⟩, rfl, (.eq rfl), rfl⟩
 ·replace h := cnd_f hb2 h
  iterate 2 refine oValG tt rfl rfl rfl rfl rfl hb2 rfl rfl rfl trivial ?_
  obtain ⟨v2, hc3, h⟩ := bind_inv h
  refine oCallG (I_IsRange_w N k_1 l_2 v2 hc3) rfl rfl rfl rfl hb2 rfl rfl rfl rfl rfl rfl rfl ⟨rfl, rfl, trivial⟩ ?_
  refine oValG tt rfl rfl rfl rfl rfl hb2 rfl rfl rfl trivial ?_
  refine oPickF rfl rfl rfl rfl rfl hb2 rfl ?_
  refine vNil ?_
  change VC _ _ _ _
  refine vCond rfl (fun hb4 => ?_) (fun hb4 => ?_)
  ·replace h := cnd_t hb4 h
   refine vSeq ?_
   refine vRegion ?_
   refine oPure (wNone rfl) (pBuild bld_impl_Pebbles rfl rfl) rfl rfl ?_
   refine oStore tt rfl rfl rfl rfl rfl rfl rfl rfl rfl rfl rfl ⟨trivial, trivial, trivial, trivial⟩ ?_
   refine oVal tt rfl rfl rfl rfl rfl trivial ?_
   refine vNil ?_
   change VC _ _ _ _
   refine vNilB 6 0 9001 3 (.ints []) rfl rfl rfl rfl rfl ?_
   refine vNilB 6 1 9002 3 (.ints []) rfl rfl rfl rfl rfl ?_
   refine vNilB 6 2 9003 3 (.ints []) rfl rfl rfl rfl rfl ?_
   refine vRet ?_
   change ∃ _, _
   cases h
   exact ⟨[9001, 9002, 9003], _, rfl, ⟨rfl, rfl, rfl, trivial⟩, rfl, (.eq rfl), rfl⟩
  ·replace h := cnd_f hb4 h
   refine vSkip ?_
   change VC _ _ _ _
   refine vSeq ?_
   refine vRegion ?_
   iterate 6 refine oVal tt rfl rfl rfl rfl rfl trivial ?_
   obtain ⟨v3, hc5, h⟩ := bind_inv h
   refine oCall (I_play_w N g_0.n g_0.bars k_1 l_2 v3 hc5) rfl rfl rfl rfl rfl rfl rfl rfl ⟨rfl, rfl, rfl, rfl, trivial⟩ ?_
   refine oStore tt rfl rfl rfl rfl rfl rfl rfl rfl rfl rfl rfl ⟨trivial, trivial, trivial, trivial⟩ ?_
   refine oVal tt rfl rfl rfl rfl rfl trivial ?_
   refine vNil ?_
   change VC _ _ _ _
   refine vRet ?_
   change ∃ _, _
   cases h
   exact ⟨[1240, 1241, 1242], _, rfl, ⟨rfl, rfl, rfl, trivial⟩, rfl, (.eq rfl), rfl⟩
end Go.Proofs.Ytkklfgcelmeccaa
namespace Go.Proofs.Ytkklfgcelmeccaa
open Go.RowKit
def I_RankOf (N : Nat) (g_0 : Grf) (k_1 : Int) (l_2 : Int) : Option (Int) :=
 (I_RunPebbles N g_0 k_1 l_2).bind fun v1 =>
 cnd (!v1.2) (
  some (-1 : Int)) (
  some (v1.1.placed.length : Int))
set_option maxRecDepth 20000 in
set_option maxHeartbeats 1600000 in
theorem I_RankOf_w (N : Nat) (g_0 : Grf) (k_1 : Int) (l_2 : Int) (r : Int) (h : I_RankOf N g_0 k_1 l_2 = some r) : PCall Try.prog 157 [gD g_0, .int k_1, .int l_2] [] (.int r) := by
 unfold I_RankOf at h
 refine pcall_intro (TT := TT) tt Try.func157 rfl rfl Try.ntmps157 (congrArg Array.toList Try.results157) rfl rfl fun w0 => ?_
 refine vSeq ?_
 refine vRegion ?_
 refine oBox rfl rfl rfl rfl rfl rfl rfl rfl rfl ?_
 refine oVal tt rfl rfl rfl rfl rfl trivial ?_
 refine vNil ?_
 change VC _ _ _ _
 refine vSeq ?_
 refine vRegion ?_
 iterate 3 refine oVal tt rfl rfl rfl rfl rfl trivial ?_
 obtain ⟨v1, hc1, h⟩ := bind_inv h
 refine oCall (I_RunPebbles_w N g_0 k_1 l_2 v1 hc1) rfl rfl rfl rfl rfl rfl rfl rfl ⟨⟨rfl, rfl, trivial⟩, rfl, rfl, trivial⟩ ?_
 iterate 3 refine oVal tt rfl rfl rfl rfl rfl trivial ?_
 refine oAlloc tt rfl rfl rfl rfl rfl rfl rfl rfl rfl ?_
 refine oStore tt rfl rfl rfl rfl rfl rfl rfl rfl rfl rfl rfl ⟨trivial, trivial, trivial, trivial⟩ ?_
 refine oVal tt rfl rfl rfl rfl rfl trivial ?_
 refine vNil ?_
 change VC _ _ _ _
 iterate 2 refine vSeq ?_
 refine vRegion ?_
 iterate 2 refine oVal tt rfl rfl rfl rfl rfl trivial ?_
 refine vNil ?_
 change VC _ _ _ _
 refine vCond rfl (fun hb2 => ?_) (fun hb2 => ?_)
 ·replace h := cnd_t hb2 h
  refine vSeq ?_
  refine vRegion ?_
  refine oVal tt rfl rfl rfl rfl rfl trivial ?_
  refine vNil ?_
  change VC _ _ _ _
  refine vRet ?_
  change ∃ _, _
  cases h
  exact ⟨[], _, rfl, trivial, rfl, (.eq rfl), rfl⟩
 ·replace h := cnd_f hb2 h
  refine vSkip ?_
  change VC _ _ _ _
  refine vSeq ?_
  refine vRegion ?_
  iterate 4 refine oVal tt rfl rfl rfl rfl rfl trivial ?_
  refine vNil ?_
  change VC _ _ _ _
  refine vRet ?_
  change ∃ _, _
  cases h
  exact ⟨[], _, rfl, trivial, rfl, (.eq rfl), rfl⟩
def I_FreedomOf (N : Nat) (g_0 : Grf) : Option (Int) :=
 (I_IsGraph N g_0).bind fun v1 =>
 cnd (!v1) (
  some (-1 : Int)) (
  grd (Rg64 ((2 : Int) * g_0.n)) <|
  grd (Rg64 (((2 : Int) * g_0.n) - (3 : Int))) <|
  (I_RankOf N g_0 (2 : Int) (3 : Int)).bind fun v2 =>
  grd (Rg64 ((max (0 : Int) (((2 : Int) * g_0.n) - (3 : Int))) - v2)) <|
  some ((max (0 : Int) (((2 : Int) * g_0.n) - (3 : Int))) - v2))
set_option maxRecDepth 20000 in
set_option maxHeartbeats 1600000 in
theorem I_FreedomOf_w (N : Nat) (g_0 : Grf) (r : Int) (h : I_FreedomOf N g_0 = some r) : PCall Try.prog 146 [gD g_0] [] (.int r) := by
 unfold I_FreedomOf at h
 refine pcall_intro (TT := TT) tt Try.func146 rfl rfl Try.ntmps146 (congrArg Array.toList Try.results146) rfl rfl fun w0 => ?_
 refine vSeq ?_
 refine vRegion ?_
 refine oBox rfl rfl rfl rfl rfl rfl rfl rfl rfl ?_
 refine oVal tt rfl rfl rfl rfl rfl trivial ?_
 refine vNil ?_
 change VC _ _ _ _
 iterate 2 refine vSeq ?_
 refine vRegion ?_
 refine oVal tt rfl rfl rfl rfl rfl trivial ?_
 obtain ⟨v1, hc1, h⟩ := bind_inv h
 refine oCall (I_IsGraph_w N g_0 v1 hc1) rfl rfl rfl rfl rfl rfl rfl rfl ⟨⟨rfl, rfl, trivial⟩, trivial⟩ ?_
 refine oVal tt rfl rfl rfl rfl rfl trivial ?_
 refine vNil ?_
 change VC _ _ _ _
 refine vCond rfl (fun hb2 => ?_) (fun hb2 => ?_)
 ·replace h := cnd_t hb2 h
  refine vSeq ?_
  refine vRegion ?_
  refine oVal tt rfl rfl rfl rfl rfl trivial ?_
  refine vNil ?_
  change VC _ _ _ _
  refine vRet ?_
  change ∃ _, _
  cases h
  exact ⟨[], _, rfl, trivial, rfl, (.eq rfl), rfl⟩
 ·replace h := cnd_f hb2 h
  refine vSkip ?_
  change VC _ _ _ _
  refine vSeq ?_
  refine vRegionD (by kernel_rfl) (by kernel_rfl) ?_
  iterate 2 refine cVal tt rfl (wNone rfl) rfl rfl rfl trivial ?_
  obtain ⟨hg3, h⟩ := grd_inv h
  refine cVal tt rfl (wNone rfl) rfl rfl rfl hg3 ?_
  obtain ⟨hg4, h⟩ := grd_inv h
  refine cVal tt rfl (wNone rfl) rfl rfl rfl hg4 ?_
  iterate 2 refine cVal tt rfl (wNone rfl) rfl rfl rfl trivial ?_
  obtain ⟨v2, hc5, h⟩ := bind_inv h
  refine cCall (I_RankOf_w N g_0 (2 : Int) (3 : Int) v2 hc5) rfl (wNone rfl) rfl rfl rfl rfl rfl rfl ⟨⟨rfl, rfl, trivial⟩, rfl, rfl, trivial⟩ ?_
  obtain ⟨hg6, h⟩ := grd_inv h
  refine cVal tt rfl (wNone rfl) rfl rfl rfl hg6 ?_
  refine cVal tt rfl (wNone rfl) rfl rfl rfl trivial ?_
  refine cNil ?_
  change VC _ _ _ _
  refine vRet ?_
  change ∃ _, _
  cases h
  exact ⟨[], _, rfl, trivial, rfl, (.eq rfl), rfl⟩
def I_IsRigid (N : Nat) (g_0 : Grf) : Option (Bool) :=
 (I_FreedomOf N g_0).bind fun v1 =>
 some (v1 == (0 : Int))
set_option maxRecDepth 20000 in
set_option maxHeartbeats 1600000 in
theorem I_IsRigid_w (N : Nat) (g_0 : Grf) (r : Bool) (h : I_IsRigid N g_0 = some r) : PCall Try.prog 134 [gD g_0] [] (.bool r) := by
 unfold I_IsRigid at h
 refine pcall_intro (TT := TT) tt Try.func134 rfl rfl Try.ntmps134 (congrArg Array.toList Try.results134) rfl rfl fun w0 => ?_
 refine vSeq ?_
 refine vRegion ?_
 refine oBox rfl rfl rfl rfl rfl rfl rfl rfl rfl ?_
 refine oVal tt rfl rfl rfl rfl rfl trivial ?_
 refine vNil ?_
 change VC _ _ _ _
 refine vSeq ?_
 refine vRegion ?_
 refine oVal tt rfl rfl rfl rfl rfl trivial ?_
 obtain ⟨v1, hc1, h⟩ := bind_inv h
 refine oCall (I_FreedomOf_w N g_0 v1 hc1) rfl rfl rfl rfl rfl rfl rfl rfl ⟨⟨rfl, rfl, trivial⟩, trivial⟩ ?_
 iterate 2 refine oVal tt rfl rfl rfl rfl rfl trivial ?_
 refine vNil ?_
 change VC _ _ _ _
 refine vRet ?_
 change ∃ _, _
 cases h
 exact ⟨[], _, rfl, trivial, rfl, (.eq rfl), rfl⟩
def I_WithoutPoints_l1 (N : Nat) (g_0 : Grf) (l7 : List Int) (k : (List (Int × Int)) → Option (Grf)) : Nat → ((List (Int × Int)) × Int) → Option (Grf)
 | 0, _ => none
 | n + 1, (l16, x17) =>
  cnd (decide (x17 < (g_0.bars.length : Int))) (
   grd (0 ≤ x17 ∧ x17 < (g_0.bars.length : Int)) <|
   grd (0 ≤ ((g_0.bars.getD ((x17).toNat) (0, 0)).1) ∧ ((g_0.bars.getD ((x17).toNat) (0, 0)).1) < ((List.replicate (((max (0 : Int) (min g_0.n (8 : Int)))).toNat) (0 : Int)).length : Int)) <|
   grd (0 ≤ ((g_0.bars.getD ((x17).toNat) (0, 0)).1) ∧ ((g_0.bars.getD ((x17).toNat) (0, 0)).1) < (l7.length : Int)) <|
   grd (0 ≤ ((g_0.bars.getD ((x17).toNat) (0, 0)).2) ∧ ((g_0.bars.getD ((x17).toNat) (0, 0)).2) < ((List.replicate (((max (0 : Int) (min g_0.n (8 : Int)))).toNat) (0 : Int)).length : Int)) <|
   grd (0 ≤ ((g_0.bars.getD ((x17).toNat) (0, 0)).2) ∧ ((g_0.bars.getD ((x17).toNat) (0, 0)).2) < (l7.length : Int)) <|
   cnd (decide ((l7.getD (((g_0.bars.getD ((x17).toNat) (0, 0)).1).toNat) 0) ≥ (0 : Int))) (
    cnd (decide ((l7.getD (((g_0.bars.getD ((x17).toNat) (0, 0)).2).toNat) 0) ≥ (0 : Int))) (
     grd (l16.length + 1 ≤ 4294967296) <|
     grd (Rg64 (x17 + (1 : Int))) <|
     I_WithoutPoints_l1 N g_0 l7 k n ((l16 ++ ([((l7.getD (((g_0.bars.getD ((x17).toNat) (0, 0)).1).toNat) 0), (l7.getD (((g_0.bars.getD ((x17).toNat) (0, 0)).2).toNat) 0))] : List (Int × Int))), (x17 + (1 : Int)))) (
     grd (Rg64 (x17 + (1 : Int))) <|
     I_WithoutPoints_l1 N g_0 l7 k n (l16, (x17 + (1 : Int))))) (
    grd (Rg64 (x17 + (1 : Int))) <|
    I_WithoutPoints_l1 N g_0 l7 k n (l16, (x17 + (1 : Int))))) (
   k l16)
def I_WithoutPoints_l2 (N : Nat) (g_0 : Grf) (set_1 : List Int) (k : ((List Int) × Int) → Option (Grf)) : Nat → ((List Int) × Int × Int) → Option (Grf)
 | 0, _ => none
 | n + 1, (l20, x21, c22) =>
  cnd (decide (x21 < ((List.replicate (((max (0 : Int) (min g_0.n (8 : Int)))).toNat) (0 : Int)).length : Int))) (
   grd (0 ≤ x21 ∧ x21 < ((List.replicate (((max (0 : Int) (min g_0.n (8 : Int)))).toNat) (0 : Int)).length : Int)) <|
   grd (0 ≤ x21 ∧ x21 < (l20.length : Int)) <|
   (G_Contains_int N set_1 x21).bind fun v24 =>
   cnd (!v24) (
    grd (0 ≤ x21 ∧ x21 < ((l20.set ((x21).toNat) (-1 : Int)).length : Int)) <|
    grd (Rg64 (c22 + (1 : Int))) <|
    grd (Rg64 (x21 + (1 : Int))) <|
    I_WithoutPoints_l2 N g_0 set_1 k n (((l20.set ((x21).toNat) (-1 : Int)).set ((x21).toNat) c22), (x21 + (1 : Int)), (c22 + (1 : Int)))) (
    grd (Rg64 (x21 + (1 : Int))) <|
    I_WithoutPoints_l2 N g_0 set_1 k n ((l20.set ((x21).toNat) (-1 : Int)), (x21 + (1 : Int)), c22))) (
   k (l20, c22))
def I_WithoutPoints (N : Nat) (g_0 : Grf) (set_1 : List Int) : Option (Grf) :=
 grd (0 ≤ (max (0 : Int) (min g_0.n (8 : Int))) ∧ (max (0 : Int) (min g_0.n (8 : Int))) ≤ 4294967296) <|
 I_WithoutPoints_l2 N g_0 set_1 (fun (x : (List Int) × Int) =>
   match x with
   | (l7, c8) =>
    (I_IsGraph N g_0).bind fun v9 =>
    cnd (!v9) (
     some (⟨c8, ([] : List (Int × Int))⟩ : Grf)) (
     I_WithoutPoints_l1 N g_0 l7 (fun (l13 : List (Int × Int)) =>
        some (⟨c8, l13⟩ : Grf)) N (([] : List (Int × Int)), (0 : Int)))) N ((List.replicate (((max (0 : Int) (min g_0.n (8 : Int)))).toNat) (0 : Int)), (0 : Int), (0 : Int))
set_option maxRecDepth 20000 in
set_option maxHeartbeats 1600000 in
theorem I_WithoutPoints_w (N : Nat) (g_0 : Grf) (set_1 : List Int) (r : Grf) (h : I_WithoutPoints N g_0 set_1 = some r) : PCall Try.prog 101 [gD g_0, .ro false (.ints set_1)] [(113, .pairs r.bars)] (.agg [.int r.n, .row 0 0 r.bars.length]) := by
 unfold I_WithoutPoints at h
 refine pcall_intro (TT := TT) tt Try.func101 rfl rfl Try.ntmps101 (congrArg Array.toList Try.results101) rfl rfl fun w0 => ?_
 refine vSeq ?_
 refine vRegion ?_
 refine oBox rfl rfl rfl rfl rfl rfl rfl rfl rfl ?_
 refine oAlloc tt rfl rfl rfl rfl rfl rfl rfl rfl rfl ?_
 refine vNil ?_
 change VC _ _ _ _
 refine vSeq ?_
 refine vRegion ?_
 iterate 4 refine oVal tt rfl rfl rfl rfl rfl trivial ?_
 obtain ⟨hg1, h⟩ := grd_inv h
 refine oMake tt rfl rfl rfl rfl rfl rfl rfl rfl rfl rfl rfl hg1 ?_
 refine oVal tt rfl rfl rfl rfl rfl trivial ?_
 refine vNil ?_
 change VC _ _ _ _
 refine vSeq ?_
 refine vRegion ?_
 refine oPure (wNone rfl) (pBuild bld_impl_Graph rfl rfl) rfl rfl ?_
 refine oAlloc tt rfl rfl rfl rfl rfl rfl rfl rfl rfl ?_
 refine oStore tt rfl rfl rfl rfl rfl rfl rfl rfl rfl rfl rfl ⟨trivial, trivial, trivial⟩ ?_
 refine vNil ?_
 change VC _ _ _ _
 iterate 2 refine vSeq ?_
 refine vRegion ?_
 iterate 3 refine oVal tt rfl rfl rfl rfl rfl trivial ?_
 refine vNil ?_
 change VC _ _ _ _
 refine vJoin (F := fun k => I_WithoutPoints_l2 N g_0 set_1 k) h (α := (List Int) × Int) (J := fun | (l7, c8) => (⟨[(2, .ptr 2 0), (4, .ptr 4 0), (5, .row 16 0 ((List.replicate (((max (0 : Int) (min g_0.n (8 : Int)))).toNat) (0 : Int)).length)), (6, .ptr 6 0)], [(16, some (3, .ints l7))], [(2, some [.int g_0.n, .ro false (.pairs g_0.bars)]), (4, some [.int (0 : Int), .nil]), (6, some [.int c8, .nil])]⟩ : PS)) ?_ ?_
 ·rintro ⟨l7, c8⟩ h
  show VC _ _ _ (⟨[(2, .ptr 2 0), (4, .ptr 4 0), (5, .row 16 0 ((List.replicate (((max (0 : Int) (min g_0.n (8 : Int)))).toNat) (0 : Int)).length)), (6, .ptr 6 0)], [(16, some (3, .ints l7))], [(2, some [.int g_0.n, .ro false (.pairs g_0.bars)]), (4, some [.int (0 : Int), .nil]), (6, some [.int c8, .nil])]⟩ : PS)
  iterate 2 refine vSeq ?_
  refine vRegion ?_
  refine oVal tt rfl rfl rfl rfl rfl trivial ?_
  obtain ⟨v9, hc2, h⟩ := bind_inv h
  refine oCall (I_IsGraph_w N g_0 v9 hc2) rfl rfl rfl rfl rfl rfl rfl rfl ⟨⟨rfl, rfl, trivial⟩, trivial⟩ ?_
  refine oVal tt rfl rfl rfl rfl rfl trivial ?_
  refine vNil ?_
  change VC _ _ _ _
  refine vCond rfl (fun hb3 => ?_) (fun hb3 => ?_)
  ·replace h := cnd_t hb3 h
   refine vSeq ?_
   refine vRegion ?_
   refine oVal tt rfl rfl rfl rfl rfl trivial ?_
   refine oStore tt rfl rfl rfl rfl rfl rfl rfl rfl rfl rfl rfl ⟨trivial, trivial, trivial⟩ ?_
   refine vNil ?_
   change VC _ _ _ _
   refine vNilB 4 1 9001 113 (.pairs []) rfl rfl rfl rfl rfl ?_
   refine vRet ?_
   change ∃ _, _
   cases h
   exact ⟨[9001], _, rfl, ⟨rfl, trivial⟩, rfl, (.eq rfl), rfl⟩
  ·replace h := cnd_f hb3 h
   refine vSkip ?_
   change VC _ _ _ _
   iterate 2 refine vSeq ?_
   refine vRegion ?_
   iterate 4 refine oVal tt rfl rfl rfl rfl rfl trivial ?_
   refine vNil ?_
   change VC _ _ _ _
   refine vJoin (F := fun k => I_WithoutPoints_l1 N g_0 l7 k) h (α := List (Int × Int)) (J := fun (l13 : List (Int × Int)) => (⟨[(4, .ptr 4 0), (6, .ptr 6 0)], [(73, some (113, .pairs l13))], [(4, some [.int (0 : Int), .nil]), (6, some [.int c8, .row 73 0 l13.length])]⟩ : PS)) ?_ ?_
   ·rintro l13 h
    show VC _ _ _ (⟨[(4, .ptr 4 0), (6, .ptr 6 0)], [(73, some (113, .pairs l13))], [(4, some [.int (0 : Int), .nil]), (6, some [.int c8, .row 73 0 l13.length])]⟩ : PS)
    refine vSeq ?_
    refine vRegion ?_
    refine oVal tt rfl rfl rfl rfl rfl trivial ?_
    refine oStore tt rfl rfl rfl rfl rfl rfl rfl rfl rfl rfl rfl ⟨trivial, trivial, trivial⟩ ?_
    refine vNil ?_
    change VC _ _ _ _
    refine vRet ?_
    change ∃ _, _
    cases h
    exact ⟨[73], _, rfl, ⟨rfl, trivial⟩, rfl, (.eq rfl), rfl⟩
   ·intro k h
    refine vBlock ?_
    refine vNilB 6 1 73 113 (.pairs []) rfl rfl rfl rfl rfl ?_
    refine vLoopS (α := (List (Int × Int)) × Int) (fun | (l16, x17) => (⟨[(4, .ptr 4 0), (5, .row 16 0 ((List.replicate (((max (0 : Int) (min g_0.n (8 : Int)))).toNat) (0 : Int)).length)), (6, .ptr 6 0), (45, .ro false (.pairs g_0.bars)), (46, .int (g_0.bars.length : Int)), (47, .int x17)], [(16, some (3, .ints l7)), (73, some (113, .pairs l16))], [(4, some [.int (0 : Int), .nil]), (6, some [.int c8, .row 73 0 l16.length])]⟩ : PS)) (I_WithoutPoints_l1 N g_0 l7 k) h (En.of ⟨rfl, rfl, rfl, rfl, rfl, rfl, trivial⟩ ⟨rfl, rfl, trivial⟩ ⟨rfl, rfl, trivial⟩) (fun _ => rfl) ?_
    rintro n ⟨l16, x17⟩ h
    rw [I_WithoutPoints_l1] at h
    show VC _ _ _ (⟨[(4, .ptr 4 0), (5, .row 16 0 ((List.replicate (((max (0 : Int) (min g_0.n (8 : Int)))).toNat) (0 : Int)).length)), (6, .ptr 6 0), (45, .ro false (.pairs g_0.bars)), (46, .int (g_0.bars.length : Int)), (47, .int x17)], [(16, some (3, .ints l7)), (73, some (113, .pairs l16))], [(4, some [.int (0 : Int), .nil]), (6, some [.int c8, .row 73 0 l16.length])]⟩ : PS)
    refine vSeq ?_
    refine vRegion ?_
    refine oVal tt rfl rfl rfl rfl rfl trivial ?_
    refine vNil ?_
    change VC _ _ _ _
    refine vSeq ?_
    refine vCond rfl (fun hb4 => ?_) (fun hb4 => ?_)
    ·replace h := cnd_t hb4 h
     refine vSkip ?_
     change VC _ _ _ _
     refine vSeq ?_
     refine vBlock ?_
     refine vSeq ?_
     refine vRegion ?_
     obtain ⟨hg5, h⟩ := grd_inv h
     refine oVal tt rfl rfl rfl rfl rfl hg5 ?_
     refine oVal tt rfl rfl rfl rfl rfl trivial ?_
     refine oAlloc tt rfl rfl rfl rfl rfl rfl rfl rfl rfl ?_
     refine oStore tt rfl rfl rfl rfl rfl rfl rfl rfl rfl rfl rfl ⟨trivial, trivial, trivial⟩ ?_
     refine vNil ?_
     change VC _ _ _ _
     refine vSeq ?_
     refine vRegionD (by kernel_rfl) (by kernel_rfl) ?_
     iterate 3 refine cVal tt rfl (wNone rfl) rfl rfl rfl trivial ?_
     obtain ⟨hg6, h⟩ := grd_inv h
     refine cVal tt rfl (wNone rfl) rfl rfl rfl hg6 ?_
     obtain ⟨hg7, h⟩ := grd_inv h
     refine cVal tt rfl (wNone rfl) rfl rfl rfl hg7 ?_
     iterate 3 refine cVal tt rfl (wNone rfl) rfl rfl rfl trivial ?_
     obtain ⟨hg8, h⟩ := grd_inv h
     refine cVal tt rfl (wNone rfl) rfl rfl rfl hg8 ?_
     obtain ⟨hg9, h⟩ := grd_inv h
     refine cVal tt rfl (wNone rfl) rfl rfl rfl hg9 ?_
     iterate 2 refine cVal tt rfl (wNone rfl) rfl rfl rfl trivial ?_
     refine cNil ?_
     change VC _ _ _ _
     refine vSeq ?_
     refine vRegion ?_
     iterate 3 refine oVal tt rfl rfl rfl rfl rfl trivial ?_
     refine oSplit rfl rfl rfl (fun hb10 => ?_) (fun hb10 => ?_)
     ·replace h := cnd_t hb10 h
      iterate 2 refine oValG tt rfl rfl rfl rfl rfl hb10 rfl rfl rfl trivial ?_
      refine oPick rfl rfl rfl rfl rfl hb10 rfl ?_
      refine vNil ?_
      change VC _ _ _ _
      refine vCond rfl (fun hb11 => ?_) (fun hb11 => ?_)
      ·replace h := cnd_t hb11 h
       refine vRegion ?_
       iterate 4 refine oVal tt rfl rfl rfl rfl rfl trivial ?_
       refine oPure (wNone rfl) (pBuild bld_impl_Bar rfl rfl) rfl rfl ?_
       refine oBuild tt rfl rfl rfl rfl rfl rfl rfl rfl rfl rfl rfl ?_
       obtain ⟨hg12, h⟩ := grd_inv h
       refine oAppend tt rfl rfl rfl rfl rfl rfl rfl rfl rfl rfl rfl rfl rfl rfl rfl rfl (Nat.le_of_eq (Nat.zero_add _)) hg12 ?_
       refine oVal tt rfl rfl rfl rfl rfl trivial ?_
       refine oStore tt rfl rfl rfl rfl rfl rfl rfl rfl rfl rfl rfl ⟨trivial, trivial⟩ ?_
       refine vNil ?_
       change VC _ _ _ _
       refine vRegion ?_
       obtain ⟨hg13, h⟩ := grd_inv h
       refine oVal tt rfl rfl rfl rfl rfl hg13 ?_
       refine oVal tt rfl rfl rfl rfl rfl trivial ?_
       refine vNil ?_
       change ∃ _, _
       exact ⟨((l16 ++ ([((l7.getD (((g_0.bars.getD ((x17).toNat) (0, 0)).1).toNat) 0), (l7.getD (((g_0.bars.getD ((x17).toNat) (0, 0)).2).toNat) 0))] : List (Int × Int))), (x17 + (1 : Int))), (En.of ⟨rfl, rfl, rfl, rfl, rfl, rfl, trivial⟩ ⟨rfl, rfl, trivial⟩ ⟨rfl, rfl, trivial⟩), h⟩
      ·replace h := cnd_f hb11 h
       refine vSkip ?_
       change VC _ _ _ _
       refine vRegion ?_
       obtain ⟨hg14, h⟩ := grd_inv h
       refine oVal tt rfl rfl rfl rfl rfl hg14 ?_
       refine oVal tt rfl rfl rfl rfl rfl trivial ?_
       refine vNil ?_
       change ∃ _, _
       exact ⟨(l16, (x17 + (1 : Int))), (En.of ⟨rfl, rfl, rfl, rfl, rfl, rfl, trivial⟩ ⟨rfl, rfl, trivial⟩ ⟨rfl, rfl, trivial⟩), h⟩
     ·replace h := cnd_f hb10 h
      iterate 2 refine oNoT rfl rfl rfl rfl hb10 rfl rfl ?_
      refine oPickF rfl rfl rfl rfl rfl hb10 rfl ?_
      refine vNil ?_
      change VC _ _ _ _
      refine vCondF rfl rfl ?_
      refine vSkip ?_
      change VC _ _ _ _
      refine vRegion ?_
      obtain ⟨hg15, h⟩ := grd_inv h
      refine oVal tt rfl rfl rfl rfl rfl hg15 ?_
      refine oVal tt rfl rfl rfl rfl rfl trivial ?_
      refine vNil ?_
      change ∃ _, _
      exact ⟨(l16, (x17 + (1 : Int))), (En.of ⟨rfl, rfl, rfl, rfl, rfl, rfl, trivial⟩ ⟨rfl, rfl, trivial⟩ ⟨rfl, rfl, trivial⟩), h⟩
    ·replace h := cnd_f hb4 h
     refine vExit ?_
     change ∃ _, _
     exact ⟨l16, (En.of ⟨rfl, rfl, trivial⟩ ⟨rfl, trivial⟩ ⟨rfl, rfl, trivial⟩), h⟩
 ·intro k h
  refine vBlock ?_
  refine vLoopS (α := (List Int) × Int × Int) (fun | (l20, x21, c22) => (⟨[(1, .ro false (.ints set_1)), (2, .ptr 2 0), (4, .ptr 4 0), (5, .row 16 0 ((List.replicate (((max (0 : Int) (min g_0.n (8 : Int)))).toNat) (0 : Int)).length)), (6, .ptr 6 0), (19, .int ((List.replicate (((max (0 : Int) (min g_0.n (8 : Int)))).toNat) (0 : Int)).length : Int)), (20, .int x21)], [(16, some (3, .ints l20))], [(2, some [.int g_0.n, .ro false (.pairs g_0.bars)]), (4, some [.int (0 : Int), .nil]), (6, some [.int c22, .nil])]⟩ : PS)) (I_WithoutPoints_l2 N g_0 set_1 k) h (En.of ⟨rfl, rfl, rfl, rfl, rfl, rfl, rfl, trivial⟩ ⟨rfl, trivial⟩ ⟨rfl, rfl, rfl, trivial⟩) (fun _ => rfl) ?_
  rintro n ⟨l20, x21, c22⟩ h
  rw [I_WithoutPoints_l2] at h
  show VC _ _ _ (⟨[(1, .ro false (.ints set_1)), (2, .ptr 2 0), (4, .ptr 4 0), (5, .row 16 0 ((List.replicate (((max (0 : Int) (min g_0.n (8 : Int)))).toNat) (0 : Int)).length)), (6, .ptr 6 0), (19, .int ((List.replicate (((max (0 : Int) (min g_0.n (8 : Int)))).toNat) (0 : Int)).length : Int)), (20, .int x21)], [(16, some (3, .ints l20))], [(2, some [.int g_0.n, .ro false (.pairs g_0.bars)]), (4, some [.int (0 : Int), .nil]), (6, some [.int c22, .nil])]⟩ : PS)
  refine vSeq ?_
  refine vRegion ?_
  refine oVal tt rfl rfl rfl rfl rfl trivial ?_
  refine vNil ?_
  change VC _ _ _ _
  refine vSeq ?_
  refine vCond rfl (fun hb16 => ?_) (fun hb16 => ?_)
  ·replace h := cnd_t hb16 h
   refine vSkip ?_
   change VC _ _ _ _
   refine vSeq ?_
   refine vBlock ?_
   refine vSeq ?_
   refine vRegion ?_
   iterate 2 refine oVal tt rfl rfl rfl rfl rfl trivial ?_
   refine vNil ?_
   change VC _ _ _ _
   refine vSeq ?_
   refine vRegion ?_
   iterate 2 refine oVal tt rfl rfl rfl rfl rfl trivial ?_
   obtain ⟨hg17, h⟩ := grd_inv h
   refine oVal tt rfl rfl rfl rfl rfl hg17 ?_
   obtain ⟨hg18, h⟩ := grd_inv h
   refine oStore tt rfl rfl rfl rfl rfl rfl rfl rfl rfl rfl ⟨_, _, rfl, hg18.1, hg18.2⟩ ⟨hg18, trivial⟩ ?_
   refine vNil ?_
   change VC _ _ _ _
   refine vSeq ?_
   refine vRegion ?_
   iterate 2 refine oVal tt rfl rfl rfl rfl rfl trivial ?_
   obtain ⟨v24, hc19, h⟩ := bind_inv h
   refine oCall (G_Contains_int_w N set_1 x21 v24 hc19) rfl rfl rfl rfl rfl rfl rfl rfl ⟨rfl, rfl, trivial⟩ ?_
   refine oVal tt rfl rfl rfl rfl rfl trivial ?_
   refine vNil ?_
   change VC _ _ _ _
   refine vCond rfl (fun hb20 => ?_) (fun hb20 => ?_)
   ·replace h := cnd_t hb20 h
    refine vSeq ?_
    refine vRegion ?_
    iterate 4 refine oVal tt rfl rfl rfl rfl rfl trivial ?_
    refine oVal tt rfl rfl rfl rfl rfl hg17 ?_
    obtain ⟨hg21, h⟩ := grd_inv h
    refine oStore tt rfl rfl rfl rfl rfl rfl rfl rfl rfl rfl ⟨_, _, rfl, hg21.1, hg21.2⟩ ⟨hg21, trivial⟩ ?_
    refine vNil ?_
    change VC _ _ _ _
    refine vRegion ?_
    iterate 2 refine oVal tt rfl rfl rfl rfl rfl trivial ?_
    obtain ⟨hg22, h⟩ := grd_inv h
    refine oVal tt rfl rfl rfl rfl rfl hg22 ?_
    refine oVal tt rfl rfl rfl rfl rfl trivial ?_
    refine oStore tt rfl rfl rfl rfl rfl rfl rfl rfl rfl rfl rfl ⟨trivial, trivial⟩ ?_
    refine vNil ?_
    change VC _ _ _ _
    refine vRegion ?_
    obtain ⟨hg23, h⟩ := grd_inv h
    refine oVal tt rfl rfl rfl rfl rfl hg23 ?_
    refine oVal tt rfl rfl rfl rfl rfl trivial ?_
    refine vNil ?_
    change ∃ _, _
    exact ⟨(((l20.set ((x21).toNat) (-1 : Int)).set ((x21).toNat) c22), (x21 + (1 : Int)), (c22 + (1 : Int))), (En.of ⟨rfl, rfl, rfl, rfl, rfl, rfl, rfl, trivial⟩ ⟨rfl, trivial⟩ ⟨rfl, rfl, rfl, trivial⟩), h⟩
   ·replace h := cnd_f hb20 h
    refine vSkip ?_
    change VC _ _ _ _
    refine vRegion ?_
    obtain ⟨hg24, h⟩ := grd_inv h
    refine oVal tt rfl rfl rfl rfl rfl hg24 ?_
    refine oVal tt rfl rfl rfl rfl rfl trivial ?_
    refine vNil ?_
    change ∃ _, _
    exact ⟨((l20.set ((x21).toNat) (-1 : Int)), (x21 + (1 : Int)), c22), (En.of ⟨rfl, rfl, rfl, rfl, rfl, rfl, rfl, trivial⟩ ⟨rfl, trivial⟩ ⟨rfl, rfl, rfl, trivial⟩), h⟩
  ·replace h := cnd_f hb16 h
   refine vExit ?_
   change ∃ _, _
   exact ⟨(l20, c22), (En.of ⟨rfl, rfl, rfl, rfl, trivial⟩ ⟨rfl, trivial⟩ ⟨rfl, rfl, rfl, trivial⟩), h⟩
def M_Graph_reach_l2 (N : Nat) (g_0 : Grf) (k : ((List Bool) × Bool) → Option (List Bool)) : Nat → ((List Bool) × Bool × Int) → Option (List Bool)
 | 0, _ => none
 | n + 1, (l58, again59, x60) =>
  cnd (decide (x60 < (g_0.bars.length : Int))) (
   grd (0 ≤ x60 ∧ x60 < (g_0.bars.length : Int)) <|
   grd (0 ≤ ((g_0.bars.getD ((x60).toNat) (0, 0)).1) ∧ ((g_0.bars.getD ((x60).toNat) (0, 0)).1) < ((List.replicate ((g_0.n).toNat) (false : Bool)).length : Int)) <|
   grd (0 ≤ ((g_0.bars.getD ((x60).toNat) (0, 0)).1) ∧ ((g_0.bars.getD ((x60).toNat) (0, 0)).1) < (l58.length : Int)) <|
   grd (0 ≤ ((g_0.bars.getD ((x60).toNat) (0, 0)).2) ∧ ((g_0.bars.getD ((x60).toNat) (0, 0)).2) < ((List.replicate ((g_0.n).toNat) (false : Bool)).length : Int)) <|
   grd (0 ≤ ((g_0.bars.getD ((x60).toNat) (0, 0)).2) ∧ ((g_0.bars.getD ((x60).toNat) (0, 0)).2) < (l58.length : Int)) <|
   cnd ((l58.getD (((g_0.bars.getD ((x60).toNat) (0, 0)).1).toNat) false) != (l58.getD (((g_0.bars.getD ((x60).toNat) (0, 0)).2).toNat) false)) (
    grd (0 ≤ ((g_0.bars.getD ((x60).toNat) (0, 0)).2) ∧ ((g_0.bars.getD ((x60).toNat) (0, 0)).2) < ((l58.set (((g_0.bars.getD ((x60).toNat) (0, 0)).1).toNat) true).length : Int)) <|
    grd (Rg64 (x60 + (1 : Int))) <|
    M_Graph_reach_l2 N g_0 k n (((l58.set (((g_0.bars.getD ((x60).toNat) (0, 0)).1).toNat) true).set (((g_0.bars.getD ((x60).toNat) (0, 0)).2).toNat) true), true, (x60 + (1 : Int)))) (
    grd (Rg64 (x60 + (1 : Int))) <|
    M_Graph_reach_l2 N g_0 k n (l58, again59, (x60 + (1 : Int))))) (
   k (l58, again59))
def M_Graph_reach_l1 (N : Nat) (g_0 : Grf) (k : (List Bool) → Option (List Bool)) : Nat → ((List Bool) × Bool) → Option (List Bool)
 | 0, _ => none
 | n + 1, (l41, again42) =>
  cnd again42 (
   M_Graph_reach_l2 N g_0 (fun (x : (List Bool) × Bool) =>
     match x with
     | (l55, again56) =>
      M_Graph_reach_l1 N g_0 k n (l55, again56)) N (l41, false, (0 : Int))) (
   k l41)
def M_Graph_reach (N : Nat) (g_0 : Grf) (v_1 : Int) : Option (List Bool) :=
 grd (0 ≤ g_0.n ∧ g_0.n ≤ 4294967296) <|
 grd (0 ≤ v_1 ∧ v_1 < ((List.replicate ((g_0.n).toNat) (false : Bool)).length : Int)) <|
 M_Graph_reach_l1 N g_0 (fun (l30 : List Bool) =>
    grd ((List.replicate ((g_0.n).toNat) (false : Bool)).length = l30.length) <|
    some l30) N (((List.replicate ((g_0.n).toNat) (false : Bool)).set ((v_1).toNat) true), true)
set_option maxRecDepth 20000 in
set_option maxHeartbeats 1600000 in
theorem M_Graph_reach_w (N : Nat) (g_0 : Grf) (v_1 : Int) (r : List Bool) (h : M_Graph_reach N g_0 v_1 = some r) : PCall Try.prog 173 [gD g_0, .int v_1] [(4, .bools r)] (.row 0 0 r.length) := by
 unfold M_Graph_reach at h
 refine pcall_intro (TT := TT) tt Try.func173 rfl rfl Try.ntmps173 (congrArg Array.toList Try.results173) rfl rfl fun w0 => ?_
 refine vSeq ?_
 refine vRegion ?_
 refine oBox rfl rfl rfl rfl rfl rfl rfl rfl rfl ?_
 refine oVal tt rfl rfl rfl rfl rfl trivial ?_
 refine vNil ?_
 change VC _ _ _ _
 refine vSeq ?_
 refine vRegion ?_
 iterate 2 refine oVal tt rfl rfl rfl rfl rfl trivial ?_
 obtain ⟨hg1, h⟩ := grd_inv h
 refine oMake tt rfl rfl rfl rfl rfl rfl rfl rfl rfl rfl rfl hg1 ?_
 refine oVal tt rfl rfl rfl rfl rfl trivial ?_
 refine vNil ?_
 change VC _ _ _ _
 refine vSeq ?_
 refine vRegion ?_
 iterate 2 refine oVal tt rfl rfl rfl rfl rfl trivial ?_
 obtain ⟨hg2, h⟩ := grd_inv h
 refine oVal tt rfl rfl rfl rfl rfl hg2 ?_
 refine oStore tt rfl rfl rfl rfl rfl rfl rfl rfl rfl rfl ⟨_, _, rfl, hg2.1, hg2.2⟩ ⟨hg2, trivial⟩ ?_
 refine vNil ?_
 change VC _ _ _ _
 iterate 2 refine vSeq ?_
 refine vRegion ?_
 refine oVal tt rfl rfl rfl rfl rfl trivial ?_
 refine vNil ?_
 change VC _ _ _ _
 refine vJoin (F := fun k => M_Graph_reach_l1 N g_0 k) h (α := List Bool) (J := fun (l30 : List Bool) => (⟨[(5, .row 11 0 ((List.replicate ((g_0.n).toNat) (false : Bool)).length))], [(11, some (4, .bools l30))], []⟩ : PS)) ?_ ?_
 ·rintro l30 h
  show VC _ _ _ (⟨[(5, .row 11 0 ((List.replicate ((g_0.n).toNat) (false : Bool)).length))], [(11, some (4, .bools l30))], []⟩ : PS)
  refine vSeq ?_
  refine vRegion ?_
  iterate 2 refine oVal tt rfl rfl rfl rfl rfl trivial ?_
  refine vNil ?_
  change VC _ _ _ _
  obtain ⟨hg3, h⟩ := grd_inv h
  refine vRet ?_
  change ∃ _, _
  cases h
  exact ⟨[11], _, rfl, ⟨rfl, trivial⟩, rfl, (.eq (by simp only [hg3]; rfl)), rfl⟩
 ·intro k h
  refine vBlock ?_
  refine vLoopS (α := (List Bool) × Bool) (fun | (l41, again42) => (⟨[(2, .ptr 2 0), (5, .row 11 0 ((List.replicate ((g_0.n).toNat) (false : Bool)).length)), (6, .bool again42)], [(11, some (4, .bools l41))], [(2, some [.int g_0.n, .ro false (.pairs g_0.bars)])]⟩ : PS)) (M_Graph_reach_l1 N g_0 k) h (En.of ⟨rfl, rfl, rfl, trivial⟩ ⟨rfl, trivial⟩ ⟨rfl, trivial⟩) (fun _ => rfl) ?_
  rintro n ⟨l41, again42⟩ h
  rw [M_Graph_reach_l1] at h
  show VC _ _ _ (⟨[(2, .ptr 2 0), (5, .row 11 0 ((List.replicate ((g_0.n).toNat) (false : Bool)).length)), (6, .bool again42)], [(11, some (4, .bools l41))], [(2, some [.int g_0.n, .ro false (.pairs g_0.bars)])]⟩ : PS)
  iterate 2 refine vSeq ?_
  refine vRegion ?_
  refine oVal tt rfl rfl rfl rfl rfl trivial ?_
  refine vNil ?_
  change VC _ _ _ _
  refine vCond rfl (fun hb4 => ?_) (fun hb4 => ?_)
  ·replace h := cnd_t hb4 h
   refine vSkip ?_
   change VC _ _ _ _
   refine vBlock ?_
   refine vSeq ?_
   refine vRegion ?_
   refine oVal tt rfl rfl rfl rfl rfl trivial ?_
   refine vNil ?_
   change VC _ _ _ _
   refine vSeq ?_
   refine vRegion ?_
   iterate 4 refine oVal tt rfl rfl rfl rfl rfl trivial ?_
   refine vNil ?_
   change VC _ _ _ _
   refine vJoin (F := fun k => M_Graph_reach_l2 N g_0 k) h (α := (List Bool) × Bool) (J := fun | (l55, again56) => (⟨[(2, .ptr 2 0), (5, .row 11 0 ((List.replicate ((g_0.n).toNat) (false : Bool)).length)), (6, .bool again56)], [(11, some (4, .bools l55))], [(2, some [.int g_0.n, .ro false (.pairs g_0.bars)])]⟩ : PS)) ?_ ?_
   ·rintro ⟨l55, again56⟩ h
    change ∃ _, _
    exact ⟨(l55, again56), (En.of ⟨rfl, rfl, rfl, trivial⟩ ⟨rfl, trivial⟩ ⟨rfl, trivial⟩), h⟩
   ·intro k h
    refine vBlock ?_
    refine vLoopS (α := (List Bool) × Bool × Int) (fun | (l58, again59, x60) => (⟨[(2, .ptr 2 0), (5, .row 11 0 ((List.replicate ((g_0.n).toNat) (false : Bool)).length)), (6, .bool again59), (17, .ro false (.pairs g_0.bars)), (18, .int (g_0.bars.length : Int)), (19, .int x60)], [(11, some (4, .bools l58))], [(2, some [.int g_0.n, .ro false (.pairs g_0.bars)])]⟩ : PS)) (M_Graph_reach_l2 N g_0 k) h (En.of ⟨rfl, rfl, rfl, rfl, rfl, rfl, trivial⟩ ⟨rfl, trivial⟩ ⟨rfl, trivial⟩) (fun _ => rfl) ?_
    rintro n ⟨l58, again59, x60⟩ h
    rw [M_Graph_reach_l2] at h
    show VC _ _ _ (⟨[(2, .ptr 2 0), (5, .row 11 0 ((List.replicate ((g_0.n).toNat) (false : Bool)).length)), (6, .bool again59), (17, .ro false (.pairs g_0.bars)), (18, .int (g_0.bars.length : Int)), (19, .int x60)], [(11, some (4, .bools l58))], [(2, some [.int g_0.n, .ro false (.pairs g_0.bars)])]⟩ : PS)
    refine vSeq ?_
    refine vRegion ?_
    refine oVal tt rfl rfl rfl rfl rfl trivial ?_
    refine vNil ?_
    change VC _ _ _ _
    refine vSeq ?_
    refine vCond rfl (fun hb5 => ?_) (fun hb5 => ?_)
    ·replace h := cnd_t hb5 h
     refine vSkip ?_
     change VC _ _ _ _
     refine vSeq ?_
     refine vBlock ?_
     refine vSeq ?_
     refine vRegion ?_
     obtain ⟨hg6, h⟩ := grd_inv h
     refine oVal tt rfl rfl rfl rfl rfl hg6 ?_
     refine oVal tt rfl rfl rfl rfl rfl trivial ?_
     refine oAlloc tt rfl rfl rfl rfl rfl rfl rfl rfl rfl ?_
     refine oStore tt rfl rfl rfl rfl rfl rfl rfl rfl rfl rfl rfl ⟨trivial, trivial, trivial⟩ ?_
     refine vNil ?_
     change VC _ _ _ _
     refine vSeq ?_
     refine vRegionD (by kernel_rfl) (by kernel_rfl) ?_
     iterate 3 refine cVal tt rfl (wNone rfl) rfl rfl rfl trivial ?_
     obtain ⟨hg7, h⟩ := grd_inv h
     refine cVal tt rfl (wNone rfl) rfl rfl rfl hg7 ?_
     obtain ⟨hg8, h⟩ := grd_inv h
     refine cVal tt rfl (wNone rfl) rfl rfl rfl hg8 ?_
     iterate 3 refine cVal tt rfl (wNone rfl) rfl rfl rfl trivial ?_
     obtain ⟨hg9, h⟩ := grd_inv h
     refine cVal tt rfl (wNone rfl) rfl rfl rfl hg9 ?_
     obtain ⟨hg10, h⟩ := grd_inv h
     refine cVal tt rfl (wNone rfl) rfl rfl rfl hg10 ?_
     refine cPure (wNone rfl) (pNeB Try.underlying4 rfl rfl rfl) rfl rfl ?_
     refine cNil ?_
     change VC _ _ _ _
     refine vCond rfl (fun hb11 => ?_) (fun hb11 => ?_)
     ·replace h := cnd_t hb11 h
      refine vSeq ?_
      refine vRegion ?_
      iterate 3 refine oVal tt rfl rfl rfl rfl rfl trivial ?_
      refine oVal tt rfl rfl rfl rfl rfl hg7 ?_
      refine oStore tt rfl rfl rfl rfl rfl rfl rfl rfl rfl rfl ⟨_, _, rfl, hg8.1, hg8.2⟩ ⟨hg8, trivial⟩ ?_
      refine vNil ?_
      change VC _ _ _ _
      refine vSeq ?_
      refine vRegion ?_
      iterate 3 refine oVal tt rfl rfl rfl rfl rfl trivial ?_
      refine oVal tt rfl rfl rfl rfl rfl hg9 ?_
      obtain ⟨hg12, h⟩ := grd_inv h
      refine oStore tt rfl rfl rfl rfl rfl rfl rfl rfl rfl rfl ⟨_, _, rfl, hg12.1, hg12.2⟩ ⟨hg12, trivial⟩ ?_
      refine vNil ?_
      change VC _ _ _ _
      refine vRegion ?_
      refine oVal tt rfl rfl rfl rfl rfl trivial ?_
      refine vNil ?_
      change VC _ _ _ _
      refine vRegion ?_
      obtain ⟨hg13, h⟩ := grd_inv h
      refine oVal tt rfl rfl rfl rfl rfl hg13 ?_
      refine oVal tt rfl rfl rfl rfl rfl trivial ?_
      refine vNil ?_
      change ∃ _, _
      exact ⟨(((l58.set (((g_0.bars.getD ((x60).toNat) (0, 0)).1).toNat) true).set (((g_0.bars.getD ((x60).toNat) (0, 0)).2).toNat) true), true, (x60 + (1 : Int))), (En.of ⟨rfl, rfl, rfl, rfl, rfl, rfl, trivial⟩ ⟨rfl, trivial⟩ ⟨rfl, trivial⟩), h⟩
     ·replace h := cnd_f hb11 h
      refine vSkip ?_
      change VC _ _ _ _
      refine vRegion ?_
      obtain ⟨hg14, h⟩ := grd_inv h
      refine oVal tt rfl rfl rfl rfl rfl hg14 ?_
      refine oVal tt rfl rfl rfl rfl rfl trivial ?_
      refine vNil ?_
      change ∃ _, _
      exact ⟨(l58, again59, (x60 + (1 : Int))), (En.of ⟨rfl, rfl, rfl, rfl, rfl, rfl, trivial⟩ ⟨rfl, trivial⟩ ⟨rfl, trivial⟩), h⟩
    ·replace h := cnd_f hb5 h
     refine vExit ?_
     change ∃ _, _
     exact ⟨(l58, again59), (En.of ⟨rfl, rfl, rfl, trivial⟩ ⟨rfl, trivial⟩ ⟨rfl, trivial⟩), h⟩
  ·replace h := cnd_f hb4 h
   refine vExit ?_
   change ∃ _, _
   exact ⟨l41, (En.of ⟨rfl, trivial⟩ ⟨rfl, trivial⟩ trivial), h⟩
def I_ReachOf_l1 (N : Nat) (v3 : List Bool) (k : (List Int) → Option (List Int)) : Nat → ((List Int) × Int) → Option (List Int)
 | 0, _ => none
 | n + 1, (l8, x9) =>
  cnd (decide (x9 < (v3.length : Int))) (
   grd (0 ≤ x9 ∧ x9 < (v3.length : Int)) <|
   cnd (v3.getD ((x9).toNat) false) (
    grd (l8.length + 1 ≤ 4294967296) <|
    grd (Rg64 (x9 + (1 : Int))) <|
    I_ReachOf_l1 N v3 k n ((l8 ++ ([x9] : List Int)), (x9 + (1 : Int)))) (
    grd (Rg64 (x9 + (1 : Int))) <|
    I_ReachOf_l1 N v3 k n (l8, (x9 + (1 : Int))))) (
   k l8)
def I_ReachOf (N : Nat) (g_0 : Grf) (v_1 : Int) : Option (List Int) :=
 (I_IsGraph N g_0).bind fun v1 =>
 cnd (!v1) (
  some ([] : List Int)) (
  (M_Graph_has N g_0 v_1).bind fun v2 =>
  cnd (!v2) (
   some ([] : List Int)) (
   (M_Graph_reach N g_0 v_1).bind fun v3 =>
   I_ReachOf_l1 N v3 (fun (l6 : List Int) =>
      some l6) N (([] : List Int), (0 : Int))))
set_option maxRecDepth 20000 in
set_option maxHeartbeats 1600000 in
theorem I_ReachOf_w (N : Nat) (g_0 : Grf) (v_1 : Int) (r : List Int) (h : I_ReachOf N g_0 v_1 = some r) : PCall Try.prog 167 [gD g_0, .int v_1] [(3, .ints r)] (.row 0 0 r.length) := by
 unfold I_ReachOf at h
 refine pcall_intro (TT := TT) tt Try.func167 rfl rfl Try.ntmps167 (congrArg Array.toList Try.results167) rfl rfl fun w0 => ?_
 refine vSeq ?_
 refine vRegion ?_
 refine oBox rfl rfl rfl rfl rfl rfl rfl rfl rfl ?_
 refine oVal tt rfl rfl rfl rfl rfl trivial ?_
 refine vNil ?_
 change VC _ _ _ _
 refine vSeq ?_
 refine vRegion ?_
 refine oEmpty tt (wNone rfl) rfl rfl rfl rfl ?_
 refine oVal tt rfl rfl rfl rfl rfl trivial ?_
 refine vNil ?_
 change VC _ _ _ _
 iterate 2 refine vSeq ?_
 refine vRegion ?_
 refine oVal tt rfl rfl rfl rfl rfl trivial ?_
 obtain ⟨v1, hc1, h⟩ := bind_inv h
 refine oCall (I_IsGraph_w N g_0 v1 hc1) rfl rfl rfl rfl rfl rfl rfl rfl ⟨⟨rfl, rfl, trivial⟩, trivial⟩ ?_
 iterate 2 refine oVal tt rfl rfl rfl rfl rfl trivial ?_
 refine oSplit rfl rfl rfl (fun hb2 => ?_) (fun hb2 => ?_)
 ·replace h := cnd_t hb2 h
  iterate 4 refine oNoF rfl rfl rfl rfl hb2 rfl rfl ?_
  refine oPick rfl rfl rfl rfl rfl hb2 rfl ?_
  refine vNil ?_
  change VC _ _ _ _
  refine vCondT rfl rfl ?_
  refine vSeq ?_
  refine vRegion ?_
  iterate 2 refine oVal tt rfl rfl rfl rfl rfl trivial ?_
  refine vNil ?_
  change VC _ _ _ _
  refine vNilT 4 9001 3 (.ints []) rfl rfl rfl rfl ?_
  refine vRet ?_
  change ∃ _, _
  cases h
  exact ⟨[9001], _, rfl, ⟨rfl, trivial⟩, rfl, (.eq rfl), rfl⟩
 ·replace h := cnd_f hb2 h
  iterate 2 refine oValG tt rfl rfl rfl rfl rfl hb2 rfl rfl rfl trivial ?_
  obtain ⟨v2, hc3, h⟩ := bind_inv h
  refine oCallG (M_Graph_has_w N g_0 v_1 v2 hc3) rfl rfl rfl rfl hb2 rfl rfl rfl rfl rfl rfl rfl ⟨⟨rfl, rfl, trivial⟩, rfl, trivial⟩ ?_
  refine oValG tt rfl rfl rfl rfl rfl hb2 rfl rfl rfl trivial ?_
  refine oPickF rfl rfl rfl rfl rfl hb2 rfl ?_
  refine vNil ?_
  change VC _ _ _ _
  refine vCond rfl (fun hb4 => ?_) (fun hb4 => ?_)
  ·replace h := cnd_t hb4 h
   refine vSeq ?_
   refine vRegion ?_
   iterate 2 refine oVal tt rfl rfl rfl rfl rfl trivial ?_
   refine vNil ?_
   change VC _ _ _ _
   refine vNilT 4 9001 3 (.ints []) rfl rfl rfl rfl ?_
   refine vRet ?_
   change ∃ _, _
   cases h
   exact ⟨[9001], _, rfl, ⟨rfl, trivial⟩, rfl, (.eq rfl), rfl⟩
  ·replace h := cnd_f hb4 h
   refine vSkip ?_
   change VC _ _ _ _
   iterate 2 refine vSeq ?_
   refine vRegion ?_
   iterate 2 refine oVal tt rfl rfl rfl rfl rfl trivial ?_
   obtain ⟨v3, hc5, h⟩ := bind_inv h
   refine oCall (M_Graph_reach_w N g_0 v_1 v3 hc5) rfl rfl rfl rfl rfl rfl rfl rfl ⟨⟨rfl, rfl, trivial⟩, rfl, trivial⟩ ?_
   iterate 2 refine oVal tt rfl rfl rfl rfl rfl trivial ?_
   refine vNil ?_
   change VC _ _ _ _
   refine vJoin (F := fun k => I_ReachOf_l1 N v3 k) h (α := List Int) (J := fun (l6 : List Int) => (⟨[(5, .row 32 0 l6.length)], [(32, some (3, .ints l6))], []⟩ : PS)) ?_ ?_
   ·rintro l6 h
    show VC _ _ _ (⟨[(5, .row 32 0 l6.length)], [(32, some (3, .ints l6))], []⟩ : PS)
    refine vSeq ?_
    refine vRegion ?_
    iterate 2 refine oVal tt rfl rfl rfl rfl rfl trivial ?_
    refine vNil ?_
    change VC _ _ _ _
    refine vRet ?_
    change ∃ _, _
    cases h
    exact ⟨[32], _, rfl, ⟨rfl, trivial⟩, rfl, (.eq rfl), rfl⟩
   ·intro k h
    refine vBlock ?_
    refine vNilT 5 32 3 (.ints []) rfl rfl rfl rfl ?_
    refine vLoopS (α := (List Int) × Int) (fun | (l8, x9) => (⟨[(5, .row 32 0 l8.length), (21, .row 1210 0 v3.length), (22, .int (v3.length : Int)), (23, .int x9)], [(32, some (3, .ints l8)), (1210, some (4, .bools v3))], []⟩ : PS)) (I_ReachOf_l1 N v3 k) h (En.of ⟨rfl, rfl, rfl, rfl, trivial⟩ ⟨rfl, rfl, trivial⟩ trivial) (fun _ => rfl) ?_
    rintro n ⟨l8, x9⟩ h
    rw [I_ReachOf_l1] at h
    show VC _ _ _ (⟨[(5, .row 32 0 l8.length), (21, .row 1210 0 v3.length), (22, .int (v3.length : Int)), (23, .int x9)], [(32, some (3, .ints l8)), (1210, some (4, .bools v3))], []⟩ : PS)
    refine vSeq ?_
    refine vRegion ?_
    refine oVal tt rfl rfl rfl rfl rfl trivial ?_
    refine vNil ?_
    change VC _ _ _ _
    refine vSeq ?_
    refine vCond rfl (fun hb6 => ?_) (fun hb6 => ?_)
    ·replace h := cnd_t hb6 h
     refine vSkip ?_
     change VC _ _ _ _
     refine vSeq ?_
     refine vBlock ?_
     refine vSeq ?_
     refine vRegion ?_
     refine oVal tt rfl rfl rfl rfl rfl trivial ?_
     obtain ⟨hg7, h⟩ := grd_inv h
     iterate 2 refine oVal tt rfl rfl rfl rfl rfl hg7 ?_
     iterate 2 refine oVal tt rfl rfl rfl rfl rfl trivial ?_
     refine vNil ?_
     change VC _ _ _ _
     refine vSeq ?_
     refine vRegion ?_
     refine oVal tt rfl rfl rfl rfl rfl trivial ?_
     refine vNil ?_
     change VC _ _ _ _
     refine vCond rfl (fun hb8 => ?_) (fun hb8 => ?_)
     ·replace h := cnd_t hb8 h
      refine vRegion ?_
      iterate 2 refine oVal tt rfl rfl rfl rfl rfl trivial ?_
      refine oBuild tt rfl rfl rfl rfl rfl rfl rfl rfl rfl rfl rfl ?_
      obtain ⟨hg9, h⟩ := grd_inv h
      refine oAppend tt rfl rfl rfl rfl rfl rfl rfl rfl rfl rfl rfl rfl rfl rfl rfl rfl (Nat.le_of_eq (Nat.zero_add _)) hg9 ?_
      refine oVal tt rfl rfl rfl rfl rfl trivial ?_
      refine vNil ?_
      change VC _ _ _ _
      refine vRegion ?_
      obtain ⟨hg10, h⟩ := grd_inv h
      refine oVal tt rfl rfl rfl rfl rfl hg10 ?_
      refine oVal tt rfl rfl rfl rfl rfl trivial ?_
      refine vNil ?_
      change ∃ _, _
      exact ⟨((l8 ++ ([x9] : List Int)), (x9 + (1 : Int))), (En.of ⟨rfl, rfl, rfl, rfl, trivial⟩ ⟨rfl, rfl, trivial⟩ trivial), h⟩
     ·replace h := cnd_f hb8 h
      refine vSkip ?_
      change VC _ _ _ _
      refine vRegion ?_
      obtain ⟨hg11, h⟩ := grd_inv h
      refine oVal tt rfl rfl rfl rfl rfl hg11 ?_
      refine oVal tt rfl rfl rfl rfl rfl trivial ?_
      refine vNil ?_
      change ∃ _, _
      exact ⟨(l8, (x9 + (1 : Int))), (En.of ⟨rfl, rfl, rfl, rfl, trivial⟩ ⟨rfl, rfl, trivial⟩ trivial), h⟩
    ·replace h := cnd_f hb6 h
     refine vExit ?_
     change ∃ _, _
     exact ⟨l8, (En.of ⟨rfl, trivial⟩ ⟨rfl, trivial⟩ trivial), h⟩
end Go.Proofs.Ytkklfgcelmeccaa
namespace Go.Proofs.Ytkklfgcelmeccaa
variable {n : Nat} {N : Nat}
theorem tailR_s (hN : 4000000 ≤ N) {p : Pbl} (hl : p.tails.length ≤ 3000000) (v : Int) : S_l4Tail N p v = some (p.tails.count v : Int) := by
 unfold S_l4Tail
 refine Eq.trans ?_ (fold (N := N) (len := p.tails.length) (σ := Int) (st := fun i => ((p.tails.take i).count v : Int)) (F := fun m s => S_l4Tail_l1 N p v (fun n3 => some n3) m (s.1, s.2)) (fin := some (p.tails.count v : Int)) (by omega) (fun m i hi => ?_) fun m => ?_)
 ·simp
 ·show S_l4Tail_l1 N p v _ (m + 1) (((p.tails.take i).count v : Int), (i : Int)) = S_l4Tail_l1 N p v _ m (((p.tails.take (i + 1)).count v : Int), ((i + 1 : Nat) : Int))
  have e : p.tails.take (i + 1) = p.tails.take i ++ [p.tails.getD i 0] := by
   rw [List.take_add_one, List.getElem?_eq_getElem hi, List.getD_eq_getElem?_getD, List.getElem?_eq_getElem hi]; rfl
  have hc := List.count_le_length (a := v) (l := p.tails.take i)
  have ht : (p.tails.take i).length ≤ i := by rw [List.length_take]; omega
  rw [S_l4Tail_l1, cnd_dt (by omega), grd_pos (by omega), show ((i : Int)).toNat = i from by omega, e, List.count_append]
  by_cases hv : p.tails.getD i 0 = v
  ·have hb : (p.tails.getD i 0 == v) = true := by rw [beq_iff_eq]; exact hv
   rw [hb, cnd_true, grd_R (by omega) (by omega), grd_R (by omega) (by omega), succ_cast, hv]
   simp
  ·have hb : (p.tails.getD i 0 == v) = false := by rw [beq_eq_false_iff_ne]; exact hv
   have hc2 : [p.tails.getD i 0].count v = 0 := by rw [List.count_eq_zero]; simpa using fun h => hv h.symm
   rw [hb, cnd_false, grd_R (by omega) (by omega), succ_cast, hc2]; rfl
 ·show S_l4Tail_l1 N p v _ (m + 1) (((p.tails.take p.tails.length).count v : Int), (p.tails.length : Int)) = _
  rw [S_l4Tail_l1, cnd_df (by omega), List.take_length]
structure Asc (p : Pbl) (i : Nat) : Prop where
 lt : ∀ j, 0 < j → j < p.placed.length → p.placed.getD (j - 1) 0 < p.placed.getD j 0
 last : ∀ j, j < p.placed.length → p.placed.getD j 0 < (i : Int)
theorem isPeb_s (hN : 4000000 ≤ N) {g : Grf} (hg : isGraph g = true) (hn : g.n = n) {p : Pbl} (hp : PG n g.bars p) {i : Nat} (ha : Asc p i) : S_IsPebbles N g 2 p = some true := by
 have hgp := isGraph_parts hg
 have fl := hp.inv.fl
 have tl := hp.inv.tl
 simp only [List.length_map] at tl
 have t2 := hp.inv.tlen
 have l1 : ∀ (fuel v : Nat), v ≤ n → n < fuel + v → S_IsPebbles_l1 N g 2 p (fun (_ : Unit) => some true) fuel (v : Int) = some true := by
  intro fuel
  induction fuel with
  | zero => intro v h1 h2; omega
  | succ fuel ih =>
   intro v h1 h2
   rw [S_IsPebbles_l1]
   by_cases hv : v < n
   ·have h3 := hp.inv.nn v hv
    have h4 := hp.inv.sm v hv
    rw [cnd_dt (by omega), grd_pos (by omega), show ((v : Int)).toNat = v from by omega, cnd_df (by omega), tailR_s hN (by omega), Option.bind_some, grd_R (by omega) (by omega)]
    have hb : ((p.free.getD v 0 + (p.tails.count (v : Int) : Int)) != (2 : Int)) = false := by rw [h4]; rfl
    rw [hb, cnd_false, grd_R (by omega) (by omega), succ_cast]
    exact ih (v + 1) (by omega) (by omega)
   ·rw [cnd_df (by omega)]
 have l2 : ∀ (fuel j : Nat) (kk : Unit → Option Bool), j ≤ p.placed.length → p.placed.length < fuel + j → S_IsPebbles_l2 N g p kk fuel (j : Int) = kk () := by
  intro fuel
  induction fuel with
  | zero => intro j kk h1 h2; omega
  | succ fuel ih =>
   intro j kk h1 h2
   rw [S_IsPebbles_l2]
   by_cases hj : j < p.placed.length
   ·have h3 := hp.pl (p.placed.getD j 0) (getD_mem hj)
    have h4 := hp.inv.en j (by rw [List.length_map]; exact hj)
    rw [eAt hj] at h4
    have hend : ∀ X : Option Bool, cnd (p.tails.getD j 0 != (g.bars.getD (p.placed.getD j 0).toNat (0, 0)).1) (cnd (p.tails.getD j 0 != (g.bars.getD (p.placed.getD j 0).toNat (0, 0)).2) (some false) X) X = X := by
     intro X
     rcases h4 with h4 | h4
     ·have hb : (p.tails.getD j 0 != (g.bars.getD (p.placed.getD j 0).toNat (0, 0)).1) = false := by rw [h4]; simp
      rw [hb, cnd_false]
     ·have hb : (p.tails.getD j 0 != (g.bars.getD (p.placed.getD j 0).toNat (0, 0)).2) = false := by rw [h4]; simp
      rw [hb, cnd_false]
      cases (p.tails.getD j 0 != (g.bars.getD (p.placed.getD j 0).toNat (0, 0)).1) <;> rfl
    rw [cnd_dt (by omega), grd_pos (p := 0 ≤ (j : Int) ∧ (j : Int) < (p.placed.length : Int)) (by omega), show ((j : Int)).toNat = j from by omega, cnd_df (by omega), cnd_df (by omega), grd_pos (p := 0 ≤ (j : Int) ∧ (j : Int) < (p.tails.length : Int)) (by omega), grd_pos (p := 0 ≤ p.placed.getD j 0 ∧ p.placed.getD j 0 < (g.bars.length : Int)) (by omega), grd_R (by omega) (by omega), hend, succ_cast]
    by_cases h0 : 0 < j
    ·have h5 := ha.lt j h0 hj
     rw [cnd_dt (by omega), grd_R (by omega) (by omega), grd_pos (by omega), show ((j : Int) - 1).toNat = j - 1 from by omega, cnd_df (by omega)]
     exact ih (j + 1) kk (by omega) (by omega)
    ·rw [cnd_df (by omega), grd_R (by omega) (by omega)]
     exact ih (j + 1) kk (by omega) (by omega)
   ·rw [cnd_df (by omega)]
 unfold S_IsPebbles
 have hb1 : ((p.free.length : Int) != g.n) = false := by rw [fl, hn]; simp
 have hb2 : ((p.tails.length : Int) != (p.placed.length : Int)) = false := by rw [tl]; simp
 rw [isGraphS_s N hN, Option.bind_some, hg, Bool.not_true, cnd_false, l1In_s N, Option.bind_some, show inB (2 : Int) 1 3 = true from by decide, Bool.not_true, cnd_false, hb1, cnd_false, hb2, cnd_false]
 exact (l2 N 0 _ (by omega) (by omega)).trans (l1 N 0 (by omega) (by omega))
theorem rangeS_s : S_IsRange N 2 3 = some true := by
 unfold S_IsRange
 rw [l1In_s N, Option.bind_some, show inB (2 : Int) 1 3 = true from by decide, cnd_true, cnd_dt (by omega), grd_R (by omega) (by omega)]
 rfl
theorem rangeI_s : I_IsRange N 2 3 = some true := by
 unfold I_IsRange
 rw [within_s N, Option.bind_some, show inB (2 : Int) 1 3 = true from by decide, cnd_true, grd_R (by omega) (by omega), grd_R (by omega) (by omega), within_s N]
 rfl
theorem newPeb_s (hN : 4000000 ≤ N) {g : Grf} (hg : isGraph g = true) (hn : g.n = n) : S_NewPebbles N g 2 = some (⟨List.replicate n 2, [], []⟩, true) := by
 have hgp := isGraph_parts hg
 unfold S_NewPebbles
 rw [isGraphS_s N hN, Option.bind_some, hg, Bool.not_true, cnd_false, l1In_s N, Option.bind_some, show inB (2 : Int) 1 3 = true from by decide, Bool.not_true, cnd_false]
 refine (fold (len := n) (st := fun i => List.replicate i (2 : Int)) (by omega) ?_ ?_)
 ·intro m i hi
  rw [S_NewPebbles_l1]
  simp (disch := omega) only [Int.toNat_natCast, tk0, List.length_cons, List.length_nil, grd_pos, grd_T, grd_R, cnd_dt, cnd_df, cnd_true, cnd_false, Option.bind_some, List.length_replicate, succ_cast]
  rw [List.replicate_succ']
 ·intro m
  rw [S_NewPebbles_l1, cnd_df (by omega)]
theorem place_s (hN : 4000000 ≤ N) {g : Grf} (hg : isGraph g = true) (hn : g.n = n) (hb : ∀ e ∈ g.bars, Bok n e) {p : Pbl} {i : Nat} (hi : i < g.bars.length) (h : Gm n g.bars p i) (ha : Asc p i) :
  ∃ (p' : Pbl) (b : Bool), S_PlaceBar N g 2 3 p (i : Int) = some (p', b) ∧ Gm n g.bars p' (i + 1) ∧ Asc p' (i + 1) := by
 have hgp := isGraph_parts hg
 have hbi := hb _ (getD_mem (d := (0, 0)) hi)
 have r1 := hbi.1
 have r2 := hbi.2.1
 have r3 := hbi.2.2.1
 have r4 := hbi.2.2.2.1
 have fl0 := h.pg.inv.fl
 have tl0 := h.pg.inv.tl
 simp only [List.length_map] at tl0
 have t20 := h.pg.inv.tlen
 have hcopy : S_l4Copy N p = some p := by
  unfold S_l4Copy
  rw [grd_pos (by omega), grd_pos (by omega), grd_pos (by omega)]; rfl
 have hlast : ∀ X Y : Option (Pbl × Bool), cnd (decide ((p.placed.length : Int) > 0)) (grd (Rg64 ((p.placed.length : Int) - 1)) (grd (0 ≤ ((p.placed.length : Int) - 1) ∧ ((p.placed.length : Int) - 1) < (p.placed.length : Int)) (cnd (decide (p.placed.getD ((p.placed.length : Int) - 1).toNat 0 ≥ (i : Int))) Y X))) X = X := by
  intro X Y
  by_cases h0 : (p.placed.length : Int) > 0
  ·have h5 := ha.last (p.placed.length - 1) (by omega)
   rw [cnd_dt h0, grd_R (by omega) (by omega), grd_pos (by omega), show ((p.placed.length : Int) - 1).toNat = p.placed.length - 1 from by omega, cnd_df (by omega)]
  ·rw [cnd_df h0]
 unfold S_PlaceBar
 rw [isPeb_s hN hg hn h.pg ha, Option.bind_some, Bool.not_true, cnd_false, rangeS_s, Option.bind_some, Bool.not_true, cnd_false, cnd_df (by omega), cnd_df (by omega), hlast]
 rw [grd_pos (by omega), grd_R (by omega) (by omega), show ((i : Int)).toNat = i from by omega]
 obtain ⟨p', g1, g2, ⟨g3, g4⟩ | ⟨g3, g4⟩⟩ := gather_s hN (by omega) hn (a := (g.bars.getD i (0, 0)).1) (b := (g.bars.getD i (0, 0)).2) hbi h.pg
 ·have le1 := g2.inv.le2 (v := (g.bars.getD i (0, 0)).2.toNat) (by omega)
  have le2 := g2.inv.le2 (v := (g.bars.getD i (0, 0)).1.toNat) (by omega)
  have hput := h.put hi hbi g1 g2 (.inl rfl) (by omega) g4
  have fl := g2.inv.fl
  have tl := g2.inv.tl
  simp only [List.length_map] at tl
  have t2 := g2.inv.tlen
  refine ⟨_, true, ?_, hput, ?_⟩
  ·show (S_l4Gather N g p (g.bars.getD i (0, 0)).1 (g.bars.getD i (0, 0)).2 4).bind _ = _
   rw [g3, Option.bind_some]
   dsimp only [jn]
   have hb0 : ((p'.free.getD (g.bars.getD i (0, 0)).1.toNat 0) == (0 : Int)) = false := by rw [beq_eq_false_iff_ne]; omega
   rw [Bool.not_true, cnd_false, grd_pos (by omega), hb0, cnd_false]
   rw [grd_pos (by omega), grd_R (by omega) (by omega), grd_pos (by omega), grd_pos (by rw [g1]; omega), grd_pos (by rw [List.length_set])]
  ·constructor
   ·intro j h0 hj
    show (p'.placed ++ [(i : Int)]).getD (j - 1) 0 < (p'.placed ++ [(i : Int)]).getD j 0
    have hj : j < (p'.placed ++ [(i : Int)]).length := hj
    rw [g1] at hj ⊢
    rw [List.length_append] at hj
    simp only [List.length_cons, List.length_nil] at hj
    rw [getD_app, getD_app, if_pos (by omega)]
    by_cases hjl : j < p.placed.length
    ·rw [if_pos hjl]; exact ha.lt j h0 hjl
    ·rw [if_neg hjl, if_pos (by omega)]; exact ha.last (j - 1) (by omega)
   ·intro j hj
    show (p'.placed ++ [(i : Int)]).getD j 0 < _
    have hj : j < (p'.placed ++ [(i : Int)]).length := hj
    rw [g1] at hj ⊢
    rw [List.length_append] at hj
    simp only [List.length_cons, List.length_nil] at hj
    rw [getD_app]
    by_cases hjl : j < p.placed.length
    ·rw [if_pos hjl]; have := ha.last j hjl; omega
    ·rw [if_neg hjl, if_pos (by omega)]; omega
 ·refine ⟨p, false, ?_, h.skip g4, ⟨ha.lt, fun j hj => by have := ha.last j hj; omega⟩⟩
  show (S_l4Gather N g p (g.bars.getD i (0, 0)).1 (g.bars.getD i (0, 0)).2 4).bind _ = _
  rw [g3, Option.bind_some]
  show cnd (!false) _ _ = _
  rw [Bool.not_false, cnd_true, hcopy]; rfl
theorem runS_s (hN : 4000000 ≤ N) {g : Grf} (hg : isGraph g = true) (hn : g.n = n) (hb : ∀ e ∈ g.bars, Bok n e) : ∃ p : Pbl, Gm n g.bars p g.bars.length ∧ S_RunPebbles N g 2 3 = some (p, true) := by
 have hgp := isGraph_parts hg
 unfold S_RunPebbles
 rw [newPeb_s hN hg hn, Option.bind_some]
 show ∃ p, _ ∧ cnd (!true) _ _ = _
 rw [Bool.not_true, cnd_false, rangeS_s, Option.bind_some, Bool.not_true, cnd_false]
 have key : ∀ (fuel i : Nat) (p : Pbl), i ≤ g.bars.length → g.bars.length < fuel + i → Gm n g.bars p i → Asc p i → ∃ p' : Pbl, Gm n g.bars p' g.bars.length ∧
   S_RunPebbles_l1 N g 2 3 (fun (x : (List Int) × (List Int) × (List Int)) => match x with | (l17, l18, l19) => some ((⟨l17, l18, l19⟩ : Pbl), true)) fuel (p.free, p.tails, p.placed, (i : Int)) = some (p', true) := by
  intro fuel
  induction fuel with
  | zero => intro i p h1 h2; omega
  | succ fuel ih =>
   intro i p h1 h2 h3 h4
   rw [S_RunPebbles_l1]
   by_cases hi : i < g.bars.length
   ·obtain ⟨p', b, k1, k2, k3⟩ := place_s hN hg hn hb hi h3 h4
    obtain ⟨q, q1, q2⟩ := ih (i + 1) p' (by omega) (by omega) k2 k3
    refine ⟨q, q1, ?_⟩
    rw [cnd_dt (by omega)]
    show (S_PlaceBar N g 2 3 p (i : Int)).bind _ = _
    rw [k1, Option.bind_some]
    show grd (Rg64 ((i : Int) + 1)) _ = _
    rw [grd_R (by omega) (by omega), succ_cast]
    exact q2
   ·have e : i = g.bars.length := by omega
    subst e
    rw [cnd_df (by omega)]
    exact ⟨p, h3, rfl⟩
 exact key N 0 ⟨List.replicate n 2, [], []⟩ (by omega) (by omega) (Gm.start g.bars) ⟨fun j h1 h2 => by simp at h2, fun j h2 => by simp at h2⟩
theorem runI_s (hN : 4000000 ≤ N) {g : Grf} (hg : isGraph g = true) (hn : g.n = n) (hb : ∀ e ∈ g.bars, Bok n e) : ∃ p : Pbl, Gm n g.bars p g.bars.length ∧ I_RunPebbles N g 2 3 = some (p, true) := by
 have hgp := isGraph_parts hg
 obtain ⟨p', g1, g2⟩ := play1_s hN (by omega) hb (by omega) (kk := fun x => match x with | (l24, l25, l26) => some (⟨l24, l25, l26⟩ : Pbl)) N 0 ⟨List.replicate n 2, [], []⟩ (by omega) (by omega) (Gm.start g.bars)
 refine ⟨p', g1, ?_⟩
 have e : I_play N n g.bars 2 3 = some p' := by
  unfold I_play
  refine (fold (len := n) (st := fun i => List.replicate i (2 : Int)) (by omega) ?_ ?_)
  ·intro m i hi
   rw [I_play_l2]
   simp (disch := omega) only [Int.toNat_natCast, tk0, List.length_cons, List.length_nil, grd_pos, grd_T, grd_R, cnd_dt, cnd_df, cnd_true, cnd_false, Option.bind_some, List.length_replicate, succ_cast]
   rw [List.replicate_succ']
  ·intro m
   rw [I_play_l2]
   rw [cnd_df (by omega)]
   exact g2
 unfold I_RunPebbles
 rw [isGraphI_s N hN, Option.bind_some, hg, Bool.not_true, cnd_false, rangeI_s, Option.bind_some, Bool.not_true, cnd_false, hn, e]
 rfl
theorem rank_x (hN : 4000000 ≤ N) {g : Grf} : ∃ r : Int, -1 ≤ r ∧ r ≤ 24 ∧ S_RankOf N g 2 3 = some r ∧ I_RankOf N g 2 3 = some r := by
 unfold S_RankOf I_RankOf
 cases hg : isGraph g with
 | false =>
  refine ⟨-1, by omega, by omega, ?_, ?_⟩
  ·have : S_RunPebbles N g 2 3 = some (⟨[], [], []⟩, false) := by
    unfold S_RunPebbles S_NewPebbles
    rw [isGraphS_s N hN, Option.bind_some, hg]; rfl
   rw [this]; rfl
  ·have : I_RunPebbles N g 2 3 = some (⟨[], [], []⟩, false) := by
    unfold I_RunPebbles
    rw [isGraphI_s N hN, Option.bind_some, hg]; rfl
   rw [this]; rfl
 | true =>
  have hgp := isGraph_parts hg
  have hn : g.n = (g.n.toNat : Int) := by omega
  have hb : ∀ e ∈ g.bars, Bok g.n.toNat e := fun e he => by
   have := isGraph_bar hg he
   exact ⟨by omega, by omega, by omega, by omega, by omega⟩
  obtain ⟨p, k1, k2⟩ := runS_s hN hg hn hb
  obtain ⟨q, q1, q2⟩ := runI_s hN hg hn hb
  have b1 := k1.bas
  have b2 := q1.bas
  have hlen : p.placed.length = q.placed.length := by
   have a1 := Bas.len hb b1 b2 (fun e he => b2.1 e he)
   have a2 := Bas.len hb b2 b1 (fun e he => b1.1 e he)
   simp only [List.length_map] at a1 a2
   omega
  have t2 := k1.pg.inv.tlen
  have tl := k1.pg.inv.tl
  simp only [List.length_map] at tl
  refine ⟨(p.placed.length : Int), by omega, by omega, ?_, ?_⟩
  ·rw [k2]; rfl
  ·rw [q2, hlen]; rfl
end Go.Proofs.Ytkklfgcelmeccaa
namespace Go.Proofs.Ytkklfgcelmeccaa
variable (N : Nat)
theorem all_not_dbl (l : List (Int × Int)) : ((List.range l.length).all fun i => !doubleAt l i) = !hasDbl l := by
 simp only [hasDbl, List.not_any_eq_all_not]
theorem pair_eq (a b : Int × Int) : ((a.1 == b.1) && (a.2 == b.2)) = (a == b) := by
 obtain ⟨x, y⟩ := a; obtain ⟨u, v⟩ := b; rfl
theorem hasDoubles_s (hN : 4000000 ≤ N) {g : Grf} (hb : g.bars.length ≤ 3000000) : I_hasDoubles N g = some (hasDbl g.bars) := by
 unfold I_hasDoubles
 refine (srch1 (len := g.bars.length) (ok := fun i => !doubleAt g.bars i) (bad := some true) (fin := some false) (by omega) rfl ?_ ?_).trans ?_
 ·intro n i h0 hi
  rw [I_hasDoubles_l1]
  simp (disch := omega) only [Int.toNat_natCast, tk0, List.length_cons, List.length_nil, grd_pos, grd_T, grd_R, cnd_dt, cnd_df, cnd_true, cnd_false, Option.bind_some, succ_cast, pair_eq, show ((i : Int) - 1).toNat = i - 1 from by omega]
  refine cnd_congr' ?_ _ _
  simp [doubleAt, h0]
 ·intro n i hi
  rw [I_hasDoubles_l1]
  simp (disch := omega) only [Int.toNat_natCast, tk0, List.length_cons, List.length_nil, grd_pos, grd_T, grd_R, cnd_dt, cnd_df, cnd_true, cnd_false, Option.bind_some]
 ·rw [all_not_dbl, cnd_some]; cases hasDbl g.bars <;> rfl
theorem l17Simple_s (hN : 4000000 ≤ N) {g : Grf} (hb : g.bars.length ≤ 3000000) : S_l17Simple N g = some (isSimple g) := by
 unfold S_l17Simple isSimple
 refine (srch1 (len := g.bars.length) (ok := fun i => !doubleAt g.bars i) (bad := some false) (fin := some (isGraph g)) (by omega) rfl ?_ ?_).trans ?_
 ·intro n i h0 hi
  rw [S_l17Simple_l1]
  simp (disch := omega) only [Int.toNat_natCast, tk0, List.length_cons, List.length_nil, grd_pos, grd_T, grd_R, cnd_dt, cnd_df, cnd_true, cnd_false, Option.bind_some, succ_cast, pair_eq, show ((i : Int) - 1).toNat = i - 1 from by omega]
  refine cnd_congr' ?_ _ _
  simp [doubleAt, h0]
 ·intro n i hi
  rw [S_l17Simple_l1]
  simp (disch := omega) only [Int.toNat_natCast, tk0, List.length_cons, List.length_nil, grd_pos, grd_T, grd_R, cnd_dt, cnd_df, cnd_true, cnd_false, Option.bind_some, isGraphS_s N hN]
 ·rw [all_not_dbl, cnd_some]; cases hasDbl g.bars <;> cases isGraph g <;> rfl
theorem ghasW_s (g : Grf) (x : Int) : M_Graph_has N g x = some (inB x 0 (w64 (g.n - 1))) := by
 unfold M_Graph_has
 simp (disch := omega) only [Int.toNat_natCast, tk0, List.length_cons, List.length_nil, grd_pos, grd_T, grd_R, cnd_dt, cnd_df, cnd_true, cnd_false, Option.bind_some, within_s]
theorem ghas_s {g : Grf} (h : 0 ≤ g.n) (h' : g.n ≤ 1048576) (x : Int) : M_Graph_has N g x = some (inB x 0 (g.n - 1)) := by
 unfold M_Graph_has
 rw [w64_id (by omega) (by omega)]
 simp (disch := omega) only [Int.toNat_natCast, tk0, List.length_cons, List.length_nil, grd_pos, grd_T, grd_R, cnd_dt, cnd_df, cnd_true, cnd_false, Option.bind_some, within_s]
end Go.Proofs.Ytkklfgcelmeccaa
namespace Go.Proofs.Ytkklfgcelmeccaa
variable (N : Nat)
end Go.Proofs.Ytkklfgcelmeccaa
