/- Texts that the proof needs, put together: G73 G75 G76 Qu Pe Pf Qs G40 G74. -/
import Derived.Test.YtmoamglpocjhgaaGreatBlo3
import Derived.Test.YtmoamglpocjhgaaGreatBlo4
import Derived.Test.YtmoamglpocjhgaaGreatBlo5
set_option linter.unusedVariables false
set_option linter.unusedSimpArgs false
namespace Go.Proofs.YtmoamglpocjhgaaGreat
open Go.RowKit
def S_RunPebbles_l1 (N : Nat) (g_0 : Grf) (k_1 : Int) (l_2 : Int) (k : ((List Int) × (List Int) × (List Int)) → Option (Pbl × Bool)) : Nat → ((List Int) × (List Int) × (List Int) × Int) → Option (Pbl × Bool)
 | 0, _ => none
 | n + 1, (l29, l30, l31, i32) =>
  cnd (decide (i32 < (g_0.bars.length : Int))) (
   (S_PlaceBar N g_0 k_1 l_2 (⟨l29, l30, l31⟩ : Pbl) i32).bind fun v34 =>
   grd (Rg64 (i32 + (1 : Int))) <|
   S_RunPebbles_l1 N g_0 k_1 l_2 k n (v34.1.free, v34.1.tails, v34.1.placed, (i32 + (1 : Int)))) (
   k (l29, l30, l31))
def S_RunPebbles (N : Nat) (g_0 : Grf) (k_1 : Int) (l_2 : Int) : Option (Pbl × Bool) :=
 (S_NewPebbles N g_0 k_1).bind fun v1 =>
 cnd (!v1.2) (
  some ((⟨([] : List Int), ([] : List Int), ([] : List Int)⟩ : Pbl), false)) (
  (S_IsRange N k_1 l_2).bind fun v2 =>
  cnd (!v2) (
   some ((⟨([] : List Int), ([] : List Int), ([] : List Int)⟩ : Pbl), false)) (
   S_RunPebbles_l1 N g_0 k_1 l_2 (fun (x : (List Int) × (List Int) × (List Int)) =>
     match x with
     | (l17, l18, l19) =>
      some ((⟨l17, l18, l19⟩ : Pbl), true)) N (v1.1.free, ([] : List Int), ([] : List Int), (0 : Int))))
set_option maxRecDepth 20000 in
set_option maxHeartbeats 1600000 in
theorem S_RunPebbles_w (N : Nat) (g_0 : Grf) (k_1 : Int) (l_2 : Int) (r : Pbl × Bool) (h : S_RunPebbles N g_0 k_1 l_2 = some r) : PCall Tryz.prog 170 [gD g_0, .int k_1, .int l_2] [(3, .ints r.1.free), (3, .ints r.1.tails), (3, .ints r.1.placed)] (.tup [.agg [.row 0 0 r.1.free.length, .row 1 0 r.1.tails.length, .row 2 0 r.1.placed.length], .bool r.2]) := by
 unfold S_RunPebbles at h
 refine pcall_intro (TT := TT) tt Tryz.func170 rfl rfl Tryz.ntmps170 (congrArg Array.toList Tryz.results170) rfl rfl fun w0 => ?_
 refine vSeq ?_
 refine vRegion ?_
 refine oBox rfl rfl rfl rfl rfl rfl rfl rfl rfl ?_
 refine oAlloc tt rfl rfl rfl rfl rfl rfl rfl rfl rfl ?_
 refine oVal tt rfl rfl rfl rfl rfl trivial ?_
 refine vNil ?_
 change VC _ _ _ _
 refine vSeq ?_
 refine vRegion ?_
 iterate 2 refine oVal tt rfl rfl rfl rfl rfl trivial ?_
 obtain ⟨v1, hc1, h⟩ := bind_inv h
 refine oCall (S_NewPebbles_w N g_0 k_1 v1 hc1) rfl rfl rfl rfl rfl rfl rfl rfl ⟨⟨rfl, rfl, trivial⟩, rfl, trivial⟩ ?_
 iterate 3 refine oVal tt rfl rfl rfl rfl rfl trivial ?_
 refine oAlloc tt rfl rfl rfl rfl rfl rfl rfl rfl rfl ?_
 refine oStore tt rfl rfl rfl rfl rfl rfl rfl rfl rfl rfl rfl ⟨trivial, trivial, trivial, trivial⟩ ?_
 refine oVal tt rfl rfl rfl rfl rfl trivial ?_
 refine vNil ?_
 change VC _ _ _ _
 iterate 2 refine vSeq ?_
 refine vRegion ?_
 iterate 3 refine oVal tt rfl rfl rfl rfl rfl trivial ?_
 refine oSplit rfl rfl rfl (fun hb2 => ?_) (fun hb2 => ?_)
 ·replace h := cnd_t hb2 h
  iterate 4 refine oNoF rfl rfl rfl rfl hb2 rfl rfl ?_
  refine oPick rfl rfl rfl rfl rfl hb2 rfl ?_
  refine vNil ?_
  change VC _ _ _ _
  refine vCondT rfl rfl ?_
  refine vSeq ?_
  refine vRegion ?_
  refine oPure (wNone rfl) (pBuild bld_impl_Pebbles rfl rfl) rfl rfl ?_
  refine oStore tt rfl rfl rfl rfl rfl rfl rfl rfl rfl rfl rfl ⟨trivial, trivial, trivial, trivial⟩ ?_
  refine oVal tt rfl rfl rfl rfl rfl trivial ?_
  refine vNil ?_
  change VC _ _ _ _
  refine vNilB 6 0 9001 3 (.ints []) rfl rfl rfl rfl rfl ?_
  refine vNilB 6 1 9002 3 (.ints []) rfl rfl rfl rfl rfl ?_
  refine vNilB 6 2 9003 3 (.ints []) rfl rfl rfl rfl rfl ?_
  refine vRet ?_
  change ∃ _, _
  cases h
  exact ⟨[9001, 9002, 9003], _, rfl, ⟨rfl, rfl, rfl, trivial⟩, rfl, (.eq rfl), rfl⟩
 ·replace h := cnd_f hb2 h
  iterate 2 refine oValG tt rfl rfl rfl rfl rfl hb2 rfl rfl rfl trivial ?_
  obtain ⟨v2, hc3, h⟩ := bind_inv h
  refine oCallG (S_IsRange_w N k_1 l_2 v2 hc3) rfl rfl rfl rfl hb2 rfl rfl rfl rfl rfl rfl rfl ⟨rfl, rfl, trivial⟩ ?_
  refine oValG tt rfl rfl rfl rfl rfl hb2 rfl rfl rfl trivial ?_
  refine oPickF rfl rfl rfl rfl rfl hb2 rfl ?_
  refine vNil ?_
  change VC _ _ _ _
  refine vCond rfl (fun hb4 => ?_) (fun hb4 => ?_)
  ·replace h := cnd_t hb4 h
   refine vSeq ?_
   refine vRegion ?_
   refine oPure (wNone rfl) (pBuild bld_impl_Pebbles rfl rfl) rfl rfl ?_
   refine oStore tt rfl rfl rfl rfl rfl rfl rfl rfl rfl rfl rfl ⟨trivial, trivial, trivial, trivial⟩ ?_
   refine oVal tt rfl rfl rfl rfl rfl trivial ?_
   refine vNil ?_
   change VC _ _ _ _
   refine vNilB 6 0 9001 3 (.ints []) rfl rfl rfl rfl rfl ?_
   refine vNilB 6 1 9002 3 (.ints []) rfl rfl rfl rfl rfl ?_
   refine vNilB 6 2 9003 3 (.ints []) rfl rfl rfl rfl rfl ?_
   refine vRet ?_
   change ∃ _, _
   cases h
   exact ⟨[9001, 9002, 9003], _, rfl, ⟨rfl, rfl, rfl, trivial⟩, rfl, (.eq rfl), rfl⟩
  ·replace h := cnd_f hb4 h
   refine vSkip ?_
   change VC _ _ _ _
   iterate 2 refine vSeq ?_
   refine vRegion ?_
   refine oVal tt rfl rfl rfl rfl rfl trivial ?_
   refine vNil ?_
   change VC _ _ _ _
   refine vJoin (F := fun k => S_RunPebbles_l1 N g_0 k_1 l_2 k) h (α := (List Int) × (List Int) × (List Int)) (J := fun | (l17, l18, l19) => (⟨[(6, .ptr 6 0), (8, .ptr 8 0)], [(1140, some (3, .ints l17)), (9505, some (3, .ints l18)), (9506, some (3, .ints l19))], [(6, some [.nil, .nil, .nil]), (8, some [.row 1140 0 l17.length, .row 9505 0 l18.length, .row 9506 0 l19.length])]⟩ : PS)) ?_ ?_
   ·rintro ⟨l17, l18, l19⟩ h
    show VC _ _ _ (⟨[(6, .ptr 6 0), (8, .ptr 8 0)], [(1140, some (3, .ints l17)), (9505, some (3, .ints l18)), (9506, some (3, .ints l19))], [(6, some [.nil, .nil, .nil]), (8, some [.row 1140 0 l17.length, .row 9505 0 l18.length, .row 9506 0 l19.length])]⟩ : PS)
    refine vSeq ?_
    refine vRegion ?_
    refine oVal tt rfl rfl rfl rfl rfl trivial ?_
    refine oStore tt rfl rfl rfl rfl rfl rfl rfl rfl rfl rfl rfl ⟨trivial, trivial, trivial, trivial⟩ ?_
    refine oVal tt rfl rfl rfl rfl rfl trivial ?_
    refine vNil ?_
    change VC _ _ _ _
    refine vRet ?_
    change ∃ _, _
    cases h
    exact ⟨[1140, 9505, 9506], _, rfl, ⟨rfl, rfl, rfl, trivial⟩, rfl, (.eq rfl), rfl⟩
   ·intro k h
    refine vBlock ?_
    refine vNilB 8 1 9507 3 (.ints []) rfl rfl rfl rfl rfl ?_
    refine vNilB 8 2 9508 3 (.ints []) rfl rfl rfl rfl rfl ?_
    refine vLoopS (α := (List Int) × (List Int) × (List Int) × Int) (fun | (l29, l30, l31, i32) => (⟨[(1, .int k_1), (2, .int l_2), (3, .ptr 3 0), (6, .ptr 6 0), (8, .ptr 8 0), (10, .int i32)], [(1140, some (3, .ints l29)), (9507, some (3, .ints l30)), (9508, some (3, .ints l31))], [(3, some [.int g_0.n, .ro false (.pairs g_0.bars)]), (6, some [.nil, .nil, .nil]), (8, some [.row 1140 0 l29.length, .row 9507 0 l30.length, .row 9508 0 l31.length])]⟩ : PS)) (S_RunPebbles_l1 N g_0 k_1 l_2 k) h (En.of ⟨rfl, rfl, rfl, rfl, rfl, rfl, trivial⟩ ⟨rfl, rfl, rfl, trivial⟩ ⟨rfl, rfl, rfl, trivial⟩) (fun _ => rfl) ?_
    rintro n ⟨l29, l30, l31, i32⟩ h
    rw [S_RunPebbles_l1] at h
    show VC _ _ _ (⟨[(1, .int k_1), (2, .int l_2), (3, .ptr 3 0), (6, .ptr 6 0), (8, .ptr 8 0), (10, .int i32)], [(1140, some (3, .ints l29)), (9507, some (3, .ints l30)), (9508, some (3, .ints l31))], [(3, some [.int g_0.n, .ro false (.pairs g_0.bars)]), (6, some [.nil, .nil, .nil]), (8, some [.row 1140 0 l29.length, .row 9507 0 l30.length, .row 9508 0 l31.length])]⟩ : PS)
    iterate 2 refine vSeq ?_
    refine vRegion ?_
    iterate 5 refine oVal tt rfl rfl rfl rfl rfl trivial ?_
    refine vNil ?_
    change VC _ _ _ _
    refine vCond rfl (fun hb5 => ?_) (fun hb5 => ?_)
    ·replace h := cnd_t hb5 h
     refine vSkip ?_
     change VC _ _ _ _
     refine vSeq ?_
     refine vBlock ?_
     refine vRegion ?_
     iterate 5 refine oVal tt rfl rfl rfl rfl rfl trivial ?_
     obtain ⟨v34, hc6, h⟩ := bind_inv h
     refine oCall (S_PlaceBar_w N g_0 k_1 l_2 (⟨l29, l30, l31⟩ : Pbl) i32 v34 hc6) rfl rfl rfl rfl rfl rfl rfl rfl ⟨⟨rfl, rfl, trivial⟩, rfl, rfl, ⟨(.inl ⟨rfl, rfl⟩), (.inl ⟨rfl, rfl⟩), (.inl ⟨rfl, rfl⟩), trivial⟩, rfl, trivial⟩ ?_
     iterate 3 refine oVal tt rfl rfl rfl rfl rfl trivial ?_
     refine oStore tt rfl rfl rfl rfl rfl rfl rfl rfl rfl rfl rfl ⟨trivial, trivial, trivial, trivial⟩ ?_
     refine vNil ?_
     change VC _ _ _ _
     refine vRegion ?_
     refine oVal tt rfl rfl rfl rfl rfl trivial ?_
     obtain ⟨hg7, h⟩ := grd_inv h
     refine oVal tt rfl rfl rfl rfl rfl hg7 ?_
     refine oVal tt rfl rfl rfl rfl rfl trivial ?_
     refine vNil ?_
     change ∃ _, _
     exact ⟨(v34.1.free, v34.1.tails, v34.1.placed, (i32 + (1 : Int))), (En.ren [1140, 9507, 9508] [1390, 1391, 1392] rfl ⟨.inr rfl, .inr rfl, .inr rfl, .inr rfl, .inr rfl, .inr rfl, trivial⟩ ⟨.inr rfl, .inr rfl, .inr rfl, trivial⟩ ⟨.inr ⟨_, _, rfl, rfl, ⟨.inr rfl, .inr rfl, trivial⟩⟩, .inr ⟨_, _, rfl, rfl, ⟨.inr rfl, .inr rfl, .inr rfl, trivial⟩⟩, .inr ⟨_, _, rfl, rfl, ⟨.inr rfl, .inr rfl, .inr rfl, trivial⟩⟩, trivial⟩), h⟩
    ·replace h := cnd_f hb5 h
     refine vExit ?_
     change ∃ _, _
     exact ⟨(l29, l30, l31), (En.ren [9505, 9506] [9507, 9508] rfl ⟨.inr rfl, .inr rfl, trivial⟩ ⟨.inr rfl, .inr rfl, .inr rfl, trivial⟩ ⟨.inr ⟨_, _, rfl, rfl, ⟨.inr rfl, .inr rfl, .inr rfl, trivial⟩⟩, .inr ⟨_, _, rfl, rfl, ⟨.inr rfl, .inr rfl, .inr rfl, trivial⟩⟩, trivial⟩), h⟩
def S_RankOf (N : Nat) (g_0 : Grf) (k_1 : Int) (l_2 : Int) : Option (Int) :=
 (S_RunPebbles N g_0 k_1 l_2).bind fun v1 =>
 cnd (!v1.2) (
  some (-1 : Int)) (
  some (v1.1.placed.length : Int))
set_option maxRecDepth 20000 in
set_option maxHeartbeats 1600000 in
theorem S_RankOf_w (N : Nat) (g_0 : Grf) (k_1 : Int) (l_2 : Int) (r : Int) (h : S_RankOf N g_0 k_1 l_2 = some r) : PCall Tryz.prog 150 [gD g_0, .int k_1, .int l_2] [] (.int r) := by
 unfold S_RankOf at h
 refine pcall_intro (TT := TT) tt Tryz.func150 rfl rfl Tryz.ntmps150 (congrArg Array.toList Tryz.results150) rfl rfl fun w0 => ?_
 refine vSeq ?_
 refine vRegion ?_
 refine oBox rfl rfl rfl rfl rfl rfl rfl rfl rfl ?_
 refine oVal tt rfl rfl rfl rfl rfl trivial ?_
 refine vNil ?_
 change VC _ _ _ _
 refine vSeq ?_
 refine vRegion ?_
 iterate 3 refine oVal tt rfl rfl rfl rfl rfl trivial ?_
 obtain ⟨v1, hc1, h⟩ := bind_inv h
 refine oCall (S_RunPebbles_w N g_0 k_1 l_2 v1 hc1) rfl rfl rfl rfl rfl rfl rfl rfl ⟨⟨rfl, rfl, trivial⟩, rfl, rfl, trivial⟩ ?_
 iterate 3 refine oVal tt rfl rfl rfl rfl rfl trivial ?_
 refine oAlloc tt rfl rfl rfl rfl rfl rfl rfl rfl rfl ?_
 refine oStore tt rfl rfl rfl rfl rfl rfl rfl rfl rfl rfl rfl ⟨trivial, trivial, trivial, trivial⟩ ?_
 refine oVal tt rfl rfl rfl rfl rfl trivial ?_
 refine vNil ?_
 change VC _ _ _ _
 iterate 2 refine vSeq ?_
 refine vRegion ?_
 iterate 2 refine oVal tt rfl rfl rfl rfl rfl trivial ?_
 refine vNil ?_
 change VC _ _ _ _
 refine vCond rfl (fun hb2 => ?_) (fun hb2 => ?_)
 ·replace h := cnd_t hb2 h
  refine vSeq ?_
  refine vRegion ?_
  refine oVal tt rfl rfl rfl rfl rfl trivial ?_
  refine vNil ?_
  change VC _ _ _ _
  refine vRet ?_
  change ∃ _, _
  cases h
  exact ⟨[], _, rfl, trivial, rfl, (.eq rfl), rfl⟩
 ·replace h := cnd_f hb2 h
  refine vSkip ?_
  change VC _ _ _ _
  refine vSeq ?_
  refine vRegion ?_
  iterate 4 refine oVal tt rfl rfl rfl rfl rfl trivial ?_
  refine vNil ?_
  change VC _ _ _ _
  refine vRet ?_
  change ∃ _, _
  cases h
  exact ⟨[], _, rfl, trivial, rfl, (.eq rfl), rfl⟩
def S_FreedomOf (N : Nat) (g_0 : Grf) : Option (Int) :=
 (S_IsGraph N g_0).bind fun v1 =>
 cnd (!v1) (
  some (-1 : Int)) (
  grd (Rg64 ((2 : Int) * g_0.n)) <|
  grd (Rg64 (((2 : Int) * g_0.n) - (3 : Int))) <|
  (S_RankOf N g_0 (2 : Int) (3 : Int)).bind fun v2 =>
  grd (Rg64 ((max (0 : Int) (((2 : Int) * g_0.n) - (3 : Int))) - v2)) <|
  some ((max (0 : Int) (((2 : Int) * g_0.n) - (3 : Int))) - v2))
set_option maxRecDepth 20000 in
set_option maxHeartbeats 1600000 in
theorem S_FreedomOf_w (N : Nat) (g_0 : Grf) (r : Int) (h : S_FreedomOf N g_0 = some r) : PCall Tryz.prog 126 [gD g_0] [] (.int r) := by
 unfold S_FreedomOf at h
 refine pcall_intro (TT := TT) tt Tryz.func126 rfl rfl Tryz.ntmps126 (congrArg Array.toList Tryz.results126) rfl rfl fun w0 => ?_
 refine vSeq ?_
 refine vRegion ?_
 refine oBox rfl rfl rfl rfl rfl rfl rfl rfl rfl ?_
 refine oVal tt rfl rfl rfl rfl rfl trivial ?_
 refine vNil ?_
 change VC _ _ _ _
 iterate 2 refine vSeq ?_
 refine vRegion ?_
 refine oVal tt rfl rfl rfl rfl rfl trivial ?_
 obtain ⟨v1, hc1, h⟩ := bind_inv h
 refine oCall (S_IsGraph_w N g_0 v1 hc1) rfl rfl rfl rfl rfl rfl rfl rfl ⟨⟨rfl, rfl, trivial⟩, trivial⟩ ?_
 refine oVal tt rfl rfl rfl rfl rfl trivial ?_
 refine vNil ?_
 change VC _ _ _ _
 refine vCond rfl (fun hb2 => ?_) (fun hb2 => ?_)
 ·replace h := cnd_t hb2 h
  refine vSeq ?_
  refine vRegion ?_
  refine oVal tt rfl rfl rfl rfl rfl trivial ?_
  refine vNil ?_
  change VC _ _ _ _
  refine vRet ?_
  change ∃ _, _
  cases h
  exact ⟨[], _, rfl, trivial, rfl, (.eq rfl), rfl⟩
 ·replace h := cnd_f hb2 h
  refine vSkip ?_
  change VC _ _ _ _
  refine vSeq ?_
  refine vRegionD (by kernel_rfl) (by kernel_rfl) ?_
  iterate 2 refine cVal tt rfl (wNone rfl) rfl rfl rfl trivial ?_
  obtain ⟨hg3, h⟩ := grd_inv h
  refine cVal tt rfl (wNone rfl) rfl rfl rfl hg3 ?_
  obtain ⟨hg4, h⟩ := grd_inv h
  refine cVal tt rfl (wNone rfl) rfl rfl rfl hg4 ?_
  iterate 2 refine cVal tt rfl (wNone rfl) rfl rfl rfl trivial ?_
  obtain ⟨v2, hc5, h⟩ := bind_inv h
  refine cCall (S_RankOf_w N g_0 (2 : Int) (3 : Int) v2 hc5) rfl (wNone rfl) rfl rfl rfl rfl rfl rfl ⟨⟨rfl, rfl, trivial⟩, rfl, rfl, trivial⟩ ?_
  obtain ⟨hg6, h⟩ := grd_inv h
  refine cVal tt rfl (wNone rfl) rfl rfl rfl hg6 ?_
  refine cVal tt rfl (wNone rfl) rfl rfl rfl trivial ?_
  refine cNil ?_
  change VC _ _ _ _
  refine vRet ?_
  change ∃ _, _
  cases h
  exact ⟨[], _, rfl, trivial, rfl, (.eq rfl), rfl⟩
def S_IsRigid (N : Nat) (g_0 : Grf) : Option (Bool) :=
 (S_FreedomOf N g_0).bind fun v1 =>
 some (v1 == (0 : Int))
set_option maxRecDepth 20000 in
set_option maxHeartbeats 1600000 in
theorem S_IsRigid_w (N : Nat) (g_0 : Grf) (r : Bool) (h : S_IsRigid N g_0 = some r) : PCall Tryz.prog 99 [gD g_0] [] (.bool r) := by
 unfold S_IsRigid at h
 refine pcall_intro (TT := TT) tt Tryz.func99 rfl rfl Tryz.ntmps99 (congrArg Array.toList Tryz.results99) rfl rfl fun w0 => ?_
 refine vSeq ?_
 refine vRegion ?_
 refine oBox rfl rfl rfl rfl rfl rfl rfl rfl rfl ?_
 refine oVal tt rfl rfl rfl rfl rfl trivial ?_
 refine vNil ?_
 change VC _ _ _ _
 refine vSeq ?_
 refine vRegion ?_
 refine oVal tt rfl rfl rfl rfl rfl trivial ?_
 obtain ⟨v1, hc1, h⟩ := bind_inv h
 refine oCall (S_FreedomOf_w N g_0 v1 hc1) rfl rfl rfl rfl rfl rfl rfl rfl ⟨⟨rfl, rfl, trivial⟩, trivial⟩ ?_
 iterate 2 refine oVal tt rfl rfl rfl rfl rfl trivial ?_
 refine vNil ?_
 change VC _ _ _ _
 refine vRet ?_
 change ∃ _, _
 cases h
 exact ⟨[], _, rfl, trivial, rfl, (.eq rfl), rfl⟩
def S_WithoutPoints_l1 (N : Nat) (g_0 : Grf) (l7 : List Int) (k : (List (Int × Int)) → Option (Grf)) : Nat → ((List (Int × Int)) × Int) → Option (Grf)
 | 0, _ => none
 | n + 1, (l21, i22) =>
  cnd (decide (i22 < (g_0.bars.length : Int))) (
   (S_IsGraph N g_0).bind fun v24 =>
   cnd v24 (
    grd (0 ≤ i22 ∧ i22 < (g_0.bars.length : Int)) <|
    grd (0 ≤ ((g_0.bars.getD ((i22).toNat) (0, 0)).1) ∧ ((g_0.bars.getD ((i22).toNat) (0, 0)).1) < ((List.replicate (((max (0 : Int) (min (8 : Int) g_0.n))).toNat) (0 : Int)).length : Int)) <|
    grd (0 ≤ ((g_0.bars.getD ((i22).toNat) (0, 0)).1) ∧ ((g_0.bars.getD ((i22).toNat) (0, 0)).1) < (l7.length : Int)) <|
    grd (0 ≤ ((g_0.bars.getD ((i22).toNat) (0, 0)).2) ∧ ((g_0.bars.getD ((i22).toNat) (0, 0)).2) < ((List.replicate (((max (0 : Int) (min (8 : Int) g_0.n))).toNat) (0 : Int)).length : Int)) <|
    grd (0 ≤ ((g_0.bars.getD ((i22).toNat) (0, 0)).2) ∧ ((g_0.bars.getD ((i22).toNat) (0, 0)).2) < (l7.length : Int)) <|
    cnd (decide ((l7.getD (((g_0.bars.getD ((i22).toNat) (0, 0)).1).toNat) 0) ≥ (0 : Int))) (
     cnd (decide ((l7.getD (((g_0.bars.getD ((i22).toNat) (0, 0)).2).toNat) 0) ≥ (0 : Int))) (
      grd (l21.length + 1 ≤ 4294967296) <|
      grd (Rg64 (i22 + (1 : Int))) <|
      S_WithoutPoints_l1 N g_0 l7 k n ((l21 ++ ([((l7.getD (((g_0.bars.getD ((i22).toNat) (0, 0)).1).toNat) 0), (l7.getD (((g_0.bars.getD ((i22).toNat) (0, 0)).2).toNat) 0))] : List (Int × Int))), (i22 + (1 : Int)))) (
      grd (Rg64 (i22 + (1 : Int))) <|
      S_WithoutPoints_l1 N g_0 l7 k n (l21, (i22 + (1 : Int))))) (
     grd (Rg64 (i22 + (1 : Int))) <|
     S_WithoutPoints_l1 N g_0 l7 k n (l21, (i22 + (1 : Int))))) (
    k l21)) (
   k l21)
def S_WithoutPoints_l2 (N : Nat) (g_0 : Grf) (set_1 : List Int) (k : ((List Int) × Int) → Option (Grf)) : Nat → ((List Int) × Int × Int) → Option (Grf)
 | 0, _ => none
 | n + 1, (l27, n28, i29) =>
  cnd (decide (i29 < ((List.replicate (((max (0 : Int) (min (8 : Int) g_0.n))).toNat) (0 : Int)).length : Int))) (
   grd (0 ≤ i29 ∧ i29 < ((List.replicate (((max (0 : Int) (min (8 : Int) g_0.n))).toNat) (0 : Int)).length : Int)) <|
   grd (0 ≤ i29 ∧ i29 < (l27.length : Int)) <|
   (S_l2Has N set_1 i29).bind fun v31 =>
   cnd (!v31) (
    grd (0 ≤ i29 ∧ i29 < ((l27.set ((i29).toNat) (-1 : Int)).length : Int)) <|
    grd (Rg64 (n28 + (1 : Int))) <|
    grd (Rg64 (i29 + (1 : Int))) <|
    S_WithoutPoints_l2 N g_0 set_1 k n (((l27.set ((i29).toNat) (-1 : Int)).set ((i29).toNat) n28), (n28 + (1 : Int)), (i29 + (1 : Int)))) (
    grd (Rg64 (i29 + (1 : Int))) <|
    S_WithoutPoints_l2 N g_0 set_1 k n ((l27.set ((i29).toNat) (-1 : Int)), n28, (i29 + (1 : Int))))) (
   k (l27, n28))
def S_WithoutPoints (N : Nat) (g_0 : Grf) (set_1 : List Int) : Option (Grf) :=
 grd (0 ≤ (max (0 : Int) (min (8 : Int) g_0.n)) ∧ (max (0 : Int) (min (8 : Int) g_0.n)) ≤ 4294967296) <|
 S_WithoutPoints_l2 N g_0 set_1 (fun (x : (List Int) × Int) =>
   match x with
   | (l7, n8) =>
    S_WithoutPoints_l1 N g_0 l7 (fun (l16 : List (Int × Int)) =>
       some (⟨n8, l16⟩ : Grf)) N (([] : List (Int × Int)), (0 : Int))) N ((List.replicate (((max (0 : Int) (min (8 : Int) g_0.n))).toNat) (0 : Int)), (0 : Int), (0 : Int))
set_option maxRecDepth 20000 in
set_option maxHeartbeats 1600000 in
theorem S_WithoutPoints_w (N : Nat) (g_0 : Grf) (set_1 : List Int) (r : Grf) (h : S_WithoutPoints N g_0 set_1 = some r) : PCall Tryz.prog 66 [gD g_0, .ro false (.ints set_1)] [(39, .pairs r.bars)] (.agg [.int r.n, .row 0 0 r.bars.length]) := by
 unfold S_WithoutPoints at h
 refine pcall_intro (TT := TT) tt Tryz.func66 rfl rfl Tryz.ntmps66 (congrArg Array.toList Tryz.results66) rfl rfl fun w0 => ?_
 refine vSeq ?_
 refine vRegion ?_
 refine oBox rfl rfl rfl rfl rfl rfl rfl rfl rfl ?_
 refine oAlloc tt rfl rfl rfl rfl rfl rfl rfl rfl rfl ?_
 refine vNil ?_
 change VC _ _ _ _
 refine vSeq ?_
 refine vRegion ?_
 iterate 4 refine oVal tt rfl rfl rfl rfl rfl trivial ?_
 obtain ⟨hg1, h⟩ := grd_inv h
 refine oMake tt rfl rfl rfl rfl rfl rfl rfl rfl rfl rfl rfl hg1 ?_
 refine oVal tt rfl rfl rfl rfl rfl trivial ?_
 refine vNil ?_
 change VC _ _ _ _
 refine vSeq ?_
 refine vRegion ?_
 refine oVal tt rfl rfl rfl rfl rfl trivial ?_
 refine vNil ?_
 change VC _ _ _ _
 iterate 2 refine vSeq ?_
 refine vRegion ?_
 refine oVal tt rfl rfl rfl rfl rfl trivial ?_
 refine vNil ?_
 change VC _ _ _ _
 refine vJoin (F := fun k => S_WithoutPoints_l2 N g_0 set_1 k) h (α := (List Int) × Int) (J := fun | (l7, n8) => (⟨[(2, .ptr 2 0), (4, .ptr 4 0), (5, .row 16 0 ((List.replicate (((max (0 : Int) (min (8 : Int) g_0.n))).toNat) (0 : Int)).length)), (6, .int n8)], [(16, some (3, .ints l7))], [(2, some [.int g_0.n, .ro false (.pairs g_0.bars)]), (4, some [.int (0 : Int), .nil])]⟩ : PS)) ?_ ?_
 ·rintro ⟨l7, n8⟩ h
  show VC _ _ _ (⟨[(2, .ptr 2 0), (4, .ptr 4 0), (5, .row 16 0 ((List.replicate (((max (0 : Int) (min (8 : Int) g_0.n))).toNat) (0 : Int)).length)), (6, .int n8)], [(16, some (3, .ints l7))], [(2, some [.int g_0.n, .ro false (.pairs g_0.bars)]), (4, some [.int (0 : Int), .nil])]⟩ : PS)
  refine vSeq ?_
  refine vRegion ?_
  refine oVal tt rfl rfl rfl rfl rfl trivial ?_
  refine oEmpty tt (wNone rfl) rfl rfl rfl rfl ?_
  refine oPure (wNone rfl) (pBuild bld_impl_Graph rfl rfl) rfl rfl ?_
  refine oAlloc tt rfl rfl rfl rfl rfl rfl rfl rfl rfl ?_
  refine oStore tt rfl rfl rfl rfl rfl rfl rfl rfl rfl rfl rfl ⟨trivial, trivial, trivial⟩ ?_
  refine vNil ?_
  change VC _ _ _ _
  iterate 2 refine vSeq ?_
  refine vRegion ?_
  refine oVal tt rfl rfl rfl rfl rfl trivial ?_
  refine vNil ?_
  change VC _ _ _ _
  refine vJoin (F := fun k => S_WithoutPoints_l1 N g_0 l7 k) h (α := List (Int × Int)) (J := fun (l16 : List (Int × Int)) => (⟨[(4, .ptr 4 0), (8, .ptr 8 0)], [(80, some (39, .pairs l16))], [(4, some [.int (0 : Int), .nil]), (8, some [.int n8, .row 80 0 l16.length])]⟩ : PS)) ?_ ?_
  ·rintro l16 h
   show VC _ _ _ (⟨[(4, .ptr 4 0), (8, .ptr 8 0)], [(80, some (39, .pairs l16))], [(4, some [.int (0 : Int), .nil]), (8, some [.int n8, .row 80 0 l16.length])]⟩ : PS)
   refine vSeq ?_
   refine vRegion ?_
   refine oVal tt rfl rfl rfl rfl rfl trivial ?_
   refine oStore tt rfl rfl rfl rfl rfl rfl rfl rfl rfl rfl rfl ⟨trivial, trivial, trivial⟩ ?_
   refine vNil ?_
   change VC _ _ _ _
   refine vRet ?_
   change ∃ _, _
   cases h
   exact ⟨[80], _, rfl, ⟨rfl, trivial⟩, rfl, (.eq rfl), rfl⟩
  ·intro k h
   refine vBlock ?_
   refine vNilB 8 1 80 39 (.pairs []) rfl rfl rfl rfl rfl ?_
   refine vLoopS (α := (List (Int × Int)) × Int) (fun | (l21, i22) => (⟨[(2, .ptr 2 0), (4, .ptr 4 0), (5, .row 16 0 ((List.replicate (((max (0 : Int) (min (8 : Int) g_0.n))).toNat) (0 : Int)).length)), (8, .ptr 8 0), (9, .int i22)], [(16, some (3, .ints l7)), (80, some (39, .pairs l21))], [(2, some [.int g_0.n, .ro false (.pairs g_0.bars)]), (4, some [.int (0 : Int), .nil]), (8, some [.int n8, .row 80 0 l21.length])]⟩ : PS)) (S_WithoutPoints_l1 N g_0 l7 k) h (En.of ⟨rfl, rfl, rfl, rfl, rfl, trivial⟩ ⟨rfl, rfl, trivial⟩ ⟨rfl, rfl, rfl, trivial⟩) (fun _ => rfl) ?_
   rintro n ⟨l21, i22⟩ h
   rw [S_WithoutPoints_l1] at h
   show VC _ _ _ (⟨[(2, .ptr 2 0), (4, .ptr 4 0), (5, .row 16 0 ((List.replicate (((max (0 : Int) (min (8 : Int) g_0.n))).toNat) (0 : Int)).length)), (8, .ptr 8 0), (9, .int i22)], [(16, some (3, .ints l7)), (80, some (39, .pairs l21))], [(2, some [.int g_0.n, .ro false (.pairs g_0.bars)]), (4, some [.int (0 : Int), .nil]), (8, some [.int n8, .row 80 0 l21.length])]⟩ : PS)
   iterate 2 refine vSeq ?_
   refine vRegion ?_
   iterate 6 refine oVal tt rfl rfl rfl rfl rfl trivial ?_
   refine oSplit rfl rfl rfl (fun hb2 => ?_) (fun hb2 => ?_)
   ·replace h := cnd_t hb2 h
    refine oValG tt rfl rfl rfl rfl rfl hb2 rfl rfl rfl trivial ?_
    obtain ⟨v24, hc3, h⟩ := bind_inv h
    refine oCallG (S_IsGraph_w N g_0 v24 hc3) rfl rfl rfl rfl hb2 rfl rfl rfl rfl rfl rfl rfl ⟨⟨rfl, rfl, trivial⟩, trivial⟩ ?_
    refine oPick rfl rfl rfl rfl rfl hb2 rfl ?_
    refine vNil ?_
    change VC _ _ _ _
    refine vCond rfl (fun hb4 => ?_) (fun hb4 => ?_)
    ·replace h := cnd_t hb4 h
     refine vSkip ?_
     change VC _ _ _ _
     refine vSeq ?_
     refine vBlock ?_
     refine vSeq ?_
     refine vRegion ?_
     iterate 4 refine oVal tt rfl rfl rfl rfl rfl trivial ?_
     obtain ⟨hg5, h⟩ := grd_inv h
     refine oVal tt rfl rfl rfl rfl rfl hg5 ?_
     iterate 2 refine oVal tt rfl rfl rfl rfl rfl trivial ?_
     obtain ⟨hg6, h⟩ := grd_inv h
     refine oVal tt rfl rfl rfl rfl rfl hg6 ?_
     obtain ⟨hg7, h⟩ := grd_inv h
     refine oVal tt rfl rfl rfl rfl rfl hg7 ?_
     refine oVal tt rfl rfl rfl rfl rfl trivial ?_
     refine vNil ?_
     change VC _ _ _ _
     refine vSeq ?_
     refine vRegion ?_
     iterate 4 refine oVal tt rfl rfl rfl rfl rfl trivial ?_
     refine oVal tt rfl rfl rfl rfl rfl hg5 ?_
     iterate 2 refine oVal tt rfl rfl rfl rfl rfl trivial ?_
     obtain ⟨hg8, h⟩ := grd_inv h
     refine oVal tt rfl rfl rfl rfl rfl hg8 ?_
     obtain ⟨hg9, h⟩ := grd_inv h
     refine oVal tt rfl rfl rfl rfl rfl hg9 ?_
     refine oVal tt rfl rfl rfl rfl rfl trivial ?_
     refine vNil ?_
     change VC _ _ _ _
     refine vSeq ?_
     refine vRegion ?_
     iterate 3 refine oVal tt rfl rfl rfl rfl rfl trivial ?_
     refine oSplit rfl rfl rfl (fun hb10 => ?_) (fun hb10 => ?_)
     ·replace h := cnd_t hb10 h
      iterate 2 refine oValG tt rfl rfl rfl rfl rfl hb10 rfl rfl rfl trivial ?_
      refine oPick rfl rfl rfl rfl rfl hb10 rfl ?_
      refine vNil ?_
      change VC _ _ _ _
      refine vCond rfl (fun hb11 => ?_) (fun hb11 => ?_)
      ·replace h := cnd_t hb11 h
       refine vRegion ?_
       iterate 4 refine oVal tt rfl rfl rfl rfl rfl trivial ?_
       refine oPure (wNone rfl) (pBuild bld_impl_Bar rfl rfl) rfl rfl ?_
       refine oBuild tt rfl rfl rfl rfl rfl rfl rfl rfl rfl rfl rfl ?_
       obtain ⟨hg12, h⟩ := grd_inv h
       refine oAppend tt rfl rfl rfl rfl rfl rfl rfl rfl rfl rfl rfl rfl rfl rfl rfl rfl (Nat.le_of_eq (Nat.zero_add _)) hg12 ?_
       refine oVal tt rfl rfl rfl rfl rfl trivial ?_
       refine oStore tt rfl rfl rfl rfl rfl rfl rfl rfl rfl rfl rfl ⟨trivial, trivial⟩ ?_
       refine vNil ?_
       change VC _ _ _ _
       refine vRegion ?_
       refine oVal tt rfl rfl rfl rfl rfl trivial ?_
       obtain ⟨hg13, h⟩ := grd_inv h
       refine oVal tt rfl rfl rfl rfl rfl hg13 ?_
       refine oVal tt rfl rfl rfl rfl rfl trivial ?_
       refine vNil ?_
       change ∃ _, _
       exact ⟨((l21 ++ ([((l7.getD (((g_0.bars.getD ((i22).toNat) (0, 0)).1).toNat) 0), (l7.getD (((g_0.bars.getD ((i22).toNat) (0, 0)).2).toNat) 0))] : List (Int × Int))), (i22 + (1 : Int))), (En.of ⟨rfl, rfl, rfl, rfl, rfl, trivial⟩ ⟨rfl, rfl, trivial⟩ ⟨rfl, rfl, rfl, trivial⟩), h⟩
      ·replace h := cnd_f hb11 h
       refine vSkip ?_
       change VC _ _ _ _
       refine vRegion ?_
       refine oVal tt rfl rfl rfl rfl rfl trivial ?_
       obtain ⟨hg14, h⟩ := grd_inv h
       refine oVal tt rfl rfl rfl rfl rfl hg14 ?_
       refine oVal tt rfl rfl rfl rfl rfl trivial ?_
       refine vNil ?_
       change ∃ _, _
       exact ⟨(l21, (i22 + (1 : Int))), (En.of ⟨rfl, rfl, rfl, rfl, rfl, trivial⟩ ⟨rfl, rfl, trivial⟩ ⟨rfl, rfl, rfl, trivial⟩), h⟩
     ·replace h := cnd_f hb10 h
      iterate 2 refine oNoT rfl rfl rfl rfl hb10 rfl rfl ?_
      refine oPickF rfl rfl rfl rfl rfl hb10 rfl ?_
      refine vNil ?_
      change VC _ _ _ _
      refine vCondF rfl rfl ?_
      refine vSkip ?_
      change VC _ _ _ _
      refine vRegion ?_
      refine oVal tt rfl rfl rfl rfl rfl trivial ?_
      obtain ⟨hg15, h⟩ := grd_inv h
      refine oVal tt rfl rfl rfl rfl rfl hg15 ?_
      refine oVal tt rfl rfl rfl rfl rfl trivial ?_
      refine vNil ?_
      change ∃ _, _
      exact ⟨(l21, (i22 + (1 : Int))), (En.of ⟨rfl, rfl, rfl, rfl, rfl, trivial⟩ ⟨rfl, rfl, trivial⟩ ⟨rfl, rfl, rfl, trivial⟩), h⟩
    ·replace h := cnd_f hb4 h
     refine vExit ?_
     change ∃ _, _
     exact ⟨l21, (En.of ⟨rfl, rfl, trivial⟩ ⟨rfl, trivial⟩ ⟨rfl, rfl, trivial⟩), h⟩
   ·replace h := cnd_f hb2 h
    iterate 2 refine oNoT rfl rfl rfl rfl hb2 rfl rfl ?_
    refine oPickF rfl rfl rfl rfl rfl hb2 rfl ?_
    refine vNil ?_
    change VC _ _ _ _
    refine vCondF rfl rfl ?_
    refine vExit ?_
    change ∃ _, _
    exact ⟨l21, (En.of ⟨rfl, rfl, trivial⟩ ⟨rfl, trivial⟩ ⟨rfl, rfl, trivial⟩), h⟩
 ·intro k h
  refine vBlock ?_
  refine vLoopS (α := (List Int) × Int × Int) (fun | (l27, n28, i29) => (⟨[(1, .ro false (.ints set_1)), (2, .ptr 2 0), (4, .ptr 4 0), (5, .row 16 0 ((List.replicate (((max (0 : Int) (min (8 : Int) g_0.n))).toNat) (0 : Int)).length)), (6, .int n28), (7, .int i29)], [(16, some (3, .ints l27))], [(2, some [.int g_0.n, .ro false (.pairs g_0.bars)]), (4, some [.int (0 : Int), .nil])]⟩ : PS)) (S_WithoutPoints_l2 N g_0 set_1 k) h (En.of ⟨rfl, rfl, rfl, rfl, rfl, rfl, trivial⟩ ⟨rfl, trivial⟩ ⟨rfl, rfl, trivial⟩) (fun _ => rfl) ?_
  rintro n ⟨l27, n28, i29⟩ h
  rw [S_WithoutPoints_l2] at h
  show VC _ _ _ (⟨[(1, .ro false (.ints set_1)), (2, .ptr 2 0), (4, .ptr 4 0), (5, .row 16 0 ((List.replicate (((max (0 : Int) (min (8 : Int) g_0.n))).toNat) (0 : Int)).length)), (6, .int n28), (7, .int i29)], [(16, some (3, .ints l27))], [(2, some [.int g_0.n, .ro false (.pairs g_0.bars)]), (4, some [.int (0 : Int), .nil])]⟩ : PS)
  iterate 2 refine vSeq ?_
  refine vRegion ?_
  iterate 4 refine oVal tt rfl rfl rfl rfl rfl trivial ?_
  refine vNil ?_
  change VC _ _ _ _
  refine vCond rfl (fun hb16 => ?_) (fun hb16 => ?_)
  ·replace h := cnd_t hb16 h
   refine vSkip ?_
   change VC _ _ _ _
   refine vSeq ?_
   refine vBlock ?_
   refine vSeq ?_
   refine vRegion ?_
   iterate 2 refine oVal tt rfl rfl rfl rfl rfl trivial ?_
   obtain ⟨hg17, h⟩ := grd_inv h
   refine oVal tt rfl rfl rfl rfl rfl hg17 ?_
   obtain ⟨hg18, h⟩ := grd_inv h
   refine oStore tt rfl rfl rfl rfl rfl rfl rfl rfl rfl rfl ⟨_, _, rfl, hg18.1, hg18.2⟩ ⟨hg18, trivial⟩ ?_
   refine vNil ?_
   change VC _ _ _ _
   refine vSeq ?_
   refine vRegion ?_
   iterate 2 refine oVal tt rfl rfl rfl rfl rfl trivial ?_
   obtain ⟨v31, hc19, h⟩ := bind_inv h
   refine oCall (S_l2Has_w N set_1 i29 v31 hc19) rfl rfl rfl rfl rfl rfl rfl rfl ⟨rfl, rfl, trivial⟩ ?_
   refine oVal tt rfl rfl rfl rfl rfl trivial ?_
   refine vNil ?_
   change VC _ _ _ _
   refine vCond rfl (fun hb20 => ?_) (fun hb20 => ?_)
   ·replace h := cnd_t hb20 h
    refine vSeq ?_
    refine vRegion ?_
    iterate 3 refine oVal tt rfl rfl rfl rfl rfl trivial ?_
    refine oVal tt rfl rfl rfl rfl rfl hg17 ?_
    obtain ⟨hg21, h⟩ := grd_inv h
    refine oStore tt rfl rfl rfl rfl rfl rfl rfl rfl rfl rfl ⟨_, _, rfl, hg21.1, hg21.2⟩ ⟨hg21, trivial⟩ ?_
    refine vNil ?_
    change VC _ _ _ _
    refine vRegion ?_
    refine oVal tt rfl rfl rfl rfl rfl trivial ?_
    obtain ⟨hg22, h⟩ := grd_inv h
    refine oVal tt rfl rfl rfl rfl rfl hg22 ?_
    refine oVal tt rfl rfl rfl rfl rfl trivial ?_
    refine vNil ?_
    change VC _ _ _ _
    refine vRegion ?_
    refine oVal tt rfl rfl rfl rfl rfl trivial ?_
    obtain ⟨hg23, h⟩ := grd_inv h
    refine oVal tt rfl rfl rfl rfl rfl hg23 ?_
    refine oVal tt rfl rfl rfl rfl rfl trivial ?_
    refine vNil ?_
    change ∃ _, _
    exact ⟨(((l27.set ((i29).toNat) (-1 : Int)).set ((i29).toNat) n28), (n28 + (1 : Int)), (i29 + (1 : Int))), (En.of ⟨rfl, rfl, rfl, rfl, rfl, rfl, trivial⟩ ⟨rfl, trivial⟩ ⟨rfl, rfl, trivial⟩), h⟩
   ·replace h := cnd_f hb20 h
    refine vSkip ?_
    change VC _ _ _ _
    refine vRegion ?_
    refine oVal tt rfl rfl rfl rfl rfl trivial ?_
    obtain ⟨hg24, h⟩ := grd_inv h
    refine oVal tt rfl rfl rfl rfl rfl hg24 ?_
    refine oVal tt rfl rfl rfl rfl rfl trivial ?_
    refine vNil ?_
    change ∃ _, _
    exact ⟨((l27.set ((i29).toNat) (-1 : Int)), n28, (i29 + (1 : Int))), (En.of ⟨rfl, rfl, rfl, rfl, rfl, rfl, trivial⟩ ⟨rfl, trivial⟩ ⟨rfl, rfl, trivial⟩), h⟩
  ·replace h := cnd_f hb16 h
   refine vExit ?_
   change ∃ _, _
   exact ⟨(l27, n28), (En.of ⟨rfl, rfl, rfl, rfl, trivial⟩ ⟨rfl, trivial⟩ ⟨rfl, rfl, trivial⟩), h⟩
def S_ReachOf_l1 (N : Nat) (g_0 : Grf) (l22 : List Bool) (k : (List Int) → Option (List Int)) : Nat → ((List Int) × Int) → Option (List Int)
 | 0, _ => none
 | n + 1, (l27, i28) =>
  cnd (decide (i28 < g_0.n)) (
   grd (0 ≤ i28 ∧ i28 < ((List.replicate ((g_0.n).toNat) (false : Bool)).length : Int)) <|
   grd (0 ≤ i28 ∧ i28 < (l22.length : Int)) <|
   cnd (l22.getD ((i28).toNat) false) (
    grd (l27.length + 1 ≤ 4294967296) <|
    grd (Rg64 (i28 + (1 : Int))) <|
    S_ReachOf_l1 N g_0 l22 k n ((l27 ++ ([i28] : List Int)), (i28 + (1 : Int)))) (
    grd (Rg64 (i28 + (1 : Int))) <|
    S_ReachOf_l1 N g_0 l22 k n (l27, (i28 + (1 : Int))))) (
   k l27)
def S_ReachOf_l3 (N : Nat) (g_0 : Grf) (k : (List Bool) → Option (List Int)) : Nat → ((List Bool) × Int) → Option (List Int)
 | 0, _ => none
 | n + 1, (l48, i49) =>
  cnd (decide (i49 < (g_0.bars.length : Int))) (
   grd (0 ≤ i49 ∧ i49 < (g_0.bars.length : Int)) <|
   grd (0 ≤ ((g_0.bars.getD ((i49).toNat) (0, 0)).1) ∧ ((g_0.bars.getD ((i49).toNat) (0, 0)).1) < ((List.replicate ((g_0.n).toNat) (false : Bool)).length : Int)) <|
   grd (0 ≤ ((g_0.bars.getD ((i49).toNat) (0, 0)).1) ∧ ((g_0.bars.getD ((i49).toNat) (0, 0)).1) < (l48.length : Int)) <|
   cnd (l48.getD (((g_0.bars.getD ((i49).toNat) (0, 0)).1).toNat) false) (
    grd (0 ≤ ((g_0.bars.getD ((i49).toNat) (0, 0)).2) ∧ ((g_0.bars.getD ((i49).toNat) (0, 0)).2) < ((List.replicate ((g_0.n).toNat) (false : Bool)).length : Int)) <|
    grd (0 ≤ ((g_0.bars.getD ((i49).toNat) (0, 0)).2) ∧ ((g_0.bars.getD ((i49).toNat) (0, 0)).2) < ((l48.set (((g_0.bars.getD ((i49).toNat) (0, 0)).1).toNat) true).length : Int)) <|
    grd (Rg64 (i49 + (1 : Int))) <|
    S_ReachOf_l3 N g_0 k n (((l48.set (((g_0.bars.getD ((i49).toNat) (0, 0)).1).toNat) true).set (((g_0.bars.getD ((i49).toNat) (0, 0)).2).toNat) true), (i49 + (1 : Int)))) (
    grd (0 ≤ ((g_0.bars.getD ((i49).toNat) (0, 0)).2) ∧ ((g_0.bars.getD ((i49).toNat) (0, 0)).2) < ((List.replicate ((g_0.n).toNat) (false : Bool)).length : Int)) <|
    grd (0 ≤ ((g_0.bars.getD ((i49).toNat) (0, 0)).2) ∧ ((g_0.bars.getD ((i49).toNat) (0, 0)).2) < (l48.length : Int)) <|
    cnd (l48.getD (((g_0.bars.getD ((i49).toNat) (0, 0)).2).toNat) false) (
     grd (0 ≤ ((g_0.bars.getD ((i49).toNat) (0, 0)).2) ∧ ((g_0.bars.getD ((i49).toNat) (0, 0)).2) < ((l48.set (((g_0.bars.getD ((i49).toNat) (0, 0)).1).toNat) true).length : Int)) <|
     grd (Rg64 (i49 + (1 : Int))) <|
     S_ReachOf_l3 N g_0 k n (((l48.set (((g_0.bars.getD ((i49).toNat) (0, 0)).1).toNat) true).set (((g_0.bars.getD ((i49).toNat) (0, 0)).2).toNat) true), (i49 + (1 : Int)))) (
     grd (Rg64 (i49 + (1 : Int))) <|
     S_ReachOf_l3 N g_0 k n (l48, (i49 + (1 : Int)))))) (
   k l48)
def S_ReachOf_l2 (N : Nat) (g_0 : Grf) (k : (List Bool) → Option (List Int)) : Nat → ((List Bool) × Int) → Option (List Int)
 | 0, _ => none
 | n + 1, (l36, n37) =>
  cnd (decide (n37 < g_0.n)) (
   S_ReachOf_l3 N g_0 (fun (l46 : List Bool) =>
      grd (Rg64 (n37 + (1 : Int))) <|
      S_ReachOf_l2 N g_0 k n (l46, (n37 + (1 : Int)))) N (l36, (0 : Int))) (
   k l36)
def S_ReachOf (N : Nat) (g_0 : Grf) (v_1 : Int) : Option (List Int) :=
 (S_IsGraph N g_0).bind fun v1 =>
 cnd (!v1) (
  some ([] : List Int)) (
  cnd (decide (v_1 < (0 : Int))) (
   some ([] : List Int)) (
   cnd (decide (v_1 ≥ g_0.n)) (
    some ([] : List Int)) (
    grd (0 ≤ g_0.n ∧ g_0.n ≤ 4294967296) <|
    grd (0 ≤ v_1 ∧ v_1 < ((List.replicate ((g_0.n).toNat) (false : Bool)).length : Int)) <|
    S_ReachOf_l2 N g_0 (fun (l22 : List Bool) =>
       S_ReachOf_l1 N g_0 l22 (fun (l25 : List Int) =>
          some l25) N (([] : List Int), (0 : Int))) N (((List.replicate ((g_0.n).toNat) (false : Bool)).set ((v_1).toNat) true), (0 : Int)))))
set_option maxRecDepth 20000 in
set_option maxHeartbeats 1600000 in
theorem S_ReachOf_w (N : Nat) (g_0 : Grf) (v_1 : Int) (r : List Int) (h : S_ReachOf N g_0 v_1 = some r) : PCall Tryz.prog 171 [gD g_0, .int v_1] [(3, .ints r)] (.row 0 0 r.length) := by
 unfold S_ReachOf at h
 refine pcall_intro (TT := TT) tt Tryz.func171 rfl rfl Tryz.ntmps171 (congrArg Array.toList Tryz.results171) rfl rfl fun w0 => ?_
 refine vSeq ?_
 refine vRegion ?_
 refine oBox rfl rfl rfl rfl rfl rfl rfl rfl rfl ?_
 refine oVal tt rfl rfl rfl rfl rfl trivial ?_
 refine vNil ?_
 change VC _ _ _ _
 refine vSeq ?_
 refine vRegion ?_
 refine oEmpty tt (wNone rfl) rfl rfl rfl rfl ?_
 refine oVal tt rfl rfl rfl rfl rfl trivial ?_
 refine vNil ?_
 change VC _ _ _ _
 iterate 2 refine vSeq ?_
 refine vRegion ?_
 refine oVal tt rfl rfl rfl rfl rfl trivial ?_
 obtain ⟨v1, hc1, h⟩ := bind_inv h
 refine oCall (S_IsGraph_w N g_0 v1 hc1) rfl rfl rfl rfl rfl rfl rfl rfl ⟨⟨rfl, rfl, trivial⟩, trivial⟩ ?_
 iterate 2 refine oVal tt rfl rfl rfl rfl rfl trivial ?_
 refine oSplit rfl rfl rfl (fun hb2 => ?_) (fun hb2 => ?_)
 ·replace h := cnd_t hb2 h
  iterate 2 refine oNoF rfl rfl rfl rfl hb2 rfl rfl ?_
  refine oPick rfl rfl rfl rfl rfl hb2 rfl ?_
  refine oVal tt rfl rfl rfl rfl rfl trivial ?_
  iterate 4 refine oNoF rfl rfl rfl rfl rfl rfl rfl ?_
  refine oPick rfl rfl rfl rfl rfl rfl rfl ?_
  refine vNil ?_
  change VC _ _ _ _
  refine vCondT rfl rfl ?_
  refine vSeq ?_
  refine vRegion ?_
  iterate 2 refine oVal tt rfl rfl rfl rfl rfl trivial ?_
  refine vNil ?_
  change VC _ _ _ _
  refine vNilT 4 9001 3 (.ints []) rfl rfl rfl rfl ?_
  refine vRet ?_
  change ∃ _, _
  cases h
  exact ⟨[9001], _, rfl, ⟨rfl, trivial⟩, rfl, (.eq rfl), rfl⟩
 ·replace h := cnd_f hb2 h
  iterate 2 refine oValG tt rfl rfl rfl rfl rfl hb2 rfl rfl rfl trivial ?_
  refine oPickF rfl rfl rfl rfl rfl hb2 rfl ?_
  refine oVal tt rfl rfl rfl rfl rfl trivial ?_
  refine oSplit rfl rfl rfl (fun hb3 => ?_) (fun hb3 => ?_)
  ·replace h := cnd_t hb3 h
   iterate 4 refine oNoF rfl rfl rfl rfl hb3 rfl rfl ?_
   refine oPick rfl rfl rfl rfl rfl hb3 rfl ?_
   refine vNil ?_
   change VC _ _ _ _
   refine vCondT rfl rfl ?_
   refine vSeq ?_
   refine vRegion ?_
   iterate 2 refine oVal tt rfl rfl rfl rfl rfl trivial ?_
   refine vNil ?_
   change VC _ _ _ _
   refine vNilT 4 9001 3 (.ints []) rfl rfl rfl rfl ?_
   refine vRet ?_
   change ∃ _, _
   cases h
   exact ⟨[9001], _, rfl, ⟨rfl, trivial⟩, rfl, (.eq rfl), rfl⟩
  ·replace h := cnd_f hb3 h
   iterate 4 refine oValG tt rfl rfl rfl rfl rfl hb3 rfl rfl rfl trivial ?_
   refine oPickF rfl rfl rfl rfl rfl hb3 rfl ?_
   refine vNil ?_
   change VC _ _ _ _
   refine vCond rfl (fun hb4 => ?_) (fun hb4 => ?_)
   ·replace h := cnd_t hb4 h
    refine vSeq ?_
    refine vRegion ?_
    iterate 2 refine oVal tt rfl rfl rfl rfl rfl trivial ?_
    refine vNil ?_
    change VC _ _ _ _
    refine vNilT 4 9001 3 (.ints []) rfl rfl rfl rfl ?_
    refine vRet ?_
    change ∃ _, _
    cases h
    exact ⟨[9001], _, rfl, ⟨rfl, trivial⟩, rfl, (.eq rfl), rfl⟩
   ·replace h := cnd_f hb4 h
    refine vSkip ?_
    change VC _ _ _ _
    refine vSeq ?_
    refine vRegion ?_
    iterate 2 refine oVal tt rfl rfl rfl rfl rfl trivial ?_
    obtain ⟨hg5, h⟩ := grd_inv h
    refine oMake tt rfl rfl rfl rfl rfl rfl rfl rfl rfl rfl rfl hg5 ?_
    refine oVal tt rfl rfl rfl rfl rfl trivial ?_
    refine vNil ?_
    change VC _ _ _ _
    refine vSeq ?_
    refine vRegion ?_
    iterate 2 refine oVal tt rfl rfl rfl rfl rfl trivial ?_
    obtain ⟨hg6, h⟩ := grd_inv h
    refine oVal tt rfl rfl rfl rfl rfl hg6 ?_
    refine oStore tt rfl rfl rfl rfl rfl rfl rfl rfl rfl rfl ⟨_, _, rfl, hg6.1, hg6.2⟩ ⟨hg6, trivial⟩ ?_
    refine vNil ?_
    change VC _ _ _ _
    iterate 2 refine vSeq ?_
    refine vRegion ?_
    refine oVal tt rfl rfl rfl rfl rfl trivial ?_
    refine vNil ?_
    change VC _ _ _ _
    refine vJoin (F := fun k => S_ReachOf_l2 N g_0 k) h (α := List Bool) (J := fun (l22 : List Bool) => (⟨[(2, .ptr 2 0), (5, .nil), (6, .row 27 0 ((List.replicate ((g_0.n).toNat) (false : Bool)).length))], [(27, some (4, .bools l22))], [(2, some [.int g_0.n, .ro false (.pairs g_0.bars)])]⟩ : PS)) ?_ ?_
    ·rintro l22 h
     show VC _ _ _ (⟨[(2, .ptr 2 0), (5, .nil), (6, .row 27 0 ((List.replicate ((g_0.n).toNat) (false : Bool)).length))], [(27, some (4, .bools l22))], [(2, some [.int g_0.n, .ro false (.pairs g_0.bars)])]⟩ : PS)
     iterate 2 refine vSeq ?_
     refine vRegion ?_
     refine oVal tt rfl rfl rfl rfl rfl trivial ?_
     refine vNil ?_
     change VC _ _ _ _
     refine vJoin (F := fun k => S_ReachOf_l1 N g_0 l22 k) h (α := List Int) (J := fun (l25 : List Int) => (⟨[(5, .row 93 0 l25.length)], [(93, some (3, .ints l25))], []⟩ : PS)) ?_ ?_
     ·rintro l25 h
      show VC _ _ _ (⟨[(5, .row 93 0 l25.length)], [(93, some (3, .ints l25))], []⟩ : PS)
      refine vSeq ?_
      refine vRegion ?_
      iterate 2 refine oVal tt rfl rfl rfl rfl rfl trivial ?_
      refine vNil ?_
      change VC _ _ _ _
      refine vRet ?_
      change ∃ _, _
      cases h
      exact ⟨[93], _, rfl, ⟨rfl, trivial⟩, rfl, (.eq rfl), rfl⟩
     ·intro k h
      refine vBlock ?_
      refine vNilT 5 93 3 (.ints []) rfl rfl rfl rfl ?_
      refine vLoopS (α := (List Int) × Int) (fun | (l27, i28) => (⟨[(2, .ptr 2 0), (5, .row 93 0 l27.length), (6, .row 27 0 ((List.replicate ((g_0.n).toNat) (false : Bool)).length)), (9, .int i28)], [(93, some (3, .ints l27)), (27, some (4, .bools l22))], [(2, some [.int g_0.n, .ro false (.pairs g_0.bars)])]⟩ : PS)) (S_ReachOf_l1 N g_0 l22 k) h (En.of ⟨rfl, rfl, rfl, rfl, trivial⟩ ⟨rfl, rfl, trivial⟩ ⟨rfl, trivial⟩) (fun _ => rfl) ?_
      rintro n ⟨l27, i28⟩ h
      rw [S_ReachOf_l1] at h
      show VC _ _ _ (⟨[(2, .ptr 2 0), (5, .row 93 0 l27.length), (6, .row 27 0 ((List.replicate ((g_0.n).toNat) (false : Bool)).length)), (9, .int i28)], [(93, some (3, .ints l27)), (27, some (4, .bools l22))], [(2, some [.int g_0.n, .ro false (.pairs g_0.bars)])]⟩ : PS)
      iterate 2 refine vSeq ?_
      refine vRegion ?_
      iterate 4 refine oVal tt rfl rfl rfl rfl rfl trivial ?_
      refine vNil ?_
      change VC _ _ _ _
      refine vCond rfl (fun hb7 => ?_) (fun hb7 => ?_)
      ·replace h := cnd_t hb7 h
       refine vSkip ?_
       change VC _ _ _ _
       refine vSeq ?_
       refine vBlock ?_
       refine vSeq ?_
       refine vRegion ?_
       iterate 2 refine oVal tt rfl rfl rfl rfl rfl trivial ?_
       obtain ⟨hg8, h⟩ := grd_inv h
       refine oVal tt rfl rfl rfl rfl rfl hg8 ?_
       obtain ⟨hg9, h⟩ := grd_inv h
       refine oVal tt rfl rfl rfl rfl rfl hg9 ?_
       refine vNil ?_
       change VC _ _ _ _
       refine vCond rfl (fun hb10 => ?_) (fun hb10 => ?_)
       ·replace h := cnd_t hb10 h
        refine vRegion ?_
        iterate 2 refine oVal tt rfl rfl rfl rfl rfl trivial ?_
        refine oBuild tt rfl rfl rfl rfl rfl rfl rfl rfl rfl rfl rfl ?_
        obtain ⟨hg11, h⟩ := grd_inv h
        refine oAppend tt rfl rfl rfl rfl rfl rfl rfl rfl rfl rfl rfl rfl rfl rfl rfl rfl (Nat.le_of_eq (Nat.zero_add _)) hg11 ?_
        refine oVal tt rfl rfl rfl rfl rfl trivial ?_
        refine vNil ?_
        change VC _ _ _ _
        refine vRegion ?_
        refine oVal tt rfl rfl rfl rfl rfl trivial ?_
        obtain ⟨hg12, h⟩ := grd_inv h
        refine oVal tt rfl rfl rfl rfl rfl hg12 ?_
        refine oVal tt rfl rfl rfl rfl rfl trivial ?_
        refine vNil ?_
        change ∃ _, _
        exact ⟨((l27 ++ ([i28] : List Int)), (i28 + (1 : Int))), (En.of ⟨rfl, rfl, rfl, rfl, trivial⟩ ⟨rfl, rfl, trivial⟩ ⟨rfl, trivial⟩), h⟩
       ·replace h := cnd_f hb10 h
        refine vSkip ?_
        change VC _ _ _ _
        refine vRegion ?_
        refine oVal tt rfl rfl rfl rfl rfl trivial ?_
        obtain ⟨hg13, h⟩ := grd_inv h
        refine oVal tt rfl rfl rfl rfl rfl hg13 ?_
        refine oVal tt rfl rfl rfl rfl rfl trivial ?_
        refine vNil ?_
        change ∃ _, _
        exact ⟨(l27, (i28 + (1 : Int))), (En.of ⟨rfl, rfl, rfl, rfl, trivial⟩ ⟨rfl, rfl, trivial⟩ ⟨rfl, trivial⟩), h⟩
      ·replace h := cnd_f hb7 h
       refine vExit ?_
       change ∃ _, _
       exact ⟨l27, (En.of ⟨rfl, trivial⟩ ⟨rfl, trivial⟩ trivial), h⟩
    ·intro k h
     refine vBlock ?_
     refine vLoopS (α := (List Bool) × Int) (fun | (l36, n37) => (⟨[(2, .ptr 2 0), (5, .nil), (6, .row 27 0 ((List.replicate ((g_0.n).toNat) (false : Bool)).length)), (7, .int n37)], [(27, some (4, .bools l36))], [(2, some [.int g_0.n, .ro false (.pairs g_0.bars)])]⟩ : PS)) (S_ReachOf_l2 N g_0 k) h (En.of ⟨rfl, rfl, rfl, rfl, trivial⟩ ⟨rfl, trivial⟩ ⟨rfl, trivial⟩) (fun _ => rfl) ?_
     rintro n ⟨l36, n37⟩ h
     rw [S_ReachOf_l2] at h
     show VC _ _ _ (⟨[(2, .ptr 2 0), (5, .nil), (6, .row 27 0 ((List.replicate ((g_0.n).toNat) (false : Bool)).length)), (7, .int n37)], [(27, some (4, .bools l36))], [(2, some [.int g_0.n, .ro false (.pairs g_0.bars)])]⟩ : PS)
     iterate 2 refine vSeq ?_
     refine vRegion ?_
     iterate 4 refine oVal tt rfl rfl rfl rfl rfl trivial ?_
     refine vNil ?_
     change VC _ _ _ _
     refine vCond rfl (fun hb14 => ?_) (fun hb14 => ?_)
     ·replace h := cnd_t hb14 h
      refine vSkip ?_
      change VC _ _ _ _
      refine vSeq ?_
      refine vBlock ?_
      refine vSeq ?_
      refine vRegion ?_
      refine oVal tt rfl rfl rfl rfl rfl trivial ?_
      refine vNil ?_
      change VC _ _ _ _
      refine vJoin (F := fun k => S_ReachOf_l3 N g_0 k) h (α := List Bool) (J := fun (l46 : List Bool) => (⟨[(2, .ptr 2 0), (5, .nil), (6, .row 27 0 ((List.replicate ((g_0.n).toNat) (false : Bool)).length)), (7, .int n37)], [(27, some (4, .bools l46))], [(2, some [.int g_0.n, .ro false (.pairs g_0.bars)])]⟩ : PS)) ?_ ?_
      ·rintro l46 h
       show VC _ _ _ (⟨[(2, .ptr 2 0), (5, .nil), (6, .row 27 0 ((List.replicate ((g_0.n).toNat) (false : Bool)).length)), (7, .int n37)], [(27, some (4, .bools l46))], [(2, some [.int g_0.n, .ro false (.pairs g_0.bars)])]⟩ : PS)
       refine vRegion ?_
       refine oVal tt rfl rfl rfl rfl rfl trivial ?_
       obtain ⟨hg15, h⟩ := grd_inv h
       refine oVal tt rfl rfl rfl rfl rfl hg15 ?_
       refine oVal tt rfl rfl rfl rfl rfl trivial ?_
       refine vNil ?_
       change ∃ _, _
       exact ⟨(l46, (n37 + (1 : Int))), (En.of ⟨rfl, rfl, rfl, rfl, trivial⟩ ⟨rfl, trivial⟩ ⟨rfl, trivial⟩), h⟩
      ·intro k h
       refine vBlock ?_
       refine vLoopS (α := (List Bool) × Int) (fun | (l48, i49) => (⟨[(2, .ptr 2 0), (5, .nil), (6, .row 27 0 ((List.replicate ((g_0.n).toNat) (false : Bool)).length)), (7, .int n37), (8, .int i49)], [(27, some (4, .bools l48))], [(2, some [.int g_0.n, .ro false (.pairs g_0.bars)])]⟩ : PS)) (S_ReachOf_l3 N g_0 k) h (En.of ⟨rfl, rfl, rfl, rfl, rfl, trivial⟩ ⟨rfl, trivial⟩ ⟨rfl, trivial⟩) (fun _ => rfl) ?_
       rintro n ⟨l48, i49⟩ h
       rw [S_ReachOf_l3] at h
       show VC _ _ _ (⟨[(2, .ptr 2 0), (5, .nil), (6, .row 27 0 ((List.replicate ((g_0.n).toNat) (false : Bool)).length)), (7, .int n37), (8, .int i49)], [(27, some (4, .bools l48))], [(2, some [.int g_0.n, .ro false (.pairs g_0.bars)])]⟩ : PS)
       iterate 2 refine vSeq ?_
       refine vRegion ?_
       iterate 5 refine oVal tt rfl rfl rfl rfl rfl trivial ?_
       refine vNil ?_
       change VC _ _ _ _
       refine vCond rfl (fun hb16 => ?_) (fun hb16 => ?_)
       ·replace h := cnd_t hb16 h
        refine vSkip ?_
        change VC _ _ _ _
        refine vSeq ?_
        refine vBlock ?_
        refine vSeq ?_
        refine vRegion ?_
        iterate 4 refine oVal tt rfl rfl rfl rfl rfl trivial ?_
        obtain ⟨hg17, h⟩ := grd_inv h
        refine oVal tt rfl rfl rfl rfl rfl hg17 ?_
        iterate 2 refine oVal tt rfl rfl rfl rfl rfl trivial ?_
        obtain ⟨hg18, h⟩ := grd_inv h
        refine oVal tt rfl rfl rfl rfl rfl hg18 ?_
        obtain ⟨hg19, h⟩ := grd_inv h
        refine oVal tt rfl rfl rfl rfl rfl hg19 ?_
        refine oVal tt rfl rfl rfl rfl rfl trivial ?_
        refine oSplit rfl rfl rfl (fun hb20 => ?_) (fun hb20 => ?_)
        ·replace h := cnd_t hb20 h
         iterate 9 refine oNoF rfl rfl rfl rfl hb20 rfl rfl ?_
         refine oPick rfl rfl rfl rfl rfl hb20 rfl ?_
         refine vNil ?_
         change VC _ _ _ _
         refine vCondT rfl rfl ?_
         refine vSeq ?_
         refine vRegion ?_
         iterate 4 refine oVal tt rfl rfl rfl rfl rfl trivial ?_
         refine oVal tt rfl rfl rfl rfl rfl hg17 ?_
         iterate 2 refine oVal tt rfl rfl rfl rfl rfl trivial ?_
         refine oVal tt rfl rfl rfl rfl rfl hg18 ?_
         refine oStore tt rfl rfl rfl rfl rfl rfl rfl rfl rfl rfl ⟨_, _, rfl, hg19.1, hg19.2⟩ ⟨hg19, trivial⟩ ?_
         refine vNil ?_
         change VC _ _ _ _
         refine vRegion ?_
         iterate 4 refine oVal tt rfl rfl rfl rfl rfl trivial ?_
         refine oVal tt rfl rfl rfl rfl rfl hg17 ?_
         iterate 2 refine oVal tt rfl rfl rfl rfl rfl trivial ?_
         obtain ⟨hg21, h⟩ := grd_inv h
         refine oVal tt rfl rfl rfl rfl rfl hg21 ?_
         obtain ⟨hg22, h⟩ := grd_inv h
         refine oStore tt rfl rfl rfl rfl rfl rfl rfl rfl rfl rfl ⟨_, _, rfl, hg22.1, hg22.2⟩ ⟨hg22, trivial⟩ ?_
         refine vNil ?_
         change VC _ _ _ _
         refine vRegion ?_
         refine oVal tt rfl rfl rfl rfl rfl trivial ?_
         obtain ⟨hg23, h⟩ := grd_inv h
         refine oVal tt rfl rfl rfl rfl rfl hg23 ?_
         refine oVal tt rfl rfl rfl rfl rfl trivial ?_
         refine vNil ?_
         change ∃ _, _
         exact ⟨(((l48.set (((g_0.bars.getD ((i49).toNat) (0, 0)).1).toNat) true).set (((g_0.bars.getD ((i49).toNat) (0, 0)).2).toNat) true), (i49 + (1 : Int))), (En.of ⟨rfl, rfl, rfl, rfl, rfl, trivial⟩ ⟨rfl, trivial⟩ ⟨rfl, trivial⟩), h⟩
        ·replace h := cnd_f hb20 h
         iterate 4 refine oValG tt rfl rfl rfl rfl rfl hb20 rfl rfl rfl trivial ?_
         refine oValG tt rfl rfl rfl rfl rfl hb20 rfl rfl rfl hg17 ?_
         iterate 2 refine oValG tt rfl rfl rfl rfl rfl hb20 rfl rfl rfl trivial ?_
         obtain ⟨hg24, h⟩ := grd_inv h
         refine oValG tt rfl rfl rfl rfl rfl hb20 rfl rfl rfl hg24 ?_
         obtain ⟨hg25, h⟩ := grd_inv h
         refine oValG tt rfl rfl rfl rfl rfl hb20 rfl rfl rfl hg25 ?_
         refine oPickF rfl rfl rfl rfl rfl hb20 rfl ?_
         refine vNil ?_
         change VC _ _ _ _
         refine vCond rfl (fun hb26 => ?_) (fun hb26 => ?_)
         ·replace h := cnd_t hb26 h
          refine vSeq ?_
          refine vRegion ?_
          iterate 4 refine oVal tt rfl rfl rfl rfl rfl trivial ?_
          refine oVal tt rfl rfl rfl rfl rfl hg17 ?_
          iterate 2 refine oVal tt rfl rfl rfl rfl rfl trivial ?_
          refine oVal tt rfl rfl rfl rfl rfl hg18 ?_
          refine oStore tt rfl rfl rfl rfl rfl rfl rfl rfl rfl rfl ⟨_, _, rfl, hg19.1, hg19.2⟩ ⟨hg19, trivial⟩ ?_
          refine vNil ?_
          change VC _ _ _ _
          refine vRegion ?_
          iterate 4 refine oVal tt rfl rfl rfl rfl rfl trivial ?_
          refine oVal tt rfl rfl rfl rfl rfl hg17 ?_
          iterate 2 refine oVal tt rfl rfl rfl rfl rfl trivial ?_
          refine oVal tt rfl rfl rfl rfl rfl hg24 ?_
          obtain ⟨hg27, h⟩ := grd_inv h
          refine oStore tt rfl rfl rfl rfl rfl rfl rfl rfl rfl rfl ⟨_, _, rfl, hg27.1, hg27.2⟩ ⟨hg27, trivial⟩ ?_
          refine vNil ?_
          change VC _ _ _ _
          refine vRegion ?_
          refine oVal tt rfl rfl rfl rfl rfl trivial ?_
          obtain ⟨hg28, h⟩ := grd_inv h
          refine oVal tt rfl rfl rfl rfl rfl hg28 ?_
          refine oVal tt rfl rfl rfl rfl rfl trivial ?_
          refine vNil ?_
          change ∃ _, _
          exact ⟨(((l48.set (((g_0.bars.getD ((i49).toNat) (0, 0)).1).toNat) true).set (((g_0.bars.getD ((i49).toNat) (0, 0)).2).toNat) true), (i49 + (1 : Int))), (En.of ⟨rfl, rfl, rfl, rfl, rfl, trivial⟩ ⟨rfl, trivial⟩ ⟨rfl, trivial⟩), h⟩
         ·replace h := cnd_f hb26 h
          refine vSkip ?_
          change VC _ _ _ _
          refine vRegion ?_
          refine oVal tt rfl rfl rfl rfl rfl trivial ?_
          obtain ⟨hg29, h⟩ := grd_inv h
          refine oVal tt rfl rfl rfl rfl rfl hg29 ?_
          refine oVal tt rfl rfl rfl rfl rfl trivial ?_
          refine vNil ?_
          change ∃ _, _
          exact ⟨(l48, (i49 + (1 : Int))), (En.of ⟨rfl, rfl, rfl, rfl, rfl, trivial⟩ ⟨rfl, trivial⟩ ⟨rfl, trivial⟩), h⟩
       ·replace h := cnd_f hb16 h
        refine vExit ?_
        change ∃ _, _
        exact ⟨l48, (En.of ⟨rfl, rfl, rfl, rfl, trivial⟩ ⟨rfl, trivial⟩ ⟨rfl, trivial⟩), h⟩
     ·replace h := cnd_f hb14 h
      refine vExit ?_
      change ∃ _, _
      exact ⟨l36, (En.of ⟨rfl, rfl, rfl, trivial⟩ ⟨rfl, trivial⟩ ⟨rfl, trivial⟩), h⟩
end Go.Proofs.YtmoamglpocjhgaaGreat
namespace Go.Proofs.YtmoamglpocjhgaaGreat
open Go.RowKit
def S_l23Part_l1 (N : Nat) (g_0 : Grf) (set_1 : List Int) (k : (List Int) → Option (Grf)) : Nat → ((List Int) × Int) → Option (Grf)
 | 0, _ => none
 | n + 1, (l12, v13) =>
  cnd (decide (v13 < g_0.n)) (
   (S_l2Has N set_1 v13).bind fun v15 =>
   cnd (!v15) (
    grd (l12.length + 1 ≤ 4294967296) <|
    grd (Rg64 (v13 + (1 : Int))) <|
    S_l23Part_l1 N g_0 set_1 k n ((l12 ++ ([v13] : List Int)), (v13 + (1 : Int)))) (
    grd (Rg64 (v13 + (1 : Int))) <|
    S_l23Part_l1 N g_0 set_1 k n (l12, (v13 + (1 : Int))))) (
   k l12)
def S_l23Part (N : Nat) (g_0 : Grf) (set_1 : List Int) : Option (Grf) :=
 S_l23Part_l1 N g_0 set_1 (fun (l7 : List Int) =>
    (S_WithoutPoints N g_0 l7).bind fun v8 =>
    some (⟨v8.n, v8.bars⟩ : Grf)) N (([] : List Int), (0 : Int))
set_option maxRecDepth 20000 in
set_option maxHeartbeats 1600000 in
theorem S_l23Part_w (N : Nat) (g_0 : Grf) (set_1 : List Int) (r : Grf) (h : S_l23Part N g_0 set_1 = some r) : PCall Tryz.prog 33 [gD g_0, .ro false (.ints set_1)] [(39, .pairs r.bars)] (.agg [.int r.n, .row 0 0 r.bars.length]) := by
 unfold S_l23Part at h
 refine pcall_intro (TT := TT) tt Tryz.func33 rfl rfl Tryz.ntmps33 (congrArg Array.toList Tryz.results33) rfl rfl fun w0 => ?_
 refine vSeq ?_
 refine vRegion ?_
 refine oBox rfl rfl rfl rfl rfl rfl rfl rfl rfl ?_
 refine oAlloc tt rfl rfl rfl rfl rfl rfl rfl rfl rfl ?_
 refine vNil ?_
 change VC _ _ _ _
 refine vSeq ?_
 refine vRegion ?_
 refine oEmpty tt (wNone rfl) rfl rfl rfl rfl ?_
 refine oVal tt rfl rfl rfl rfl rfl trivial ?_
 refine vNil ?_
 change VC _ _ _ _
 iterate 2 refine vSeq ?_
 refine vRegion ?_
 refine oVal tt rfl rfl rfl rfl rfl trivial ?_
 refine vNil ?_
 change VC _ _ _ _
 refine vJoin (F := fun k => S_l23Part_l1 N g_0 set_1 k) h (α := List Int) (J := fun (l7 : List Int) => (⟨[(2, .ptr 2 0), (4, .ptr 4 0), (5, .row 21 0 l7.length)], [(21, some (3, .ints l7))], [(2, some [.int g_0.n, .ro false (.pairs g_0.bars)]), (4, some [.int (0 : Int), .nil])]⟩ : PS)) ?_ ?_
 ·rintro l7 h
  show VC _ _ _ (⟨[(2, .ptr 2 0), (4, .ptr 4 0), (5, .row 21 0 l7.length)], [(21, some (3, .ints l7))], [(2, some [.int g_0.n, .ro false (.pairs g_0.bars)]), (4, some [.int (0 : Int), .nil])]⟩ : PS)
  refine vSeq ?_
  refine vRegion ?_
  iterate 2 refine oVal tt rfl rfl rfl rfl rfl trivial ?_
  obtain ⟨v8, hc1, h⟩ := bind_inv h
  refine oCall (S_WithoutPoints_w N g_0 l7 v8 hc1) rfl rfl rfl rfl rfl rfl rfl rfl ⟨⟨rfl, rfl, trivial⟩, (.inl ⟨rfl, rfl⟩), trivial⟩ ?_
  refine oStore tt rfl rfl rfl rfl rfl rfl rfl rfl rfl rfl rfl ⟨trivial, trivial, trivial⟩ ?_
  refine vNil ?_
  change VC _ _ _ _
  refine vRet ?_
  change ∃ _, _
  cases h
  exact ⟨[1240], _, rfl, ⟨rfl, trivial⟩, rfl, (.eq rfl), rfl⟩
 ·intro k h
  refine vBlock ?_
  refine vNilT 5 21 3 (.ints []) rfl rfl rfl rfl ?_
  refine vLoopS (α := (List Int) × Int) (fun | (l12, v13) => (⟨[(1, .ro false (.ints set_1)), (2, .ptr 2 0), (4, .ptr 4 0), (5, .row 21 0 l12.length), (6, .int v13)], [(21, some (3, .ints l12))], [(2, some [.int g_0.n, .ro false (.pairs g_0.bars)]), (4, some [.int (0 : Int), .nil])]⟩ : PS)) (S_l23Part_l1 N g_0 set_1 k) h (En.of ⟨rfl, rfl, rfl, rfl, rfl, trivial⟩ ⟨rfl, trivial⟩ ⟨rfl, rfl, trivial⟩) (fun _ => rfl) ?_
  rintro n ⟨l12, v13⟩ h
  rw [S_l23Part_l1] at h
  show VC _ _ _ (⟨[(1, .ro false (.ints set_1)), (2, .ptr 2 0), (4, .ptr 4 0), (5, .row 21 0 l12.length), (6, .int v13)], [(21, some (3, .ints l12))], [(2, some [.int g_0.n, .ro false (.pairs g_0.bars)]), (4, some [.int (0 : Int), .nil])]⟩ : PS)
  iterate 2 refine vSeq ?_
  refine vRegion ?_
  iterate 4 refine oVal tt rfl rfl rfl rfl rfl trivial ?_
  refine vNil ?_
  change VC _ _ _ _
  refine vCond rfl (fun hb2 => ?_) (fun hb2 => ?_)
  ·replace h := cnd_t hb2 h
   refine vSkip ?_
   change VC _ _ _ _
   refine vSeq ?_
   refine vBlock ?_
   refine vSeq ?_
   refine vRegion ?_
   iterate 2 refine oVal tt rfl rfl rfl rfl rfl trivial ?_
   obtain ⟨v15, hc3, h⟩ := bind_inv h
   refine oCall (S_l2Has_w N set_1 v13 v15 hc3) rfl rfl rfl rfl rfl rfl rfl rfl ⟨rfl, rfl, trivial⟩ ?_
   refine oVal tt rfl rfl rfl rfl rfl trivial ?_
   refine vNil ?_
   change VC _ _ _ _
   refine vCond rfl (fun hb4 => ?_) (fun hb4 => ?_)
   ·replace h := cnd_t hb4 h
    refine vRegion ?_
    iterate 2 refine oVal tt rfl rfl rfl rfl rfl trivial ?_
    refine oBuild tt rfl rfl rfl rfl rfl rfl rfl rfl rfl rfl rfl ?_
    obtain ⟨hg5, h⟩ := grd_inv h
    refine oAppend tt rfl rfl rfl rfl rfl rfl rfl rfl rfl rfl rfl rfl rfl rfl rfl rfl (Nat.le_of_eq (Nat.zero_add _)) hg5 ?_
    refine oVal tt rfl rfl rfl rfl rfl trivial ?_
    refine vNil ?_
    change VC _ _ _ _
    refine vRegion ?_
    refine oVal tt rfl rfl rfl rfl rfl trivial ?_
    obtain ⟨hg6, h⟩ := grd_inv h
    refine oVal tt rfl rfl rfl rfl rfl hg6 ?_
    refine oVal tt rfl rfl rfl rfl rfl trivial ?_
    refine vNil ?_
    change ∃ _, _
    exact ⟨((l12 ++ ([v13] : List Int)), (v13 + (1 : Int))), (En.of ⟨rfl, rfl, rfl, rfl, rfl, trivial⟩ ⟨rfl, trivial⟩ ⟨rfl, rfl, trivial⟩), h⟩
   ·replace h := cnd_f hb4 h
    refine vSkip ?_
    change VC _ _ _ _
    refine vRegion ?_
    refine oVal tt rfl rfl rfl rfl rfl trivial ?_
    obtain ⟨hg7, h⟩ := grd_inv h
    refine oVal tt rfl rfl rfl rfl rfl hg7 ?_
    refine oVal tt rfl rfl rfl rfl rfl trivial ?_
    refine vNil ?_
    change ∃ _, _
    exact ⟨(l12, (v13 + (1 : Int))), (En.of ⟨rfl, rfl, rfl, rfl, rfl, trivial⟩ ⟨rfl, trivial⟩ ⟨rfl, rfl, trivial⟩), h⟩
  ·replace h := cnd_f hb2 h
   refine vExit ?_
   change ∃ _, _
   exact ⟨l12, (En.of ⟨rfl, rfl, rfl, trivial⟩ ⟨rfl, trivial⟩ ⟨rfl, rfl, trivial⟩), h⟩
def I_setOf_l1 (N : Nat) (mask_0 : Int) (n_1 : Int) (k : (List Int) → Option (List Int)) : Nat → ((List Int) × Int) → Option (List Int)
 | 0, _ => none
 | n + 1, (l5, x6) =>
  cnd (decide (x6 < n_1)) (
   grd (0 ≤ x6) <|
   cnd ((andI (shrI mask_0 x6) (1 : Int)) == (1 : Int)) (
    grd (l5.length + 1 ≤ 4294967296) <|
    grd (Rg64 (x6 + (1 : Int))) <|
    I_setOf_l1 N mask_0 n_1 k n ((l5 ++ ([x6] : List Int)), (x6 + (1 : Int)))) (
    grd (Rg64 (x6 + (1 : Int))) <|
    I_setOf_l1 N mask_0 n_1 k n (l5, (x6 + (1 : Int))))) (
   k l5)
def I_setOf (N : Nat) (mask_0 : Int) (n_1 : Int) : Option (List Int) :=
 I_setOf_l1 N mask_0 n_1 (fun (l3 : List Int) =>
    some l3) N (([] : List Int), (0 : Int))
set_option maxRecDepth 20000 in
set_option maxHeartbeats 1600000 in
theorem I_setOf_w (N : Nat) (mask_0 : Int) (n_1 : Int) (r : List Int) (h : I_setOf N mask_0 n_1 = some r) : PCall Tryz.prog 38 [.int mask_0, .int n_1] [(3, .ints r)] (.row 0 0 r.length) := by
 unfold I_setOf at h
 refine pcall_intro (TT := TT) tt Tryz.func38 rfl rfl Tryz.ntmps38 (congrArg Array.toList Tryz.results38) rfl rfl fun w0 => ?_
 refine vSeq ?_
 refine vRegion ?_
 refine oVal tt rfl rfl rfl rfl rfl trivial ?_
 refine vNil ?_
 change VC _ _ _ _
 refine vSeq ?_
 refine vRegion ?_
 refine oEmpty tt (wNone rfl) rfl rfl rfl rfl ?_
 refine oVal tt rfl rfl rfl rfl rfl trivial ?_
 refine vNil ?_
 change VC _ _ _ _
 iterate 2 refine vSeq ?_
 refine vRegion ?_
 iterate 2 refine oVal tt rfl rfl rfl rfl rfl trivial ?_
 refine vNil ?_
 change VC _ _ _ _
 refine vJoin (F := fun k => I_setOf_l1 N mask_0 n_1 k) h (α := List Int) (J := fun (l3 : List Int) => (⟨[(5, .row 20 0 l3.length)], [(20, some (3, .ints l3))], []⟩ : PS)) ?_ ?_
 ·rintro l3 h
  show VC _ _ _ (⟨[(5, .row 20 0 l3.length)], [(20, some (3, .ints l3))], []⟩ : PS)
  refine vSeq ?_
  refine vRegion ?_
  iterate 2 refine oVal tt rfl rfl rfl rfl rfl trivial ?_
  refine vNil ?_
  change VC _ _ _ _
  refine vRet ?_
  change ∃ _, _
  cases h
  exact ⟨[20], _, rfl, ⟨rfl, trivial⟩, rfl, (.eq rfl), rfl⟩
 ·intro k h
  refine vBlock ?_
  refine vNilT 5 20 3 (.ints []) rfl rfl rfl rfl ?_
  refine vLoopS (α := (List Int) × Int) (fun | (l5, x6) => (⟨[(0, .int mask_0), (5, .row 20 0 l5.length), (8, .int n_1), (9, .int x6)], [(20, some (3, .ints l5))], []⟩ : PS)) (I_setOf_l1 N mask_0 n_1 k) h (En.of ⟨rfl, rfl, rfl, rfl, trivial⟩ ⟨rfl, trivial⟩ trivial) (fun _ => rfl) ?_
  rintro n ⟨l5, x6⟩ h
  rw [I_setOf_l1] at h
  show VC _ _ _ (⟨[(0, .int mask_0), (5, .row 20 0 l5.length), (8, .int n_1), (9, .int x6)], [(20, some (3, .ints l5))], []⟩ : PS)
  refine vSeq ?_
  refine vRegion ?_
  refine oVal tt rfl rfl rfl rfl rfl trivial ?_
  refine vNil ?_
  change VC _ _ _ _
  refine vSeq ?_
  refine vCond rfl (fun hb1 => ?_) (fun hb1 => ?_)
  ·replace h := cnd_t hb1 h
   refine vSkip ?_
   change VC _ _ _ _
   refine vSeq ?_
   refine vBlock ?_
   refine vSeq ?_
   refine vRegion ?_
   iterate 2 refine oVal tt rfl rfl rfl rfl rfl trivial ?_
   refine vNil ?_
   change VC _ _ _ _
   refine vSeq ?_
   refine vRegion ?_
   iterate 2 refine oVal tt rfl rfl rfl rfl rfl trivial ?_
   obtain ⟨hg2, h⟩ := grd_inv h
   refine oVal tt rfl rfl rfl rfl rfl hg2 ?_
   iterate 2 refine oVal tt rfl rfl rfl rfl rfl trivial ?_
   refine vNil ?_
   change VC _ _ _ _
   refine vCond rfl (fun hb3 => ?_) (fun hb3 => ?_)
   ·replace h := cnd_t hb3 h
    refine vRegion ?_
    iterate 2 refine oVal tt rfl rfl rfl rfl rfl trivial ?_
    refine oBuild tt rfl rfl rfl rfl rfl rfl rfl rfl rfl rfl rfl ?_
    obtain ⟨hg4, h⟩ := grd_inv h
    refine oAppend tt rfl rfl rfl rfl rfl rfl rfl rfl rfl rfl rfl rfl rfl rfl rfl rfl (Nat.le_of_eq (Nat.zero_add _)) hg4 ?_
    refine oVal tt rfl rfl rfl rfl rfl trivial ?_
    refine vNil ?_
    change VC _ _ _ _
    refine vRegion ?_
    obtain ⟨hg5, h⟩ := grd_inv h
    refine oVal tt rfl rfl rfl rfl rfl hg5 ?_
    refine oVal tt rfl rfl rfl rfl rfl trivial ?_
    refine vNil ?_
    change ∃ _, _
    exact ⟨((l5 ++ ([x6] : List Int)), (x6 + (1 : Int))), (En.of ⟨rfl, rfl, rfl, rfl, trivial⟩ ⟨rfl, trivial⟩ trivial), h⟩
   ·replace h := cnd_f hb3 h
    refine vSkip ?_
    change VC _ _ _ _
    refine vRegion ?_
    obtain ⟨hg6, h⟩ := grd_inv h
    refine oVal tt rfl rfl rfl rfl rfl hg6 ?_
    refine oVal tt rfl rfl rfl rfl rfl trivial ?_
    refine vNil ?_
    change ∃ _, _
    exact ⟨(l5, (x6 + (1 : Int))), (En.of ⟨rfl, rfl, rfl, rfl, trivial⟩ ⟨rfl, trivial⟩ trivial), h⟩
  ·replace h := cnd_f hb1 h
   refine vExit ?_
   change ∃ _, _
   exact ⟨l5, (En.of ⟨rfl, trivial⟩ ⟨rfl, trivial⟩ trivial), h⟩
def I_CountBar_l1 (N : Nat) (g_0 : Grf) (a_1 : Int) (b_2 : Int) (k : Int → Option (Int)) : Nat → (Int × Int) → Option (Int)
 | 0, _ => none
 | n + 1, (n5, x6) =>
  cnd (decide (x6 < (g_0.bars.length : Int))) (
   grd (0 ≤ x6 ∧ x6 < (g_0.bars.length : Int)) <|
   cnd (((g_0.bars.getD ((x6).toNat) (0, 0)).1) == a_1) (
    cnd (((g_0.bars.getD ((x6).toNat) (0, 0)).2) == b_2) (
     grd (Rg64 (n5 + (1 : Int))) <|
     grd (Rg64 (x6 + (1 : Int))) <|
     I_CountBar_l1 N g_0 a_1 b_2 k n ((n5 + (1 : Int)), (x6 + (1 : Int)))) (
     cnd (((g_0.bars.getD ((x6).toNat) (0, 0)).1) == b_2) (
      cnd (((g_0.bars.getD ((x6).toNat) (0, 0)).2) == a_1) (
       grd (Rg64 (n5 + (1 : Int))) <|
       grd (Rg64 (x6 + (1 : Int))) <|
       I_CountBar_l1 N g_0 a_1 b_2 k n ((n5 + (1 : Int)), (x6 + (1 : Int)))) (
       grd (Rg64 (x6 + (1 : Int))) <|
       I_CountBar_l1 N g_0 a_1 b_2 k n (n5, (x6 + (1 : Int))))) (
      grd (Rg64 (x6 + (1 : Int))) <|
      I_CountBar_l1 N g_0 a_1 b_2 k n (n5, (x6 + (1 : Int)))))) (
    cnd (((g_0.bars.getD ((x6).toNat) (0, 0)).1) == b_2) (
     cnd (((g_0.bars.getD ((x6).toNat) (0, 0)).2) == a_1) (
      grd (Rg64 (n5 + (1 : Int))) <|
      grd (Rg64 (x6 + (1 : Int))) <|
      I_CountBar_l1 N g_0 a_1 b_2 k n ((n5 + (1 : Int)), (x6 + (1 : Int)))) (
      grd (Rg64 (x6 + (1 : Int))) <|
      I_CountBar_l1 N g_0 a_1 b_2 k n (n5, (x6 + (1 : Int))))) (
     grd (Rg64 (x6 + (1 : Int))) <|
     I_CountBar_l1 N g_0 a_1 b_2 k n (n5, (x6 + (1 : Int)))))) (
   k n5)
def I_CountBar (N : Nat) (g_0 : Grf) (a_1 : Int) (b_2 : Int) : Option (Int) :=
 I_CountBar_l1 N g_0 a_1 b_2 (fun (n3 : Int) =>
    some n3) N ((0 : Int), (0 : Int))
set_option maxRecDepth 20000 in
set_option maxHeartbeats 1600000 in
theorem I_CountBar_w (N : Nat) (g_0 : Grf) (a_1 : Int) (b_2 : Int) (r : Int) (h : I_CountBar N g_0 a_1 b_2 = some r) : PCall Tryz.prog 69 [gD g_0, .int a_1, .int b_2] [] (.int r) := by
 unfold I_CountBar at h
 refine pcall_intro (TT := TT) tt Tryz.func69 rfl rfl Tryz.ntmps69 (congrArg Array.toList Tryz.results69) rfl rfl fun w0 => ?_
 refine vSeq ?_
 refine vRegion ?_
 refine oBox rfl rfl rfl rfl rfl rfl rfl rfl rfl ?_
 refine oVal tt rfl rfl rfl rfl rfl trivial ?_
 refine vNil ?_
 change VC _ _ _ _
 refine vSeq ?_
 refine vRegion ?_
 refine oVal tt rfl rfl rfl rfl rfl trivial ?_
 refine vNil ?_
 change VC _ _ _ _
 iterate 2 refine vSeq ?_
 refine vRegion ?_
 iterate 4 refine oVal tt rfl rfl rfl rfl rfl trivial ?_
 refine vNil ?_
 change VC _ _ _ _
 refine vJoin (F := fun k => I_CountBar_l1 N g_0 a_1 b_2 k) h (α := Int) (J := fun (n3 : Int) => (⟨[(7, .int n3)], [], []⟩ : PS)) ?_ ?_
 ·rintro n3 h
  show VC _ _ _ (⟨[(7, .int n3)], [], []⟩ : PS)
  refine vSeq ?_
  refine vRegion ?_
  iterate 2 refine oVal tt rfl rfl rfl rfl rfl trivial ?_
  refine vNil ?_
  change VC _ _ _ _
  refine vRet ?_
  change ∃ _, _
  cases h
  exact ⟨[], _, rfl, trivial, rfl, (.eq rfl), rfl⟩
 ·intro k h
  refine vBlock ?_
  refine vLoopS (α := Int × Int) (fun | (n5, x6) => (⟨[(1, .int a_1), (2, .int b_2), (7, .int n5), (11, .ro false (.pairs g_0.bars)), (12, .int (g_0.bars.length : Int)), (13, .int x6)], [], []⟩ : PS)) (I_CountBar_l1 N g_0 a_1 b_2 k) h (En.of ⟨rfl, rfl, rfl, rfl, rfl, rfl, trivial⟩ trivial trivial) (fun _ => rfl) ?_
  rintro n ⟨n5, x6⟩ h
  rw [I_CountBar_l1] at h
  show VC _ _ _ (⟨[(1, .int a_1), (2, .int b_2), (7, .int n5), (11, .ro false (.pairs g_0.bars)), (12, .int (g_0.bars.length : Int)), (13, .int x6)], [], []⟩ : PS)
  refine vSeq ?_
  refine vRegion ?_
  refine oVal tt rfl rfl rfl rfl rfl trivial ?_
  refine vNil ?_
  change VC _ _ _ _
  refine vSeq ?_
  refine vCond rfl (fun hb1 => ?_) (fun hb1 => ?_)
  ·replace h := cnd_t hb1 h
   refine vSkip ?_
   change VC _ _ _ _
   refine vSeq ?_
   refine vBlock ?_
   refine vSeq ?_
   refine vRegion ?_
   obtain ⟨hg2, h⟩ := grd_inv h
   refine oVal tt rfl rfl rfl rfl rfl hg2 ?_
   refine oVal tt rfl rfl rfl rfl rfl trivial ?_
   refine oAlloc tt rfl rfl rfl rfl rfl rfl rfl rfl rfl ?_
   refine oStore tt rfl rfl rfl rfl rfl rfl rfl rfl rfl rfl rfl ⟨trivial, trivial, trivial⟩ ?_
   refine vNil ?_
   change VC _ _ _ _
   refine vSeq ?_
   refine vRegion ?_
   iterate 5 refine oVal tt rfl rfl rfl rfl rfl trivial ?_
   refine oSplit rfl rfl rfl (fun hb3 => ?_) (fun hb3 => ?_)
   ·replace h := cnd_t hb3 h
    iterate 4 refine oValG tt rfl rfl rfl rfl rfl hb3 rfl rfl rfl trivial ?_
    refine oPick rfl rfl rfl rfl rfl hb3 rfl ?_
    refine oVal tt rfl rfl rfl rfl rfl trivial ?_
    refine oSplit rfl rfl rfl (fun hb4 => ?_) (fun hb4 => ?_)
    ·replace h := cnd_t hb4 h
     iterate 5 refine oNoF rfl rfl rfl rfl hb4 rfl rfl ?_
     iterate 4 refine oNoU rfl rfl rfl rfl rfl ?_
     refine oNoF rfl rfl rfl rfl hb4 rfl rfl ?_
     refine oPick rfl rfl rfl rfl rfl hb4 rfl ?_
     refine vNil ?_
     change VC _ _ _ _
     refine vCondT rfl rfl ?_
     refine vRegion ?_
     refine oVal tt rfl rfl rfl rfl rfl trivial ?_
     obtain ⟨hg5, h⟩ := grd_inv h
     refine oVal tt rfl rfl rfl rfl rfl hg5 ?_
     refine oVal tt rfl rfl rfl rfl rfl trivial ?_
     refine vNil ?_
     change VC _ _ _ _
     refine vRegion ?_
     obtain ⟨hg6, h⟩ := grd_inv h
     refine oVal tt rfl rfl rfl rfl rfl hg6 ?_
     refine oVal tt rfl rfl rfl rfl rfl trivial ?_
     refine vNil ?_
     change ∃ _, _
     exact ⟨((n5 + (1 : Int)), (x6 + (1 : Int))), (En.of ⟨rfl, rfl, rfl, rfl, rfl, rfl, trivial⟩ trivial trivial), h⟩
    ·replace h := cnd_f hb4 h
     iterate 5 refine oValG tt rfl rfl rfl rfl rfl hb4 rfl rfl rfl trivial ?_
     refine oSplit rfl rfl rfl (fun hb7 => ?_) (fun hb7 => ?_)
     ·replace h := cnd_t hb7 h
      iterate 4 refine oValG tt rfl rfl rfl rfl rfl hb7 rfl rfl rfl trivial ?_
      refine oPickGT rfl rfl rfl rfl hb4 rfl rfl rfl rfl hb7 rfl ?_
      refine oPickF rfl rfl rfl rfl rfl hb4 rfl ?_
      refine vNil ?_
      change VC _ _ _ _
      refine vCond rfl (fun hb8 => ?_) (fun hb8 => ?_)
      ·replace h := cnd_t hb8 h
       refine vRegion ?_
       refine oVal tt rfl rfl rfl rfl rfl trivial ?_
       obtain ⟨hg9, h⟩ := grd_inv h
       refine oVal tt rfl rfl rfl rfl rfl hg9 ?_
       refine oVal tt rfl rfl rfl rfl rfl trivial ?_
       refine vNil ?_
       change VC _ _ _ _
       refine vRegion ?_
       obtain ⟨hg10, h⟩ := grd_inv h
       refine oVal tt rfl rfl rfl rfl rfl hg10 ?_
       refine oVal tt rfl rfl rfl rfl rfl trivial ?_
       refine vNil ?_
       change ∃ _, _
       exact ⟨((n5 + (1 : Int)), (x6 + (1 : Int))), (En.of ⟨rfl, rfl, rfl, rfl, rfl, rfl, trivial⟩ trivial trivial), h⟩
      ·replace h := cnd_f hb8 h
       refine vSkip ?_
       change VC _ _ _ _
       refine vRegion ?_
       obtain ⟨hg11, h⟩ := grd_inv h
       refine oVal tt rfl rfl rfl rfl rfl hg11 ?_
       refine oVal tt rfl rfl rfl rfl rfl trivial ?_
       refine vNil ?_
       change ∃ _, _
       exact ⟨(n5, (x6 + (1 : Int))), (En.of ⟨rfl, rfl, rfl, rfl, rfl, rfl, trivial⟩ trivial trivial), h⟩
     ·replace h := cnd_f hb7 h
      iterate 4 refine oNoT rfl rfl rfl rfl hb7 rfl rfl ?_
      refine oPickGF rfl rfl rfl rfl hb4 rfl rfl rfl rfl hb7 rfl ?_
      refine oPickF rfl rfl rfl rfl rfl hb4 rfl ?_
      refine vNil ?_
      change VC _ _ _ _
      refine vCondF rfl rfl ?_
      refine vSkip ?_
      change VC _ _ _ _
      refine vRegion ?_
      obtain ⟨hg12, h⟩ := grd_inv h
      refine oVal tt rfl rfl rfl rfl rfl hg12 ?_
      refine oVal tt rfl rfl rfl rfl rfl trivial ?_
      refine vNil ?_
      change ∃ _, _
      exact ⟨(n5, (x6 + (1 : Int))), (En.of ⟨rfl, rfl, rfl, rfl, rfl, rfl, trivial⟩ trivial trivial), h⟩
   ·replace h := cnd_f hb3 h
    iterate 4 refine oNoT rfl rfl rfl rfl hb3 rfl rfl ?_
    refine oPickF rfl rfl rfl rfl rfl hb3 rfl ?_
    refine oVal tt rfl rfl rfl rfl rfl trivial ?_
    iterate 5 refine oValG tt rfl rfl rfl rfl rfl rfl rfl rfl rfl trivial ?_
    refine oSplit rfl rfl rfl (fun hb13 => ?_) (fun hb13 => ?_)
    ·replace h := cnd_t hb13 h
     iterate 4 refine oValG tt rfl rfl rfl rfl rfl hb13 rfl rfl rfl trivial ?_
     refine oPickGT rfl rfl rfl rfl rfl rfl rfl rfl rfl hb13 rfl ?_
     refine oPickF rfl rfl rfl rfl rfl rfl rfl ?_
     refine vNil ?_
     change VC _ _ _ _
     refine vCond rfl (fun hb14 => ?_) (fun hb14 => ?_)
     ·replace h := cnd_t hb14 h
      refine vRegion ?_
      refine oVal tt rfl rfl rfl rfl rfl trivial ?_
      obtain ⟨hg15, h⟩ := grd_inv h
      refine oVal tt rfl rfl rfl rfl rfl hg15 ?_
      refine oVal tt rfl rfl rfl rfl rfl trivial ?_
      refine vNil ?_
      change VC _ _ _ _
      refine vRegion ?_
      obtain ⟨hg16, h⟩ := grd_inv h
      refine oVal tt rfl rfl rfl rfl rfl hg16 ?_
      refine oVal tt rfl rfl rfl rfl rfl trivial ?_
      refine vNil ?_
      change ∃ _, _
      exact ⟨((n5 + (1 : Int)), (x6 + (1 : Int))), (En.of ⟨rfl, rfl, rfl, rfl, rfl, rfl, trivial⟩ trivial trivial), h⟩
     ·replace h := cnd_f hb14 h
      refine vSkip ?_
      change VC _ _ _ _
      refine vRegion ?_
      obtain ⟨hg17, h⟩ := grd_inv h
      refine oVal tt rfl rfl rfl rfl rfl hg17 ?_
      refine oVal tt rfl rfl rfl rfl rfl trivial ?_
      refine vNil ?_
      change ∃ _, _
      exact ⟨(n5, (x6 + (1 : Int))), (En.of ⟨rfl, rfl, rfl, rfl, rfl, rfl, trivial⟩ trivial trivial), h⟩
    ·replace h := cnd_f hb13 h
     iterate 4 refine oNoT rfl rfl rfl rfl hb13 rfl rfl ?_
     refine oPickGF rfl rfl rfl rfl rfl rfl rfl rfl rfl hb13 rfl ?_
     refine oPickF rfl rfl rfl rfl rfl rfl rfl ?_
     refine vNil ?_
     change VC _ _ _ _
     refine vCondF rfl rfl ?_
     refine vSkip ?_
     change VC _ _ _ _
     refine vRegion ?_
     obtain ⟨hg18, h⟩ := grd_inv h
     refine oVal tt rfl rfl rfl rfl rfl hg18 ?_
     refine oVal tt rfl rfl rfl rfl rfl trivial ?_
     refine vNil ?_
     change ∃ _, _
     exact ⟨(n5, (x6 + (1 : Int))), (En.of ⟨rfl, rfl, rfl, rfl, rfl, rfl, trivial⟩ trivial trivial), h⟩
  ·replace h := cnd_f hb1 h
   refine vExit ?_
   change ∃ _, _
   exact ⟨n5, (En.of ⟨rfl, trivial⟩ trivial trivial), h⟩
def I_MissingBars_l2 (N : Nat) (g_0 : Grf) (x83 : Int) (k : (List (Int × Int)) → Option (List (Int × Int))) : Nat → ((List (Int × Int)) × Int) → Option (List (Int × Int))
 | 0, _ => none
 | n + 1, (l104, b105) =>
  cnd (decide (b105 < g_0.n)) (
   (I_CountBar N g_0 x83 b105).bind fun v107 =>
   cnd (v107 == (0 : Int)) (
    grd (l104.length + 1 ≤ 4294967296) <|
    grd (Rg64 (b105 + (1 : Int))) <|
    I_MissingBars_l2 N g_0 x83 k n ((l104 ++ ([(x83, b105)] : List (Int × Int))), (b105 + (1 : Int)))) (
    grd (Rg64 (b105 + (1 : Int))) <|
    I_MissingBars_l2 N g_0 x83 k n (l104, (b105 + (1 : Int))))) (
   k l104)
def I_MissingBars_l1 (N : Nat) (g_0 : Grf) (k : (List (Int × Int)) → Option (List (Int × Int))) : Nat → ((List (Int × Int)) × Int) → Option (List (Int × Int))
 | 0, _ => none
 | n + 1, (l82, x83) =>
  cnd (decide (x83 < g_0.n)) (
   grd (Rg64 (x83 + (1 : Int))) <|
   I_MissingBars_l2 N g_0 x83 (fun (l101 : List (Int × Int)) =>
      I_MissingBars_l1 N g_0 k n (l101, (x83 + (1 : Int)))) N (l82, (x83 + (1 : Int)))) (
   k l82)
def I_MissingBars (N : Nat) (g_0 : Grf) : Option (List (Int × Int)) :=
 (I_IsGraph N g_0).bind fun v1 =>
 cnd (!v1) (
  some ([] : List (Int × Int))) (
  I_MissingBars_l1 N g_0 (fun (l54 : List (Int × Int)) =>
     some l54) N (([] : List (Int × Int)), (0 : Int)))
set_option maxRecDepth 20000 in
set_option maxHeartbeats 1600000 in
theorem I_MissingBars_w (N : Nat) (g_0 : Grf) (r : List (Int × Int)) (h : I_MissingBars N g_0 = some r) : PCall Tryz.prog 45 [gD g_0] [(39, .pairs r)] (.row 0 0 r.length) := by
 unfold I_MissingBars at h
 refine pcall_intro (TT := TT) tt Tryz.func45 rfl rfl Tryz.ntmps45 (congrArg Array.toList Tryz.results45) rfl rfl fun w0 => ?_
 refine vSeq ?_
 refine vRegion ?_
 refine oBox rfl rfl rfl rfl rfl rfl rfl rfl rfl ?_
 refine oVal tt rfl rfl rfl rfl rfl trivial ?_
 refine vNil ?_
 change VC _ _ _ _
 refine vSeq ?_
 refine vRegion ?_
 refine oEmpty tt (wNone rfl) rfl rfl rfl rfl ?_
 refine oVal tt rfl rfl rfl rfl rfl trivial ?_
 refine vNil ?_
 change VC _ _ _ _
 iterate 2 refine vSeq ?_
 refine vRegion ?_
 refine oVal tt rfl rfl rfl rfl rfl trivial ?_
 obtain ⟨v1, hc1, h⟩ := bind_inv h
 refine oCall (I_IsGraph_w N g_0 v1 hc1) rfl rfl rfl rfl rfl rfl rfl rfl ⟨⟨rfl, rfl, trivial⟩, trivial⟩ ?_
 refine oVal tt rfl rfl rfl rfl rfl trivial ?_
 refine vNil ?_
 change VC _ _ _ _
 refine vCond rfl (fun hb2 => ?_) (fun hb2 => ?_)
 ·replace h := cnd_t hb2 h
  refine vSeq ?_
  refine vRegion ?_
  iterate 2 refine oVal tt rfl rfl rfl rfl rfl trivial ?_
  refine vNil ?_
  change VC _ _ _ _
  refine vNilT 2 9001 39 (.pairs []) rfl rfl rfl rfl ?_
  refine vRet ?_
  change ∃ _, _
  cases h
  exact ⟨[9001], _, rfl, ⟨rfl, trivial⟩, rfl, (.eq rfl), rfl⟩
 ·replace h := cnd_f hb2 h
  refine vSkip ?_
  change VC _ _ _ _
  iterate 2 refine vSeq ?_
  refine vRegion ?_
  iterate 3 refine oVal tt rfl rfl rfl rfl rfl trivial ?_
  refine vNil ?_
  change VC _ _ _ _
  refine vJoin (F := fun k => I_MissingBars_l1 N g_0 k) h (α := List (Int × Int)) (J := fun (l54 : List (Int × Int)) => (⟨[(3, .row 34 0 l54.length)], [(34, some (39, .pairs l54))], []⟩ : PS)) ?_ ?_
  ·rintro l54 h
   show VC _ _ _ (⟨[(3, .row 34 0 l54.length)], [(34, some (39, .pairs l54))], []⟩ : PS)
   refine vSeq ?_
   refine vRegion ?_
   iterate 2 refine oVal tt rfl rfl rfl rfl rfl trivial ?_
   refine vNil ?_
   change VC _ _ _ _
   refine vRet ?_
   change ∃ _, _
   cases h
   exact ⟨[34], _, rfl, ⟨rfl, trivial⟩, rfl, (.eq rfl), rfl⟩
  ·intro k h
   refine vBlock ?_
   refine vNilT 3 34 39 (.pairs []) rfl rfl rfl rfl ?_
   refine vLoopS (α := (List (Int × Int)) × Int) (fun | (l82, x83) => (⟨[(1, .ptr 1 0), (3, .row 34 0 l82.length), (12, .int g_0.n), (13, .int x83)], [(34, some (39, .pairs l82))], [(1, some [.int g_0.n, .ro false (.pairs g_0.bars)])]⟩ : PS)) (I_MissingBars_l1 N g_0 k) h (En.of ⟨rfl, rfl, rfl, rfl, trivial⟩ ⟨rfl, trivial⟩ ⟨rfl, trivial⟩) (fun _ => rfl) ?_
   rintro n ⟨l82, x83⟩ h
   rw [I_MissingBars_l1] at h
   show VC _ _ _ (⟨[(1, .ptr 1 0), (3, .row 34 0 l82.length), (12, .int g_0.n), (13, .int x83)], [(34, some (39, .pairs l82))], [(1, some [.int g_0.n, .ro false (.pairs g_0.bars)])]⟩ : PS)
   refine vSeq ?_
   refine vRegion ?_
   refine oVal tt rfl rfl rfl rfl rfl trivial ?_
   refine vNil ?_
   change VC _ _ _ _
   refine vSeq ?_
   refine vCond rfl (fun hb3 => ?_) (fun hb3 => ?_)
   ·replace h := cnd_t hb3 h
    refine vSkip ?_
    change VC _ _ _ _
    refine vSeq ?_
    refine vBlock ?_
    refine vSeq ?_
    refine vRegion ?_
    iterate 2 refine oVal tt rfl rfl rfl rfl rfl trivial ?_
    refine vNil ?_
    change VC _ _ _ _
    refine vSeq ?_
    refine vRegion ?_
    refine oVal tt rfl rfl rfl rfl rfl trivial ?_
    obtain ⟨hg4, h⟩ := grd_inv h
    refine oVal tt rfl rfl rfl rfl rfl hg4 ?_
    refine oVal tt rfl rfl rfl rfl rfl trivial ?_
    refine vNil ?_
    change VC _ _ _ _
    refine vJoin (F := fun k => I_MissingBars_l2 N g_0 x83 k) h (α := List (Int × Int)) (J := fun (l101 : List (Int × Int)) => (⟨[(1, .ptr 1 0), (3, .row 34 0 l101.length), (12, .int g_0.n), (13, .int x83)], [(34, some (39, .pairs l101))], [(1, some [.int g_0.n, .ro false (.pairs g_0.bars)])]⟩ : PS)) ?_ ?_
    ·rintro l101 h
     show VC _ _ _ (⟨[(1, .ptr 1 0), (3, .row 34 0 l101.length), (12, .int g_0.n), (13, .int x83)], [(34, some (39, .pairs l101))], [(1, some [.int g_0.n, .ro false (.pairs g_0.bars)])]⟩ : PS)
     refine vRegion ?_
     refine oVal tt rfl rfl rfl rfl rfl hg4 ?_
     refine oVal tt rfl rfl rfl rfl rfl trivial ?_
     refine vNil ?_
     change ∃ _, _
     exact ⟨(l101, (x83 + (1 : Int))), (En.of ⟨rfl, rfl, rfl, rfl, trivial⟩ ⟨rfl, trivial⟩ ⟨rfl, trivial⟩), h⟩
    ·intro k h
     refine vBlock ?_
     refine vLoopS (α := (List (Int × Int)) × Int) (fun | (l104, b105) => (⟨[(1, .ptr 1 0), (3, .row 34 0 l104.length), (4, .int x83), (5, .int b105), (12, .int g_0.n), (13, .int x83)], [(34, some (39, .pairs l104))], [(1, some [.int g_0.n, .ro false (.pairs g_0.bars)])]⟩ : PS)) (I_MissingBars_l2 N g_0 x83 k) h (En.of ⟨rfl, rfl, rfl, rfl, rfl, rfl, trivial⟩ ⟨rfl, trivial⟩ ⟨rfl, trivial⟩) (fun _ => rfl) ?_
     rintro n ⟨l104, b105⟩ h
     rw [I_MissingBars_l2] at h
     show VC _ _ _ (⟨[(1, .ptr 1 0), (3, .row 34 0 l104.length), (4, .int x83), (5, .int b105), (12, .int g_0.n), (13, .int x83)], [(34, some (39, .pairs l104))], [(1, some [.int g_0.n, .ro false (.pairs g_0.bars)])]⟩ : PS)
     iterate 2 refine vSeq ?_
     refine vRegion ?_
     iterate 4 refine oVal tt rfl rfl rfl rfl rfl trivial ?_
     refine vNil ?_
     change VC _ _ _ _
     refine vCond rfl (fun hb5 => ?_) (fun hb5 => ?_)
     ·replace h := cnd_t hb5 h
      refine vSkip ?_
      change VC _ _ _ _
      refine vSeq ?_
      refine vBlock ?_
      refine vSeq ?_
      refine vRegion ?_
      iterate 3 refine oVal tt rfl rfl rfl rfl rfl trivial ?_
      obtain ⟨v107, hc6, h⟩ := bind_inv h
      refine oCall (I_CountBar_w N g_0 x83 b105 v107 hc6) rfl rfl rfl rfl rfl rfl rfl rfl ⟨⟨rfl, rfl, trivial⟩, rfl, rfl, trivial⟩ ?_
      refine oVal tt rfl rfl rfl rfl rfl trivial ?_
      refine vNil ?_
      change VC _ _ _ _
      refine vCond rfl (fun hb7 => ?_) (fun hb7 => ?_)
      ·replace h := cnd_t hb7 h
       refine vRegion ?_
       iterate 3 refine oVal tt rfl rfl rfl rfl rfl trivial ?_
       refine oPure (wNone rfl) (pBuild bld_impl_Bar rfl rfl) rfl rfl ?_
       refine oBuild tt rfl rfl rfl rfl rfl rfl rfl rfl rfl rfl rfl ?_
       obtain ⟨hg8, h⟩ := grd_inv h
       refine oAppend tt rfl rfl rfl rfl rfl rfl rfl rfl rfl rfl rfl rfl rfl rfl rfl rfl (Nat.le_of_eq (Nat.zero_add _)) hg8 ?_
       refine oVal tt rfl rfl rfl rfl rfl trivial ?_
       refine vNil ?_
       change VC _ _ _ _
       refine vRegion ?_
       refine oVal tt rfl rfl rfl rfl rfl trivial ?_
       obtain ⟨hg9, h⟩ := grd_inv h
       refine oVal tt rfl rfl rfl rfl rfl hg9 ?_
       refine oVal tt rfl rfl rfl rfl rfl trivial ?_
       refine vNil ?_
       change ∃ _, _
       exact ⟨((l104 ++ ([(x83, b105)] : List (Int × Int))), (b105 + (1 : Int))), (En.of ⟨rfl, rfl, rfl, rfl, rfl, rfl, trivial⟩ ⟨rfl, trivial⟩ ⟨rfl, trivial⟩), h⟩
      ·replace h := cnd_f hb7 h
       refine vSkip ?_
       change VC _ _ _ _
       refine vRegion ?_
       refine oVal tt rfl rfl rfl rfl rfl trivial ?_
       obtain ⟨hg10, h⟩ := grd_inv h
       refine oVal tt rfl rfl rfl rfl rfl hg10 ?_
       refine oVal tt rfl rfl rfl rfl rfl trivial ?_
       refine vNil ?_
       change ∃ _, _
       exact ⟨(l104, (b105 + (1 : Int))), (En.of ⟨rfl, rfl, rfl, rfl, rfl, rfl, trivial⟩ ⟨rfl, trivial⟩ ⟨rfl, trivial⟩), h⟩
     ·replace h := cnd_f hb5 h
      refine vExit ?_
      change ∃ _, _
      exact ⟨l104, (En.of ⟨rfl, rfl, rfl, rfl, trivial⟩ ⟨rfl, trivial⟩ ⟨rfl, trivial⟩), h⟩
   ·replace h := cnd_f hb3 h
    refine vExit ?_
    change ∃ _, _
    exact ⟨l82, (En.of ⟨rfl, trivial⟩ ⟨rfl, trivial⟩ trivial), h⟩
def I_IsRange (N : Nat) (k_0 : Int) (l_1 : Int) : Option (Bool) :=
 (I_within N k_0 (1 : Int) (3 : Int)).bind fun v1 =>
 cnd v1 (
  grd (Rg64 ((2 : Int) * k_0)) <|
  grd (Rg64 (((2 : Int) * k_0) - (1 : Int))) <|
  (I_within N l_1 (0 : Int) (((2 : Int) * k_0) - (1 : Int))).bind fun v2 =>
  some v2) (
  some false)
set_option maxRecDepth 20000 in
set_option maxHeartbeats 1600000 in
theorem I_IsRange_w (N : Nat) (k_0 : Int) (l_1 : Int) (r : Bool) (h : I_IsRange N k_0 l_1 = some r) : PCall Tryz.prog 192 [.int k_0, .int l_1] [] (.bool r) := by
 unfold I_IsRange at h
 refine pcall_intro (TT := TT) tt Tryz.func192 rfl rfl Tryz.ntmps192 (congrArg Array.toList Tryz.results192) rfl rfl fun w0 => ?_
 refine vSeq ?_
 refine vRegion ?_
 refine oVal tt rfl rfl rfl rfl rfl trivial ?_
 refine vNil ?_
 change VC _ _ _ _
 refine vSeq ?_
 refine vRegion ?_
 refine oVal tt rfl rfl rfl rfl rfl trivial ?_
 obtain ⟨v1, hc1, h⟩ := bind_inv h
 refine oCall (I_within_w N k_0 (1 : Int) (3 : Int) v1 hc1) rfl rfl rfl rfl rfl rfl rfl rfl ⟨rfl, rfl, rfl, trivial⟩ ?_
 refine oVal tt rfl rfl rfl rfl rfl trivial ?_
 refine oSplit rfl rfl rfl (fun hb2 => ?_) (fun hb2 => ?_)
 ·replace h := cnd_t hb2 h
  iterate 2 refine oValG tt rfl rfl rfl rfl rfl hb2 rfl rfl rfl trivial ?_
  obtain ⟨hg3, h⟩ := grd_inv h
  refine oValG tt rfl rfl rfl rfl rfl hb2 rfl rfl rfl hg3 ?_
  obtain ⟨hg4, h⟩ := grd_inv h
  refine oValG tt rfl rfl rfl rfl rfl hb2 rfl rfl rfl hg4 ?_
  obtain ⟨v2, hc5, h⟩ := bind_inv h
  refine oCallG (I_within_w N l_1 (0 : Int) (((2 : Int) * k_0) - (1 : Int)) v2 hc5) rfl rfl rfl rfl hb2 rfl rfl rfl rfl rfl rfl rfl ⟨rfl, rfl, rfl, trivial⟩ ?_
  refine oPick rfl rfl rfl rfl rfl hb2 rfl ?_
  refine oVal tt rfl rfl rfl rfl rfl trivial ?_
  refine vNil ?_
  change VC _ _ _ _
  refine vRet ?_
  change ∃ _, _
  cases h
  exact ⟨[], _, rfl, trivial, rfl, (.eq rfl), rfl⟩
 ·replace h := cnd_f hb2 h
  iterate 5 refine oNoT rfl rfl rfl rfl hb2 rfl rfl ?_
  refine oPickF rfl rfl rfl rfl rfl hb2 rfl ?_
  refine oVal tt rfl rfl rfl rfl rfl trivial ?_
  refine vNil ?_
  change VC _ _ _ _
  refine vRet ?_
  change ∃ _, _
  cases h
  exact ⟨[], _, rfl, trivial, rfl, (.eq rfl), rfl⟩
def I_RunPebbles (N : Nat) (g_0 : Grf) (k_1 : Int) (l_2 : Int) : Option (Pbl × Bool) :=
 (I_IsGraph N g_0).bind fun v1 =>
 cnd (!v1) (
  some ((⟨([] : List Int), ([] : List Int), ([] : List Int)⟩ : Pbl), false)) (
  (I_IsRange N k_1 l_2).bind fun v2 =>
  cnd (!v2) (
   some ((⟨([] : List Int), ([] : List Int), ([] : List Int)⟩ : Pbl), false)) (
   (I_play N g_0.n g_0.bars k_1 l_2).bind fun v3 =>
   some ((⟨v3.free, v3.tails, v3.placed⟩ : Pbl), true)))
set_option maxRecDepth 20000 in
set_option maxHeartbeats 1600000 in
theorem I_RunPebbles_w (N : Nat) (g_0 : Grf) (k_1 : Int) (l_2 : Int) (r : Pbl × Bool) (h : I_RunPebbles N g_0 k_1 l_2 = some r) : PCall Tryz.prog 185 [gD g_0, .int k_1, .int l_2] [(3, .ints r.1.free), (3, .ints r.1.tails), (3, .ints r.1.placed)] (.tup [.agg [.row 0 0 r.1.free.length, .row 1 0 r.1.tails.length, .row 2 0 r.1.placed.length], .bool r.2]) := by
 unfold I_RunPebbles at h
 refine pcall_intro (TT := TT) tt Tryz.func185 rfl rfl Tryz.ntmps185 (congrArg Array.toList Tryz.results185) rfl rfl fun w0 => ?_
 refine vSeq ?_
 refine vRegion ?_
 refine oBox rfl rfl rfl rfl rfl rfl rfl rfl rfl ?_
 refine oAlloc tt rfl rfl rfl rfl rfl rfl rfl rfl rfl ?_
 refine oVal tt rfl rfl rfl rfl rfl trivial ?_
 refine vNil ?_
 change VC _ _ _ _
 iterate 2 refine vSeq ?_
 refine vRegion ?_
 refine oVal tt rfl rfl rfl rfl rfl trivial ?_
 obtain ⟨v1, hc1, h⟩ := bind_inv h
 refine oCall (I_IsGraph_w N g_0 v1 hc1) rfl rfl rfl rfl rfl rfl rfl rfl ⟨⟨rfl, rfl, trivial⟩, trivial⟩ ?_
 iterate 2 refine oVal tt rfl rfl rfl rfl rfl trivial ?_
 refine oSplit rfl rfl rfl (fun hb2 => ?_) (fun hb2 => ?_)
 ·replace h := cnd_t hb2 h
  iterate 4 refine oNoF rfl rfl rfl rfl hb2 rfl rfl ?_
  refine oPick rfl rfl rfl rfl rfl hb2 rfl ?_
  refine vNil ?_
  change VC _ _ _ _
  refine vCondT rfl rfl ?_
  refine vSeq ?_
  refine vRegion ?_
  refine oPure (wNone rfl) (pBuild bld_impl_Pebbles rfl rfl) rfl rfl ?_
  refine oStore tt rfl rfl rfl rfl rfl rfl rfl rfl rfl rfl rfl ⟨trivial, trivial, trivial, trivial⟩ ?_
  refine oVal tt rfl rfl rfl rfl rfl trivial ?_
  refine vNil ?_
  change VC _ _ _ _
  refine vNilB 6 0 9001 3 (.ints []) rfl rfl rfl rfl rfl ?_
  refine vNilB 6 1 9002 3 (.ints []) rfl rfl rfl rfl rfl ?_
  refine vNilB 6 2 9003 3 (.ints []) rfl rfl rfl rfl rfl ?_
  refine vRet ?_
  change ∃ _, _
  cases h
  exact ⟨[9001, 9002, 9003], _, rfl, ⟨rfl, rfl, rfl, trivial⟩, rfl, (.eq rfl), rfl⟩
 ·replace h := cnd_f hb2 h
  iterate 2 refine oValG tt rfl rfl rfl rfl rfl hb2 rfl rfl rfl trivial ?_
  obtain ⟨v2, hc3, h⟩ := bind_inv h
  refine oCallG (I_IsRange_w N k_1 l_2 v2 hc3) rfl rfl rfl rfl hb2 rfl rfl rfl rfl rfl rfl rfl ⟨rfl, rfl, trivial⟩ ?_
  refine oValG tt rfl rfl rfl rfl rfl hb2 rfl rfl rfl trivial ?_
  refine oPickF rfl rfl rfl rfl rfl hb2 rfl ?_
  refine vNil ?_
  change VC _ _ _ _
  refine vCond rfl (fun hb4 => ?_) (fun hb4 => ?_)
  ·replace h := cnd_t hb4 h
   refine vSeq ?_
   refine vRegion ?_
   refine oPure (wNone rfl) (pBuild bld_impl_Pebbles rfl rfl) rfl rfl ?_
   refine oStore tt rfl rfl rfl rfl rfl rfl rfl rfl rfl rfl rfl ⟨trivial, trivial, trivial, trivial⟩ ?_
   refine oVal tt rfl rfl rfl rfl rfl trivial ?_
   refine vNil ?_
   change VC _ _ _ _
   refine vNilB 6 0 9001 3 (.ints []) rfl rfl rfl rfl rfl ?_
   refine vNilB 6 1 9002 3 (.ints []) rfl rfl rfl rfl rfl ?_
   refine vNilB 6 2 9003 3 (.ints []) rfl rfl rfl rfl rfl ?_
   refine vRet ?_
   change ∃ _, _
   cases h
   exact ⟨[9001, 9002, 9003], _, rfl, ⟨rfl, rfl, rfl, trivial⟩, rfl, (.eq rfl), rfl⟩
  ·replace h := cnd_f hb4 h
   refine vSkip ?_
   change VC _ _ _ _
   refine vSeq ?_
   refine vRegion ?_
   iterate 6 refine oVal tt rfl rfl rfl rfl rfl trivial ?_
   obtain ⟨v3, hc5, h⟩ := bind_inv h
   refine oCall (I_play_w N g_0.n g_0.bars k_1 l_2 v3 hc5) rfl rfl rfl rfl rfl rfl rfl rfl ⟨rfl, rfl, rfl, rfl, trivial⟩ ?_
   refine oStore tt rfl rfl rfl rfl rfl rfl rfl rfl rfl rfl rfl ⟨trivial, trivial, trivial, trivial⟩ ?_
   refine oVal tt rfl rfl rfl rfl rfl trivial ?_
   refine vNil ?_
   change VC _ _ _ _
   refine vRet ?_
   change ∃ _, _
   cases h
   exact ⟨[1240, 1241, 1242], _, rfl, ⟨rfl, rfl, rfl, trivial⟩, rfl, (.eq rfl), rfl⟩
end Go.Proofs.YtmoamglpocjhgaaGreat
namespace Go.Proofs.YtmoamglpocjhgaaGreat
open Go.RowKit
def I_RankOf (N : Nat) (g_0 : Grf) (k_1 : Int) (l_2 : Int) : Option (Int) :=
 (I_RunPebbles N g_0 k_1 l_2).bind fun v1 =>
 cnd (!v1.2) (
  some (-1 : Int)) (
  some (v1.1.placed.length : Int))
set_option maxRecDepth 20000 in
set_option maxHeartbeats 1600000 in
theorem I_RankOf_w (N : Nat) (g_0 : Grf) (k_1 : Int) (l_2 : Int) (r : Int) (h : I_RankOf N g_0 k_1 l_2 = some r) : PCall Tryz.prog 173 [gD g_0, .int k_1, .int l_2] [] (.int r) := by
 unfold I_RankOf at h
 refine pcall_intro (TT := TT) tt Tryz.func173 rfl rfl Tryz.ntmps173 (congrArg Array.toList Tryz.results173) rfl rfl fun w0 => ?_
 refine vSeq ?_
 refine vRegion ?_
 refine oBox rfl rfl rfl rfl rfl rfl rfl rfl rfl ?_
 refine oVal tt rfl rfl rfl rfl rfl trivial ?_
 refine vNil ?_
 change VC _ _ _ _
 refine vSeq ?_
 refine vRegion ?_
 iterate 3 refine oVal tt rfl rfl rfl rfl rfl trivial ?_
 obtain ⟨v1, hc1, h⟩ := bind_inv h
 refine oCall (I_RunPebbles_w N g_0 k_1 l_2 v1 hc1) rfl rfl rfl rfl rfl rfl rfl rfl ⟨⟨rfl, rfl, trivial⟩, rfl, rfl, trivial⟩ ?_
 iterate 3 refine oVal tt rfl rfl rfl rfl rfl trivial ?_
 refine oAlloc tt rfl rfl rfl rfl rfl rfl rfl rfl rfl ?_
 refine oStore tt rfl rfl rfl rfl rfl rfl rfl rfl rfl rfl rfl ⟨trivial, trivial, trivial, trivial⟩ ?_
 refine oVal tt rfl rfl rfl rfl rfl trivial ?_
 refine vNil ?_
 change VC _ _ _ _
 iterate 2 refine vSeq ?_
 refine vRegion ?_
 iterate 2 refine oVal tt rfl rfl rfl rfl rfl trivial ?_
 refine vNil ?_
 change VC _ _ _ _
 refine vCond rfl (fun hb2 => ?_) (fun hb2 => ?_)
 ·replace h := cnd_t hb2 h
  refine vSeq ?_
  refine vRegion ?_
  refine oVal tt rfl rfl rfl rfl rfl trivial ?_
  refine vNil ?_
  change VC _ _ _ _
  refine vRet ?_
  change ∃ _, _
  cases h
  exact ⟨[], _, rfl, trivial, rfl, (.eq rfl), rfl⟩
 ·replace h := cnd_f hb2 h
  refine vSkip ?_
  change VC _ _ _ _
  refine vSeq ?_
  refine vRegion ?_
  iterate 4 refine oVal tt rfl rfl rfl rfl rfl trivial ?_
  refine vNil ?_
  change VC _ _ _ _
  refine vRet ?_
  change ∃ _, _
  cases h
  exact ⟨[], _, rfl, trivial, rfl, (.eq rfl), rfl⟩
def I_FreedomOf (N : Nat) (g_0 : Grf) : Option (Int) :=
 (I_IsGraph N g_0).bind fun v1 =>
 cnd (!v1) (
  some (-1 : Int)) (
  grd (Rg64 ((2 : Int) * g_0.n)) <|
  grd (Rg64 (((2 : Int) * g_0.n) - (3 : Int))) <|
  (I_RankOf N g_0 (2 : Int) (3 : Int)).bind fun v2 =>
  grd (Rg64 ((max (0 : Int) (((2 : Int) * g_0.n) - (3 : Int))) - v2)) <|
  some ((max (0 : Int) (((2 : Int) * g_0.n) - (3 : Int))) - v2))
set_option maxRecDepth 20000 in
set_option maxHeartbeats 1600000 in
theorem I_FreedomOf_w (N : Nat) (g_0 : Grf) (r : Int) (h : I_FreedomOf N g_0 = some r) : PCall Tryz.prog 153 [gD g_0] [] (.int r) := by
 unfold I_FreedomOf at h
 refine pcall_intro (TT := TT) tt Tryz.func153 rfl rfl Tryz.ntmps153 (congrArg Array.toList Tryz.results153) rfl rfl fun w0 => ?_
 refine vSeq ?_
 refine vRegion ?_
 refine oBox rfl rfl rfl rfl rfl rfl rfl rfl rfl ?_
 refine oVal tt rfl rfl rfl rfl rfl trivial ?_
 refine vNil ?_
 change VC _ _ _ _
 iterate 2 refine vSeq ?_
 refine vRegion ?_
 refine oVal tt rfl rfl rfl rfl rfl trivial ?_
 obtain ⟨v1, hc1, h⟩ := bind_inv h
 refine oCall (I_IsGraph_w N g_0 v1 hc1) rfl rfl rfl rfl rfl rfl rfl rfl ⟨⟨rfl, rfl, trivial⟩, trivial⟩ ?_
 refine oVal tt rfl rfl rfl rfl rfl trivial ?_
 refine vNil ?_
 change VC _ _ _ _
 refine vCond rfl (fun hb2 => ?_) (fun hb2 => ?_)
 ·replace h := cnd_t hb2 h
  refine vSeq ?_
  refine vRegion ?_
  refine oVal tt rfl rfl rfl rfl rfl trivial ?_
  refine vNil ?_
  change VC _ _ _ _
  refine vRet ?_
  change ∃ _, _
  cases h
  exact ⟨[], _, rfl, trivial, rfl, (.eq rfl), rfl⟩
 ·replace h := cnd_f hb2 h
  refine vSkip ?_
  change VC _ _ _ _
  refine vSeq ?_
  refine vRegionD (by kernel_rfl) (by kernel_rfl) ?_
  iterate 2 refine cVal tt rfl (wNone rfl) rfl rfl rfl trivial ?_
  obtain ⟨hg3, h⟩ := grd_inv h
  refine cVal tt rfl (wNone rfl) rfl rfl rfl hg3 ?_
  obtain ⟨hg4, h⟩ := grd_inv h
  refine cVal tt rfl (wNone rfl) rfl rfl rfl hg4 ?_
  iterate 2 refine cVal tt rfl (wNone rfl) rfl rfl rfl trivial ?_
  obtain ⟨v2, hc5, h⟩ := bind_inv h
  refine cCall (I_RankOf_w N g_0 (2 : Int) (3 : Int) v2 hc5) rfl (wNone rfl) rfl rfl rfl rfl rfl rfl ⟨⟨rfl, rfl, trivial⟩, rfl, rfl, trivial⟩ ?_
  obtain ⟨hg6, h⟩ := grd_inv h
  refine cVal tt rfl (wNone rfl) rfl rfl rfl hg6 ?_
  refine cVal tt rfl (wNone rfl) rfl rfl rfl trivial ?_
  refine cNil ?_
  change VC _ _ _ _
  refine vRet ?_
  change ∃ _, _
  cases h
  exact ⟨[], _, rfl, trivial, rfl, (.eq rfl), rfl⟩
def I_IsRigid (N : Nat) (g_0 : Grf) : Option (Bool) :=
 (I_FreedomOf N g_0).bind fun v1 =>
 some (v1 == (0 : Int))
set_option maxRecDepth 20000 in
set_option maxHeartbeats 1600000 in
theorem I_IsRigid_w (N : Nat) (g_0 : Grf) (r : Bool) (h : I_IsRigid N g_0 = some r) : PCall Tryz.prog 129 [gD g_0] [] (.bool r) := by
 unfold I_IsRigid at h
 refine pcall_intro (TT := TT) tt Tryz.func129 rfl rfl Tryz.ntmps129 (congrArg Array.toList Tryz.results129) rfl rfl fun w0 => ?_
 refine vSeq ?_
 refine vRegion ?_
 refine oBox rfl rfl rfl rfl rfl rfl rfl rfl rfl ?_
 refine oVal tt rfl rfl rfl rfl rfl trivial ?_
 refine vNil ?_
 change VC _ _ _ _
 refine vSeq ?_
 refine vRegion ?_
 refine oVal tt rfl rfl rfl rfl rfl trivial ?_
 obtain ⟨v1, hc1, h⟩ := bind_inv h
 refine oCall (I_FreedomOf_w N g_0 v1 hc1) rfl rfl rfl rfl rfl rfl rfl rfl ⟨⟨rfl, rfl, trivial⟩, trivial⟩ ?_
 iterate 2 refine oVal tt rfl rfl rfl rfl rfl trivial ?_
 refine vNil ?_
 change VC _ _ _ _
 refine vRet ?_
 change ∃ _, _
 cases h
 exact ⟨[], _, rfl, trivial, rfl, (.eq rfl), rfl⟩
def I_WithoutPoints_l1 (N : Nat) (g_0 : Grf) (l7 : List Int) (k : (List (Int × Int)) → Option (Grf)) : Nat → ((List (Int × Int)) × Int) → Option (Grf)
 | 0, _ => none
 | n + 1, (l16, x17) =>
  cnd (decide (x17 < (g_0.bars.length : Int))) (
   grd (0 ≤ x17 ∧ x17 < (g_0.bars.length : Int)) <|
   grd (0 ≤ ((g_0.bars.getD ((x17).toNat) (0, 0)).1) ∧ ((g_0.bars.getD ((x17).toNat) (0, 0)).1) < ((List.replicate (((max (0 : Int) (min g_0.n (8 : Int)))).toNat) (0 : Int)).length : Int)) <|
   grd (0 ≤ ((g_0.bars.getD ((x17).toNat) (0, 0)).1) ∧ ((g_0.bars.getD ((x17).toNat) (0, 0)).1) < (l7.length : Int)) <|
   grd (0 ≤ ((g_0.bars.getD ((x17).toNat) (0, 0)).2) ∧ ((g_0.bars.getD ((x17).toNat) (0, 0)).2) < ((List.replicate (((max (0 : Int) (min g_0.n (8 : Int)))).toNat) (0 : Int)).length : Int)) <|
   grd (0 ≤ ((g_0.bars.getD ((x17).toNat) (0, 0)).2) ∧ ((g_0.bars.getD ((x17).toNat) (0, 0)).2) < (l7.length : Int)) <|
   cnd (decide ((l7.getD (((g_0.bars.getD ((x17).toNat) (0, 0)).1).toNat) 0) ≥ (0 : Int))) (
    cnd (decide ((l7.getD (((g_0.bars.getD ((x17).toNat) (0, 0)).2).toNat) 0) ≥ (0 : Int))) (
     grd (l16.length + 1 ≤ 4294967296) <|
     grd (Rg64 (x17 + (1 : Int))) <|
     I_WithoutPoints_l1 N g_0 l7 k n ((l16 ++ ([((l7.getD (((g_0.bars.getD ((x17).toNat) (0, 0)).1).toNat) 0), (l7.getD (((g_0.bars.getD ((x17).toNat) (0, 0)).2).toNat) 0))] : List (Int × Int))), (x17 + (1 : Int)))) (
     grd (Rg64 (x17 + (1 : Int))) <|
     I_WithoutPoints_l1 N g_0 l7 k n (l16, (x17 + (1 : Int))))) (
    grd (Rg64 (x17 + (1 : Int))) <|
    I_WithoutPoints_l1 N g_0 l7 k n (l16, (x17 + (1 : Int))))) (
   k l16)
def I_WithoutPoints_l2 (N : Nat) (g_0 : Grf) (set_1 : List Int) (k : ((List Int) × Int) → Option (Grf)) : Nat → ((List Int) × Int × Int) → Option (Grf)
 | 0, _ => none
 | n + 1, (l20, x21, c22) =>
  cnd (decide (x21 < ((List.replicate (((max (0 : Int) (min g_0.n (8 : Int)))).toNat) (0 : Int)).length : Int))) (
   grd (0 ≤ x21 ∧ x21 < ((List.replicate (((max (0 : Int) (min g_0.n (8 : Int)))).toNat) (0 : Int)).length : Int)) <|
   grd (0 ≤ x21 ∧ x21 < (l20.length : Int)) <|
   (G_Contains_int N set_1 x21).bind fun v24 =>
   cnd (!v24) (
    grd (0 ≤ x21 ∧ x21 < ((l20.set ((x21).toNat) (-1 : Int)).length : Int)) <|
    grd (Rg64 (c22 + (1 : Int))) <|
    grd (Rg64 (x21 + (1 : Int))) <|
    I_WithoutPoints_l2 N g_0 set_1 k n (((l20.set ((x21).toNat) (-1 : Int)).set ((x21).toNat) c22), (x21 + (1 : Int)), (c22 + (1 : Int)))) (
    grd (Rg64 (x21 + (1 : Int))) <|
    I_WithoutPoints_l2 N g_0 set_1 k n ((l20.set ((x21).toNat) (-1 : Int)), (x21 + (1 : Int)), c22))) (
   k (l20, c22))
def I_WithoutPoints (N : Nat) (g_0 : Grf) (set_1 : List Int) : Option (Grf) :=
 grd (0 ≤ (max (0 : Int) (min g_0.n (8 : Int))) ∧ (max (0 : Int) (min g_0.n (8 : Int))) ≤ 4294967296) <|
 I_WithoutPoints_l2 N g_0 set_1 (fun (x : (List Int) × Int) =>
   match x with
   | (l7, c8) =>
    (I_IsGraph N g_0).bind fun v9 =>
    cnd (!v9) (
     some (⟨c8, ([] : List (Int × Int))⟩ : Grf)) (
     I_WithoutPoints_l1 N g_0 l7 (fun (l13 : List (Int × Int)) =>
        some (⟨c8, l13⟩ : Grf)) N (([] : List (Int × Int)), (0 : Int)))) N ((List.replicate (((max (0 : Int) (min g_0.n (8 : Int)))).toNat) (0 : Int)), (0 : Int), (0 : Int))
set_option maxRecDepth 20000 in
set_option maxHeartbeats 1600000 in
theorem I_WithoutPoints_w (N : Nat) (g_0 : Grf) (set_1 : List Int) (r : Grf) (h : I_WithoutPoints N g_0 set_1 = some r) : PCall Tryz.prog 73 [gD g_0, .ro false (.ints set_1)] [(39, .pairs r.bars)] (.agg [.int r.n, .row 0 0 r.bars.length]) := by
 unfold I_WithoutPoints at h
 refine pcall_intro (TT := TT) tt Tryz.func73 rfl rfl Tryz.ntmps73 (congrArg Array.toList Tryz.results73) rfl rfl fun w0 => ?_
 refine vSeq ?_
 refine vRegion ?_
 refine oBox rfl rfl rfl rfl rfl rfl rfl rfl rfl ?_
 refine oAlloc tt rfl rfl rfl rfl rfl rfl rfl rfl rfl ?_
 refine vNil ?_
 change VC _ _ _ _
 refine vSeq ?_
 refine vRegion ?_
 iterate 4 refine oVal tt rfl rfl rfl rfl rfl trivial ?_
 obtain ⟨hg1, h⟩ := grd_inv h
 refine oMake tt rfl rfl rfl rfl rfl rfl rfl rfl rfl rfl rfl hg1 ?_
 refine oVal tt rfl rfl rfl rfl rfl trivial ?_
 refine vNil ?_
 change VC _ _ _ _
 refine vSeq ?_
 refine vRegion ?_
 refine oPure (wNone rfl) (pBuild bld_impl_Graph rfl rfl) rfl rfl ?_
 refine oAlloc tt rfl rfl rfl rfl rfl rfl rfl rfl rfl ?_
 refine oStore tt rfl rfl rfl rfl rfl rfl rfl rfl rfl rfl rfl ⟨trivial, trivial, trivial⟩ ?_
 refine vNil ?_
 change VC _ _ _ _
 iterate 2 refine vSeq ?_
 refine vRegion ?_
 iterate 3 refine oVal tt rfl rfl rfl rfl rfl trivial ?_
 refine vNil ?_
 change VC _ _ _ _
 refine vJoin (F := fun k => I_WithoutPoints_l2 N g_0 set_1 k) h (α := (List Int) × Int) (J := fun | (l7, c8) => (⟨[(2, .ptr 2 0), (4, .ptr 4 0), (5, .row 16 0 ((List.replicate (((max (0 : Int) (min g_0.n (8 : Int)))).toNat) (0 : Int)).length)), (6, .ptr 6 0)], [(16, some (3, .ints l7))], [(2, some [.int g_0.n, .ro false (.pairs g_0.bars)]), (4, some [.int (0 : Int), .nil]), (6, some [.int c8, .nil])]⟩ : PS)) ?_ ?_
 ·rintro ⟨l7, c8⟩ h
  show VC _ _ _ (⟨[(2, .ptr 2 0), (4, .ptr 4 0), (5, .row 16 0 ((List.replicate (((max (0 : Int) (min g_0.n (8 : Int)))).toNat) (0 : Int)).length)), (6, .ptr 6 0)], [(16, some (3, .ints l7))], [(2, some [.int g_0.n, .ro false (.pairs g_0.bars)]), (4, some [.int (0 : Int), .nil]), (6, some [.int c8, .nil])]⟩ : PS)
  iterate 2 refine vSeq ?_
  refine vRegion ?_
  refine oVal tt rfl rfl rfl rfl rfl trivial ?_
  obtain ⟨v9, hc2, h⟩ := bind_inv h
  refine oCall (I_IsGraph_w N g_0 v9 hc2) rfl rfl rfl rfl rfl rfl rfl rfl ⟨⟨rfl, rfl, trivial⟩, trivial⟩ ?_
  refine oVal tt rfl rfl rfl rfl rfl trivial ?_
  refine vNil ?_
  change VC _ _ _ _
  refine vCond rfl (fun hb3 => ?_) (fun hb3 => ?_)
  ·replace h := cnd_t hb3 h
   refine vSeq ?_
   refine vRegion ?_
   refine oVal tt rfl rfl rfl rfl rfl trivial ?_
   refine oStore tt rfl rfl rfl rfl rfl rfl rfl rfl rfl rfl rfl ⟨trivial, trivial, trivial⟩ ?_
   refine vNil ?_
   change VC _ _ _ _
   refine vNilB 4 1 9001 39 (.pairs []) rfl rfl rfl rfl rfl ?_
   refine vRet ?_
   change ∃ _, _
   cases h
   exact ⟨[9001], _, rfl, ⟨rfl, trivial⟩, rfl, (.eq rfl), rfl⟩
  ·replace h := cnd_f hb3 h
   refine vSkip ?_
   change VC _ _ _ _
   iterate 2 refine vSeq ?_
   refine vRegion ?_
   iterate 4 refine oVal tt rfl rfl rfl rfl rfl trivial ?_
   refine vNil ?_
   change VC _ _ _ _
   refine vJoin (F := fun k => I_WithoutPoints_l1 N g_0 l7 k) h (α := List (Int × Int)) (J := fun (l13 : List (Int × Int)) => (⟨[(4, .ptr 4 0), (6, .ptr 6 0)], [(73, some (39, .pairs l13))], [(4, some [.int (0 : Int), .nil]), (6, some [.int c8, .row 73 0 l13.length])]⟩ : PS)) ?_ ?_
   ·rintro l13 h
    show VC _ _ _ (⟨[(4, .ptr 4 0), (6, .ptr 6 0)], [(73, some (39, .pairs l13))], [(4, some [.int (0 : Int), .nil]), (6, some [.int c8, .row 73 0 l13.length])]⟩ : PS)
    refine vSeq ?_
    refine vRegion ?_
    refine oVal tt rfl rfl rfl rfl rfl trivial ?_
    refine oStore tt rfl rfl rfl rfl rfl rfl rfl rfl rfl rfl rfl ⟨trivial, trivial, trivial⟩ ?_
    refine vNil ?_
    change VC _ _ _ _
    refine vRet ?_
    change ∃ _, _
    cases h
    exact ⟨[73], _, rfl, ⟨rfl, trivial⟩, rfl, (.eq rfl), rfl⟩
   ·intro k h
    refine vBlock ?_
    refine vNilB 6 1 73 39 (.pairs []) rfl rfl rfl rfl rfl ?_
    refine vLoopS (α := (List (Int × Int)) × Int) (fun | (l16, x17) => (⟨[(4, .ptr 4 0), (5, .row 16 0 ((List.replicate (((max (0 : Int) (min g_0.n (8 : Int)))).toNat) (0 : Int)).length)), (6, .ptr 6 0), (45, .ro false (.pairs g_0.bars)), (46, .int (g_0.bars.length : Int)), (47, .int x17)], [(16, some (3, .ints l7)), (73, some (39, .pairs l16))], [(4, some [.int (0 : Int), .nil]), (6, some [.int c8, .row 73 0 l16.length])]⟩ : PS)) (I_WithoutPoints_l1 N g_0 l7 k) h (En.of ⟨rfl, rfl, rfl, rfl, rfl, rfl, trivial⟩ ⟨rfl, rfl, trivial⟩ ⟨rfl, rfl, trivial⟩) (fun _ => rfl) ?_
    rintro n ⟨l16, x17⟩ h
    rw [I_WithoutPoints_l1] at h
    show VC _ _ _ (⟨[(4, .ptr 4 0), (5, .row 16 0 ((List.replicate (((max (0 : Int) (min g_0.n (8 : Int)))).toNat) (0 : Int)).length)), (6, .ptr 6 0), (45, .ro false (.pairs g_0.bars)), (46, .int (g_0.bars.length : Int)), (47, .int x17)], [(16, some (3, .ints l7)), (73, some (39, .pairs l16))], [(4, some [.int (0 : Int), .nil]), (6, some [.int c8, .row 73 0 l16.length])]⟩ : PS)
    refine vSeq ?_
    refine vRegion ?_
    refine oVal tt rfl rfl rfl rfl rfl trivial ?_
    refine vNil ?_
    change VC _ _ _ _
    refine vSeq ?_
    refine vCond rfl (fun hb4 => ?_) (fun hb4 => ?_)
    ·replace h := cnd_t hb4 h
     refine vSkip ?_
     change VC _ _ _ _
     refine vSeq ?_
     refine vBlock ?_
     refine vSeq ?_
     refine vRegion ?_
     obtain ⟨hg5, h⟩ := grd_inv h
     refine oVal tt rfl rfl rfl rfl rfl hg5 ?_
     refine oVal tt rfl rfl rfl rfl rfl trivial ?_
     refine oAlloc tt rfl rfl rfl rfl rfl rfl rfl rfl rfl ?_
     refine oStore tt rfl rfl rfl rfl rfl rfl rfl rfl rfl rfl rfl ⟨trivial, trivial, trivial⟩ ?_
     refine vNil ?_
     change VC _ _ _ _
     refine vSeq ?_
     refine vRegionD (by kernel_rfl) (by kernel_rfl) ?_
     iterate 3 refine cVal tt rfl (wNone rfl) rfl rfl rfl trivial ?_
     obtain ⟨hg6, h⟩ := grd_inv h
     refine cVal tt rfl (wNone rfl) rfl rfl rfl hg6 ?_
     obtain ⟨hg7, h⟩ := grd_inv h
     refine cVal tt rfl (wNone rfl) rfl rfl rfl hg7 ?_
     iterate 3 refine cVal tt rfl (wNone rfl) rfl rfl rfl trivial ?_
     obtain ⟨hg8, h⟩ := grd_inv h
     refine cVal tt rfl (wNone rfl) rfl rfl rfl hg8 ?_
     obtain ⟨hg9, h⟩ := grd_inv h
     refine cVal tt rfl (wNone rfl) rfl rfl rfl hg9 ?_
     iterate 2 refine cVal tt rfl (wNone rfl) rfl rfl rfl trivial ?_
     refine cNil ?_
     change VC _ _ _ _
     refine vSeq ?_
     refine vRegion ?_
     iterate 3 refine oVal tt rfl rfl rfl rfl rfl trivial ?_
     refine oSplit rfl rfl rfl (fun hb10 => ?_) (fun hb10 => ?_)
     ·replace h := cnd_t hb10 h
      iterate 2 refine oValG tt rfl rfl rfl rfl rfl hb10 rfl rfl rfl trivial ?_
      refine oPick rfl rfl rfl rfl rfl hb10 rfl ?_
      refine vNil ?_
      change VC _ _ _ _
      refine vCond rfl (fun hb11 => ?_) (fun hb11 => ?_)
      ·replace h := cnd_t hb11 h
       refine vRegion ?_
       iterate 4 refine oVal tt rfl rfl rfl rfl rfl trivial ?_
       refine oPure (wNone rfl) (pBuild bld_impl_Bar rfl rfl) rfl rfl ?_
       refine oBuild tt rfl rfl rfl rfl rfl rfl rfl rfl rfl rfl rfl ?_
       obtain ⟨hg12, h⟩ := grd_inv h
       refine oAppend tt rfl rfl rfl rfl rfl rfl rfl rfl rfl rfl rfl rfl rfl rfl rfl rfl (Nat.le_of_eq (Nat.zero_add _)) hg12 ?_
       refine oVal tt rfl rfl rfl rfl rfl trivial ?_
       refine oStore tt rfl rfl rfl rfl rfl rfl rfl rfl rfl rfl rfl ⟨trivial, trivial⟩ ?_
       refine vNil ?_
       change VC _ _ _ _
       refine vRegion ?_
       obtain ⟨hg13, h⟩ := grd_inv h
       refine oVal tt rfl rfl rfl rfl rfl hg13 ?_
       refine oVal tt rfl rfl rfl rfl rfl trivial ?_
       refine vNil ?_
       change ∃ _, _
       exact ⟨((l16 ++ ([((l7.getD (((g_0.bars.getD ((x17).toNat) (0, 0)).1).toNat) 0), (l7.getD (((g_0.bars.getD ((x17).toNat) (0, 0)).2).toNat) 0))] : List (Int × Int))), (x17 + (1 : Int))), (En.of ⟨rfl, rfl, rfl, rfl, rfl, rfl, trivial⟩ ⟨rfl, rfl, trivial⟩ ⟨rfl, rfl, trivial⟩), h⟩
      ·replace h := cnd_f hb11 h
       refine vSkip ?_
       change VC _ _ _ _
       refine vRegion ?_
       obtain ⟨hg14, h⟩ := grd_inv h
       refine oVal tt rfl rfl rfl rfl rfl hg14 ?_
       refine oVal tt rfl rfl rfl rfl rfl trivial ?_
       refine vNil ?_
       change ∃ _, _
       exact ⟨(l16, (x17 + (1 : Int))), (En.of ⟨rfl, rfl, rfl, rfl, rfl, rfl, trivial⟩ ⟨rfl, rfl, trivial⟩ ⟨rfl, rfl, trivial⟩), h⟩
     ·replace h := cnd_f hb10 h
      iterate 2 refine oNoT rfl rfl rfl rfl hb10 rfl rfl ?_
      refine oPickF rfl rfl rfl rfl rfl hb10 rfl ?_
      refine vNil ?_
      change VC _ _ _ _
      refine vCondF rfl rfl ?_
      refine vSkip ?_
      change VC _ _ _ _
      refine vRegion ?_
      obtain ⟨hg15, h⟩ := grd_inv h
      refine oVal tt rfl rfl rfl rfl rfl hg15 ?_
      refine oVal tt rfl rfl rfl rfl rfl trivial ?_
      refine vNil ?_
      change ∃ _, _
      exact ⟨(l16, (x17 + (1 : Int))), (En.of ⟨rfl, rfl, rfl, rfl, rfl, rfl, trivial⟩ ⟨rfl, rfl, trivial⟩ ⟨rfl, rfl, trivial⟩), h⟩
    ·replace h := cnd_f hb4 h
     refine vExit ?_
     change ∃ _, _
     exact ⟨l16, (En.of ⟨rfl, rfl, trivial⟩ ⟨rfl, trivial⟩ ⟨rfl, rfl, trivial⟩), h⟩
 ·intro k h
  refine vBlock ?_
  refine vLoopS (α := (List Int) × Int × Int) (fun | (l20, x21, c22) => (⟨[(1, .ro false (.ints set_1)), (2, .ptr 2 0), (4, .ptr 4 0), (5, .row 16 0 ((List.replicate (((max (0 : Int) (min g_0.n (8 : Int)))).toNat) (0 : Int)).length)), (6, .ptr 6 0), (19, .int ((List.replicate (((max (0 : Int) (min g_0.n (8 : Int)))).toNat) (0 : Int)).length : Int)), (20, .int x21)], [(16, some (3, .ints l20))], [(2, some [.int g_0.n, .ro false (.pairs g_0.bars)]), (4, some [.int (0 : Int), .nil]), (6, some [.int c22, .nil])]⟩ : PS)) (I_WithoutPoints_l2 N g_0 set_1 k) h (En.of ⟨rfl, rfl, rfl, rfl, rfl, rfl, rfl, trivial⟩ ⟨rfl, trivial⟩ ⟨rfl, rfl, rfl, trivial⟩) (fun _ => rfl) ?_
  rintro n ⟨l20, x21, c22⟩ h
  rw [I_WithoutPoints_l2] at h
  show VC _ _ _ (⟨[(1, .ro false (.ints set_1)), (2, .ptr 2 0), (4, .ptr 4 0), (5, .row 16 0 ((List.replicate (((max (0 : Int) (min g_0.n (8 : Int)))).toNat) (0 : Int)).length)), (6, .ptr 6 0), (19, .int ((List.replicate (((max (0 : Int) (min g_0.n (8 : Int)))).toNat) (0 : Int)).length : Int)), (20, .int x21)], [(16, some (3, .ints l20))], [(2, some [.int g_0.n, .ro false (.pairs g_0.bars)]), (4, some [.int (0 : Int), .nil]), (6, some [.int c22, .nil])]⟩ : PS)
  refine vSeq ?_
  refine vRegion ?_
  refine oVal tt rfl rfl rfl rfl rfl trivial ?_
  refine vNil ?_
  change VC _ _ _ _
  refine vSeq ?_
  refine vCond rfl (fun hb16 => ?_) (fun hb16 => ?_)
  ·replace h := cnd_t hb16 h
   refine vSkip ?_
   change VC _ _ _ _
   refine vSeq ?_
   refine vBlock ?_
   refine vSeq ?_
   refine vRegion ?_
   iterate 2 refine oVal tt rfl rfl rfl rfl rfl trivial ?_
   refine vNil ?_
   change VC _ _ _ _
   refine vSeq ?_
   refine vRegion ?_
   iterate 2 refine oVal tt rfl rfl rfl rfl rfl trivial ?_
   obtain ⟨hg17, h⟩ := grd_inv h
   refine oVal tt rfl rfl rfl rfl rfl hg17 ?_
   obtain ⟨hg18, h⟩ := grd_inv h
   refine oStore tt rfl rfl rfl rfl rfl rfl rfl rfl rfl rfl ⟨_, _, rfl, hg18.1, hg18.2⟩ ⟨hg18, trivial⟩ ?_
   refine vNil ?_
   change VC _ _ _ _
   refine vSeq ?_
   refine vRegion ?_
   iterate 2 refine oVal tt rfl rfl rfl rfl rfl trivial ?_
   obtain ⟨v24, hc19, h⟩ := bind_inv h
   refine oCall (G_Contains_int_w N set_1 x21 v24 hc19) rfl rfl rfl rfl rfl rfl rfl rfl ⟨rfl, rfl, trivial⟩ ?_
   refine oVal tt rfl rfl rfl rfl rfl trivial ?_
   refine vNil ?_
   change VC _ _ _ _
   refine vCond rfl (fun hb20 => ?_) (fun hb20 => ?_)
   ·replace h := cnd_t hb20 h
    refine vSeq ?_
    refine vRegion ?_
    iterate 4 refine oVal tt rfl rfl rfl rfl rfl trivial ?_
    refine oVal tt rfl rfl rfl rfl rfl hg17 ?_
    obtain ⟨hg21, h⟩ := grd_inv h
    refine oStore tt rfl rfl rfl rfl rfl rfl rfl rfl rfl rfl ⟨_, _, rfl, hg21.1, hg21.2⟩ ⟨hg21, trivial⟩ ?_
    refine vNil ?_
    change VC _ _ _ _
    refine vRegion ?_
    iterate 2 refine oVal tt rfl rfl rfl rfl rfl trivial ?_
    obtain ⟨hg22, h⟩ := grd_inv h
    refine oVal tt rfl rfl rfl rfl rfl hg22 ?_
    refine oVal tt rfl rfl rfl rfl rfl trivial ?_
    refine oStore tt rfl rfl rfl rfl rfl rfl rfl rfl rfl rfl rfl ⟨trivial, trivial⟩ ?_
    refine vNil ?_
    change VC _ _ _ _
    refine vRegion ?_
    obtain ⟨hg23, h⟩ := grd_inv h
    refine oVal tt rfl rfl rfl rfl rfl hg23 ?_
    refine oVal tt rfl rfl rfl rfl rfl trivial ?_
    refine vNil ?_
    change ∃ _, _
    exact ⟨(((l20.set ((x21).toNat) (-1 : Int)).set ((x21).toNat) c22), (x21 + (1 : Int)), (c22 + (1 : Int))), (En.of ⟨rfl, rfl, rfl, rfl, rfl, rfl, rfl, trivial⟩ ⟨rfl, trivial⟩ ⟨rfl, rfl, rfl, trivial⟩), h⟩
   ·replace h := cnd_f hb20 h
    refine vSkip ?_
    change VC _ _ _ _
    refine vRegion ?_
    obtain ⟨hg24, h⟩ := grd_inv h
    refine oVal tt rfl rfl rfl rfl rfl hg24 ?_
    refine oVal tt rfl rfl rfl rfl rfl trivial ?_
    refine vNil ?_
    change ∃ _, _
    exact ⟨((l20.set ((x21).toNat) (-1 : Int)), (x21 + (1 : Int)), c22), (En.of ⟨rfl, rfl, rfl, rfl, rfl, rfl, rfl, trivial⟩ ⟨rfl, trivial⟩ ⟨rfl, rfl, rfl, trivial⟩), h⟩
  ·replace h := cnd_f hb16 h
   refine vExit ?_
   change ∃ _, _
   exact ⟨(l20, c22), (En.of ⟨rfl, rfl, rfl, rfl, trivial⟩ ⟨rfl, trivial⟩ ⟨rfl, rfl, rfl, trivial⟩), h⟩
def M_Graph_reach_l2 (N : Nat) (g_0 : Grf) (k : ((List Bool) × Bool) → Option (List Bool)) : Nat → ((List Bool) × Bool × Int) → Option (List Bool)
 | 0, _ => none
 | n + 1, (l58, again59, x60) =>
  cnd (decide (x60 < (g_0.bars.length : Int))) (
   grd (0 ≤ x60 ∧ x60 < (g_0.bars.length : Int)) <|
   grd (0 ≤ ((g_0.bars.getD ((x60).toNat) (0, 0)).1) ∧ ((g_0.bars.getD ((x60).toNat) (0, 0)).1) < ((List.replicate ((g_0.n).toNat) (false : Bool)).length : Int)) <|
   grd (0 ≤ ((g_0.bars.getD ((x60).toNat) (0, 0)).1) ∧ ((g_0.bars.getD ((x60).toNat) (0, 0)).1) < (l58.length : Int)) <|
   grd (0 ≤ ((g_0.bars.getD ((x60).toNat) (0, 0)).2) ∧ ((g_0.bars.getD ((x60).toNat) (0, 0)).2) < ((List.replicate ((g_0.n).toNat) (false : Bool)).length : Int)) <|
   grd (0 ≤ ((g_0.bars.getD ((x60).toNat) (0, 0)).2) ∧ ((g_0.bars.getD ((x60).toNat) (0, 0)).2) < (l58.length : Int)) <|
   cnd ((l58.getD (((g_0.bars.getD ((x60).toNat) (0, 0)).1).toNat) false) != (l58.getD (((g_0.bars.getD ((x60).toNat) (0, 0)).2).toNat) false)) (
    grd (0 ≤ ((g_0.bars.getD ((x60).toNat) (0, 0)).2) ∧ ((g_0.bars.getD ((x60).toNat) (0, 0)).2) < ((l58.set (((g_0.bars.getD ((x60).toNat) (0, 0)).1).toNat) true).length : Int)) <|
    grd (Rg64 (x60 + (1 : Int))) <|
    M_Graph_reach_l2 N g_0 k n (((l58.set (((g_0.bars.getD ((x60).toNat) (0, 0)).1).toNat) true).set (((g_0.bars.getD ((x60).toNat) (0, 0)).2).toNat) true), true, (x60 + (1 : Int)))) (
    grd (Rg64 (x60 + (1 : Int))) <|
    M_Graph_reach_l2 N g_0 k n (l58, again59, (x60 + (1 : Int))))) (
   k (l58, again59))
def M_Graph_reach_l1 (N : Nat) (g_0 : Grf) (k : (List Bool) → Option (List Bool)) : Nat → ((List Bool) × Bool) → Option (List Bool)
 | 0, _ => none
 | n + 1, (l41, again42) =>
  cnd again42 (
   M_Graph_reach_l2 N g_0 (fun (x : (List Bool) × Bool) =>
     match x with
     | (l55, again56) =>
      M_Graph_reach_l1 N g_0 k n (l55, again56)) N (l41, false, (0 : Int))) (
   k l41)
def M_Graph_reach (N : Nat) (g_0 : Grf) (v_1 : Int) : Option (List Bool) :=
 grd (0 ≤ g_0.n ∧ g_0.n ≤ 4294967296) <|
 grd (0 ≤ v_1 ∧ v_1 < ((List.replicate ((g_0.n).toNat) (false : Bool)).length : Int)) <|
 M_Graph_reach_l1 N g_0 (fun (l30 : List Bool) =>
    grd ((List.replicate ((g_0.n).toNat) (false : Bool)).length = l30.length) <|
    some l30) N (((List.replicate ((g_0.n).toNat) (false : Bool)).set ((v_1).toNat) true), true)
set_option maxRecDepth 20000 in
set_option maxHeartbeats 1600000 in
theorem M_Graph_reach_w (N : Nat) (g_0 : Grf) (v_1 : Int) (r : List Bool) (h : M_Graph_reach N g_0 v_1 = some r) : PCall Tryz.prog 194 [gD g_0, .int v_1] [(4, .bools r)] (.row 0 0 r.length) := by
 unfold M_Graph_reach at h
 refine pcall_intro (TT := TT) tt Tryz.func194 rfl rfl Tryz.ntmps194 (congrArg Array.toList Tryz.results194) rfl rfl fun w0 => ?_
 refine vSeq ?_
 refine vRegion ?_
 refine oBox rfl rfl rfl rfl rfl rfl rfl rfl rfl ?_
 refine oVal tt rfl rfl rfl rfl rfl trivial ?_
 refine vNil ?_
 change VC _ _ _ _
 refine vSeq ?_
 refine vRegion ?_
 iterate 2 refine oVal tt rfl rfl rfl rfl rfl trivial ?_
 obtain ⟨hg1, h⟩ := grd_inv h
 refine oMake tt rfl rfl rfl rfl rfl rfl rfl rfl rfl rfl rfl hg1 ?_
 refine oVal tt rfl rfl rfl rfl rfl trivial ?_
 refine vNil ?_
 change VC _ _ _ _
 refine vSeq ?_
 refine vRegion ?_
 iterate 2 refine oVal tt rfl rfl rfl rfl rfl trivial ?_
 obtain ⟨hg2, h⟩ := grd_inv h
 refine oVal tt rfl rfl rfl rfl rfl hg2 ?_
 refine oStore tt rfl rfl rfl rfl rfl rfl rfl rfl rfl rfl ⟨_, _, rfl, hg2.1, hg2.2⟩ ⟨hg2, trivial⟩ ?_
 refine vNil ?_
 change VC _ _ _ _
 iterate 2 refine vSeq ?_
 refine vRegion ?_
 refine oVal tt rfl rfl rfl rfl rfl trivial ?_
 refine vNil ?_
 change VC _ _ _ _
 refine vJoin (F := fun k => M_Graph_reach_l1 N g_0 k) h (α := List Bool) (J := fun (l30 : List Bool) => (⟨[(5, .row 11 0 ((List.replicate ((g_0.n).toNat) (false : Bool)).length))], [(11, some (4, .bools l30))], []⟩ : PS)) ?_ ?_
 ·rintro l30 h
  show VC _ _ _ (⟨[(5, .row 11 0 ((List.replicate ((g_0.n).toNat) (false : Bool)).length))], [(11, some (4, .bools l30))], []⟩ : PS)
  refine vSeq ?_
  refine vRegion ?_
  iterate 2 refine oVal tt rfl rfl rfl rfl rfl trivial ?_
  refine vNil ?_
  change VC _ _ _ _
  obtain ⟨hg3, h⟩ := grd_inv h
  refine vRet ?_
  change ∃ _, _
  cases h
  exact ⟨[11], _, rfl, ⟨rfl, trivial⟩, rfl, (.eq (by simp only [hg3]; rfl)), rfl⟩
 ·intro k h
  refine vBlock ?_
  refine vLoopS (α := (List Bool) × Bool) (fun | (l41, again42) => (⟨[(2, .ptr 2 0), (5, .row 11 0 ((List.replicate ((g_0.n).toNat) (false : Bool)).length)), (6, .bool again42)], [(11, some (4, .bools l41))], [(2, some [.int g_0.n, .ro false (.pairs g_0.bars)])]⟩ : PS)) (M_Graph_reach_l1 N g_0 k) h (En.of ⟨rfl, rfl, rfl, trivial⟩ ⟨rfl, trivial⟩ ⟨rfl, trivial⟩) (fun _ => rfl) ?_
  rintro n ⟨l41, again42⟩ h
  rw [M_Graph_reach_l1] at h
  show VC _ _ _ (⟨[(2, .ptr 2 0), (5, .row 11 0 ((List.replicate ((g_0.n).toNat) (false : Bool)).length)), (6, .bool again42)], [(11, some (4, .bools l41))], [(2, some [.int g_0.n, .ro false (.pairs g_0.bars)])]⟩ : PS)
  iterate 2 refine vSeq ?_
  refine vRegion ?_
  refine oVal tt rfl rfl rfl rfl rfl trivial ?_
  refine vNil ?_
  change VC _ _ _ _
  refine vCond rfl (fun hb4 => ?_) (fun hb4 => ?_)
  ·replace h := cnd_t hb4 h
   refine vSkip ?_
   change VC _ _ _ _
   refine vBlock ?_
   refine vSeq ?_
   refine vRegion ?_
   refine oVal tt rfl rfl rfl rfl rfl trivial ?_
   refine vNil ?_
   change VC _ _ _ _
   refine vSeq ?_
   refine vRegion ?_
   iterate 4 refine oVal tt rfl rfl rfl rfl rfl trivial ?_
   refine vNil ?_
   change VC _ _ _ _
   refine vJoin (F := fun k => M_Graph_reach_l2 N g_0 k) h (α := (List Bool) × Bool) (J := fun | (l55, again56) => (⟨[(2, .ptr 2 0), (5, .row 11 0 ((List.replicate ((g_0.n).toNat) (false : Bool)).length)), (6, .bool again56)], [(11, some (4, .bools l55))], [(2, some [.int g_0.n, .ro false (.pairs g_0.bars)])]⟩ : PS)) ?_ ?_
   ·rintro ⟨l55, again56⟩ h
    change ∃ _, _
    exact ⟨(l55, again56), (En.of ⟨rfl, rfl, rfl, trivial⟩ ⟨rfl, trivial⟩ ⟨rfl, trivial⟩), h⟩
   ·intro k h
    refine vBlock ?_
    refine vLoopS (α := (List Bool) × Bool × Int) (fun | (l58, again59, x60) => (⟨[(2, .ptr 2 0), (5, .row 11 0 ((List.replicate ((g_0.n).toNat) (false : Bool)).length)), (6, .bool again59), (17, .ro false (.pairs g_0.bars)), (18, .int (g_0.bars.length : Int)), (19, .int x60)], [(11, some (4, .bools l58))], [(2, some [.int g_0.n, .ro false (.pairs g_0.bars)])]⟩ : PS)) (M_Graph_reach_l2 N g_0 k) h (En.of ⟨rfl, rfl, rfl, rfl, rfl, rfl, trivial⟩ ⟨rfl, trivial⟩ ⟨rfl, trivial⟩) (fun _ => rfl) ?_
    rintro n ⟨l58, again59, x60⟩ h
    rw [M_Graph_reach_l2] at h
    show VC _ _ _ (⟨[(2, .ptr 2 0), (5, .row 11 0 ((List.replicate ((g_0.n).toNat) (false : Bool)).length)), (6, .bool again59), (17, .ro false (.pairs g_0.bars)), (18, .int (g_0.bars.length : Int)), (19, .int x60)], [(11, some (4, .bools l58))], [(2, some [.int g_0.n, .ro false (.pairs g_0.bars)])]⟩ : PS)
    refine vSeq ?_
    refine vRegion ?_
    refine oVal tt rfl rfl rfl rfl rfl trivial ?_
    refine vNil ?_
    change VC _ _ _ _
    refine vSeq ?_
    refine vCond rfl (fun hb5 => ?_) (fun hb5 => ?_)
    ·replace h := cnd_t hb5 h
     refine vSkip ?_
     change VC _ _ _ _
     refine vSeq ?_
     refine vBlock ?_
     refine vSeq ?_
     refine vRegion ?_
     obtain ⟨hg6, h⟩ := grd_inv h
     refine oVal tt rfl rfl rfl rfl rfl hg6 ?_
     refine oVal tt rfl rfl rfl rfl rfl trivial ?_
     refine oAlloc tt rfl rfl rfl rfl rfl rfl rfl rfl rfl ?_
     refine oStore tt rfl rfl rfl rfl rfl rfl rfl rfl rfl rfl rfl ⟨trivial, trivial, trivial⟩ ?_
     refine vNil ?_
     change VC _ _ _ _
     refine vSeq ?_
     refine vRegionD (by kernel_rfl) (by kernel_rfl) ?_
     iterate 3 refine cVal tt rfl (wNone rfl) rfl rfl rfl trivial ?_
     obtain ⟨hg7, h⟩ := grd_inv h
     refine cVal tt rfl (wNone rfl) rfl rfl rfl hg7 ?_
     obtain ⟨hg8, h⟩ := grd_inv h
     refine cVal tt rfl (wNone rfl) rfl rfl rfl hg8 ?_
     iterate 3 refine cVal tt rfl (wNone rfl) rfl rfl rfl trivial ?_
     obtain ⟨hg9, h⟩ := grd_inv h
     refine cVal tt rfl (wNone rfl) rfl rfl rfl hg9 ?_
     obtain ⟨hg10, h⟩ := grd_inv h
     refine cVal tt rfl (wNone rfl) rfl rfl rfl hg10 ?_
     refine cPure (wNone rfl) (pNeB Tryz.underlying4 rfl rfl rfl) rfl rfl ?_
     refine cNil ?_
     change VC _ _ _ _
     refine vCond rfl (fun hb11 => ?_) (fun hb11 => ?_)
     ·replace h := cnd_t hb11 h
      refine vSeq ?_
      refine vRegion ?_
      iterate 3 refine oVal tt rfl rfl rfl rfl rfl trivial ?_
      refine oVal tt rfl rfl rfl rfl rfl hg7 ?_
      refine oStore tt rfl rfl rfl rfl rfl rfl rfl rfl rfl rfl ⟨_, _, rfl, hg8.1, hg8.2⟩ ⟨hg8, trivial⟩ ?_
      refine vNil ?_
      change VC _ _ _ _
      refine vSeq ?_
      refine vRegion ?_
      iterate 3 refine oVal tt rfl rfl rfl rfl rfl trivial ?_
      refine oVal tt rfl rfl rfl rfl rfl hg9 ?_
      obtain ⟨hg12, h⟩ := grd_inv h
      refine oStore tt rfl rfl rfl rfl rfl rfl rfl rfl rfl rfl ⟨_, _, rfl, hg12.1, hg12.2⟩ ⟨hg12, trivial⟩ ?_
      refine vNil ?_
      change VC _ _ _ _
      refine vRegion ?_
      refine oVal tt rfl rfl rfl rfl rfl trivial ?_
      refine vNil ?_
      change VC _ _ _ _
      refine vRegion ?_
      obtain ⟨hg13, h⟩ := grd_inv h
      refine oVal tt rfl rfl rfl rfl rfl hg13 ?_
      refine oVal tt rfl rfl rfl rfl rfl trivial ?_
      refine vNil ?_
      change ∃ _, _
      exact ⟨(((l58.set (((g_0.bars.getD ((x60).toNat) (0, 0)).1).toNat) true).set (((g_0.bars.getD ((x60).toNat) (0, 0)).2).toNat) true), true, (x60 + (1 : Int))), (En.of ⟨rfl, rfl, rfl, rfl, rfl, rfl, trivial⟩ ⟨rfl, trivial⟩ ⟨rfl, trivial⟩), h⟩
     ·replace h := cnd_f hb11 h
      refine vSkip ?_
      change VC _ _ _ _
      refine vRegion ?_
      obtain ⟨hg14, h⟩ := grd_inv h
      refine oVal tt rfl rfl rfl rfl rfl hg14 ?_
      refine oVal tt rfl rfl rfl rfl rfl trivial ?_
      refine vNil ?_
      change ∃ _, _
      exact ⟨(l58, again59, (x60 + (1 : Int))), (En.of ⟨rfl, rfl, rfl, rfl, rfl, rfl, trivial⟩ ⟨rfl, trivial⟩ ⟨rfl, trivial⟩), h⟩
    ·replace h := cnd_f hb5 h
     refine vExit ?_
     change ∃ _, _
     exact ⟨(l58, again59), (En.of ⟨rfl, rfl, rfl, trivial⟩ ⟨rfl, trivial⟩ ⟨rfl, trivial⟩), h⟩
  ·replace h := cnd_f hb4 h
   refine vExit ?_
   change ∃ _, _
   exact ⟨l41, (En.of ⟨rfl, trivial⟩ ⟨rfl, trivial⟩ trivial), h⟩
def I_ReachOf_l1 (N : Nat) (v3 : List Bool) (k : (List Int) → Option (List Int)) : Nat → ((List Int) × Int) → Option (List Int)
 | 0, _ => none
 | n + 1, (l8, x9) =>
  cnd (decide (x9 < (v3.length : Int))) (
   grd (0 ≤ x9 ∧ x9 < (v3.length : Int)) <|
   cnd (v3.getD ((x9).toNat) false) (
    grd (l8.length + 1 ≤ 4294967296) <|
    grd (Rg64 (x9 + (1 : Int))) <|
    I_ReachOf_l1 N v3 k n ((l8 ++ ([x9] : List Int)), (x9 + (1 : Int)))) (
    grd (Rg64 (x9 + (1 : Int))) <|
    I_ReachOf_l1 N v3 k n (l8, (x9 + (1 : Int))))) (
   k l8)
def I_ReachOf (N : Nat) (g_0 : Grf) (v_1 : Int) : Option (List Int) :=
 (I_IsGraph N g_0).bind fun v1 =>
 cnd (!v1) (
  some ([] : List Int)) (
  (M_Graph_has N g_0 v_1).bind fun v2 =>
  cnd (!v2) (
   some ([] : List Int)) (
   (M_Graph_reach N g_0 v_1).bind fun v3 =>
   I_ReachOf_l1 N v3 (fun (l6 : List Int) =>
      some l6) N (([] : List Int), (0 : Int))))
set_option maxRecDepth 20000 in
set_option maxHeartbeats 1600000 in
theorem I_ReachOf_w (N : Nat) (g_0 : Grf) (v_1 : Int) (r : List Int) (h : I_ReachOf N g_0 v_1 = some r) : PCall Tryz.prog 186 [gD g_0, .int v_1] [(3, .ints r)] (.row 0 0 r.length) := by
 unfold I_ReachOf at h
 refine pcall_intro (TT := TT) tt Tryz.func186 rfl rfl Tryz.ntmps186 (congrArg Array.toList Tryz.results186) rfl rfl fun w0 => ?_
 refine vSeq ?_
 refine vRegion ?_
 refine oBox rfl rfl rfl rfl rfl rfl rfl rfl rfl ?_
 refine oVal tt rfl rfl rfl rfl rfl trivial ?_
 refine vNil ?_
 change VC _ _ _ _
 refine vSeq ?_
 refine vRegion ?_
 refine oEmpty tt (wNone rfl) rfl rfl rfl rfl ?_
 refine oVal tt rfl rfl rfl rfl rfl trivial ?_
 refine vNil ?_
 change VC _ _ _ _
 iterate 2 refine vSeq ?_
 refine vRegion ?_
 refine oVal tt rfl rfl rfl rfl rfl trivial ?_
 obtain ⟨v1, hc1, h⟩ := bind_inv h
 refine oCall (I_IsGraph_w N g_0 v1 hc1) rfl rfl rfl rfl rfl rfl rfl rfl ⟨⟨rfl, rfl, trivial⟩, trivial⟩ ?_
 iterate 2 refine oVal tt rfl rfl rfl rfl rfl trivial ?_
 refine oSplit rfl rfl rfl (fun hb2 => ?_) (fun hb2 => ?_)
 ·replace h := cnd_t hb2 h
  iterate 4 refine oNoF rfl rfl rfl rfl hb2 rfl rfl ?_
  refine oPick rfl rfl rfl rfl rfl hb2 rfl ?_
  refine vNil ?_
  change VC _ _ _ _
  refine vCondT rfl rfl ?_
  refine vSeq ?_
  refine vRegion ?_
  iterate 2 refine oVal tt rfl rfl rfl rfl rfl trivial ?_
  refine vNil ?_
  change VC _ _ _ _
  refine vNilT 4 9001 3 (.ints []) rfl rfl rfl rfl ?_
  refine vRet ?_
  change ∃ _, _
  cases h
  exact ⟨[9001], _, rfl, ⟨rfl, trivial⟩, rfl, (.eq rfl), rfl⟩
 ·replace h := cnd_f hb2 h
  iterate 2 refine oValG tt rfl rfl rfl rfl rfl hb2 rfl rfl rfl trivial ?_
  obtain ⟨v2, hc3, h⟩ := bind_inv h
  refine oCallG (M_Graph_has_w N g_0 v_1 v2 hc3) rfl rfl rfl rfl hb2 rfl rfl rfl rfl rfl rfl rfl ⟨⟨rfl, rfl, trivial⟩, rfl, trivial⟩ ?_
  refine oValG tt rfl rfl rfl rfl rfl hb2 rfl rfl rfl trivial ?_
  refine oPickF rfl rfl rfl rfl rfl hb2 rfl ?_
  refine vNil ?_
  change VC _ _ _ _
  refine vCond rfl (fun hb4 => ?_) (fun hb4 => ?_)
  ·replace h := cnd_t hb4 h
   refine vSeq ?_
   refine vRegion ?_
   iterate 2 refine oVal tt rfl rfl rfl rfl rfl trivial ?_
   refine vNil ?_
   change VC _ _ _ _
   refine vNilT 4 9001 3 (.ints []) rfl rfl rfl rfl ?_
   refine vRet ?_
   change ∃ _, _
   cases h
   exact ⟨[9001], _, rfl, ⟨rfl, trivial⟩, rfl, (.eq rfl), rfl⟩
  ·replace h := cnd_f hb4 h
   refine vSkip ?_
   change VC _ _ _ _
   iterate 2 refine vSeq ?_
   refine vRegion ?_
   iterate 2 refine oVal tt rfl rfl rfl rfl rfl trivial ?_
   obtain ⟨v3, hc5, h⟩ := bind_inv h
   refine oCall (M_Graph_reach_w N g_0 v_1 v3 hc5) rfl rfl rfl rfl rfl rfl rfl rfl ⟨⟨rfl, rfl, trivial⟩, rfl, trivial⟩ ?_
   iterate 2 refine oVal tt rfl rfl rfl rfl rfl trivial ?_
   refine vNil ?_
   change VC _ _ _ _
   refine vJoin (F := fun k => I_ReachOf_l1 N v3 k) h (α := List Int) (J := fun (l6 : List Int) => (⟨[(5, .row 32 0 l6.length)], [(32, some (3, .ints l6))], []⟩ : PS)) ?_ ?_
   ·rintro l6 h
    show VC _ _ _ (⟨[(5, .row 32 0 l6.length)], [(32, some (3, .ints l6))], []⟩ : PS)
    refine vSeq ?_
    refine vRegion ?_
    iterate 2 refine oVal tt rfl rfl rfl rfl rfl trivial ?_
    refine vNil ?_
    change VC _ _ _ _
    refine vRet ?_
    change ∃ _, _
    cases h
    exact ⟨[32], _, rfl, ⟨rfl, trivial⟩, rfl, (.eq rfl), rfl⟩
   ·intro k h
    refine vBlock ?_
    refine vNilT 5 32 3 (.ints []) rfl rfl rfl rfl ?_
    refine vLoopS (α := (List Int) × Int) (fun | (l8, x9) => (⟨[(5, .row 32 0 l8.length), (21, .row 1210 0 v3.length), (22, .int (v3.length : Int)), (23, .int x9)], [(32, some (3, .ints l8)), (1210, some (4, .bools v3))], []⟩ : PS)) (I_ReachOf_l1 N v3 k) h (En.of ⟨rfl, rfl, rfl, rfl, trivial⟩ ⟨rfl, rfl, trivial⟩ trivial) (fun _ => rfl) ?_
    rintro n ⟨l8, x9⟩ h
    rw [I_ReachOf_l1] at h
    show VC _ _ _ (⟨[(5, .row 32 0 l8.length), (21, .row 1210 0 v3.length), (22, .int (v3.length : Int)), (23, .int x9)], [(32, some (3, .ints l8)), (1210, some (4, .bools v3))], []⟩ : PS)
    refine vSeq ?_
    refine vRegion ?_
    refine oVal tt rfl rfl rfl rfl rfl trivial ?_
    refine vNil ?_
    change VC _ _ _ _
    refine vSeq ?_
    refine vCond rfl (fun hb6 => ?_) (fun hb6 => ?_)
    ·replace h := cnd_t hb6 h
     refine vSkip ?_
     change VC _ _ _ _
     refine vSeq ?_
     refine vBlock ?_
     refine vSeq ?_
     refine vRegion ?_
     refine oVal tt rfl rfl rfl rfl rfl trivial ?_
     obtain ⟨hg7, h⟩ := grd_inv h
     iterate 2 refine oVal tt rfl rfl rfl rfl rfl hg7 ?_
     iterate 2 refine oVal tt rfl rfl rfl rfl rfl trivial ?_
     refine vNil ?_
     change VC _ _ _ _
     refine vSeq ?_
     refine vRegion ?_
     refine oVal tt rfl rfl rfl rfl rfl trivial ?_
     refine vNil ?_
     change VC _ _ _ _
     refine vCond rfl (fun hb8 => ?_) (fun hb8 => ?_)
     ·replace h := cnd_t hb8 h
      refine vRegion ?_
      iterate 2 refine oVal tt rfl rfl rfl rfl rfl trivial ?_
      refine oBuild tt rfl rfl rfl rfl rfl rfl rfl rfl rfl rfl rfl ?_
      obtain ⟨hg9, h⟩ := grd_inv h
      refine oAppend tt rfl rfl rfl rfl rfl rfl rfl rfl rfl rfl rfl rfl rfl rfl rfl rfl (Nat.le_of_eq (Nat.zero_add _)) hg9 ?_
      refine oVal tt rfl rfl rfl rfl rfl trivial ?_
      refine vNil ?_
      change VC _ _ _ _
      refine vRegion ?_
      obtain ⟨hg10, h⟩ := grd_inv h
      refine oVal tt rfl rfl rfl rfl rfl hg10 ?_
      refine oVal tt rfl rfl rfl rfl rfl trivial ?_
      refine vNil ?_
      change ∃ _, _
      exact ⟨((l8 ++ ([x9] : List Int)), (x9 + (1 : Int))), (En.of ⟨rfl, rfl, rfl, rfl, trivial⟩ ⟨rfl, rfl, trivial⟩ trivial), h⟩
     ·replace h := cnd_f hb8 h
      refine vSkip ?_
      change VC _ _ _ _
      refine vRegion ?_
      obtain ⟨hg11, h⟩ := grd_inv h
      refine oVal tt rfl rfl rfl rfl rfl hg11 ?_
      refine oVal tt rfl rfl rfl rfl rfl trivial ?_
      refine vNil ?_
      change ∃ _, _
      exact ⟨(l8, (x9 + (1 : Int))), (En.of ⟨rfl, rfl, rfl, rfl, trivial⟩ ⟨rfl, rfl, trivial⟩ trivial), h⟩
    ·replace h := cnd_f hb6 h
     refine vExit ?_
     change ∃ _, _
     exact ⟨l8, (En.of ⟨rfl, trivial⟩ ⟨rfl, trivial⟩ trivial), h⟩
end Go.Proofs.YtmoamglpocjhgaaGreat
namespace Go.Proofs.YtmoamglpocjhgaaGreat
variable {n : Nat} {N : Nat}
theorem tailR_s (hN : 4000000 ≤ N) {p : Pbl} (hl : p.tails.length ≤ 3000000) (v : Int) : S_l4Tail N p v = some (p.tails.count v : Int) := by
 unfold S_l4Tail
 refine Eq.trans ?_ (fold (N := N) (len := p.tails.length) (σ := Int) (st := fun i => ((p.tails.take i).count v : Int)) (F := fun m s => S_l4Tail_l1 N p v (fun n3 => some n3) m (s.1, s.2)) (fin := some (p.tails.count v : Int)) (by omega) (fun m i hi => ?_) fun m => ?_)
 ·simp
 ·show S_l4Tail_l1 N p v _ (m + 1) (((p.tails.take i).count v : Int), (i : Int)) = S_l4Tail_l1 N p v _ m (((p.tails.take (i + 1)).count v : Int), ((i + 1 : Nat) : Int))
  have e : p.tails.take (i + 1) = p.tails.take i ++ [p.tails.getD i 0] := by
   rw [List.take_add_one, List.getElem?_eq_getElem hi, List.getD_eq_getElem?_getD, List.getElem?_eq_getElem hi]; rfl
  have hc := List.count_le_length (a := v) (l := p.tails.take i)
  have ht : (p.tails.take i).length ≤ i := by rw [List.length_take]; omega
  rw [S_l4Tail_l1, cnd_dt (by omega), grd_pos (by omega), show ((i : Int)).toNat = i from by omega, e, List.count_append]
  by_cases hv : p.tails.getD i 0 = v
  ·have hb : (p.tails.getD i 0 == v) = true := by rw [beq_iff_eq]; exact hv
   rw [hb, cnd_true, grd_R (by omega) (by omega), grd_R (by omega) (by omega), succ_cast, hv]
   simp
  ·have hb : (p.tails.getD i 0 == v) = false := by rw [beq_eq_false_iff_ne]; exact hv
   have hc2 : [p.tails.getD i 0].count v = 0 := by rw [List.count_eq_zero]; simpa using fun h => hv h.symm
   rw [hb, cnd_false, grd_R (by omega) (by omega), succ_cast, hc2]; rfl
 ·show S_l4Tail_l1 N p v _ (m + 1) (((p.tails.take p.tails.length).count v : Int), (p.tails.length : Int)) = _
  rw [S_l4Tail_l1, cnd_df (by omega), List.take_length]
structure Asc (p : Pbl) (i : Nat) : Prop where
 lt : ∀ j, 0 < j → j < p.placed.length → p.placed.getD (j - 1) 0 < p.placed.getD j 0
 last : ∀ j, j < p.placed.length → p.placed.getD j 0 < (i : Int)
theorem isPeb_s (hN : 4000000 ≤ N) {g : Grf} (hg : isGraph g = true) (hn : g.n = n) {p : Pbl} (hp : PG n g.bars p) {i : Nat} (ha : Asc p i) : S_IsPebbles N g 2 p = some true := by
 have hgp := isGraph_parts hg
 have fl := hp.inv.fl
 have tl := hp.inv.tl
 simp only [List.length_map] at tl
 have t2 := hp.inv.tlen
 have l1 : ∀ (fuel v : Nat), v ≤ n → n < fuel + v → S_IsPebbles_l1 N g 2 p (fun (_ : Unit) => some true) fuel (v : Int) = some true := by
  intro fuel
  induction fuel with
  | zero => intro v h1 h2; omega
  | succ fuel ih =>
   intro v h1 h2
   rw [S_IsPebbles_l1]
   by_cases hv : v < n
   ·have h3 := hp.inv.nn v hv
    have h4 := hp.inv.sm v hv
    rw [cnd_dt (by omega), grd_pos (by omega), show ((v : Int)).toNat = v from by omega, cnd_df (by omega), tailR_s hN (by omega), Option.bind_some, grd_R (by omega) (by omega)]
    have hb : ((p.free.getD v 0 + (p.tails.count (v : Int) : Int)) != (2 : Int)) = false := by rw [h4]; rfl
    rw [hb, cnd_false, grd_R (by omega) (by omega), succ_cast]
    exact ih (v + 1) (by omega) (by omega)
   ·rw [cnd_df (by omega)]
 have l2 : ∀ (fuel j : Nat) (kk : Unit → Option Bool), j ≤ p.placed.length → p.placed.length < fuel + j → S_IsPebbles_l2 N g p kk fuel (j : Int) = kk () := by
  intro fuel
  induction fuel with
  | zero => intro j kk h1 h2; omega
  | succ fuel ih =>
   intro j kk h1 h2
   rw [S_IsPebbles_l2]
   by_cases hj : j < p.placed.length
   ·have h3 := hp.pl (p.placed.getD j 0) (getD_mem hj)
    have h4 := hp.inv.en j (by rw [List.length_map]; exact hj)
    rw [eAt hj] at h4
    have hend : ∀ X : Option Bool, cnd (p.tails.getD j 0 != (g.bars.getD (p.placed.getD j 0).toNat (0, 0)).1) (cnd (p.tails.getD j 0 != (g.bars.getD (p.placed.getD j 0).toNat (0, 0)).2) (some false) X) X = X := by
     intro X
     rcases h4 with h4 | h4
     ·have hb : (p.tails.getD j 0 != (g.bars.getD (p.placed.getD j 0).toNat (0, 0)).1) = false := by rw [h4]; simp
      rw [hb, cnd_false]
     ·have hb : (p.tails.getD j 0 != (g.bars.getD (p.placed.getD j 0).toNat (0, 0)).2) = false := by rw [h4]; simp
      rw [hb, cnd_false]
      cases (p.tails.getD j 0 != (g.bars.getD (p.placed.getD j 0).toNat (0, 0)).1) <;> rfl
    rw [cnd_dt (by omega), grd_pos (p := 0 ≤ (j : Int) ∧ (j : Int) < (p.placed.length : Int)) (by omega), show ((j : Int)).toNat = j from by omega, cnd_df (by omega), cnd_df (by omega), grd_pos (p := 0 ≤ (j : Int) ∧ (j : Int) < (p.tails.length : Int)) (by omega), grd_pos (p := 0 ≤ p.placed.getD j 0 ∧ p.placed.getD j 0 < (g.bars.length : Int)) (by omega), grd_R (by omega) (by omega), hend, succ_cast]
    by_cases h0 : 0 < j
    ·have h5 := ha.lt j h0 hj
     rw [cnd_dt (by omega), grd_R (by omega) (by omega), grd_pos (by omega), show ((j : Int) - 1).toNat = j - 1 from by omega, cnd_df (by omega)]
     exact ih (j + 1) kk (by omega) (by omega)
    ·rw [cnd_df (by omega), grd_R (by omega) (by omega)]
     exact ih (j + 1) kk (by omega) (by omega)
   ·rw [cnd_df (by omega)]
 unfold S_IsPebbles
 have hb1 : ((p.free.length : Int) != g.n) = false := by rw [fl, hn]; simp
 have hb2 : ((p.tails.length : Int) != (p.placed.length : Int)) = false := by rw [tl]; simp
 rw [isGraphS_s N hN, Option.bind_some, hg, Bool.not_true, cnd_false, l1In_s N, Option.bind_some, show inB (2 : Int) 1 3 = true from by decide, Bool.not_true, cnd_false, hb1, cnd_false, hb2, cnd_false]
 exact (l2 N 0 _ (by omega) (by omega)).trans (l1 N 0 (by omega) (by omega))
theorem rangeS_s : S_IsRange N 2 3 = some true := by
 unfold S_IsRange
 rw [l1In_s N, Option.bind_some, show inB (2 : Int) 1 3 = true from by decide, cnd_true, cnd_dt (by omega), grd_R (by omega) (by omega)]
 rfl
theorem rangeI_s : I_IsRange N 2 3 = some true := by
 unfold I_IsRange
 rw [within_s N, Option.bind_some, show inB (2 : Int) 1 3 = true from by decide, cnd_true, grd_R (by omega) (by omega), grd_R (by omega) (by omega), within_s N]
 rfl
theorem newPeb_s (hN : 4000000 ≤ N) {g : Grf} (hg : isGraph g = true) (hn : g.n = n) : S_NewPebbles N g 2 = some (⟨List.replicate n 2, [], []⟩, true) := by
 have hgp := isGraph_parts hg
 unfold S_NewPebbles
 rw [isGraphS_s N hN, Option.bind_some, hg, Bool.not_true, cnd_false, l1In_s N, Option.bind_some, show inB (2 : Int) 1 3 = true from by decide, Bool.not_true, cnd_false]
 refine (fold (len := n) (st := fun i => List.replicate i (2 : Int)) (by omega) ?_ ?_)
 ·intro m i hi
  rw [S_NewPebbles_l1]
  simp (disch := omega) only [Int.toNat_natCast, tk0, List.length_cons, List.length_nil, grd_pos, grd_T, grd_R, cnd_dt, cnd_df, cnd_true, cnd_false, Option.bind_some, List.length_replicate, succ_cast]
  rw [List.replicate_succ']
 ·intro m
  rw [S_NewPebbles_l1, cnd_df (by omega)]
theorem place_s (hN : 4000000 ≤ N) {g : Grf} (hg : isGraph g = true) (hn : g.n = n) (hb : ∀ e ∈ g.bars, Bok n e) {p : Pbl} {i : Nat} (hi : i < g.bars.length) (h : Gm n g.bars p i) (ha : Asc p i) :
  ∃ (p' : Pbl) (b : Bool), S_PlaceBar N g 2 3 p (i : Int) = some (p', b) ∧ Gm n g.bars p' (i + 1) ∧ Asc p' (i + 1) := by
 have hgp := isGraph_parts hg
 have hbi := hb _ (getD_mem (d := (0, 0)) hi)
 have r1 := hbi.1
 have r2 := hbi.2.1
 have r3 := hbi.2.2.1
 have r4 := hbi.2.2.2.1
 have fl0 := h.pg.inv.fl
 have tl0 := h.pg.inv.tl
 simp only [List.length_map] at tl0
 have t20 := h.pg.inv.tlen
 have hcopy : S_l4Copy N p = some p := by
  unfold S_l4Copy
  rw [grd_pos (by omega), grd_pos (by omega), grd_pos (by omega)]; rfl
 have hlast : ∀ X Y : Option (Pbl × Bool), cnd (decide ((p.placed.length : Int) > 0)) (grd (Rg64 ((p.placed.length : Int) - 1)) (grd (0 ≤ ((p.placed.length : Int) - 1) ∧ ((p.placed.length : Int) - 1) < (p.placed.length : Int)) (cnd (decide (p.placed.getD ((p.placed.length : Int) - 1).toNat 0 ≥ (i : Int))) Y X))) X = X := by
  intro X Y
  by_cases h0 : (p.placed.length : Int) > 0
  ·have h5 := ha.last (p.placed.length - 1) (by omega)
   rw [cnd_dt h0, grd_R (by omega) (by omega), grd_pos (by omega), show ((p.placed.length : Int) - 1).toNat = p.placed.length - 1 from by omega, cnd_df (by omega)]
  ·rw [cnd_df h0]
 unfold S_PlaceBar
 rw [isPeb_s hN hg hn h.pg ha, Option.bind_some, Bool.not_true, cnd_false, rangeS_s, Option.bind_some, Bool.not_true, cnd_false, cnd_df (by omega), cnd_df (by omega), hlast]
 rw [grd_pos (by omega), grd_R (by omega) (by omega), show ((i : Int)).toNat = i from by omega]
 obtain ⟨p', g1, g2, ⟨g3, g4⟩ | ⟨g3, g4⟩⟩ := gather_s hN (by omega) hn (a := (g.bars.getD i (0, 0)).1) (b := (g.bars.getD i (0, 0)).2) hbi h.pg
 ·have le1 := g2.inv.le2 (v := (g.bars.getD i (0, 0)).2.toNat) (by omega)
  have le2 := g2.inv.le2 (v := (g.bars.getD i (0, 0)).1.toNat) (by omega)
  have hput := h.put hi hbi g1 g2 (.inl rfl) (by omega) g4
  have fl := g2.inv.fl
  have tl := g2.inv.tl
  simp only [List.length_map] at tl
  have t2 := g2.inv.tlen
  refine ⟨_, true, ?_, hput, ?_⟩
  ·show (S_l4Gather N g p (g.bars.getD i (0, 0)).1 (g.bars.getD i (0, 0)).2 4).bind _ = _
   rw [g3, Option.bind_some]
   dsimp only [jn]
   have hb0 : ((p'.free.getD (g.bars.getD i (0, 0)).1.toNat 0) == (0 : Int)) = false := by rw [beq_eq_false_iff_ne]; omega
   rw [Bool.not_true, cnd_false, grd_pos (by omega), hb0, cnd_false]
   rw [grd_pos (by omega), grd_R (by omega) (by omega), grd_pos (by omega), grd_pos (by rw [g1]; omega), grd_pos (by rw [List.length_set])]
  ·constructor
   ·intro j h0 hj
    show (p'.placed ++ [(i : Int)]).getD (j - 1) 0 < (p'.placed ++ [(i : Int)]).getD j 0
    have hj : j < (p'.placed ++ [(i : Int)]).length := hj
    rw [g1] at hj ⊢
    rw [List.length_append] at hj
    simp only [List.length_cons, List.length_nil] at hj
    rw [getD_app, getD_app, if_pos (by omega)]
    by_cases hjl : j < p.placed.length
    ·rw [if_pos hjl]; exact ha.lt j h0 hjl
    ·rw [if_neg hjl, if_pos (by omega)]; exact ha.last (j - 1) (by omega)
   ·intro j hj
    show (p'.placed ++ [(i : Int)]).getD j 0 < _
    have hj : j < (p'.placed ++ [(i : Int)]).length := hj
    rw [g1] at hj ⊢
    rw [List.length_append] at hj
    simp only [List.length_cons, List.length_nil] at hj
    rw [getD_app]
    by_cases hjl : j < p.placed.length
    ·rw [if_pos hjl]; have := ha.last j hjl; omega
    ·rw [if_neg hjl, if_pos (by omega)]; omega
 ·refine ⟨p, false, ?_, h.skip g4, ⟨ha.lt, fun j hj => by have := ha.last j hj; omega⟩⟩
  show (S_l4Gather N g p (g.bars.getD i (0, 0)).1 (g.bars.getD i (0, 0)).2 4).bind _ = _
  rw [g3, Option.bind_some]
  show cnd (!false) _ _ = _
  rw [Bool.not_false, cnd_true, hcopy]; rfl
theorem runS_s (hN : 4000000 ≤ N) {g : Grf} (hg : isGraph g = true) (hn : g.n = n) (hb : ∀ e ∈ g.bars, Bok n e) : ∃ p : Pbl, Gm n g.bars p g.bars.length ∧ S_RunPebbles N g 2 3 = some (p, true) := by
 have hgp := isGraph_parts hg
 unfold S_RunPebbles
 rw [newPeb_s hN hg hn, Option.bind_some]
 show ∃ p, _ ∧ cnd (!true) _ _ = _
 rw [Bool.not_true, cnd_false, rangeS_s, Option.bind_some, Bool.not_true, cnd_false]
 have key : ∀ (fuel i : Nat) (p : Pbl), i ≤ g.bars.length → g.bars.length < fuel + i → Gm n g.bars p i → Asc p i → ∃ p' : Pbl, Gm n g.bars p' g.bars.length ∧
   S_RunPebbles_l1 N g 2 3 (fun (x : (List Int) × (List Int) × (List Int)) => match x with | (l17, l18, l19) => some ((⟨l17, l18, l19⟩ : Pbl), true)) fuel (p.free, p.tails, p.placed, (i : Int)) = some (p', true) := by
  intro fuel
  induction fuel with
  | zero => intro i p h1 h2; omega
  | succ fuel ih =>
   intro i p h1 h2 h3 h4
   rw [S_RunPebbles_l1]
   by_cases hi : i < g.bars.length
   ·obtain ⟨p', b, k1, k2, k3⟩ := place_s hN hg hn hb hi h3 h4
    obtain ⟨q, q1, q2⟩ := ih (i + 1) p' (by omega) (by omega) k2 k3
    refine ⟨q, q1, ?_⟩
    rw [cnd_dt (by omega)]
    show (S_PlaceBar N g 2 3 p (i : Int)).bind _ = _
    rw [k1, Option.bind_some]
    show grd (Rg64 ((i : Int) + 1)) _ = _
    rw [grd_R (by omega) (by omega), succ_cast]
    exact q2
   ·have e : i = g.bars.length := by omega
    subst e
    rw [cnd_df (by omega)]
    exact ⟨p, h3, rfl⟩
 exact key N 0 ⟨List.replicate n 2, [], []⟩ (by omega) (by omega) (Gm.start g.bars) ⟨fun j h1 h2 => by simp at h2, fun j h2 => by simp at h2⟩
theorem runI_s (hN : 4000000 ≤ N) {g : Grf} (hg : isGraph g = true) (hn : g.n = n) (hb : ∀ e ∈ g.bars, Bok n e) : ∃ p : Pbl, Gm n g.bars p g.bars.length ∧ I_RunPebbles N g 2 3 = some (p, true) := by
 have hgp := isGraph_parts hg
 obtain ⟨p', g1, g2⟩ := play1_s hN (by omega) hb (by omega) (kk := fun x => match x with | (l24, l25, l26) => some (⟨l24, l25, l26⟩ : Pbl)) N 0 ⟨List.replicate n 2, [], []⟩ (by omega) (by omega) (Gm.start g.bars)
 refine ⟨p', g1, ?_⟩
 have e : I_play N n g.bars 2 3 = some p' := by
  unfold I_play
  refine (fold (len := n) (st := fun i => List.replicate i (2 : Int)) (by omega) ?_ ?_)
  ·intro m i hi
   rw [I_play_l2]
   simp (disch := omega) only [Int.toNat_natCast, tk0, List.length_cons, List.length_nil, grd_pos, grd_T, grd_R, cnd_dt, cnd_df, cnd_true, cnd_false, Option.bind_some, List.length_replicate, succ_cast]
   rw [List.replicate_succ']
  ·intro m
   rw [I_play_l2]
   rw [cnd_df (by omega)]
   exact g2
 unfold I_RunPebbles
 rw [isGraphI_s N hN, Option.bind_some, hg, Bool.not_true, cnd_false, rangeI_s, Option.bind_some, Bool.not_true, cnd_false, hn, e]
 rfl
theorem rank_x (hN : 4000000 ≤ N) {g : Grf} : ∃ r : Int, -1 ≤ r ∧ r ≤ 24 ∧ S_RankOf N g 2 3 = some r ∧ I_RankOf N g 2 3 = some r := by
 unfold S_RankOf I_RankOf
 cases hg : isGraph g with
 | false =>
  refine ⟨-1, by omega, by omega, ?_, ?_⟩
  ·have : S_RunPebbles N g 2 3 = some (⟨[], [], []⟩, false) := by
    unfold S_RunPebbles S_NewPebbles
    rw [isGraphS_s N hN, Option.bind_some, hg]; rfl
   rw [this]; rfl
  ·have : I_RunPebbles N g 2 3 = some (⟨[], [], []⟩, false) := by
    unfold I_RunPebbles
    rw [isGraphI_s N hN, Option.bind_some, hg]; rfl
   rw [this]; rfl
 | true =>
  have hgp := isGraph_parts hg
  have hn : g.n = (g.n.toNat : Int) := by omega
  have hb : ∀ e ∈ g.bars, Bok g.n.toNat e := fun e he => by
   have := isGraph_bar hg he
   exact ⟨by omega, by omega, by omega, by omega, by omega⟩
  obtain ⟨p, k1, k2⟩ := runS_s hN hg hn hb
  obtain ⟨q, q1, q2⟩ := runI_s hN hg hn hb
  have b1 := k1.bas
  have b2 := q1.bas
  have hlen : p.placed.length = q.placed.length := by
   have a1 := Bas.len hb b1 b2 (fun e he => b2.1 e he)
   have a2 := Bas.len hb b2 b1 (fun e he => b1.1 e he)
   simp only [List.length_map] at a1 a2
   omega
  have t2 := k1.pg.inv.tlen
  have tl := k1.pg.inv.tl
  simp only [List.length_map] at tl
  refine ⟨(p.placed.length : Int), by omega, by omega, ?_, ?_⟩
  ·rw [k2]; rfl
  ·rw [q2, hlen]; rfl
end Go.Proofs.YtmoamglpocjhgaaGreat
namespace Go.Proofs.YtmoamglpocjhgaaGreat
variable (N : Nat)
theorem all_not_dbl (l : List (Int × Int)) : ((List.range l.length).all fun i => !doubleAt l i) = !hasDbl l := by
 simp only [hasDbl, List.not_any_eq_all_not]
theorem pair_eq (a b : Int × Int) : ((a.1 == b.1) && (a.2 == b.2)) = (a == b) := by
 obtain ⟨x, y⟩ := a; obtain ⟨u, v⟩ := b; rfl
theorem hasDoubles_s (hN : 4000000 ≤ N) {g : Grf} (hb : g.bars.length ≤ 3000000) : I_hasDoubles N g = some (hasDbl g.bars) := by
 unfold I_hasDoubles
 refine (srch1 (len := g.bars.length) (ok := fun i => !doubleAt g.bars i) (bad := some true) (fin := some false) (by omega) rfl ?_ ?_).trans ?_
 ·intro n i h0 hi
  rw [I_hasDoubles_l1]
  simp (disch := omega) only [Int.toNat_natCast, tk0, List.length_cons, List.length_nil, grd_pos, grd_T, grd_R, cnd_dt, cnd_df, cnd_true, cnd_false, Option.bind_some, succ_cast, pair_eq, show ((i : Int) - 1).toNat = i - 1 from by omega]
  refine cnd_congr' ?_ _ _
  simp [doubleAt, h0]
 ·intro n i hi
  rw [I_hasDoubles_l1]
  simp (disch := omega) only [Int.toNat_natCast, tk0, List.length_cons, List.length_nil, grd_pos, grd_T, grd_R, cnd_dt, cnd_df, cnd_true, cnd_false, Option.bind_some]
 ·rw [all_not_dbl, cnd_some]; cases hasDbl g.bars <;> rfl
theorem l17Simple_s (hN : 4000000 ≤ N) {g : Grf} (hb : g.bars.length ≤ 3000000) : S_l17Simple N g = some (isSimple g) := by
 unfold S_l17Simple isSimple
 refine (srch1 (len := g.bars.length) (ok := fun i => !doubleAt g.bars i) (bad := some false) (fin := some (isGraph g)) (by omega) rfl ?_ ?_).trans ?_
 ·intro n i h0 hi
  rw [S_l17Simple_l1]
  simp (disch := omega) only [Int.toNat_natCast, tk0, List.length_cons, List.length_nil, grd_pos, grd_T, grd_R, cnd_dt, cnd_df, cnd_true, cnd_false, Option.bind_some, succ_cast, pair_eq, show ((i : Int) - 1).toNat = i - 1 from by omega]
  refine cnd_congr' ?_ _ _
  simp [doubleAt, h0]
 ·intro n i hi
  rw [S_l17Simple_l1]
  simp (disch := omega) only [Int.toNat_natCast, tk0, List.length_cons, List.length_nil, grd_pos, grd_T, grd_R, cnd_dt, cnd_df, cnd_true, cnd_false, Option.bind_some, isGraphS_s N hN]
 ·rw [all_not_dbl, cnd_some]; cases hasDbl g.bars <;> cases isGraph g <;> rfl
theorem ghasW_s (g : Grf) (x : Int) : M_Graph_has N g x = some (inB x 0 (w64 (g.n - 1))) := by
 unfold M_Graph_has
 simp (disch := omega) only [Int.toNat_natCast, tk0, List.length_cons, List.length_nil, grd_pos, grd_T, grd_R, cnd_dt, cnd_df, cnd_true, cnd_false, Option.bind_some, within_s]
theorem ghas_s {g : Grf} (h : 0 ≤ g.n) (h' : g.n ≤ 1048576) (x : Int) : M_Graph_has N g x = some (inB x 0 (g.n - 1)) := by
 unfold M_Graph_has
 rw [w64_id (by omega) (by omega)]
 simp (disch := omega) only [Int.toNat_natCast, tk0, List.length_cons, List.length_nil, grd_pos, grd_T, grd_R, cnd_dt, cnd_df, cnd_true, cnd_false, Option.bind_some, within_s]
end Go.Proofs.YtmoamglpocjhgaaGreat
namespace Go.Proofs.YtmoamglpocjhgaaGreat
variable (N : Nat)
end Go.Proofs.YtmoamglpocjhgaaGreat
namespace Go.Proofs.YtmoamglpocjhgaaGreat
variable {N : Nat}
def bitB (m : Int) (j : Nat) : Bool := andI (shrI m (j : Int)) (1 : Int) == (1 : Int)
def setU (m : Int) (k : Nat) : List Int := ((List.range k).filter (bitB m)).map fun (j : Nat) => (j : Int)
theorem setU_succ (m : Int) (k : Nat) : setU m (k + 1) = cnd (bitB m k) (setU m k ++ [(k : Int)]) (setU m k) := by
 unfold setU
 rw [List.range_succ, List.filter_append, List.map_append]
 cases h : bitB m k <;> simp [h, cnd]
theorem setU_len (m : Int) (k : Nat) : (setU m k).length ≤ k := by
 unfold setU
 rw [List.length_map]
 exact Nat.le_trans (List.length_filter_le _ _) (by simp)
theorem setU_rg {m : Int} {k : Nat} {x : Int} (h : x ∈ setU m k) : 0 ≤ x ∧ x < (k : Int) := by
 unfold setU at h
 obtain ⟨j, h1, rfl⟩ := List.mem_map.1 h
 have := (List.mem_filter.1 h1).1
 have := List.mem_range.1 this
 omega
theorem setS_s (hN : 4000000 ≤ N) {n m : Int} (hn : n ≤ 1000) : S_l3Set N n m = some (setU m n.toNat) := by
 unfold S_l3Set
 refine Eq.trans ?_ (fold (N := N) (len := n.toNat) (σ := List Int) (st := fun i => setU m i) (F := fun f s => S_l3Set_l1 N n m (fun l3 => some l3) f (s.1, s.2)) (fin := some (setU m n.toNat)) (by omega) (fun f i hi => ?_) fun f => ?_)
 ·simp [setU]
 ·show S_l3Set_l1 N n m _ (f + 1) (setU m i, (i : Int)) = S_l3Set_l1 N n m _ f (setU m (i + 1), ((i + 1 : Nat) : Int))
  have hl := setU_len m i
  rw [S_l3Set_l1, cnd_dt (by omega), grd_pos (by omega), setU_succ]
  show cnd (bitB m i) _ _ = _
  cases bitB m i with
  | true => rw [cnd_true, cnd_true, grd_pos (by omega), grd_R (by omega) (by omega), succ_cast]
  | false => rw [cnd_false, cnd_false, grd_R (by omega) (by omega), succ_cast]
 ·show S_l3Set_l1 N n m _ (f + 1) (setU m n.toNat, ((n.toNat : Nat) : Int)) = _
  rw [S_l3Set_l1, cnd_df (by omega)]
theorem setI_s (hN : 4000000 ≤ N) {n m : Int} (hn : n ≤ 1000) : I_setOf N m n = some (setU m n.toNat) := by
 unfold I_setOf
 refine Eq.trans ?_ (fold (N := N) (len := n.toNat) (σ := List Int) (st := fun i => setU m i) (F := fun f s => I_setOf_l1 N m n (fun l3 => some l3) f (s.1, s.2)) (fin := some (setU m n.toNat)) (by omega) (fun f i hi => ?_) fun f => ?_)
 ·simp [setU]
 ·show I_setOf_l1 N m n _ (f + 1) (setU m i, (i : Int)) = I_setOf_l1 N m n _ f (setU m (i + 1), ((i + 1 : Nat) : Int))
  have hl := setU_len m i
  rw [I_setOf_l1, cnd_dt (by omega), grd_pos (by omega), setU_succ]
  show cnd (bitB m i) _ _ = _
  cases bitB m i with
  | true => rw [cnd_true, cnd_true, grd_pos (by omega), grd_R (by omega) (by omega), succ_cast]
  | false => rw [cnd_false, cnd_false, grd_R (by omega) (by omega), succ_cast]
 ·show I_setOf_l1 N m n _ (f + 1) (setU m n.toNat, ((n.toNat : Nat) : Int)) = _
  rw [I_setOf_l1, cnd_df (by omega)]
def outN (set : List Int) (i : Nat) : Nat := (List.range i).countP fun (j : Nat) => !set.contains (j : Int)
theorem outN_succ (set : List Int) (i : Nat) : outN set (i + 1) = outN set i + (if set.contains (i : Int) then 0 else 1) := by
 unfold outN
 rw [List.range_succ, List.countP_append, List.countP_singleton]
 cases set.contains (i : Int) <;> rfl
theorem outN_set (m : Int) (k : Nat) : outN (setU m k) k + (setU m k).length = k := by
 have h1 : (setU m k).length = (List.range k).countP (bitB m) := by unfold setU; rw [List.length_map, List.countP_eq_length_filter]
 have h2 : outN (setU m k) k = (List.range k).countP fun j => !bitB m j := by
  unfold outN
  apply List.countP_congr
  intro j hj
  have hj := List.mem_range.1 hj
  have : (setU m k).contains (j : Int) = bitB m j := by
   rw [Bool.eq_iff_iff, List.contains_iff_mem]
   unfold setU
   constructor
   ·intro h
    obtain ⟨i, h1, h2⟩ := List.mem_map.1 h
    have : i = j := by omega
    subst this
    exact (List.mem_filter.1 h1).2
   ·intro h
    exact List.mem_map.2 ⟨j, List.mem_filter.2 ⟨List.mem_range.2 hj, h⟩, rfl⟩
  rw [this]
 rw [h1, h2]
 have := List.length_eq_countP_add_countP (bitB m) (l := List.range k)
 rw [List.length_range] at this
 have h3 : (List.range k).countP (fun j => !bitB m j) = (List.range k).countP (fun a => decide ¬bitB m a = true) := by
  apply List.countP_congr
  intro j _
  simp
 rw [h3]; omega
theorem wo_l2 (hN : 4000000 ≤ N) {g : Grf} {set : List Int} (hs : set.length ≤ 3000000) {m : Nat} (hm : (max (0 : Int) (min (8 : Int) g.n)).toNat = m) (hm8 : m ≤ 8) {kS : List Int × Int → Option Grf} {kI : List Int × Int → Option Grf} :
  ∀ (fuel i : Nat) (l : List Int) (c : Int), i ≤ m → m < fuel + i → l.length = m → 0 ≤ c ∧ c ≤ (i : Int) → c = (outN set i : Int) →
  ∃ (l' : List Int) (c' : Int), l'.length = m ∧ (0 ≤ c' ∧ c' = (outN set m : Int)) ∧ c' ≤ (m : Int) ∧ S_WithoutPoints_l2 N g set kS fuel (l, c, (i : Int)) = kS (l', c') ∧ I_WithoutPoints_l2 N g set kI fuel (l, (i : Int), c) = kI (l', c') := by
 have hm2 : (max (0 : Int) (min g.n (8 : Int))).toNat = m := by omega
 intro fuel
 induction fuel with
 | zero => intro i l c h1 h2; omega
 | succ fuel ih =>
  intro i l c h1 h2 h3 h4 h5
  have ho := outN_succ set i
  rw [S_WithoutPoints_l2, I_WithoutPoints_l2, hm, hm2]
  by_cases hi : i < m
  ·have er : (List.replicate m (0 : Int)).length = m := List.length_replicate
   rw [cnd_dt (by rw [er]; omega), cnd_dt (by rw [er]; omega), grd_pos (p := 0 ≤ (i : Int) ∧ (i : Int) < ((List.replicate m (0 : Int)).length : Int)) (by rw [er]; omega), grd_pos (p := 0 ≤ (i : Int) ∧ (i : Int) < (l.length : Int)) (by omega), grd_pos (p := 0 ≤ (i : Int) ∧ (i : Int) < ((List.replicate m (0 : Int)).length : Int)) (by rw [er]; omega), grd_pos (p := 0 ≤ (i : Int) ∧ (i : Int) < (l.length : Int)) (by omega), l2Has_s N hN hs, contains_s N hN hs, Option.bind_some, Option.bind_some, show ((i : Int)).toNat = i from by omega]
   have el : (l.set i (-1 : Int)).length = m := by rw [List.length_set]; exact h3
   cases hc : set.contains (i : Int) with
   | true =>
    rw [hc] at ho
    obtain ⟨l', c', g1, g2, g3, g4, g5⟩ := ih (i + 1) (l.set i (-1 : Int)) c (by omega) (by omega) el (by omega) (by simp at ho; omega)
    refine ⟨l', c', g1, g2, g3, ?_, ?_⟩
    ·rw [Bool.not_true, cnd_false, grd_R (by omega) (by omega), succ_cast]; exact g4
    ·rw [Bool.not_true, cnd_false, grd_R (by omega) (by omega), succ_cast]; exact g5
   | false =>
    rw [hc] at ho
    obtain ⟨l', c', g1, g2, g3, g4, g5⟩ := ih (i + 1) ((l.set i (-1 : Int)).set i c) (c + 1) (by omega) (by omega) (by rw [List.length_set]; exact el) (by omega) (by simp at ho; omega)
    refine ⟨l', c', g1, g2, g3, ?_, ?_⟩
    ·rw [Bool.not_false, cnd_true, grd_pos (by omega), grd_R (by omega) (by omega), grd_R (by omega) (by omega), succ_cast]; exact g4
    ·rw [Bool.not_false, cnd_true, grd_pos (by omega), grd_R (by omega) (by omega), grd_R (by omega) (by omega), succ_cast]; exact g5
  ·have er : (List.replicate m (0 : Int)).length = m := List.length_replicate
   rw [cnd_df (by rw [er]; omega), cnd_df (by rw [er]; omega)]
   have e : i = m := by omega
   exact ⟨l, c, h3, ⟨h4.1, by rw [h5, e]⟩, by omega, rfl, rfl⟩
theorem wo_l1 (hN : 4000000 ≤ N) {g : Grf} (hg : isGraph g = true) {l : List Int} (hl : (l.length : Int) = g.n) {kS kI : List (Int × Int) → Option Grf} :
  ∀ (fuel i : Nat) (L : List (Int × Int)), i ≤ g.bars.length → g.bars.length < fuel + i → L.length ≤ i →
  ∃ L', L'.length ≤ g.bars.length ∧ S_WithoutPoints_l1 N g l kS fuel (L, (i : Int)) = kS L' ∧ I_WithoutPoints_l1 N g l kI fuel (L, (i : Int)) = kI L' := by
 have hp := isGraph_parts hg
 have hmS : (((max (0 : Int) (min (8 : Int) g.n))).toNat : Int) = g.n := by omega
 have hmI : (((max (0 : Int) (min g.n (8 : Int)))).toNat : Int) = g.n := by omega
 intro fuel
 induction fuel with
 | zero => intro i L h1 h2; omega
 | succ fuel ih =>
  intro i L h1 h2 h3
  by_cases hi : i < g.bars.length
  ·have hb := isGraph_bar hg (p := g.bars.getD i (0, 0)) (by rw [List.getD_eq_getElem?_getD, List.getElem?_eq_getElem hi]; exact List.getElem_mem hi)
   obtain ⟨e, he⟩ : ∃ e, e = g.bars.getD i (0, 0) := ⟨_, rfl⟩
   rw [← he] at hb
   have hS : S_WithoutPoints_l1 N g l kS (fuel + 1) (L, (i : Int)) = cnd (decide (l.getD e.1.toNat 0 ≥ 0)) (cnd (decide (l.getD e.2.toNat 0 ≥ 0)) (S_WithoutPoints_l1 N g l kS fuel (L ++ [(l.getD e.1.toNat 0, l.getD e.2.toNat 0)], ((i + 1 : Nat) : Int))) (S_WithoutPoints_l1 N g l kS fuel (L, ((i + 1 : Nat) : Int)))) (S_WithoutPoints_l1 N g l kS fuel (L, ((i + 1 : Nat) : Int))) := by
    rw [S_WithoutPoints_l1, cnd_dt (by omega), isGraphS_s N hN, Option.bind_some, hg, cnd_true, List.length_replicate, show ((i : Int)).toNat = i from by omega, ← he]
    rw [grd_pos (p := 0 ≤ (i : Int) ∧ (i : Int) < (g.bars.length : Int)) (by omega)]
    rw [grd_pos (p := 0 ≤ e.1 ∧ e.1 < ((((max (0 : Int) (min (8 : Int) g.n))).toNat : Nat) : Int)) (by omega), grd_pos (p := 0 ≤ e.1 ∧ e.1 < (l.length : Int)) (by omega), grd_pos (p := 0 ≤ e.2 ∧ e.2 < ((((max (0 : Int) (min (8 : Int) g.n))).toNat : Nat) : Int)) (by omega), grd_pos (p := 0 ≤ e.2 ∧ e.2 < (l.length : Int)) (by omega)]
    rw [grd_pos (p := L.length + 1 ≤ 4294967296) (by omega), grd_R (by omega) (by omega), grd_R (by omega) (by omega), succ_cast]
   have hI : I_WithoutPoints_l1 N g l kI (fuel + 1) (L, (i : Int)) = cnd (decide (l.getD e.1.toNat 0 ≥ 0)) (cnd (decide (l.getD e.2.toNat 0 ≥ 0)) (I_WithoutPoints_l1 N g l kI fuel (L ++ [(l.getD e.1.toNat 0, l.getD e.2.toNat 0)], ((i + 1 : Nat) : Int))) (I_WithoutPoints_l1 N g l kI fuel (L, ((i + 1 : Nat) : Int)))) (I_WithoutPoints_l1 N g l kI fuel (L, ((i + 1 : Nat) : Int))) := by
    rw [I_WithoutPoints_l1, cnd_dt (by omega), List.length_replicate, show ((i : Int)).toNat = i from by omega, ← he]
    rw [grd_pos (p := 0 ≤ (i : Int) ∧ (i : Int) < (g.bars.length : Int)) (by omega)]
    rw [grd_pos (p := 0 ≤ e.1 ∧ e.1 < ((((max (0 : Int) (min g.n (8 : Int)))).toNat : Nat) : Int)) (by omega), grd_pos (p := 0 ≤ e.1 ∧ e.1 < (l.length : Int)) (by omega), grd_pos (p := 0 ≤ e.2 ∧ e.2 < ((((max (0 : Int) (min g.n (8 : Int)))).toNat : Nat) : Int)) (by omega), grd_pos (p := 0 ≤ e.2 ∧ e.2 < (l.length : Int)) (by omega)]
    rw [grd_pos (p := L.length + 1 ≤ 4294967296) (by omega), grd_R (by omega) (by omega), grd_R (by omega) (by omega), succ_cast]
   rw [hS, hI]
   obtain ⟨L1, a1, a2, a3⟩ := ih (i + 1) L (by omega) (by omega) (by omega)
   obtain ⟨L2, b1, b2, b3⟩ := ih (i + 1) (L ++ [(l.getD e.1.toNat 0, l.getD e.2.toNat 0)]) (by omega) (by omega) (by simp; omega)
   cases decide (l.getD e.1.toNat 0 ≥ 0) <;> cases decide (l.getD e.2.toNat 0 ≥ 0) <;> simp only [cnd_true, cnd_false]
   ·exact ⟨L1, a1, a2, a3⟩
   ·exact ⟨L1, a1, a2, a3⟩
   ·exact ⟨L1, a1, a2, a3⟩
   ·exact ⟨L2, b1, b2, b3⟩
  ·rw [S_WithoutPoints_l1, I_WithoutPoints_l1, cnd_df (by omega), cnd_df (by omega)]
   exact ⟨L, by omega, rfl, rfl⟩
theorem without_x (hN : 4000000 ≤ N) {g : Grf} (hgb : g.bars.length ≤ 3000000) {set : List Int} (hs : set.length ≤ 3000000) : ∃ h : Grf, h.bars.length ≤ 24 ∧ (0 ≤ h.n ∧ h.n = (outN set (max (0 : Int) (min (8 : Int) g.n)).toNat : Int)) ∧ h.n ≤ 8 ∧ S_WithoutPoints N g set = some h ∧ I_WithoutPoints N g set = some h := by
 unfold S_WithoutPoints I_WithoutPoints
 rw [grd_pos (by omega), grd_pos (by omega)]
 obtain ⟨m, hm⟩ : ∃ m, (max (0 : Int) (min (8 : Int) g.n)).toNat = m := ⟨_, rfl⟩
 have hm2 : (max (0 : Int) (min g.n (8 : Int))).toNat = m := by omega
 obtain ⟨l', c', h1, h2, h3, h4, h5⟩ := wo_l2 hN (g := g) hs hm (by omega)
  (kS := fun x => match x with | (l7, n8) => S_WithoutPoints_l1 N g l7 (fun (l16 : List (Int × Int)) => some (⟨n8, l16⟩ : Grf)) N (([] : List (Int × Int)), (0 : Int)))
  (kI := fun x => match x with | (l7, c8) => (I_IsGraph N g).bind fun v9 => cnd (!v9) (some (⟨c8, ([] : List (Int × Int))⟩ : Grf)) (I_WithoutPoints_l1 N g l7 (fun (l13 : List (Int × Int)) => some (⟨c8, l13⟩ : Grf)) N (([] : List (Int × Int)), (0 : Int))))
  N 0 (List.replicate m (0 : Int)) 0 (by omega) (by omega) List.length_replicate (by omega) (by simp [outN])
 rw [hm, hm2]
 cases hg : isGraph g with
 | false =>
  refine ⟨⟨c', []⟩, by simp, h2, by show c' ≤ 8; omega, h4.trans ?_, h5.trans ?_⟩
  ·obtain ⟨M, rfl⟩ : ∃ M, N = M + 1 := ⟨N - 1, by omega⟩
   show S_WithoutPoints_l1 (M + 1) g l' _ (M + 1) ([], 0) = _
   rw [S_WithoutPoints_l1, isGraphS_s _ hN, Option.bind_some, hg, cnd_false]
   cases decide ((0 : Int) < (g.bars.length : Int)) <;> rfl
  ·show (I_IsGraph N g).bind _ = _
   rw [isGraphI_s N hN, hg]; rfl
 | true =>
  have hp := isGraph_parts hg
  obtain ⟨L', k1, k2, k3⟩ := wo_l1 hN hg (l := l') (by omega) (kS := fun l16 => some (⟨c', l16⟩ : Grf)) (kI := fun l13 => some (⟨c', l13⟩ : Grf)) N 0 [] (by omega) (by omega) (by simp)
  refine ⟨⟨c', L'⟩, by show L'.length ≤ 24; omega, h2, by show c' ≤ 8; omega, h4.trans k2, h5.trans ?_⟩
  show (I_IsGraph N g).bind _ = _
  rw [isGraphI_s N hN, hg, Option.bind_some, Bool.not_true, cnd_false]
  exact k3
end Go.Proofs.YtmoamglpocjhgaaGreat
namespace Go.Proofs.YtmoamglpocjhgaaGreat
open Go.RowKit
def S_RemoveBar (N : Nat) (g_0 : Grf) (k_1 : Int) : Option (Grf × Bool) :=
 (S_IsGraph N g_0).bind fun v1 =>
 cnd (!v1) (
  (S_l2Copy N g_0).bind fun v2 =>
  some ((⟨v2.n, v2.bars⟩ : Grf), false)) (
  cnd (decide (k_1 < (0 : Int))) (
   (S_l2Copy N g_0).bind fun v3 =>
   some ((⟨v3.n, v3.bars⟩ : Grf), false)) (
   cnd (decide (k_1 ≥ (g_0.bars.length : Int))) (
    (S_l2Copy N g_0).bind fun v4 =>
    some ((⟨v4.n, v4.bars⟩ : Grf), false)) (
    grd (0 ≤ k_1 ∧ k_1 ≤ (g_0.bars.length : Int)) <|
    grd (((g_0.bars.take ((k_1).toNat)).drop 0).length ≤ 4294967296) <|
    grd (Rg64 (k_1 + (1 : Int))) <|
    grd (0 ≤ (k_1 + (1 : Int)) ∧ (k_1 + (1 : Int)) ≤ (g_0.bars.length : Int)) <|
    grd ((([] : List (Int × Int)) ++ ((g_0.bars.take ((k_1).toNat)).drop 0)).length + ((g_0.bars.take g_0.bars.length).drop (((k_1 + (1 : Int))).toNat)).length ≤ 4294967296) <|
    some ((⟨g_0.n, ((([] : List (Int × Int)) ++ ((g_0.bars.take ((k_1).toNat)).drop 0)) ++ ((g_0.bars.take g_0.bars.length).drop (((k_1 + (1 : Int))).toNat)))⟩ : Grf), true))))
set_option maxRecDepth 20000 in
set_option maxHeartbeats 1600000 in
theorem S_RemoveBar_w (N : Nat) (g_0 : Grf) (k_1 : Int) (r : Grf × Bool) (h : S_RemoveBar N g_0 k_1 = some r) : PCall Tryz.prog 172 [gD g_0, .int k_1] [(39, .pairs r.1.bars)] (.tup [.agg [.int r.1.n, .row 0 0 r.1.bars.length], .bool r.2]) := by
 unfold S_RemoveBar at h
 refine pcall_intro (TT := TT) tt Tryz.func172 rfl rfl Tryz.ntmps172 (congrArg Array.toList Tryz.results172) rfl rfl fun w0 => ?_
 refine vSeq ?_
 refine vRegion ?_
 refine oBox rfl rfl rfl rfl rfl rfl rfl rfl rfl ?_
 refine oAlloc tt rfl rfl rfl rfl rfl rfl rfl rfl rfl ?_
 refine oVal tt rfl rfl rfl rfl rfl trivial ?_
 refine vNil ?_
 change VC _ _ _ _
 iterate 2 refine vSeq ?_
 refine vRegion ?_
 refine oVal tt rfl rfl rfl rfl rfl trivial ?_
 obtain ⟨v1, hc1, h⟩ := bind_inv h
 refine oCall (S_IsGraph_w N g_0 v1 hc1) rfl rfl rfl rfl rfl rfl rfl rfl ⟨⟨rfl, rfl, trivial⟩, trivial⟩ ?_
 iterate 2 refine oVal tt rfl rfl rfl rfl rfl trivial ?_
 refine oSplit rfl rfl rfl (fun hb2 => ?_) (fun hb2 => ?_)
 ·replace h := cnd_t hb2 h
  iterate 2 refine oNoF rfl rfl rfl rfl hb2 rfl rfl ?_
  refine oPick rfl rfl rfl rfl rfl hb2 rfl ?_
  refine oVal tt rfl rfl rfl rfl rfl trivial ?_
  iterate 5 refine oNoF rfl rfl rfl rfl rfl rfl rfl ?_
  refine oPick rfl rfl rfl rfl rfl rfl rfl ?_
  refine vNil ?_
  change VC _ _ _ _
  refine vCondT rfl rfl ?_
  refine vSeq ?_
  refine vRegion ?_
  refine oVal tt rfl rfl rfl rfl rfl trivial ?_
  obtain ⟨v2, hc3, h⟩ := bind_inv h
  refine oCall (S_l2Copy_w N g_0 v2 hc3) rfl rfl rfl rfl rfl rfl rfl rfl ⟨⟨rfl, rfl, trivial⟩, trivial⟩ ?_
  refine oStore tt rfl rfl rfl rfl rfl rfl rfl rfl rfl rfl rfl ⟨trivial, trivial, trivial⟩ ?_
  refine oVal tt rfl rfl rfl rfl rfl trivial ?_
  refine vNil ?_
  change VC _ _ _ _
  refine vRet ?_
  change ∃ _, _
  cases h
  exact ⟨[1210], _, rfl, ⟨rfl, trivial⟩, rfl, (.eq rfl), rfl⟩
 ·replace h := cnd_f hb2 h
  iterate 2 refine oValG tt rfl rfl rfl rfl rfl hb2 rfl rfl rfl trivial ?_
  refine oPickF rfl rfl rfl rfl rfl hb2 rfl ?_
  refine oVal tt rfl rfl rfl rfl rfl trivial ?_
  refine oSplit rfl rfl rfl (fun hb4 => ?_) (fun hb4 => ?_)
  ·replace h := cnd_t hb4 h
   iterate 5 refine oNoF rfl rfl rfl rfl hb4 rfl rfl ?_
   refine oPick rfl rfl rfl rfl rfl hb4 rfl ?_
   refine vNil ?_
   change VC _ _ _ _
   refine vCondT rfl rfl ?_
   refine vSeq ?_
   refine vRegion ?_
   refine oVal tt rfl rfl rfl rfl rfl trivial ?_
   obtain ⟨v3, hc5, h⟩ := bind_inv h
   refine oCall (S_l2Copy_w N g_0 v3 hc5) rfl rfl rfl rfl rfl rfl rfl rfl ⟨⟨rfl, rfl, trivial⟩, trivial⟩ ?_
   refine oStore tt rfl rfl rfl rfl rfl rfl rfl rfl rfl rfl rfl ⟨trivial, trivial, trivial⟩ ?_
   refine oVal tt rfl rfl rfl rfl rfl trivial ?_
   refine vNil ?_
   change VC _ _ _ _
   refine vRet ?_
   change ∃ _, _
   cases h
   exact ⟨[1210], _, rfl, ⟨rfl, trivial⟩, rfl, (.eq rfl), rfl⟩
  ·replace h := cnd_f hb4 h
   iterate 5 refine oValG tt rfl rfl rfl rfl rfl hb4 rfl rfl rfl trivial ?_
   refine oPickF rfl rfl rfl rfl rfl hb4 rfl ?_
   refine vNil ?_
   change VC _ _ _ _
   refine vCond rfl (fun hb6 => ?_) (fun hb6 => ?_)
   ·replace h := cnd_t hb6 h
    refine vSeq ?_
    refine vRegion ?_
    refine oVal tt rfl rfl rfl rfl rfl trivial ?_
    obtain ⟨v4, hc7, h⟩ := bind_inv h
    refine oCall (S_l2Copy_w N g_0 v4 hc7) rfl rfl rfl rfl rfl rfl rfl rfl ⟨⟨rfl, rfl, trivial⟩, trivial⟩ ?_
    refine oStore tt rfl rfl rfl rfl rfl rfl rfl rfl rfl rfl rfl ⟨trivial, trivial, trivial⟩ ?_
    refine oVal tt rfl rfl rfl rfl rfl trivial ?_
    refine vNil ?_
    change VC _ _ _ _
    refine vRet ?_
    change ∃ _, _
    cases h
    exact ⟨[1210], _, rfl, ⟨rfl, trivial⟩, rfl, (.eq rfl), rfl⟩
   ·replace h := cnd_f hb6 h
    refine vSkip ?_
    change VC _ _ _ _
    refine vSeq ?_
    refine vRegionN 14 [7, 13, 1130000029] [0, 1, 0, 0, 8, 0, 56, 124, 0, 256, 0, 1024, 3840, 8188, 16383, 32767, 65535] (by kernel_rfl) (by kernel_rfl) (by kernel_rfl) (by kernel_rfl) (by kernel_rfl) rfl (by rfl) ?_
    iterate 2 refine nVal tt rfl (wNone rfl) rfl rfl rfl rfl rfl trivial ?_
    refine nEmpty tt (wNone rfl) rfl rfl rfl rfl rfl ?_
    iterate 3 refine nVal tt rfl (wNone rfl) rfl rfl rfl rfl rfl trivial ?_
    obtain ⟨hg8, h⟩ := grd_inv h
    refine nVal tt rfl (wNone rfl) rfl rfl rfl rfl rfl hg8 ?_
    obtain ⟨hg9, h⟩ := grd_inv h
    refine nAppNil tt (wNone rfl) rfl rfl rfl rfl rfl rfl rfl rfl (fun _ => rfl) rfl rfl rfl rfl rfl rfl hg9 ?_
    iterate 3 refine nVal tt rfl (wNone rfl) rfl rfl rfl rfl rfl trivial ?_
    obtain ⟨hg10, h⟩ := grd_inv h
    refine nVal tt rfl (wNone rfl) rfl rfl rfl rfl rfl hg10 ?_
    obtain ⟨hg11, h⟩ := grd_inv h
    refine nVal tt rfl (wNone rfl) rfl rfl rfl rfl rfl hg11 ?_
    obtain ⟨hg12, h⟩ := grd_inv h
    refine nAppMove tt (wNone rfl) rfl rfl rfl rfl rfl rfl rfl rfl rfl rfl rfl rfl rfl rfl rfl rfl rfl rfl rfl rfl trivial hg12 ?_
    refine nNil ?_
    change VO _ _ _ _ _
    refine oPure (wNone rfl) (pBuild bld_impl_Graph rfl rfl) rfl rfl ?_
    refine oStore tt rfl rfl rfl rfl rfl rfl rfl rfl rfl rfl rfl ⟨trivial, trivial, trivial⟩ ?_
    refine oVal tt rfl rfl rfl rfl rfl trivial ?_
    refine vNil ?_
    change VC _ _ _ _
    refine vRet ?_
    change ∃ _, _
    cases h
    exact ⟨[35], _, rfl, ⟨rfl, trivial⟩, rfl, (.eq rfl), rfl⟩
end Go.Proofs.YtmoamglpocjhgaaGreat
namespace Go.Proofs.YtmoamglpocjhgaaGreat
open Go.RowKit
def S_IsConnected (N : Nat) (g_0 : Grf) : Option (Bool) :=
 (S_IsGraph N g_0).bind fun v1 =>
 cnd v1 (
  (S_ReachOf N g_0 (0 : Int)).bind fun v2 =>
  some ((v2.length : Int) == g_0.n)) (
  some false)
set_option maxRecDepth 20000 in
set_option maxHeartbeats 1600000 in
theorem S_IsConnected_w (N : Nat) (g_0 : Grf) (r : Bool) (h : S_IsConnected N g_0 = some r) : PCall Tryz.prog 151 [gD g_0] [] (.bool r) := by
 unfold S_IsConnected at h
 refine pcall_intro (TT := TT) tt Tryz.func151 rfl rfl Tryz.ntmps151 (congrArg Array.toList Tryz.results151) rfl rfl fun w0 => ?_
 refine vSeq ?_
 refine vRegion ?_
 refine oBox rfl rfl rfl rfl rfl rfl rfl rfl rfl ?_
 refine oVal tt rfl rfl rfl rfl rfl trivial ?_
 refine vNil ?_
 change VC _ _ _ _
 refine vSeq ?_
 refine vRegionN 8 [4] [0, 1, 3, 7, 15, 31, 7, 71, 255, 511, 1023] (by kernel_rfl) (by kernel_rfl) (by kernel_rfl) (by kernel_rfl) (by kernel_rfl) rfl (by rfl) ?_
 refine nVal tt rfl (wNone rfl) rfl rfl rfl rfl rfl trivial ?_
 obtain ⟨v1, hc1, h⟩ := bind_inv h
 refine nCall (S_IsGraph_w N g_0 v1 hc1) rfl (wNone rfl) rfl rfl rfl rfl rfl rfl rfl rfl ⟨⟨rfl, rfl, trivial⟩, trivial⟩ ?_
 refine nVal tt rfl (wNone rfl) rfl rfl rfl rfl rfl trivial ?_
 refine nSplit rfl rfl rfl (fun hb2 => ?_) (fun hb2 => ?_)
 ·replace h := cnd_t hb2 h
  refine nVal tt rfl (wSome rfl rfl rfl rfl hb2) rfl rfl rfl rfl rfl trivial ?_
  obtain ⟨v2, hc3, h⟩ := bind_inv h
  refine nCallR (S_ReachOf_w N g_0 (0 : Int) v2 hc3) rfl (wSome rfl rfl rfl rfl hb2) rfl rfl rfl rfl rfl rfl (by first | rfl | kernel_rfl | (simp [nrL, nm, gdst, nmT, rowB]; done)) rfl (by first | rfl | kernel_rfl | (simp [chkE, nrL, nm, gdst, nmT, rowB, hid, ment, mentA, mentS]; done) | (simp [chkE, nrL, nm, gdst, nmT, rowB, hid, ment, mentA, mentS]; decide)) ⟨⟨rfl, rfl, trivial⟩, rfl, trivial⟩ ?_
  iterate 3 refine nVal tt rfl (wSome rfl rfl rfl rfl hb2) rfl rfl rfl rfl rfl trivial ?_
  refine nNil ?_
  change VO _ _ _ _ _
  refine oValG tt rfl rfl rfl rfl rfl hb2 rfl rfl rfl trivial ?_
  refine oPick rfl rfl rfl rfl rfl hb2 rfl ?_
  refine oVal tt rfl rfl rfl rfl rfl trivial ?_
  refine vNil ?_
  change VC _ _ _ _
  refine vRet ?_
  change ∃ _, _
  cases h
  exact ⟨[], _, rfl, trivial, rfl, (.eq rfl), rfl⟩
 ·replace h := cnd_f hb2 h
  iterate 5 refine nNoT rfl rfl rfl rfl hb2 rfl rfl ?_
  refine nNil ?_
  change VO _ _ _ _ _
  refine oNoT rfl rfl rfl rfl hb2 rfl rfl ?_
  refine oPickF rfl rfl rfl rfl rfl hb2 rfl ?_
  refine oVal tt rfl rfl rfl rfl rfl trivial ?_
  refine vNil ?_
  change VC _ _ _ _
  refine vRet ?_
  change ∃ _, _
  cases h
  exact ⟨[], _, rfl, trivial, rfl, (.eq rfl), rfl⟩
def S_CutSets_l1 (N : Nat) (g_0 : Grf) (k_1 : Int) (k : (List (List Int)) → Option (List (List Int))) : Nat → ((List (List Int)) × Int) → Option (List (List Int))
 | 0, _ => none
 | n + 1, (l25, mask26) =>
  grd (0 ≤ g_0.n ∧ g_0.n < 64 ∧ Rg64 ((1 : Int) * 2 ^ ((g_0.n).toNat))) <|
  cnd (decide (mask26 < ((1 : Int) * 2 ^ ((g_0.n).toNat)))) (
   (S_l3Set N g_0.n mask26).bind fun v30 =>
   cnd ((v30.length : Int) == k_1) (
    grd (Rg64 (g_0.n - k_1)) <|
    cnd (decide ((g_0.n - k_1) ≥ (2 : Int))) (
     (S_WithoutPoints N g_0 v30).bind fun v31 =>
     (S_IsConnected N v31).bind fun v32 =>
     cnd (!v32) (
      grd (l25.length + 1 ≤ 4294967296) <|
      grd (Rg64 (mask26 + (1 : Int))) <|
      S_CutSets_l1 N g_0 k_1 k n ((l25 ++ ([v30] : List (List Int))), (mask26 + (1 : Int)))) (
      grd (Rg64 (mask26 + (1 : Int))) <|
      S_CutSets_l1 N g_0 k_1 k n (l25, (mask26 + (1 : Int))))) (
     grd (Rg64 (mask26 + (1 : Int))) <|
     S_CutSets_l1 N g_0 k_1 k n (l25, (mask26 + (1 : Int))))) (
    grd (Rg64 (mask26 + (1 : Int))) <|
    S_CutSets_l1 N g_0 k_1 k n (l25, (mask26 + (1 : Int))))) (
   k l25)
def S_CutSets (N : Nat) (g_0 : Grf) (k_1 : Int) : Option (List (List Int)) :=
 (S_IsGraph N g_0).bind fun v1 =>
 cnd (!v1) (
  some ([] : List (List Int))) (
  (S_l1In N k_1 (0 : Int) (3 : Int)).bind fun v2 =>
  cnd (!v2) (
   some ([] : List (List Int))) (
   S_CutSets_l1 N g_0 k_1 (fun (l17 : List (List Int)) =>
      some l17) N (([] : List (List Int)), (0 : Int))))
set_option maxRecDepth 20000 in
set_option maxHeartbeats 1600000 in
theorem S_CutSets_w (N : Nat) (g_0 : Grf) (k_1 : Int) (r : List (List Int)) (h : S_CutSets N g_0 k_1 = some r) : PCall Tryz.prog 127 [gD g_0, .int k_1] [(25, .intss r)] (.row 0 0 r.length) := by
 unfold S_CutSets at h
 refine pcall_intro (TT := TT) tt Tryz.func127 rfl rfl Tryz.ntmps127 (congrArg Array.toList Tryz.results127) rfl rfl fun w0 => ?_
 refine vSeq ?_
 refine vRegion ?_
 refine oBox rfl rfl rfl rfl rfl rfl rfl rfl rfl ?_
 refine oVal tt rfl rfl rfl rfl rfl trivial ?_
 refine vNil ?_
 change VC _ _ _ _
 refine vSeq ?_
 refine vRegion ?_
 refine oEmpty tt (wNone rfl) rfl rfl rfl rfl ?_
 refine oVal tt rfl rfl rfl rfl rfl trivial ?_
 refine vNil ?_
 change VC _ _ _ _
 iterate 2 refine vSeq ?_
 refine vRegion ?_
 refine oVal tt rfl rfl rfl rfl rfl trivial ?_
 obtain ⟨v1, hc1, h⟩ := bind_inv h
 refine oCall (S_IsGraph_w N g_0 v1 hc1) rfl rfl rfl rfl rfl rfl rfl rfl ⟨⟨rfl, rfl, trivial⟩, trivial⟩ ?_
 iterate 2 refine oVal tt rfl rfl rfl rfl rfl trivial ?_
 refine oSplit rfl rfl rfl (fun hb2 => ?_) (fun hb2 => ?_)
 ·replace h := cnd_t hb2 h
  iterate 3 refine oNoF rfl rfl rfl rfl hb2 rfl rfl ?_
  refine oPick rfl rfl rfl rfl rfl hb2 rfl ?_
  refine vNil ?_
  change VC _ _ _ _
  refine vCondT rfl rfl ?_
  refine vSeq ?_
  refine vRegion ?_
  iterate 2 refine oVal tt rfl rfl rfl rfl rfl trivial ?_
  refine vNil ?_
  change VC _ _ _ _
  refine vNilT 4 9001 25 (.intss []) rfl rfl rfl rfl ?_
  refine vRet ?_
  change ∃ _, _
  cases h
  exact ⟨[9001], _, rfl, ⟨rfl, trivial⟩, rfl, (.eq rfl), rfl⟩
 ·replace h := cnd_f hb2 h
  refine oValG tt rfl rfl rfl rfl rfl hb2 rfl rfl rfl trivial ?_
  obtain ⟨v2, hc3, h⟩ := bind_inv h
  refine oCallG (S_l1In_w N k_1 (0 : Int) (3 : Int) v2 hc3) rfl rfl rfl rfl hb2 rfl rfl rfl rfl rfl rfl rfl ⟨rfl, rfl, rfl, trivial⟩ ?_
  refine oValG tt rfl rfl rfl rfl rfl hb2 rfl rfl rfl trivial ?_
  refine oPickF rfl rfl rfl rfl rfl hb2 rfl ?_
  refine vNil ?_
  change VC _ _ _ _
  refine vCond rfl (fun hb4 => ?_) (fun hb4 => ?_)
  ·replace h := cnd_t hb4 h
   refine vSeq ?_
   refine vRegion ?_
   iterate 2 refine oVal tt rfl rfl rfl rfl rfl trivial ?_
   refine vNil ?_
   change VC _ _ _ _
   refine vNilT 4 9001 25 (.intss []) rfl rfl rfl rfl ?_
   refine vRet ?_
   change ∃ _, _
   cases h
   exact ⟨[9001], _, rfl, ⟨rfl, trivial⟩, rfl, (.eq rfl), rfl⟩
  ·replace h := cnd_f hb4 h
   refine vSkip ?_
   change VC _ _ _ _
   iterate 2 refine vSeq ?_
   refine vRegion ?_
   refine oVal tt rfl rfl rfl rfl rfl trivial ?_
   refine vNil ?_
   change VC _ _ _ _
   refine vJoin (F := fun k => S_CutSets_l1 N g_0 k_1 k) h (α := List (List Int)) (J := fun (l17 : List (List Int)) => (⟨[(5, .row 50 0 l17.length)], [(50, some (25, .intss l17))], []⟩ : PS)) ?_ ?_
   ·rintro l17 h
    show VC _ _ _ (⟨[(5, .row 50 0 l17.length)], [(50, some (25, .intss l17))], []⟩ : PS)
    refine vSeq ?_
    refine vRegion ?_
    iterate 2 refine oVal tt rfl rfl rfl rfl rfl trivial ?_
    refine vNil ?_
    change VC _ _ _ _
    refine vRet ?_
    change ∃ _, _
    cases h
    exact ⟨[50], _, rfl, ⟨rfl, trivial⟩, rfl, (.eq rfl), rfl⟩
   ·intro k h
    refine vBlock ?_
    refine vNilT 5 50 25 (.intss []) rfl rfl rfl rfl ?_
    refine vLoopS (α := (List (List Int)) × Int) (fun | (l25, mask26) => (⟨[(1, .int k_1), (2, .ptr 2 0), (5, .row 50 0 l25.length), (6, .int mask26)], [(50, some (25, .intss l25))], [(2, some [.int g_0.n, .ro false (.pairs g_0.bars)])]⟩ : PS)) (S_CutSets_l1 N g_0 k_1 k) h (En.of ⟨rfl, rfl, rfl, rfl, trivial⟩ ⟨rfl, trivial⟩ ⟨rfl, trivial⟩) (fun _ => rfl) ?_
    rintro n ⟨l25, mask26⟩ h
    rw [S_CutSets_l1] at h
    show VC _ _ _ (⟨[(1, .int k_1), (2, .ptr 2 0), (5, .row 50 0 l25.length), (6, .int mask26)], [(50, some (25, .intss l25))], [(2, some [.int g_0.n, .ro false (.pairs g_0.bars)])]⟩ : PS)
    iterate 2 refine vSeq ?_
    refine vRegion ?_
    iterate 3 refine oVal tt rfl rfl rfl rfl rfl trivial ?_
    obtain ⟨hg5, h⟩ := grd_inv h
    refine oVal tt rfl rfl rfl rfl rfl hg5 ?_
    refine oVal tt rfl rfl rfl rfl rfl trivial ?_
    refine vNil ?_
    change VC _ _ _ _
    refine vCond rfl (fun hb6 => ?_) (fun hb6 => ?_)
    ·replace h := cnd_t hb6 h
     refine vSkip ?_
     change VC _ _ _ _
     refine vSeq ?_
     refine vBlock ?_
     refine vSeq ?_
     refine vRegion ?_
     iterate 3 refine oVal tt rfl rfl rfl rfl rfl trivial ?_
     obtain ⟨v30, hc7, h⟩ := bind_inv h
     refine oCall (S_l3Set_w N g_0.n mask26 v30 hc7) rfl rfl rfl rfl rfl rfl rfl rfl ⟨rfl, rfl, trivial⟩ ?_
     refine oVal tt rfl rfl rfl rfl rfl trivial ?_
     refine vNil ?_
     change VC _ _ _ _
     refine vSeq ?_
     refine vRegion ?_
     iterate 5 refine oVal tt rfl rfl rfl rfl rfl trivial ?_
     refine oSplit rfl rfl rfl (fun hb8 => ?_) (fun hb8 => ?_)
     ·replace h := cnd_t hb8 h
      iterate 3 refine oValG tt rfl rfl rfl rfl rfl hb8 rfl rfl rfl trivial ?_
      obtain ⟨hg9, h⟩ := grd_inv h
      refine oValG tt rfl rfl rfl rfl rfl hb8 rfl rfl rfl hg9 ?_
      refine oValG tt rfl rfl rfl rfl rfl hb8 rfl rfl rfl trivial ?_
      refine oPick rfl rfl rfl rfl rfl hb8 rfl ?_
      refine oVal tt rfl rfl rfl rfl rfl trivial ?_
      refine oSplit rfl rfl rfl (fun hb10 => ?_) (fun hb10 => ?_)
      ·replace h := cnd_t hb10 h
       iterate 2 refine oValG tt rfl rfl rfl rfl rfl hb10 rfl rfl rfl trivial ?_
       obtain ⟨v31, hc11, h⟩ := bind_inv h
       refine oCallG (S_WithoutPoints_w N g_0 v30 v31 hc11) rfl rfl rfl rfl hb10 rfl rfl rfl rfl rfl rfl rfl ⟨⟨rfl, rfl, trivial⟩, (.inl ⟨rfl, rfl⟩), trivial⟩ ?_
       obtain ⟨v32, hc12, h⟩ := bind_inv h
       refine oCallG (S_IsConnected_w N v31 v32 hc12) rfl rfl rfl rfl hb10 rfl rfl rfl rfl rfl rfl rfl ⟨⟨rfl, (.inl ⟨rfl, rfl⟩), trivial⟩, trivial⟩ ?_
       refine oValG tt rfl rfl rfl rfl rfl hb10 rfl rfl rfl trivial ?_
       refine oPick rfl rfl rfl rfl rfl hb10 rfl ?_
       refine vNil ?_
       change VC _ _ _ _
       refine vCond rfl (fun hb13 => ?_) (fun hb13 => ?_)
       ·replace h := cnd_t hb13 h
        refine vRegion ?_
        iterate 2 refine oVal tt rfl rfl rfl rfl rfl trivial ?_
        refine oFreeze (t := 48) rfl rfl rfl rfl ?_
        refine oBuild tt rfl rfl rfl rfl rfl rfl rfl rfl rfl rfl rfl ?_
        obtain ⟨hg14, h⟩ := grd_inv h
        refine oAppend tt rfl rfl rfl rfl rfl rfl rfl rfl rfl rfl rfl rfl rfl rfl rfl rfl (Nat.le_of_eq (Nat.zero_add _)) hg14 ?_
        refine oVal tt rfl rfl rfl rfl rfl trivial ?_
        refine vNil ?_
        change VC _ _ _ _
        refine vRegion ?_
        refine oVal tt rfl rfl rfl rfl rfl trivial ?_
        obtain ⟨hg15, h⟩ := grd_inv h
        refine oVal tt rfl rfl rfl rfl rfl hg15 ?_
        refine oVal tt rfl rfl rfl rfl rfl trivial ?_
        refine vNil ?_
        change ∃ _, _
        exact ⟨((l25 ++ ([v30] : List (List Int))), (mask26 + (1 : Int))), (En.of ⟨rfl, rfl, rfl, rfl, trivial⟩ ⟨rfl, trivial⟩ ⟨rfl, trivial⟩), h⟩
       ·replace h := cnd_f hb13 h
        refine vSkip ?_
        change VC _ _ _ _
        refine vRegion ?_
        refine oVal tt rfl rfl rfl rfl rfl trivial ?_
        obtain ⟨hg16, h⟩ := grd_inv h
        refine oVal tt rfl rfl rfl rfl rfl hg16 ?_
        refine oVal tt rfl rfl rfl rfl rfl trivial ?_
        refine vNil ?_
        change ∃ _, _
        exact ⟨(l25, (mask26 + (1 : Int))), (En.of ⟨rfl, rfl, rfl, rfl, trivial⟩ ⟨rfl, trivial⟩ ⟨rfl, trivial⟩), h⟩
      ·replace h := cnd_f hb10 h
       iterate 5 refine oNoT rfl rfl rfl rfl hb10 rfl rfl ?_
       refine oPickF rfl rfl rfl rfl rfl hb10 rfl ?_
       refine vNil ?_
       change VC _ _ _ _
       refine vCondF rfl rfl ?_
       refine vSkip ?_
       change VC _ _ _ _
       refine vRegion ?_
       refine oVal tt rfl rfl rfl rfl rfl trivial ?_
       obtain ⟨hg17, h⟩ := grd_inv h
       refine oVal tt rfl rfl rfl rfl rfl hg17 ?_
       refine oVal tt rfl rfl rfl rfl rfl trivial ?_
       refine vNil ?_
       change ∃ _, _
       exact ⟨(l25, (mask26 + (1 : Int))), (En.of ⟨rfl, rfl, rfl, rfl, trivial⟩ ⟨rfl, trivial⟩ ⟨rfl, trivial⟩), h⟩
     ·replace h := cnd_f hb8 h
      iterate 5 refine oNoT rfl rfl rfl rfl hb8 rfl rfl ?_
      refine oPickF rfl rfl rfl rfl rfl hb8 rfl ?_
      refine oVal tt rfl rfl rfl rfl rfl trivial ?_
      iterate 5 refine oNoT rfl rfl rfl rfl rfl rfl rfl ?_
      refine oPickF rfl rfl rfl rfl rfl rfl rfl ?_
      refine vNil ?_
      change VC _ _ _ _
      refine vCondF rfl rfl ?_
      refine vSkip ?_
      change VC _ _ _ _
      refine vRegion ?_
      refine oVal tt rfl rfl rfl rfl rfl trivial ?_
      obtain ⟨hg18, h⟩ := grd_inv h
      refine oVal tt rfl rfl rfl rfl rfl hg18 ?_
      refine oVal tt rfl rfl rfl rfl rfl trivial ?_
      refine vNil ?_
      change ∃ _, _
      exact ⟨(l25, (mask26 + (1 : Int))), (En.of ⟨rfl, rfl, rfl, rfl, trivial⟩ ⟨rfl, trivial⟩ ⟨rfl, trivial⟩), h⟩
    ·replace h := cnd_f hb6 h
     refine vExit ?_
     change ∃ _, _
     exact ⟨l25, (En.of ⟨rfl, trivial⟩ ⟨rfl, trivial⟩ trivial), h⟩
def S_IsKConnected_l1 (N : Nat) (g_0 : Grf) (k_1 : Int) (k : Unit → Option (Bool)) : Nat → Int → Option (Bool)
 | 0, _ => none
 | n + 1, i9 =>
  cnd (decide (i9 < k_1)) (
   (S_CutSets N g_0 i9).bind fun v11 =>
   cnd (decide ((v11.length : Int) > (0 : Int))) (
    some false) (
    grd (Rg64 (i9 + (1 : Int))) <|
    S_IsKConnected_l1 N g_0 k_1 k n (i9 + (1 : Int)))) (
   k ())
def S_IsKConnected (N : Nat) (g_0 : Grf) (k_1 : Int) : Option (Bool) :=
 (S_IsGraph N g_0).bind fun v1 =>
 cnd (!v1) (
  some false) (
  (S_l1In N k_1 (1 : Int) (3 : Int)).bind fun v2 =>
  cnd (!v2) (
   some false) (
   cnd (decide (g_0.n ≤ k_1)) (
    some false) (
    S_IsKConnected_l1 N g_0 k_1 (fun (_ : Unit) =>
       some true) N (0 : Int))))
set_option maxRecDepth 20000 in
set_option maxHeartbeats 1600000 in
theorem S_IsKConnected_w (N : Nat) (g_0 : Grf) (k_1 : Int) (r : Bool) (h : S_IsKConnected N g_0 k_1 = some r) : PCall Tryz.prog 100 [gD g_0, .int k_1] [] (.bool r) := by
 unfold S_IsKConnected at h
 refine pcall_intro (TT := TT) tt Tryz.func100 rfl rfl Tryz.ntmps100 (congrArg Array.toList Tryz.results100) rfl rfl fun w0 => ?_
 refine vSeq ?_
 refine vRegion ?_
 refine oBox rfl rfl rfl rfl rfl rfl rfl rfl rfl ?_
 refine oVal tt rfl rfl rfl rfl rfl trivial ?_
 refine vNil ?_
 change VC _ _ _ _
 iterate 2 refine vSeq ?_
 refine vRegion ?_
 refine oVal tt rfl rfl rfl rfl rfl trivial ?_
 obtain ⟨v1, hc1, h⟩ := bind_inv h
 refine oCall (S_IsGraph_w N g_0 v1 hc1) rfl rfl rfl rfl rfl rfl rfl rfl ⟨⟨rfl, rfl, trivial⟩, trivial⟩ ?_
 iterate 2 refine oVal tt rfl rfl rfl rfl rfl trivial ?_
 refine oSplit rfl rfl rfl (fun hb2 => ?_) (fun hb2 => ?_)
 ·replace h := cnd_t hb2 h
  iterate 3 refine oNoF rfl rfl rfl rfl hb2 rfl rfl ?_
  refine oPick rfl rfl rfl rfl rfl hb2 rfl ?_
  refine oVal tt rfl rfl rfl rfl rfl trivial ?_
  iterate 4 refine oNoF rfl rfl rfl rfl rfl rfl rfl ?_
  refine oPick rfl rfl rfl rfl rfl rfl rfl ?_
  refine vNil ?_
  change VC _ _ _ _
  refine vCondT rfl rfl ?_
  refine vSeq ?_
  refine vRegion ?_
  refine oVal tt rfl rfl rfl rfl rfl trivial ?_
  refine vNil ?_
  change VC _ _ _ _
  refine vRet ?_
  change ∃ _, _
  cases h
  exact ⟨[], _, rfl, trivial, rfl, (.eq rfl), rfl⟩
 ·replace h := cnd_f hb2 h
  refine oValG tt rfl rfl rfl rfl rfl hb2 rfl rfl rfl trivial ?_
  obtain ⟨v2, hc3, h⟩ := bind_inv h
  refine oCallG (S_l1In_w N k_1 (1 : Int) (3 : Int) v2 hc3) rfl rfl rfl rfl hb2 rfl rfl rfl rfl rfl rfl rfl ⟨rfl, rfl, rfl, trivial⟩ ?_
  refine oValG tt rfl rfl rfl rfl rfl hb2 rfl rfl rfl trivial ?_
  refine oPickF rfl rfl rfl rfl rfl hb2 rfl ?_
  refine oVal tt rfl rfl rfl rfl rfl trivial ?_
  refine oSplit rfl rfl rfl (fun hb4 => ?_) (fun hb4 => ?_)
  ·replace h := cnd_t hb4 h
   iterate 4 refine oNoF rfl rfl rfl rfl hb4 rfl rfl ?_
   refine oPick rfl rfl rfl rfl rfl hb4 rfl ?_
   refine vNil ?_
   change VC _ _ _ _
   refine vCondT rfl rfl ?_
   refine vSeq ?_
   refine vRegion ?_
   refine oVal tt rfl rfl rfl rfl rfl trivial ?_
   refine vNil ?_
   change VC _ _ _ _
   refine vRet ?_
   change ∃ _, _
   cases h
   exact ⟨[], _, rfl, trivial, rfl, (.eq rfl), rfl⟩
  ·replace h := cnd_f hb4 h
   iterate 4 refine oValG tt rfl rfl rfl rfl rfl hb4 rfl rfl rfl trivial ?_
   refine oPickF rfl rfl rfl rfl rfl hb4 rfl ?_
   refine vNil ?_
   change VC _ _ _ _
   refine vCond rfl (fun hb5 => ?_) (fun hb5 => ?_)
   ·replace h := cnd_t hb5 h
    refine vSeq ?_
    refine vRegion ?_
    refine oVal tt rfl rfl rfl rfl rfl trivial ?_
    refine vNil ?_
    change VC _ _ _ _
    refine vRet ?_
    change ∃ _, _
    cases h
    exact ⟨[], _, rfl, trivial, rfl, (.eq rfl), rfl⟩
   ·replace h := cnd_f hb5 h
    refine vSkip ?_
    change VC _ _ _ _
    iterate 2 refine vSeq ?_
    refine vRegion ?_
    refine oVal tt rfl rfl rfl rfl rfl trivial ?_
    refine vNil ?_
    change VC _ _ _ _
    refine vJoin (F := fun k => S_IsKConnected_l1 N g_0 k_1 k) h (α := Unit) (J := fun (_ : Unit) => (⟨[], [], []⟩ : PS)) ?_ ?_
    ·rintro ⟨⟩ h
     show VC _ _ _ (⟨[], [], []⟩ : PS)
     refine vSeq ?_
     refine vRegion ?_
     refine oVal tt rfl rfl rfl rfl rfl trivial ?_
     refine vNil ?_
     change VC _ _ _ _
     refine vRet ?_
     change ∃ _, _
     cases h
     exact ⟨[], _, rfl, trivial, rfl, (.eq rfl), rfl⟩
    ·intro k h
     refine vBlock ?_
     refine vLoopS (α := Int) (fun (i9 : Int) => (⟨[(1, .int k_1), (2, .ptr 2 0), (5, .int i9)], [], [(2, some [.int g_0.n, .ro false (.pairs g_0.bars)])]⟩ : PS)) (S_IsKConnected_l1 N g_0 k_1 k) h (En.of ⟨rfl, rfl, rfl, trivial⟩ trivial ⟨rfl, trivial⟩) (fun _ => rfl) ?_
     rintro n i9 h
     rw [S_IsKConnected_l1] at h
     show VC _ _ _ (⟨[(1, .int k_1), (2, .ptr 2 0), (5, .int i9)], [], [(2, some [.int g_0.n, .ro false (.pairs g_0.bars)])]⟩ : PS)
     iterate 2 refine vSeq ?_
     refine vRegion ?_
     iterate 3 refine oVal tt rfl rfl rfl rfl rfl trivial ?_
     refine vNil ?_
     change VC _ _ _ _
     refine vCond rfl (fun hb6 => ?_) (fun hb6 => ?_)
     ·replace h := cnd_t hb6 h
      refine vSkip ?_
      change VC _ _ _ _
      refine vSeq ?_
      refine vBlock ?_
      refine vSeq ?_
      refine vRegion ?_
      iterate 2 refine oVal tt rfl rfl rfl rfl rfl trivial ?_
      obtain ⟨v11, hc7, h⟩ := bind_inv h
      refine oCall (S_CutSets_w N g_0 i9 v11 hc7) rfl rfl rfl rfl rfl rfl rfl rfl ⟨⟨rfl, rfl, trivial⟩, rfl, trivial⟩ ?_
      iterate 2 refine oVal tt rfl rfl rfl rfl rfl trivial ?_
      refine vNil ?_
      change VC _ _ _ _
      refine vCond rfl (fun hb8 => ?_) (fun hb8 => ?_)
      ·replace h := cnd_t hb8 h
       refine vSeq ?_
       refine vRegion ?_
       refine oVal tt rfl rfl rfl rfl rfl trivial ?_
       refine vNil ?_
       change VC _ _ _ _
       refine vRet ?_
       change ∃ _, _
       cases h
       exact ⟨[], _, rfl, trivial, rfl, (.eq rfl), rfl⟩
      ·replace h := cnd_f hb8 h
       refine vSkip ?_
       change VC _ _ _ _
       refine vRegion ?_
       refine oVal tt rfl rfl rfl rfl rfl trivial ?_
       obtain ⟨hg9, h⟩ := grd_inv h
       refine oVal tt rfl rfl rfl rfl rfl hg9 ?_
       refine oVal tt rfl rfl rfl rfl rfl trivial ?_
       refine vNil ?_
       change ∃ _, _
       exact ⟨(i9 + (1 : Int)), (En.of ⟨rfl, rfl, rfl, trivial⟩ trivial ⟨rfl, trivial⟩), h⟩
     ·replace h := cnd_f hb6 h
      refine vExit ?_
      change ∃ _, _
      exact ⟨(), (En.of trivial trivial trivial), h⟩
def S_BridgesOf_l1 (N : Nat) (g_0 : Grf) (k_1 : Int) (l_2 : Int) (v1 : Int) (k : (List Int) → Option (List Int)) : Nat → ((List Int) × Int) → Option (List Int)
 | 0, _ => none
 | n + 1, (l18, i19) =>
  cnd (decide (i19 < (g_0.bars.length : Int))) (
   cnd (decide (v1 ≥ (0 : Int))) (
    (S_RemoveBar N g_0 i19).bind fun v22 =>
    (S_RankOf N v22.1 k_1 l_2).bind fun v23 =>
    cnd (decide (v23 < v1)) (
     grd (l18.length + 1 ≤ 4294967296) <|
     grd (Rg64 (i19 + (1 : Int))) <|
     S_BridgesOf_l1 N g_0 k_1 l_2 v1 k n ((l18 ++ ([i19] : List Int)), (i19 + (1 : Int)))) (
     grd (Rg64 (i19 + (1 : Int))) <|
     S_BridgesOf_l1 N g_0 k_1 l_2 v1 k n (l18, (i19 + (1 : Int))))) (
    k l18)) (
   k l18)
def S_BridgesOf (N : Nat) (g_0 : Grf) (k_1 : Int) (l_2 : Int) : Option (List Int) :=
 (S_RankOf N g_0 k_1 l_2).bind fun v1 =>
 S_BridgesOf_l1 N g_0 k_1 l_2 v1 (fun (l12 : List Int) =>
    some l12) N (([] : List Int), (0 : Int))
set_option maxRecDepth 20000 in
set_option maxHeartbeats 1600000 in
theorem S_BridgesOf_w (N : Nat) (g_0 : Grf) (k_1 : Int) (l_2 : Int) (r : List Int) (h : S_BridgesOf N g_0 k_1 l_2 = some r) : PCall Tryz.prog 152 [gD g_0, .int k_1, .int l_2] [(3, .ints r)] (.row 0 0 r.length) := by
 unfold S_BridgesOf at h
 refine pcall_intro (TT := TT) tt Tryz.func152 rfl rfl Tryz.ntmps152 (congrArg Array.toList Tryz.results152) rfl rfl fun w0 => ?_
 refine vSeq ?_
 refine vRegion ?_
 refine oBox rfl rfl rfl rfl rfl rfl rfl rfl rfl ?_
 refine oVal tt rfl rfl rfl rfl rfl trivial ?_
 refine vNil ?_
 change VC _ _ _ _
 refine vSeq ?_
 refine vRegion ?_
 refine oEmpty tt (wNone rfl) rfl rfl rfl rfl ?_
 refine oVal tt rfl rfl rfl rfl rfl trivial ?_
 refine vNil ?_
 change VC _ _ _ _
 refine vSeq ?_
 refine vRegion ?_
 iterate 3 refine oVal tt rfl rfl rfl rfl rfl trivial ?_
 obtain ⟨v1, hc1, h⟩ := bind_inv h
 refine oCall (S_RankOf_w N g_0 k_1 l_2 v1 hc1) rfl rfl rfl rfl rfl rfl rfl rfl ⟨⟨rfl, rfl, trivial⟩, rfl, rfl, trivial⟩ ?_
 refine oVal tt rfl rfl rfl rfl rfl trivial ?_
 refine vNil ?_
 change VC _ _ _ _
 iterate 2 refine vSeq ?_
 refine vRegion ?_
 refine oVal tt rfl rfl rfl rfl rfl trivial ?_
 refine vNil ?_
 change VC _ _ _ _
 refine vJoin (F := fun k => S_BridgesOf_l1 N g_0 k_1 l_2 v1 k) h (α := List Int) (J := fun (l12 : List Int) => (⟨[(7, .row 43 0 l12.length)], [(43, some (3, .ints l12))], []⟩ : PS)) ?_ ?_
 ·rintro l12 h
  show VC _ _ _ (⟨[(7, .row 43 0 l12.length)], [(43, some (3, .ints l12))], []⟩ : PS)
  refine vSeq ?_
  refine vRegion ?_
  iterate 2 refine oVal tt rfl rfl rfl rfl rfl trivial ?_
  refine vNil ?_
  change VC _ _ _ _
  refine vRet ?_
  change ∃ _, _
  cases h
  exact ⟨[43], _, rfl, ⟨rfl, trivial⟩, rfl, (.eq rfl), rfl⟩
 ·intro k h
  refine vBlock ?_
  refine vNilT 7 43 3 (.ints []) rfl rfl rfl rfl ?_
  refine vLoopS (α := (List Int) × Int) (fun | (l18, i19) => (⟨[(1, .int k_1), (2, .int l_2), (3, .ptr 3 0), (7, .row 43 0 l18.length), (8, .int v1), (9, .int i19)], [(43, some (3, .ints l18))], [(3, some [.int g_0.n, .ro false (.pairs g_0.bars)])]⟩ : PS)) (S_BridgesOf_l1 N g_0 k_1 l_2 v1 k) h (En.of ⟨rfl, rfl, rfl, rfl, rfl, rfl, trivial⟩ ⟨rfl, trivial⟩ ⟨rfl, trivial⟩) (fun _ => rfl) ?_
  rintro n ⟨l18, i19⟩ h
  rw [S_BridgesOf_l1] at h
  show VC _ _ _ (⟨[(1, .int k_1), (2, .int l_2), (3, .ptr 3 0), (7, .row 43 0 l18.length), (8, .int v1), (9, .int i19)], [(43, some (3, .ints l18))], [(3, some [.int g_0.n, .ro false (.pairs g_0.bars)])]⟩ : PS)
  iterate 2 refine vSeq ?_
  refine vRegion ?_
  iterate 6 refine oVal tt rfl rfl rfl rfl rfl trivial ?_
  refine oSplit rfl rfl rfl (fun hb2 => ?_) (fun hb2 => ?_)
  ·replace h := cnd_t hb2 h
   iterate 2 refine oValG tt rfl rfl rfl rfl rfl hb2 rfl rfl rfl trivial ?_
   refine oPick rfl rfl rfl rfl rfl hb2 rfl ?_
   refine vNil ?_
   change VC _ _ _ _
   refine vCond rfl (fun hb3 => ?_) (fun hb3 => ?_)
   ·replace h := cnd_t hb3 h
    refine vSkip ?_
    change VC _ _ _ _
    refine vSeq ?_
    refine vBlock ?_
    refine vSeq ?_
    refine vRegion ?_
    iterate 2 refine oVal tt rfl rfl rfl rfl rfl trivial ?_
    obtain ⟨v22, hc4, h⟩ := bind_inv h
    refine oCall (S_RemoveBar_w N g_0 i19 v22 hc4) rfl rfl rfl rfl rfl rfl rfl rfl ⟨⟨rfl, rfl, trivial⟩, rfl, trivial⟩ ?_
    iterate 3 refine oVal tt rfl rfl rfl rfl rfl trivial ?_
    refine oAlloc tt rfl rfl rfl rfl rfl rfl rfl rfl rfl ?_
    refine oStore tt rfl rfl rfl rfl rfl rfl rfl rfl rfl rfl rfl ⟨trivial, trivial, trivial⟩ ?_
    refine oVal tt rfl rfl rfl rfl rfl trivial ?_
    refine vNil ?_
    change VC _ _ _ _
    refine vSeq ?_
    refine vRegion ?_
    iterate 3 refine oVal tt rfl rfl rfl rfl rfl trivial ?_
    obtain ⟨v23, hc5, h⟩ := bind_inv h
    refine oCall (S_RankOf_w N v22.1 k_1 l_2 v23 hc5) rfl rfl rfl rfl rfl rfl rfl rfl ⟨⟨rfl, (.inl ⟨rfl, rfl⟩), trivial⟩, rfl, rfl, trivial⟩ ?_
    iterate 2 refine oVal tt rfl rfl rfl rfl rfl trivial ?_
    refine vNil ?_
    change VC _ _ _ _
    refine vCond rfl (fun hb6 => ?_) (fun hb6 => ?_)
    ·replace h := cnd_t hb6 h
     refine vRegion ?_
     iterate 2 refine oVal tt rfl rfl rfl rfl rfl trivial ?_
     refine oBuild tt rfl rfl rfl rfl rfl rfl rfl rfl rfl rfl rfl ?_
     obtain ⟨hg7, h⟩ := grd_inv h
     refine oAppend tt rfl rfl rfl rfl rfl rfl rfl rfl rfl rfl rfl rfl rfl rfl rfl rfl (Nat.le_of_eq (Nat.zero_add _)) hg7 ?_
     refine oVal tt rfl rfl rfl rfl rfl trivial ?_
     refine vNil ?_
     change VC _ _ _ _
     refine vRegion ?_
     refine oVal tt rfl rfl rfl rfl rfl trivial ?_
     obtain ⟨hg8, h⟩ := grd_inv h
     refine oVal tt rfl rfl rfl rfl rfl hg8 ?_
     refine oVal tt rfl rfl rfl rfl rfl trivial ?_
     refine vNil ?_
     change ∃ _, _
     exact ⟨((l18 ++ ([i19] : List Int)), (i19 + (1 : Int))), (En.of ⟨rfl, rfl, rfl, rfl, rfl, rfl, trivial⟩ ⟨rfl, trivial⟩ ⟨rfl, trivial⟩), h⟩
    ·replace h := cnd_f hb6 h
     refine vSkip ?_
     change VC _ _ _ _
     refine vRegion ?_
     refine oVal tt rfl rfl rfl rfl rfl trivial ?_
     obtain ⟨hg9, h⟩ := grd_inv h
     refine oVal tt rfl rfl rfl rfl rfl hg9 ?_
     refine oVal tt rfl rfl rfl rfl rfl trivial ?_
     refine vNil ?_
     change ∃ _, _
     exact ⟨(l18, (i19 + (1 : Int))), (En.of ⟨rfl, rfl, rfl, rfl, rfl, rfl, trivial⟩ ⟨rfl, trivial⟩ ⟨rfl, trivial⟩), h⟩
   ·replace h := cnd_f hb3 h
    refine vExit ?_
    change ∃ _, _
    exact ⟨l18, (En.of ⟨rfl, trivial⟩ ⟨rfl, trivial⟩ trivial), h⟩
  ·replace h := cnd_f hb2 h
   iterate 2 refine oNoT rfl rfl rfl rfl hb2 rfl rfl ?_
   refine oPickF rfl rfl rfl rfl rfl hb2 rfl ?_
   refine vNil ?_
   change VC _ _ _ _
   refine vCondF rfl rfl ?_
   refine vExit ?_
   change ∃ _, _
   exact ⟨l18, (En.of ⟨rfl, trivial⟩ ⟨rfl, trivial⟩ trivial), h⟩
def S_FragileBars (N : Nat) (g_0 : Grf) : Option (List Int) :=
 (S_BridgesOf N g_0 (2 : Int) (3 : Int)).bind fun v1 =>
 some v1
set_option maxRecDepth 20000 in
set_option maxHeartbeats 1600000 in
theorem S_FragileBars_w (N : Nat) (g_0 : Grf) (r : List Int) (h : S_FragileBars N g_0 = some r) : PCall Tryz.prog 128 [gD g_0] [(3, .ints r)] (.row 0 0 r.length) := by
 unfold S_FragileBars at h
 refine pcall_intro (TT := TT) tt Tryz.func128 rfl rfl Tryz.ntmps128 (congrArg Array.toList Tryz.results128) rfl rfl fun w0 => ?_
 refine vSeq ?_
 refine vRegion ?_
 refine oBox rfl rfl rfl rfl rfl rfl rfl rfl rfl ?_
 refine oVal tt rfl rfl rfl rfl rfl trivial ?_
 refine vNil ?_
 change VC _ _ _ _
 refine vSeq ?_
 refine vRegion ?_
 refine oVal tt rfl rfl rfl rfl rfl trivial ?_
 obtain ⟨v1, hc1, h⟩ := bind_inv h
 refine oCall (S_BridgesOf_w N g_0 (2 : Int) (3 : Int) v1 hc1) rfl rfl rfl rfl rfl rfl rfl rfl ⟨⟨rfl, rfl, trivial⟩, rfl, rfl, trivial⟩ ?_
 refine oVal tt rfl rfl rfl rfl rfl trivial ?_
 refine vNil ?_
 change VC _ _ _ _
 refine vRet ?_
 change ∃ _, _
 cases h
 exact ⟨[1040], _, rfl, ⟨rfl, trivial⟩, rfl, (.eq rfl), rfl⟩
def S_IsRedundantlyRigid (N : Nat) (g_0 : Grf) : Option (Bool) :=
 (S_IsRigid N g_0).bind fun v1 =>
 cnd v1 (
  (S_FragileBars N g_0).bind fun v2 =>
  some ((v2.length : Int) == (0 : Int))) (
  some false)
set_option maxRecDepth 20000 in
set_option maxHeartbeats 1600000 in
theorem S_IsRedundantlyRigid_w (N : Nat) (g_0 : Grf) (r : Bool) (h : S_IsRedundantlyRigid N g_0 = some r) : PCall Tryz.prog 101 [gD g_0] [] (.bool r) := by
 unfold S_IsRedundantlyRigid at h
 refine pcall_intro (TT := TT) tt Tryz.func101 rfl rfl Tryz.ntmps101 (congrArg Array.toList Tryz.results101) rfl rfl fun w0 => ?_
 refine vSeq ?_
 refine vRegion ?_
 refine oBox rfl rfl rfl rfl rfl rfl rfl rfl rfl ?_
 refine oVal tt rfl rfl rfl rfl rfl trivial ?_
 refine vNil ?_
 change VC _ _ _ _
 refine vSeq ?_
 refine vRegion ?_
 refine oVal tt rfl rfl rfl rfl rfl trivial ?_
 obtain ⟨v1, hc1, h⟩ := bind_inv h
 refine oCall (S_IsRigid_w N g_0 v1 hc1) rfl rfl rfl rfl rfl rfl rfl rfl ⟨⟨rfl, rfl, trivial⟩, trivial⟩ ?_
 refine oVal tt rfl rfl rfl rfl rfl trivial ?_
 refine oSplit rfl rfl rfl (fun hb2 => ?_) (fun hb2 => ?_)
 ·replace h := cnd_t hb2 h
  refine oValG tt rfl rfl rfl rfl rfl hb2 rfl rfl rfl trivial ?_
  obtain ⟨v2, hc3, h⟩ := bind_inv h
  refine oCallG (S_FragileBars_w N g_0 v2 hc3) rfl rfl rfl rfl hb2 rfl rfl rfl rfl rfl rfl rfl ⟨⟨rfl, rfl, trivial⟩, trivial⟩ ?_
  iterate 2 refine oValG tt rfl rfl rfl rfl rfl hb2 rfl rfl rfl trivial ?_
  refine oPick rfl rfl rfl rfl rfl hb2 rfl ?_
  refine oVal tt rfl rfl rfl rfl rfl trivial ?_
  refine vNil ?_
  change VC _ _ _ _
  refine vRet ?_
  change ∃ _, _
  cases h
  exact ⟨[], _, rfl, trivial, rfl, (.eq rfl), rfl⟩
 ·replace h := cnd_f hb2 h
  iterate 4 refine oNoT rfl rfl rfl rfl hb2 rfl rfl ?_
  refine oPickF rfl rfl rfl rfl rfl hb2 rfl ?_
  refine oVal tt rfl rfl rfl rfl rfl trivial ?_
  refine vNil ?_
  change VC _ _ _ _
  refine vRet ?_
  change ∃ _, _
  cases h
  exact ⟨[], _, rfl, trivial, rfl, (.eq rfl), rfl⟩
end Go.Proofs.YtmoamglpocjhgaaGreat
