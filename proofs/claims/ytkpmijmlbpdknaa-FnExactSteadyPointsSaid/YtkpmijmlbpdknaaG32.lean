/- Plain texts of functions, and that the program computes them (printed by gen.py). -/
import Derived.Test.YtkpmijmlbpdknaaShb
import Derived.Test.YtkpmijmlbpdknaaG2
import Derived.Test.YtkpmijmlbpdknaaG5
namespace Go.Proofs.Ytkpmijmlbpdknaa
open Go.RowKit
set_option linter.unusedVariables false
set_option linter.unusedSimpArgs false
def S_l4Copy (N : Nat) (p_0 : Pbl) : Option (Pbl) :=
  grd (p_0.free.length ≤ 4294967296) <|
  grd (p_0.tails.length ≤ 4294967296) <|
  grd (p_0.placed.length ≤ 4294967296) <|
  some (⟨(([] : List Int) ++ p_0.free), (([] : List Int) ++ p_0.tails), (([] : List Int) ++ p_0.placed)⟩ : Pbl)
set_option maxRecDepth 20000 in
set_option maxHeartbeats 1600000 in
theorem S_l4Copy_w (N : Nat) (p_0 : Pbl) (r : Pbl) (h : S_l4Copy N p_0 = some r) : PCall Try.prog 123 [bD p_0] [(3, .ints r.free), (3, .ints r.tails), (3, .ints r.placed)] (.agg [.row 0 0 r.free.length, .row 1 0 r.tails.length, .row 2 0 r.placed.length]) := by
  unfold S_l4Copy at h
  refine pcall_intro (TT := TT) tt Try.func123 rfl rfl Try.ntmps123 (congrArg Array.toList Try.results123) rfl rfl fun w0 => ?_
  refine vSeq ?_
  refine vRegion ?_
  refine oBox rfl rfl rfl rfl rfl rfl rfl rfl rfl ?_
  refine oAlloc tt rfl rfl rfl rfl rfl rfl rfl rfl rfl ?_
  refine vNil ?_
  change VC _ _ _ _
  refine vSeq ?_
  refine vRegionN 11 [3, 7] [0, 0, 2, 7, 0, 0, 32, 127, 0, 0, 512, 2047, 4095, 8191] (by kernel_rfl) (by kernel_rfl) (by kernel_rfl) (by kernel_rfl) (by kernel_rfl) rfl (by rfl) ?_
  refine nEmpty tt (wNone rfl) rfl rfl rfl rfl rfl ?_
  iterate 2 refine nVal tt rfl (wNone rfl) rfl rfl rfl rfl rfl trivial ?_
  obtain ⟨hg1, h⟩ := grd_inv h
  refine nAppNil tt (wNone rfl) rfl rfl rfl rfl rfl rfl rfl rfl (fun _ => rfl) rfl rfl rfl rfl rfl rfl hg1 ?_
  refine nEmpty tt (wNone rfl) rfl rfl rfl rfl rfl ?_
  iterate 2 refine nVal tt rfl (wNone rfl) rfl rfl rfl rfl rfl trivial ?_
  obtain ⟨hg2, h⟩ := grd_inv h
  refine nAppNil tt (wNone rfl) rfl rfl rfl rfl rfl rfl rfl rfl (fun _ => rfl) rfl rfl rfl rfl rfl rfl hg2 ?_
  refine nEmpty tt (wNone rfl) rfl rfl rfl rfl rfl ?_
  iterate 2 refine nVal tt rfl (wNone rfl) rfl rfl rfl rfl rfl trivial ?_
  refine nNil ?_
  change VO _ _ _ _ _
  obtain ⟨hg3, h⟩ := grd_inv h
  refine oAppNil tt (wNone rfl) rfl rfl rfl rfl rfl rfl rfl (fun _ => rfl) rfl rfl rfl rfl rfl hg3 ?_
  refine oPure (wNone rfl) (pBuild bld_impl_Pebbles rfl rfl) rfl rfl ?_
  refine oStore tt rfl rfl rfl rfl rfl rfl rfl rfl rfl rfl rfl ⟨trivial, trivial, trivial, trivial⟩ ?_
  refine vNil ?_
  change VC _ _ _ _
  refine vRet ?_
  change ∃ _, _
  cases h
  exact ⟨[6, 10, 14], _, rfl, ⟨rfl, rfl, rfl, trivial⟩, rfl, (.eq rfl), rfl⟩
def S_l4Shift_l1 (N : Nat) (g_0 : Grf) (p_1 : Pbl) (from_2 : List Int) (a_3 : Int) (v1 : Pbl) (k : (List Int) → Option (Pbl)) : Nat → ((List Int) × Int) → Option (Pbl)
  | 0, _ => none
  | n + 1, (l10, at11) =>
    cnd (at11 != a_3) (
      grd (0 ≤ at11 ∧ at11 < (from_2.length : Int)) <|
      grd (0 ≤ (from_2.getD ((at11).toNat) 0) ∧ (from_2.getD ((at11).toNat) 0) < (p_1.placed.length : Int)) <|
      grd (0 ≤ (p_1.placed.getD (((from_2.getD ((at11).toNat) 0)).toNat) 0) ∧ (p_1.placed.getD (((from_2.getD ((at11).toNat) 0)).toNat) 0) < (g_0.bars.length : Int)) <|
      (S_l4Other N (g_0.bars.getD (((p_1.placed.getD (((from_2.getD ((at11).toNat) 0)).toNat) 0)).toNat) (0, 0)) at11).bind fun v13 =>
      grd (0 ≤ (from_2.getD ((at11).toNat) 0) ∧ (from_2.getD ((at11).toNat) 0) < (v1.tails.length : Int)) <|
      grd (0 ≤ (from_2.getD ((at11).toNat) 0) ∧ (from_2.getD ((at11).toNat) 0) < (l10.length : Int)) <|
      S_l4Shift_l1 N g_0 p_1 from_2 a_3 v1 k n ((l10.set (((from_2.getD ((at11).toNat) 0)).toNat) at11), v13)) (
      k l10)
def S_l4Shift (N : Nat) (g_0 : Grf) (p_1 : Pbl) (from_2 : List Int) (a_3 : Int) (u_4 : Int) : Option (Pbl) :=
  (S_l4Copy N p_1).bind fun v1 =>
  grd (0 ≤ u_4 ∧ u_4 < (v1.free.length : Int)) <|
  grd (Rg64 ((v1.free.getD ((u_4).toNat) 0) - (1 : Int))) <|
  grd (0 ≤ a_3 ∧ a_3 < (v1.free.length : Int)) <|
  grd (0 ≤ a_3 ∧ a_3 < ((v1.free.set ((u_4).toNat) ((v1.free.getD ((u_4).toNat) 0) - (1 : Int))).length : Int)) <|
  grd (Rg64 (((v1.free.set ((u_4).toNat) ((v1.free.getD ((u_4).toNat) 0) - (1 : Int))).getD ((a_3).toNat) 0) + (1 : Int))) <|
  S_l4Shift_l1 N g_0 p_1 from_2 a_3 v1 (fun (l7 : List Int) =>
        grd (v1.free.length = ((v1.free.set ((u_4).toNat) ((v1.free.getD ((u_4).toNat) 0) - (1 : Int))).set ((a_3).toNat) (((v1.free.set ((u_4).toNat) ((v1.free.getD ((u_4).toNat) 0) - (1 : Int))).getD ((a_3).toNat) 0) + (1 : Int))).length) <|
        grd (v1.tails.length = l7.length) <|
        some (⟨((v1.free.set ((u_4).toNat) ((v1.free.getD ((u_4).toNat) 0) - (1 : Int))).set ((a_3).toNat) (((v1.free.set ((u_4).toNat) ((v1.free.getD ((u_4).toNat) 0) - (1 : Int))).getD ((a_3).toNat) 0) + (1 : Int))), l7, v1.placed⟩ : Pbl)) N (v1.tails, u_4)
set_option maxRecDepth 20000 in
set_option maxHeartbeats 1600000 in
theorem S_l4Shift_w (N : Nat) (g_0 : Grf) (p_1 : Pbl) (from_2 : List Int) (a_3 : Int) (u_4 : Int) (r : Pbl) (h : S_l4Shift N g_0 p_1 from_2 a_3 u_4 = some r) : PCall Try.prog 128 [gD g_0, bD p_1, .ro false (.ints from_2), .int a_3, .int u_4] [(3, .ints r.free), (3, .ints r.tails), (3, .ints r.placed)] (.agg [.row 0 0 r.free.length, .row 1 0 r.tails.length, .row 2 0 r.placed.length]) := by
  unfold S_l4Shift at h
  refine pcall_intro (TT := TT) tt Try.func128 rfl rfl Try.ntmps128 (congrArg Array.toList Try.results128) rfl rfl fun w0 => ?_
  refine vSeq ?_
  refine vRegion ?_
  iterate 2 refine oBox rfl rfl rfl rfl rfl rfl rfl rfl rfl ?_
  refine oAlloc tt rfl rfl rfl rfl rfl rfl rfl rfl rfl ?_
  refine vNil ?_
  change VC _ _ _ _
  refine vSeq ?_
  refine vRegion ?_
  refine oVal tt rfl rfl rfl rfl rfl trivial ?_
  obtain ⟨v1, hc1, h⟩ := bind_inv h
  refine oCall (S_l4Copy_w N p_1 v1 hc1) rfl rfl rfl rfl rfl rfl rfl rfl ⟨⟨rfl, rfl, rfl, trivial⟩, trivial⟩ ?_
  refine oAlloc tt rfl rfl rfl rfl rfl rfl rfl rfl rfl ?_
  refine oStore tt rfl rfl rfl rfl rfl rfl rfl rfl rfl rfl rfl ⟨trivial, trivial, trivial, trivial⟩ ?_
  refine vNil ?_
  change VC _ _ _ _
  refine vSeq ?_
  refine vRegionN 9 [] [0, 1, 0, 0, 8, 0, 56, 120, 248, 511, 1023] (by kernel_rfl) (by kernel_rfl) (by kernel_rfl) (by kernel_rfl) (by kernel_rfl) rfl (by rfl) ?_
  iterate 6 refine nVal tt rfl (wNone rfl) rfl rfl rfl rfl rfl trivial ?_
  obtain ⟨hg2, h⟩ := grd_inv h
  iterate 2 refine nVal tt rfl (wNone rfl) rfl rfl rfl rfl rfl hg2 ?_
  obtain ⟨hg3, h⟩ := grd_inv h
  refine nVal tt rfl (wNone rfl) rfl rfl rfl rfl rfl hg3 ?_
  refine nNil ?_
  change VO _ _ _ _ _
  refine oVal tt rfl rfl rfl rfl rfl hg2 ?_
  refine oStore tt rfl rfl rfl rfl rfl rfl rfl rfl rfl rfl ⟨_, _, rfl, hg2.1, hg2.2⟩ ⟨hg2, trivial⟩ ?_
  refine vNil ?_
  change VC _ _ _ _
  refine vSeq ?_
  refine vRegionN 9 [] [0, 1, 0, 0, 8, 0, 56, 120, 248, 511, 1023] (by kernel_rfl) (by kernel_rfl) (by kernel_rfl) (by kernel_rfl) (by kernel_rfl) rfl (by rfl) ?_
  iterate 6 refine nVal tt rfl (wNone rfl) rfl rfl rfl rfl rfl trivial ?_
  obtain ⟨hg4, h⟩ := grd_inv h
  refine nVal tt rfl (wNone rfl) rfl rfl rfl rfl rfl hg4 ?_
  obtain ⟨hg5, h⟩ := grd_inv h
  refine nVal tt rfl (wNone rfl) rfl rfl rfl rfl rfl hg5 ?_
  obtain ⟨hg6, h⟩ := grd_inv h
  refine nVal tt rfl (wNone rfl) rfl rfl rfl rfl rfl hg6 ?_
  refine nNil ?_
  change VO _ _ _ _ _
  refine oVal tt rfl rfl rfl rfl rfl hg4 ?_
  refine oStore tt rfl rfl rfl rfl rfl rfl rfl rfl rfl rfl ⟨_, _, rfl, hg5.1, hg5.2⟩ ⟨hg5, trivial⟩ ?_
  refine vNil ?_
  change VC _ _ _ _
  refine vSeq ?_
  refine vRegion ?_
  iterate 2 refine oVal tt rfl rfl rfl rfl rfl trivial ?_
  refine vNil ?_
  change VC _ _ _ _
  refine vSeq ?_
  refine vJoin (F := fun k => S_l4Shift_l1 N g_0 p_1 from_2 a_3 v1 k) h (α := List Int) (J := fun (l7 : List Int) => (⟨[(10, .ptr 10 0), (11, .ptr 11 0)], [(1160, some (3, .ints ((v1.free.set ((u_4).toNat) ((v1.free.getD ((u_4).toNat) 0) - (1 : Int))).set ((a_3).toNat) (((v1.free.set ((u_4).toNat) ((v1.free.getD ((u_4).toNat) 0) - (1 : Int))).getD ((a_3).toNat) 0) + (1 : Int))))), (1161, some (3, .ints l7)), (1162, some (3, .ints v1.placed))], [(10, some [.nil, .nil, .nil]), (11, some [.row 1160 0 v1.free.length, .row 1161 0 v1.tails.length, .row 1162 0 v1.placed.length])]⟩ : PS)) ?_ ?_
  · rintro l7 h
    show VC _ _ _ (⟨[(10, .ptr 10 0), (11, .ptr 11 0)], [(1160, some (3, .ints ((v1.free.set ((u_4).toNat) ((v1.free.getD ((u_4).toNat) 0) - (1 : Int))).set ((a_3).toNat) (((v1.free.set ((u_4).toNat) ((v1.free.getD ((u_4).toNat) 0) - (1 : Int))).getD ((a_3).toNat) 0) + (1 : Int))))), (1161, some (3, .ints l7)), (1162, some (3, .ints v1.placed))], [(10, some [.nil, .nil, .nil]), (11, some [.row 1160 0 v1.free.length, .row 1161 0 v1.tails.length, .row 1162 0 v1.placed.length])]⟩ : PS)
    refine vSeq ?_
    refine vRegion ?_
    refine oVal tt rfl rfl rfl rfl rfl trivial ?_
    refine oStore tt rfl rfl rfl rfl rfl rfl rfl rfl rfl rfl rfl ⟨trivial, trivial, trivial, trivial⟩ ?_
    refine vNil ?_
    change VC _ _ _ _
    obtain ⟨hg7, h⟩ := grd_inv h
    obtain ⟨hg8, h⟩ := grd_inv h
    refine vRet ?_
    change ∃ _, _
    cases h
    exact ⟨[1160, 1161, 1162], _, rfl, ⟨rfl, rfl, rfl, trivial⟩, rfl, (.eq (by simp only [hg7, hg8]; rfl)), rfl⟩
  · intro k h
    refine vBlock ?_
    refine vLoopS (α := (List Int) × Int) (fun | (l10, at11) => (⟨[(2, .ro false (.ints from_2)), (3, .int a_3), (5, .ptr 5 0), (6, .ptr 6 0), (10, .ptr 10 0), (11, .ptr 11 0), (12, .int at11)], [(1160, some (3, .ints ((v1.free.set ((u_4).toNat) ((v1.free.getD ((u_4).toNat) 0) - (1 : Int))).set ((a_3).toNat) (((v1.free.set ((u_4).toNat) ((v1.free.getD ((u_4).toNat) 0) - (1 : Int))).getD ((a_3).toNat) 0) + (1 : Int))))), (1161, some (3, .ints l10)), (1162, some (3, .ints v1.placed))], [(5, some [.int g_0.n, .ro false (.pairs g_0.bars)]), (6, some [.ro false (.ints p_1.free), .ro false (.ints p_1.tails), .ro false (.ints p_1.placed)]), (10, some [.nil, .nil, .nil]), (11, some [.row 1160 0 v1.free.length, .row 1161 0 v1.tails.length, .row 1162 0 v1.placed.length])]⟩ : PS)) (S_l4Shift_l1 N g_0 p_1 from_2 a_3 v1 k) h (En.of ⟨rfl, rfl, rfl, rfl, rfl, rfl, rfl, trivial⟩ ⟨rfl, rfl, rfl, trivial⟩ ⟨rfl, rfl, rfl, rfl, trivial⟩) (fun _ => rfl) ?_
    rintro n ⟨l10, at11⟩ h
    rw [S_l4Shift_l1] at h
    show VC _ _ _ (⟨[(2, .ro false (.ints from_2)), (3, .int a_3), (5, .ptr 5 0), (6, .ptr 6 0), (10, .ptr 10 0), (11, .ptr 11 0), (12, .int at11)], [(1160, some (3, .ints ((v1.free.set ((u_4).toNat) ((v1.free.getD ((u_4).toNat) 0) - (1 : Int))).set ((a_3).toNat) (((v1.free.set ((u_4).toNat) ((v1.free.getD ((u_4).toNat) 0) - (1 : Int))).getD ((a_3).toNat) 0) + (1 : Int))))), (1161, some (3, .ints l10)), (1162, some (3, .ints v1.placed))], [(5, some [.int g_0.n, .ro false (.pairs g_0.bars)]), (6, some [.ro false (.ints p_1.free), .ro false (.ints p_1.tails), .ro false (.ints p_1.placed)]), (10, some [.nil, .nil, .nil]), (11, some [.row 1160 0 v1.free.length, .row 1161 0 v1.tails.length, .row 1162 0 v1.placed.length])]⟩ : PS)
    iterate 2 refine vSeq ?_
    refine vRegion ?_
    iterate 3 refine oVal tt rfl rfl rfl rfl rfl trivial ?_
    refine vNil ?_
    change VC _ _ _ _
    refine vCond rfl (fun hb9 => ?_) (fun hb9 => ?_)
    · replace h := cnd_t hb9 h
      refine vSkip ?_
      change VC _ _ _ _
      refine vBlock ?_
      refine vSeq ?_
      refine vRegion ?_
      iterate 2 refine oVal tt rfl rfl rfl rfl rfl trivial ?_
      obtain ⟨hg10, h⟩ := grd_inv h
      refine oVal tt rfl rfl rfl rfl rfl hg10 ?_
      iterate 2 refine oVal tt rfl rfl rfl rfl rfl trivial ?_
      refine vNil ?_
      change VC _ _ _ _
      refine vSeq ?_
      refine vRegionD (by kernel_rfl) (by kernel_rfl) ?_
      iterate 5 refine cVal tt rfl (wNone rfl) rfl rfl rfl trivial ?_
      obtain ⟨hg11, h⟩ := grd_inv h
      refine cVal tt rfl (wNone rfl) rfl rfl rfl hg11 ?_
      refine cVal tt rfl (wNone rfl) rfl rfl rfl trivial ?_
      obtain ⟨hg12, h⟩ := grd_inv h
      refine cVal tt rfl (wNone rfl) rfl rfl rfl hg12 ?_
      iterate 2 refine cVal tt rfl (wNone rfl) rfl rfl rfl trivial ?_
      obtain ⟨v13, hc13, h⟩ := bind_inv h
      refine cCall (S_l4Other_w N (g_0.bars.getD (((p_1.placed.getD (((from_2.getD ((at11).toNat) 0)).toNat) 0)).toNat) (0, 0)) at11 v13 hc13) rfl (wNone rfl) rfl rfl rfl rfl rfl rfl ⟨⟨rfl, rfl, trivial⟩, rfl, trivial⟩ ?_
      refine cVal tt rfl (wNone rfl) rfl rfl rfl trivial ?_
      refine cNil ?_
      change VC _ _ _ _
      refine vSeq ?_
      refine vRegion ?_
      iterate 4 refine oVal tt rfl rfl rfl rfl rfl trivial ?_
      obtain ⟨hg14, h⟩ := grd_inv h
      refine oVal tt rfl rfl rfl rfl rfl hg14 ?_
      obtain ⟨hg15, h⟩ := grd_inv h
      refine oStore tt rfl rfl rfl rfl rfl rfl rfl rfl rfl rfl ⟨_, _, rfl, hg15.1, hg15.2⟩ ⟨hg15, trivial⟩ ?_
      refine vNil ?_
      change VC _ _ _ _
      refine vRegion ?_
      iterate 2 refine oVal tt rfl rfl rfl rfl rfl trivial ?_
      refine vNil ?_
      change ∃ _, _
      exact ⟨((l10.set (((from_2.getD ((at11).toNat) 0)).toNat) at11), v13), (En.of ⟨rfl, rfl, rfl, rfl, rfl, rfl, rfl, trivial⟩ ⟨rfl, rfl, rfl, trivial⟩ ⟨rfl, rfl, rfl, rfl, trivial⟩), h⟩
    · replace h := cnd_f hb9 h
      refine vExit ?_
      change ∃ _, _
      exact ⟨l10, (En.of ⟨rfl, rfl, trivial⟩ ⟨rfl, rfl, rfl, trivial⟩ ⟨rfl, rfl, trivial⟩), h⟩
def S_l2Copy (N : Nat) (g_0 : Grf) : Option (Grf) :=
  grd (g_0.bars.length ≤ 4294967296) <|
  some (⟨g_0.n, (([] : List (Int × Int)) ++ g_0.bars)⟩ : Grf)
set_option maxRecDepth 20000 in
set_option maxHeartbeats 1600000 in
theorem S_l2Copy_w (N : Nat) (g_0 : Grf) (r : Grf) (h : S_l2Copy N g_0 = some r) : PCall Try.prog 77 [gD g_0] [(71, .pairs r.bars)] (.agg [.int r.n, .row 0 0 r.bars.length]) := by
  unfold S_l2Copy at h
  refine pcall_intro (TT := TT) tt Try.func77 rfl rfl Try.ntmps77 (congrArg Array.toList Try.results77) rfl rfl fun w0 => ?_
  refine vSeq ?_
  refine vRegion ?_
  refine oBox rfl rfl rfl rfl rfl rfl rfl rfl rfl ?_
  refine oAlloc tt rfl rfl rfl rfl rfl rfl rfl rfl rfl ?_
  refine vNil ?_
  change VC _ _ _ _
  refine vSeq ?_
  refine vRegionN 6 [5] [0, 1, 0, 0, 8, 28, 63, 127] (by kernel_rfl) (by kernel_rfl) (by kernel_rfl) (by kernel_rfl) (by kernel_rfl) rfl (by rfl) ?_
  iterate 2 refine nVal tt rfl (wNone rfl) rfl rfl rfl rfl rfl trivial ?_
  refine nEmpty tt (wNone rfl) rfl rfl rfl rfl rfl ?_
  iterate 2 refine nVal tt rfl (wNone rfl) rfl rfl rfl rfl rfl trivial ?_
  obtain ⟨hg1, h⟩ := grd_inv h
  refine nAppNil tt (wNone rfl) rfl rfl rfl rfl rfl rfl rfl rfl (fun _ => rfl) rfl rfl rfl rfl rfl rfl hg1 ?_
  refine nNil ?_
  change VO _ _ _ _ _
  refine oPure (wNone rfl) (pBuild bld_impl_Graph rfl rfl) rfl rfl ?_
  refine oStore tt rfl rfl rfl rfl rfl rfl rfl rfl rfl rfl rfl ⟨trivial, trivial, trivial⟩ ?_
  refine vNil ?_
  change VC _ _ _ _
  refine vRet ?_
  change ∃ _, _
  cases h
  exact ⟨[8], _, rfl, ⟨rfl, trivial⟩, rfl, (.eq rfl), rfl⟩
def I_copyGraph (N : Nat) (g_0 : Grf) : Option (Grf) :=
  grd (g_0.bars.length ≤ 4294967296) <|
  some (⟨g_0.n, (([] : List (Int × Int)) ++ g_0.bars)⟩ : Grf)
set_option maxRecDepth 20000 in
set_option maxHeartbeats 1600000 in
theorem I_copyGraph_w (N : Nat) (g_0 : Grf) (r : Grf) (h : I_copyGraph N g_0 = some r) : PCall Try.prog 108 [gD g_0] [(71, .pairs r.bars)] (.agg [.int r.n, .row 0 0 r.bars.length]) := by
  unfold I_copyGraph at h
  refine pcall_intro (TT := TT) tt Try.func108 rfl rfl Try.ntmps108 (congrArg Array.toList Try.results108) rfl rfl fun w0 => ?_
  refine vSeq ?_
  refine vRegion ?_
  refine oBox rfl rfl rfl rfl rfl rfl rfl rfl rfl ?_
  refine oAlloc tt rfl rfl rfl rfl rfl rfl rfl rfl rfl ?_
  refine vNil ?_
  change VC _ _ _ _
  refine vSeq ?_
  refine vRegionN 6 [5] [0, 1, 0, 0, 8, 28, 63, 127] (by kernel_rfl) (by kernel_rfl) (by kernel_rfl) (by kernel_rfl) (by kernel_rfl) rfl (by rfl) ?_
  iterate 2 refine nVal tt rfl (wNone rfl) rfl rfl rfl rfl rfl trivial ?_
  refine nEmpty tt (wNone rfl) rfl rfl rfl rfl rfl ?_
  iterate 2 refine nVal tt rfl (wNone rfl) rfl rfl rfl rfl rfl trivial ?_
  obtain ⟨hg1, h⟩ := grd_inv h
  refine nAppNil tt (wNone rfl) rfl rfl rfl rfl rfl rfl rfl rfl (fun _ => rfl) rfl rfl rfl rfl rfl rfl hg1 ?_
  refine nNil ?_
  change VO _ _ _ _ _
  refine oPure (wNone rfl) (pBuild bld_impl_Graph rfl rfl) rfl rfl ?_
  refine oStore tt rfl rfl rfl rfl rfl rfl rfl rfl rfl rfl rfl ⟨trivial, trivial, trivial⟩ ?_
  refine vNil ?_
  change VC _ _ _ _
  refine vRet ?_
  change ∃ _, _
  cases h
  exact ⟨[8], _, rfl, ⟨rfl, trivial⟩, rfl, (.eq rfl), rfl⟩
def I_copyPinned (N : Nat) (p_0 : Pin) : Option (Pin) :=
  (I_copyGraph N p_0.g).bind fun v1 =>
  (I_copyInts N p_0.ground).bind fun v2 =>
  some (⟨⟨v1.n, v1.bars⟩, v2⟩ : Pin)
set_option maxRecDepth 20000 in
set_option maxHeartbeats 1600000 in
theorem I_copyPinned_w (N : Nat) (p_0 : Pin) (r : Pin) (h : I_copyPinned N p_0 = some r) : PCall Try.prog 78 [pD p_0] [(71, .pairs r.g.bars), (3, .ints r.ground)] (.agg [.int r.g.n, .row 0 0 r.g.bars.length, .row 1 0 r.ground.length]) := by
  unfold I_copyPinned at h
  refine pcall_intro (TT := TT) tt Try.func78 rfl rfl Try.ntmps78 (congrArg Array.toList Try.results78) rfl rfl fun w0 => ?_
  refine vSeq ?_
  refine vRegion ?_
  refine oBox rfl rfl rfl rfl rfl rfl rfl rfl rfl ?_
  refine oAlloc tt rfl rfl rfl rfl rfl rfl rfl rfl rfl ?_
  refine vNil ?_
  change VC _ _ _ _
  refine vSeq ?_
  refine vRegionN 5 [2] [0, 1, 3, 0, 8, 31, 63, 127] (by kernel_rfl) (by kernel_rfl) (by kernel_rfl) (by kernel_rfl) (by kernel_rfl) rfl (by rfl) ?_
  iterate 2 refine nVal tt rfl (wNone rfl) rfl rfl rfl rfl rfl trivial ?_
  obtain ⟨v1, hc1, h⟩ := bind_inv h
  refine nCallR (I_copyGraph_w N p_0.g v1 hc1) rfl (wNone rfl) rfl rfl rfl rfl rfl rfl (by first | rfl | kernel_rfl | (simp [nrL, nm, gdst, nmT, rowB]; done)) rfl (by first | rfl | kernel_rfl | (simp [chkE, nrL, nm, gdst, nmT, rowB, hid, ment, mentA, mentS]; done) | (simp [chkE, nrL, nm, gdst, nmT, rowB, hid, ment, mentA, mentS]; decide)) ⟨⟨rfl, rfl, trivial⟩, trivial⟩ ?_
  iterate 2 refine nVal tt rfl (wNone rfl) rfl rfl rfl rfl rfl trivial ?_
  refine nNil ?_
  change VO _ _ _ _ _
  obtain ⟨v2, hc2, h⟩ := bind_inv h
  refine oCall (I_copyInts_w N p_0.ground v2 hc2) rfl rfl rfl rfl rfl rfl rfl rfl ⟨rfl, trivial⟩ ?_
  refine oPure (wNone rfl) (pBuild bld_impl_Pinned rfl rfl) rfl rfl ?_
  refine oStore tt rfl rfl rfl rfl rfl rfl rfl rfl rfl rfl rfl ⟨trivial, trivial, trivial, trivial⟩ ?_
  refine vNil ?_
  change VC _ _ _ _
  refine vRet ?_
  change ∃ _, _
  cases h
  exact ⟨[1050, 1080], _, rfl, ⟨rfl, rfl, trivial⟩, rfl, (.eq rfl), rfl⟩
end Go.Proofs.Ytkpmijmlbpdknaa
