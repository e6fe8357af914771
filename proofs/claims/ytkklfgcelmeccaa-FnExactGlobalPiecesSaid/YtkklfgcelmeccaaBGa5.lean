/- Texts that the proof needs, put together: G34 G30 G35 Pp Pd Pq Pr M7 G38 G56 M8 M9 M10 M11 M12 M13 M14 G71. -/
import Derived.Test.YtkklfgcelmeccaaBGa3
import Derived.Test.YtkklfgcelmeccaaBGa4
set_option linter.unusedVariables false
set_option linter.unusedSimpArgs false
namespace Go.Proofs.Ytkklfgcelmeccaa
open Go.RowKit
def S_l4Find_l2 (N : Nat) (g_0 : Grf) (p_1 : Pbl) (a_2 : Int) (b_3 : Int) (l106 : List Int) (k108 : Int) (k : ((List Int) × (List Int) × (List Bool)) → Option (Pbl × Bool)) : Nat → ((List Int) × (List Int) × (List Bool) × Int) → Option (Pbl × Bool)
 | 0, _ => none
 | n + 1, (l149, l150, l151, i152) =>
  cnd (decide (i152 < (p_1.placed.length : Int))) (
   grd (0 ≤ i152 ∧ i152 < (p_1.tails.length : Int)) <|
   cnd ((p_1.tails.getD ((i152).toNat) 0) != (l106.getD ((k108).toNat) 0)) (
    grd (Rg64 (i152 + (1 : Int))) <|
    S_l4Find_l2 N g_0 p_1 a_2 b_3 l106 k108 k n (l149, l150, l151, (i152 + (1 : Int)))) (
    grd (0 ≤ i152 ∧ i152 < (p_1.placed.length : Int)) <|
    grd (0 ≤ (p_1.placed.getD ((i152).toNat) 0) ∧ (p_1.placed.getD ((i152).toNat) 0) < (g_0.bars.length : Int)) <|
    (S_l4Other N (g_0.bars.getD (((p_1.placed.getD ((i152).toNat) 0)).toNat) (0, 0)) (l106.getD ((k108).toNat) 0)).bind fun v155 =>
    grd (0 ≤ v155 ∧ v155 < ((List.replicate ((g_0.n).toNat) (false : Bool)).length : Int)) <|
    grd (0 ≤ v155 ∧ v155 < (l151.length : Int)) <|
    cnd (l151.getD ((v155).toNat) false) (
     grd (Rg64 (i152 + (1 : Int))) <|
     S_l4Find_l2 N g_0 p_1 a_2 b_3 l106 k108 k n (l149, l150, l151, (i152 + (1 : Int)))) (
     grd (0 ≤ v155 ∧ v155 < ((List.replicate ((g_0.n).toNat) (0 : Int)).length : Int)) <|
     grd (0 ≤ v155 ∧ v155 < (l149.length : Int)) <|
     cnd (v155 != b_3) (
      grd (0 ≤ v155 ∧ v155 < (p_1.free.length : Int)) <|
      cnd (decide ((p_1.free.getD ((v155).toNat) 0) > (0 : Int))) (
       grd ((List.replicate ((g_0.n).toNat) (0 : Int)).length = (l149.set ((v155).toNat) i152).length) <|
       (S_l4Shift N g_0 p_1 (l149.set ((v155).toNat) i152) a_2 v155).bind fun v156 =>
       some ((⟨v156.free, v156.tails, v156.placed⟩ : Pbl), true)) (
       grd (l150.length + 1 ≤ 4294967296) <|
       grd (Rg64 (i152 + (1 : Int))) <|
       S_l4Find_l2 N g_0 p_1 a_2 b_3 l106 k108 k n ((l149.set ((v155).toNat) i152), (l150 ++ ([v155] : List Int)), (l151.set ((v155).toNat) true), (i152 + (1 : Int))))) (
      grd (l150.length + 1 ≤ 4294967296) <|
      grd (Rg64 (i152 + (1 : Int))) <|
      S_l4Find_l2 N g_0 p_1 a_2 b_3 l106 k108 k n ((l149.set ((v155).toNat) i152), (l150 ++ ([v155] : List Int)), (l151.set ((v155).toNat) true), (i152 + (1 : Int))))))) (
   k (l149, l150, l151))
def S_l4Find_l1 (N : Nat) (g_0 : Grf) (p_1 : Pbl) (a_2 : Int) (b_3 : Int) (k : Unit → Option (Pbl × Bool)) : Nat → ((List Int) × (List Int) × (List Bool) × Int) → Option (Pbl × Bool)
 | 0, _ => none
 | n + 1, (l105, l106, l107, k108) =>
  cnd (decide (k108 < (l106.length : Int))) (
   grd (0 ≤ k108 ∧ k108 < (l106.length : Int)) <|
   S_l4Find_l2 N g_0 p_1 a_2 b_3 l106 k108 (fun (x : (List Int) × (List Int) × (List Bool)) =>
     match x with
     | (l143, l144, l145) =>
      grd (Rg64 (k108 + (1 : Int))) <|
      S_l4Find_l1 N g_0 p_1 a_2 b_3 k n (l143, l144, l145, (k108 + (1 : Int)))) N (l105, l106, l107, (0 : Int))) (
   k ())
def S_l4Find_l3 (N : Nat) (g_0 : Grf) (k : (List Int) → Option (Pbl × Bool)) : Nat → ((List Int) × Int) → Option (Pbl × Bool)
 | 0, _ => none
 | n + 1, (l158, i159) =>
  cnd (decide (i159 < g_0.n)) (
   grd (0 ≤ i159 ∧ i159 < ((List.replicate ((g_0.n).toNat) (0 : Int)).length : Int)) <|
   grd (0 ≤ i159 ∧ i159 < (l158.length : Int)) <|
   grd (Rg64 (i159 + (1 : Int))) <|
   S_l4Find_l3 N g_0 k n ((l158.set ((i159).toNat) (-1 : Int)), (i159 + (1 : Int)))) (
   k l158)
def S_l4Find (N : Nat) (g_0 : Grf) (p_1 : Pbl) (a_2 : Int) (b_3 : Int) : Option (Pbl × Bool) :=
 grd (0 ≤ g_0.n ∧ g_0.n ≤ 4294967296) <|
 S_l4Find_l3 N g_0 (fun (l3 : List Int) =>
    grd (0 ≤ a_2 ∧ a_2 < ((List.replicate ((g_0.n).toNat) (false : Bool)).length : Int)) <|
    S_l4Find_l1 N g_0 p_1 a_2 b_3 (fun (_ : Unit) =>
       some ((⟨p_1.free, p_1.tails, p_1.placed⟩ : Pbl), false)) N (l3, ([a_2] : List Int), ((List.replicate ((g_0.n).toNat) (false : Bool)).set ((a_2).toNat) true), (0 : Int))) N ((List.replicate ((g_0.n).toNat) (0 : Int)), (0 : Int))
set_option maxRecDepth 20000 in
set_option maxHeartbeats 1600000 in
theorem S_l4Find_wT (N : Nat) (g_0 : Grf) (p_1 : Pbl) (a_2 : Int) (b_3 : Int) (r : Pbl × Bool) (h : S_l4Find N g_0 p_1 a_2 b_3 = some r) (halt : r.2 = true) : PCall Try.prog 150 [gD g_0, bD p_1, .int a_2, .int b_3] [(3, .ints r.1.free), (3, .ints r.1.tails), (3, .ints r.1.placed)] (.tup [.agg [.row 0 0 r.1.free.length, .row 1 0 r.1.tails.length, .row 2 0 r.1.placed.length], .bool r.2]) := by
 unfold S_l4Find at h
 refine pcall_intro (TT := TT) tt Try.func150 rfl rfl Try.ntmps150 (congrArg Array.toList Try.results150) rfl rfl fun w0 => ?_
 refine vSeq ?_
 refine vRegion ?_
 iterate 2 refine oBox rfl rfl rfl rfl rfl rfl rfl rfl rfl ?_
 refine oAlloc tt rfl rfl rfl rfl rfl rfl rfl rfl rfl ?_
 refine oVal tt rfl rfl rfl rfl rfl trivial ?_
 refine vNil ?_
 change VC _ _ _ _
 refine vSeq ?_
 refine vRegion ?_
 iterate 2 refine oVal tt rfl rfl rfl rfl rfl trivial ?_
 obtain ⟨hg1, h⟩ := grd_inv h
 refine oMake tt rfl rfl rfl rfl rfl rfl rfl rfl rfl rfl rfl hg1 ?_
 refine oVal tt rfl rfl rfl rfl rfl trivial ?_
 refine vNil ?_
 change VC _ _ _ _
 iterate 2 refine vSeq ?_
 refine vRegion ?_
 refine oVal tt rfl rfl rfl rfl rfl trivial ?_
 refine vNil ?_
 change VC _ _ _ _
 refine vJoin (F := fun k => S_l4Find_l3 N g_0 k) h (α := List Int) (J := fun (l3 : List Int) => (⟨[(2, .int a_2), (3, .int b_3), (4, .ptr 4 0), (5, .ptr 5 0), (8, .ptr 8 0), (10, .row 20 0 ((List.replicate ((g_0.n).toNat) (0 : Int)).length))], [(20, some (3, .ints l3))], [(4, some [.int g_0.n, .ro false (.pairs g_0.bars)]), (5, some [.ro false (.ints p_1.free), .ro false (.ints p_1.tails), .ro false (.ints p_1.placed)]), (8, some [.nil, .nil, .nil])]⟩ : PS)) ?_ ?_
 ·rintro l3 h
  show VC _ _ _ (⟨[(2, .int a_2), (3, .int b_3), (4, .ptr 4 0), (5, .ptr 5 0), (8, .ptr 8 0), (10, .row 20 0 ((List.replicate ((g_0.n).toNat) (0 : Int)).length))], [(20, some (3, .ints l3))], [(4, some [.int g_0.n, .ro false (.pairs g_0.bars)]), (5, some [.ro false (.ints p_1.free), .ro false (.ints p_1.tails), .ro false (.ints p_1.placed)]), (8, some [.nil, .nil, .nil])]⟩ : PS)
  refine vSeq ?_
  refine vRegion ?_
  refine oVal tt rfl rfl rfl rfl rfl trivial ?_
  refine oBuild tt rfl rfl rfl rfl rfl rfl rfl rfl rfl rfl rfl ?_
  refine oVal tt rfl rfl rfl rfl rfl trivial ?_
  refine vNil ?_
  change VC _ _ _ _
  refine vSeq ?_
  refine vRegion ?_
  iterate 2 refine oVal tt rfl rfl rfl rfl rfl trivial ?_
  refine oMake tt rfl rfl rfl rfl rfl rfl rfl rfl rfl rfl rfl hg1 ?_
  refine oVal tt rfl rfl rfl rfl rfl trivial ?_
  refine vNil ?_
  change VC _ _ _ _
  refine vSeq ?_
  refine vRegion ?_
  iterate 2 refine oVal tt rfl rfl rfl rfl rfl trivial ?_
  obtain ⟨hg2, h⟩ := grd_inv h
  refine oVal tt rfl rfl rfl rfl rfl hg2 ?_
  refine oStore tt rfl rfl rfl rfl rfl rfl rfl rfl rfl rfl ⟨_, _, rfl, hg2.1, hg2.2⟩ ⟨hg2, trivial⟩ ?_
  refine vNil ?_
  change VC _ _ _ _
  iterate 2 refine vSeq ?_
  refine vRegion ?_
  refine oVal tt rfl rfl rfl rfl rfl trivial ?_
  refine vNil ?_
  change VC _ _ _ _
  refine vJoin (F := fun k => S_l4Find_l1 N g_0 p_1 a_2 b_3 k) h (α := Unit) (J := fun (_ : Unit) => (⟨[(5, .ptr 5 0), (8, .ptr 8 0)], [], [(5, some [.ro false (.ints p_1.free), .ro false (.ints p_1.tails), .ro false (.ints p_1.placed)]), (8, some [.nil, .nil, .nil])]⟩ : PS)) ?_ ?_
  ·rintro ⟨⟩ h
   show VC _ _ _ (⟨[(5, .ptr 5 0), (8, .ptr 8 0)], [], [(5, some [.ro false (.ints p_1.free), .ro false (.ints p_1.tails), .ro false (.ints p_1.placed)]), (8, some [.nil, .nil, .nil])]⟩ : PS)
   refine vSeq ?_
   refine vRegion ?_
   refine oVal tt rfl rfl rfl rfl rfl trivial ?_
   refine oStore tt rfl rfl rfl rfl rfl rfl rfl rfl rfl rfl rfl ⟨trivial, trivial, trivial, trivial⟩ ?_
   refine oVal tt rfl rfl rfl rfl rfl trivial ?_
   refine vNil ?_
   change VC _ _ _ _
   cases h
   cases halt
  ·intro k h
   refine vBlock ?_
   refine vLoopS (α := (List Int) × (List Int) × (List Bool) × Int) (fun | (l105, l106, l107, k108) => (⟨[(2, .int a_2), (3, .int b_3), (4, .ptr 4 0), (5, .ptr 5 0), (8, .ptr 8 0), (10, .row 20 0 ((List.replicate ((g_0.n).toNat) (0 : Int)).length)), (12, .row 31 0 l106.length), (13, .row 34 0 ((List.replicate ((g_0.n).toNat) (false : Bool)).length)), (14, .int k108)], [(20, some (3, .ints l105)), (31, some (3, .ints l106)), (34, some (4, .bools l107))], [(4, some [.int g_0.n, .ro false (.pairs g_0.bars)]), (5, some [.ro false (.ints p_1.free), .ro false (.ints p_1.tails), .ro false (.ints p_1.placed)]), (8, some [.nil, .nil, .nil])]⟩ : PS)) (S_l4Find_l1 N g_0 p_1 a_2 b_3 k) h (En.of ⟨rfl, rfl, rfl, rfl, rfl, rfl, rfl, rfl, rfl, trivial⟩ ⟨rfl, rfl, rfl, trivial⟩ ⟨rfl, rfl, rfl, trivial⟩) (fun _ => rfl) ?_
   rintro n ⟨l105, l106, l107, k108⟩ h
   rw [S_l4Find_l1] at h
   show VC _ _ _ (⟨[(2, .int a_2), (3, .int b_3), (4, .ptr 4 0), (5, .ptr 5 0), (8, .ptr 8 0), (10, .row 20 0 ((List.replicate ((g_0.n).toNat) (0 : Int)).length)), (12, .row 31 0 l106.length), (13, .row 34 0 ((List.replicate ((g_0.n).toNat) (false : Bool)).length)), (14, .int k108)], [(20, some (3, .ints l105)), (31, some (3, .ints l106)), (34, some (4, .bools l107))], [(4, some [.int g_0.n, .ro false (.pairs g_0.bars)]), (5, some [.ro false (.ints p_1.free), .ro false (.ints p_1.tails), .ro false (.ints p_1.placed)]), (8, some [.nil, .nil, .nil])]⟩ : PS)
   iterate 2 refine vSeq ?_
   refine vRegion ?_
   iterate 4 refine oVal tt rfl rfl rfl rfl rfl trivial ?_
   refine vNil ?_
   change VC _ _ _ _
   refine vCond rfl (fun hb3 => ?_) (fun hb3 => ?_)
   ·replace h := cnd_t hb3 h
    refine vSkip ?_
    change VC _ _ _ _
    refine vSeq ?_
    refine vBlock ?_
    refine vSeq ?_
    refine vRegion ?_
    iterate 2 refine oVal tt rfl rfl rfl rfl rfl trivial ?_
    obtain ⟨hg4, h⟩ := grd_inv h
    iterate 2 refine oVal tt rfl rfl rfl rfl rfl hg4 ?_
    refine oVal tt rfl rfl rfl rfl rfl trivial ?_
    refine vNil ?_
    change VC _ _ _ _
    refine vSeq ?_
    refine vRegion ?_
    refine oVal tt rfl rfl rfl rfl rfl trivial ?_
    refine vNil ?_
    change VC _ _ _ _
    refine vJoin (F := fun k => S_l4Find_l2 N g_0 p_1 a_2 b_3 l106 k108 k) h (α := (List Int) × (List Int) × (List Bool)) (J := fun | (l143, l144, l145) => (⟨[(2, .int a_2), (3, .int b_3), (4, .ptr 4 0), (5, .ptr 5 0), (8, .ptr 8 0), (10, .row 20 0 ((List.replicate ((g_0.n).toNat) (0 : Int)).length)), (12, .row 31 0 l144.length), (13, .row 34 0 ((List.replicate ((g_0.n).toNat) (false : Bool)).length)), (14, .int k108)], [(20, some (3, .ints l143)), (31, some (3, .ints l144)), (34, some (4, .bools l145))], [(4, some [.int g_0.n, .ro false (.pairs g_0.bars)]), (5, some [.ro false (.ints p_1.free), .ro false (.ints p_1.tails), .ro false (.ints p_1.placed)]), (8, some [.nil, .nil, .nil])]⟩ : PS)) ?_ ?_
    ·rintro ⟨l143, l144, l145⟩ h
     show VC _ _ _ (⟨[(2, .int a_2), (3, .int b_3), (4, .ptr 4 0), (5, .ptr 5 0), (8, .ptr 8 0), (10, .row 20 0 ((List.replicate ((g_0.n).toNat) (0 : Int)).length)), (12, .row 31 0 l144.length), (13, .row 34 0 ((List.replicate ((g_0.n).toNat) (false : Bool)).length)), (14, .int k108)], [(20, some (3, .ints l143)), (31, some (3, .ints l144)), (34, some (4, .bools l145))], [(4, some [.int g_0.n, .ro false (.pairs g_0.bars)]), (5, some [.ro false (.ints p_1.free), .ro false (.ints p_1.tails), .ro false (.ints p_1.placed)]), (8, some [.nil, .nil, .nil])]⟩ : PS)
     refine vRegion ?_
     refine oVal tt rfl rfl rfl rfl rfl trivial ?_
     obtain ⟨hg5, h⟩ := grd_inv h
     refine oVal tt rfl rfl rfl rfl rfl hg5 ?_
     refine oVal tt rfl rfl rfl rfl rfl trivial ?_
     refine vNil ?_
     change ∃ _, _
     exact ⟨(l143, l144, l145, (k108 + (1 : Int))), (En.of ⟨rfl, rfl, rfl, rfl, rfl, rfl, rfl, rfl, rfl, trivial⟩ ⟨rfl, rfl, rfl, trivial⟩ ⟨rfl, rfl, rfl, trivial⟩), h⟩
    ·intro k h
     refine vBlock ?_
     refine vLoopS (α := (List Int) × (List Int) × (List Bool) × Int) (fun | (l149, l150, l151, i152) => (⟨[(2, .int a_2), (3, .int b_3), (4, .ptr 4 0), (5, .ptr 5 0), (8, .ptr 8 0), (10, .row 20 0 ((List.replicate ((g_0.n).toNat) (0 : Int)).length)), (12, .row 31 0 l150.length), (13, .row 34 0 ((List.replicate ((g_0.n).toNat) (false : Bool)).length)), (14, .int k108), (15, .int (l106.getD ((k108).toNat) 0)), (16, .int i152)], [(20, some (3, .ints l149)), (31, some (3, .ints l150)), (34, some (4, .bools l151))], [(4, some [.int g_0.n, .ro false (.pairs g_0.bars)]), (5, some [.ro false (.ints p_1.free), .ro false (.ints p_1.tails), .ro false (.ints p_1.placed)]), (8, some [.nil, .nil, .nil])]⟩ : PS)) (S_l4Find_l2 N g_0 p_1 a_2 b_3 l106 k108 k) h (En.of ⟨rfl, rfl, rfl, rfl, rfl, rfl, rfl, rfl, rfl, rfl, rfl, trivial⟩ ⟨rfl, rfl, rfl, trivial⟩ ⟨rfl, rfl, rfl, trivial⟩) (fun _ => rfl) ?_
     rintro n ⟨l149, l150, l151, i152⟩ h
     rw [S_l4Find_l2] at h
     show VC _ _ _ (⟨[(2, .int a_2), (3, .int b_3), (4, .ptr 4 0), (5, .ptr 5 0), (8, .ptr 8 0), (10, .row 20 0 ((List.replicate ((g_0.n).toNat) (0 : Int)).length)), (12, .row 31 0 l150.length), (13, .row 34 0 ((List.replicate ((g_0.n).toNat) (false : Bool)).length)), (14, .int k108), (15, .int (l106.getD ((k108).toNat) 0)), (16, .int i152)], [(20, some (3, .ints l149)), (31, some (3, .ints l150)), (34, some (4, .bools l151))], [(4, some [.int g_0.n, .ro false (.pairs g_0.bars)]), (5, some [.ro false (.ints p_1.free), .ro false (.ints p_1.tails), .ro false (.ints p_1.placed)]), (8, some [.nil, .nil, .nil])]⟩ : PS)
     iterate 2 refine vSeq ?_
     refine vRegion ?_
     iterate 5 refine oVal tt rfl rfl rfl rfl rfl trivial ?_
     refine vNil ?_
     change VC _ _ _ _
     refine vCond rfl (fun hb6 => ?_) (fun hb6 => ?_)
     ·replace h := cnd_t hb6 h
      refine vSkip ?_
      change VC _ _ _ _
      refine vSeq ?_
      refine vBlock ?_
      iterate 2 refine vSeq ?_
      refine vRegion ?_
      iterate 3 refine oVal tt rfl rfl rfl rfl rfl trivial ?_
      obtain ⟨hg7, h⟩ := grd_inv h
      refine oVal tt rfl rfl rfl rfl rfl hg7 ?_
      iterate 3 refine oVal tt rfl rfl rfl rfl rfl trivial ?_
      refine vNil ?_
      change VC _ _ _ _
      refine vCond rfl (fun hb8 => ?_) (fun hb8 => ?_)
      ·replace h := cnd_t hb8 h
       refine vExit ?_
       change VC _ _ _ _
       refine vRegion ?_
       refine oVal tt rfl rfl rfl rfl rfl trivial ?_
       obtain ⟨hg9, h⟩ := grd_inv h
       refine oVal tt rfl rfl rfl rfl rfl hg9 ?_
       refine oVal tt rfl rfl rfl rfl rfl trivial ?_
       refine vNil ?_
       change ∃ _, _
       exact ⟨(l149, l150, l151, (i152 + (1 : Int))), (En.of ⟨rfl, rfl, rfl, rfl, rfl, rfl, rfl, rfl, rfl, rfl, rfl, trivial⟩ ⟨rfl, rfl, rfl, trivial⟩ ⟨rfl, rfl, rfl, trivial⟩), h⟩
      ·replace h := cnd_f hb8 h
       refine vSkip ?_
       change VC _ _ _ _
       refine vSeq ?_
       refine vRegionD (by kernel_rfl) (by kernel_rfl) ?_
       iterate 5 refine cVal tt rfl (wNone rfl) rfl rfl rfl trivial ?_
       obtain ⟨hg10, h⟩ := grd_inv h
       refine cVal tt rfl (wNone rfl) rfl rfl rfl hg10 ?_
       refine cVal tt rfl (wNone rfl) rfl rfl rfl trivial ?_
       obtain ⟨hg11, h⟩ := grd_inv h
       refine cVal tt rfl (wNone rfl) rfl rfl rfl hg11 ?_
       iterate 2 refine cVal tt rfl (wNone rfl) rfl rfl rfl trivial ?_
       obtain ⟨v155, hc12, h⟩ := bind_inv h
       refine cCall (S_l4Other_w N (g_0.bars.getD (((p_1.placed.getD ((i152).toNat) 0)).toNat) (0, 0)) (l106.getD ((k108).toNat) 0) v155 hc12) rfl (wNone rfl) rfl rfl rfl rfl rfl rfl ⟨⟨rfl, rfl, trivial⟩, rfl, trivial⟩ ?_
       refine cVal tt rfl (wNone rfl) rfl rfl rfl trivial ?_
       refine cNil ?_
       change VC _ _ _ _
       iterate 2 refine vSeq ?_
       refine vRegion ?_
       iterate 2 refine oVal tt rfl rfl rfl rfl rfl trivial ?_
       obtain ⟨hg13, h⟩ := grd_inv h
       refine oVal tt rfl rfl rfl rfl rfl hg13 ?_
       obtain ⟨hg14, h⟩ := grd_inv h
       refine oVal tt rfl rfl rfl rfl rfl hg14 ?_
       refine vNil ?_
       change VC _ _ _ _
       refine vCond rfl (fun hb15 => ?_) (fun hb15 => ?_)
       ·replace h := cnd_t hb15 h
        refine vExit ?_
        change VC _ _ _ _
        refine vRegion ?_
        refine oVal tt rfl rfl rfl rfl rfl trivial ?_
        obtain ⟨hg16, h⟩ := grd_inv h
        refine oVal tt rfl rfl rfl rfl rfl hg16 ?_
        refine oVal tt rfl rfl rfl rfl rfl trivial ?_
        refine vNil ?_
        change ∃ _, _
        exact ⟨(l149, l150, l151, (i152 + (1 : Int))), (En.of ⟨rfl, rfl, rfl, rfl, rfl, rfl, rfl, rfl, rfl, rfl, rfl, trivial⟩ ⟨rfl, rfl, rfl, trivial⟩ ⟨rfl, rfl, rfl, trivial⟩), h⟩
       ·replace h := cnd_f hb15 h
        refine vSkip ?_
        change VC _ _ _ _
        refine vSeq ?_
        refine vRegion ?_
        iterate 2 refine oVal tt rfl rfl rfl rfl rfl trivial ?_
        refine oVal tt rfl rfl rfl rfl rfl hg13 ?_
        refine oStore tt rfl rfl rfl rfl rfl rfl rfl rfl rfl rfl ⟨_, _, rfl, hg14.1, hg14.2⟩ ⟨hg14, trivial⟩ ?_
        refine vNil ?_
        change VC _ _ _ _
        refine vSeq ?_
        refine vRegion ?_
        iterate 3 refine oVal tt rfl rfl rfl rfl rfl trivial ?_
        obtain ⟨hg17, h⟩ := grd_inv h
        refine oVal tt rfl rfl rfl rfl rfl hg17 ?_
        obtain ⟨hg18, h⟩ := grd_inv h
        refine oStore tt rfl rfl rfl rfl rfl rfl rfl rfl rfl rfl ⟨_, _, rfl, hg18.1, hg18.2⟩ ⟨hg18, trivial⟩ ?_
        refine vNil ?_
        change VC _ _ _ _
        iterate 2 refine vSeq ?_
        refine vRegion ?_
        iterate 4 refine oVal tt rfl rfl rfl rfl rfl trivial ?_
        refine oSplit rfl rfl rfl (fun hb19 => ?_) (fun hb19 => ?_)
        ·replace h := cnd_t hb19 h
         iterate 3 refine oValG tt rfl rfl rfl rfl rfl hb19 rfl rfl rfl trivial ?_
         obtain ⟨hg20, h⟩ := grd_inv h
         refine oValG tt rfl rfl rfl rfl rfl hb19 rfl rfl rfl hg20 ?_
         iterate 2 refine oValG tt rfl rfl rfl rfl rfl hb19 rfl rfl rfl trivial ?_
         refine oPick rfl rfl rfl rfl rfl hb19 rfl ?_
         refine vNil ?_
         change VC _ _ _ _
         refine vCond rfl (fun hb21 => ?_) (fun hb21 => ?_)
         ·replace h := cnd_t hb21 h
          refine vSeq ?_
          refine vRegion ?_
          iterate 5 refine oVal tt rfl rfl rfl rfl rfl trivial ?_
          obtain ⟨hg22, h⟩ := grd_inv h
          obtain ⟨v156, hc23, h⟩ := bind_inv h
          refine oCall (S_l4Shift_w N g_0 p_1 (l149.set ((v155).toNat) i152) a_2 v155 v156 hc23) rfl rfl rfl rfl rfl rfl rfl rfl ⟨⟨rfl, rfl, trivial⟩, ⟨rfl, rfl, rfl, trivial⟩, (.inl ⟨hg22, rfl⟩), rfl, rfl, trivial⟩ ?_
          refine oStore tt rfl rfl rfl rfl rfl rfl rfl rfl rfl rfl rfl ⟨trivial, trivial, trivial, trivial⟩ ?_
          refine oVal tt rfl rfl rfl rfl rfl trivial ?_
          refine vNil ?_
          change VC _ _ _ _
          refine vRet ?_
          change ∃ _, _
          cases h
          exact ⟨[2000, 2001, 2002], _, rfl, ⟨rfl, rfl, rfl, trivial⟩, rfl, (.eq rfl), rfl⟩
         ·replace h := cnd_f hb21 h
          refine vSkip ?_
          change VC _ _ _ _
          refine vRegion ?_
          iterate 2 refine oVal tt rfl rfl rfl rfl rfl trivial ?_
          refine oBuild tt rfl rfl rfl rfl rfl rfl rfl rfl rfl rfl rfl ?_
          obtain ⟨hg24, h⟩ := grd_inv h
          refine oAppend tt rfl rfl rfl rfl rfl rfl rfl rfl rfl rfl rfl rfl rfl rfl rfl rfl (Nat.le_of_eq (Nat.zero_add _)) hg24 ?_
          refine oVal tt rfl rfl rfl rfl rfl trivial ?_
          refine vNil ?_
          change VC _ _ _ _
          refine vRegion ?_
          refine oVal tt rfl rfl rfl rfl rfl trivial ?_
          obtain ⟨hg25, h⟩ := grd_inv h
          refine oVal tt rfl rfl rfl rfl rfl hg25 ?_
          refine oVal tt rfl rfl rfl rfl rfl trivial ?_
          refine vNil ?_
          change ∃ _, _
          exact ⟨((l149.set ((v155).toNat) i152), (l150 ++ ([v155] : List Int)), (l151.set ((v155).toNat) true), (i152 + (1 : Int))), (En.of ⟨rfl, rfl, rfl, rfl, rfl, rfl, rfl, rfl, rfl, rfl, rfl, trivial⟩ ⟨rfl, rfl, rfl, trivial⟩ ⟨rfl, rfl, rfl, trivial⟩), h⟩
        ·replace h := cnd_f hb19 h
         iterate 6 refine oNoT rfl rfl rfl rfl hb19 rfl rfl ?_
         refine oPickF rfl rfl rfl rfl rfl hb19 rfl ?_
         refine vNil ?_
         change VC _ _ _ _
         refine vCondF rfl rfl ?_
         refine vSkip ?_
         change VC _ _ _ _
         refine vRegion ?_
         iterate 2 refine oVal tt rfl rfl rfl rfl rfl trivial ?_
         refine oBuild tt rfl rfl rfl rfl rfl rfl rfl rfl rfl rfl rfl ?_
         obtain ⟨hg26, h⟩ := grd_inv h
         refine oAppend tt rfl rfl rfl rfl rfl rfl rfl rfl rfl rfl rfl rfl rfl rfl rfl rfl (Nat.le_of_eq (Nat.zero_add _)) hg26 ?_
         refine oVal tt rfl rfl rfl rfl rfl trivial ?_
         refine vNil ?_
         change VC _ _ _ _
         refine vRegion ?_
         refine oVal tt rfl rfl rfl rfl rfl trivial ?_
         obtain ⟨hg27, h⟩ := grd_inv h
         refine oVal tt rfl rfl rfl rfl rfl hg27 ?_
         refine oVal tt rfl rfl rfl rfl rfl trivial ?_
         refine vNil ?_
         change ∃ _, _
         exact ⟨((l149.set ((v155).toNat) i152), (l150 ++ ([v155] : List Int)), (l151.set ((v155).toNat) true), (i152 + (1 : Int))), (En.of ⟨rfl, rfl, rfl, rfl, rfl, rfl, rfl, rfl, rfl, rfl, rfl, trivial⟩ ⟨rfl, rfl, rfl, trivial⟩ ⟨rfl, rfl, rfl, trivial⟩), h⟩
     ·replace h := cnd_f hb6 h
      refine vExit ?_
      change ∃ _, _
      exact ⟨(l149, l150, l151), (En.of ⟨rfl, rfl, rfl, rfl, rfl, rfl, rfl, rfl, rfl, trivial⟩ ⟨rfl, rfl, rfl, trivial⟩ ⟨rfl, rfl, rfl, trivial⟩), h⟩
   ·replace h := cnd_f hb3 h
    refine vExit ?_
    change ∃ _, _
    exact ⟨(), (En.of ⟨rfl, rfl, trivial⟩ trivial ⟨rfl, rfl, trivial⟩), h⟩
 ·intro k h
  refine vBlock ?_
  refine vLoopS (α := (List Int) × Int) (fun | (l158, i159) => (⟨[(2, .int a_2), (3, .int b_3), (4, .ptr 4 0), (5, .ptr 5 0), (8, .ptr 8 0), (10, .row 20 0 ((List.replicate ((g_0.n).toNat) (0 : Int)).length)), (11, .int i159)], [(20, some (3, .ints l158))], [(4, some [.int g_0.n, .ro false (.pairs g_0.bars)]), (5, some [.ro false (.ints p_1.free), .ro false (.ints p_1.tails), .ro false (.ints p_1.placed)]), (8, some [.nil, .nil, .nil])]⟩ : PS)) (S_l4Find_l3 N g_0 k) h (En.of ⟨rfl, rfl, rfl, rfl, rfl, rfl, rfl, trivial⟩ ⟨rfl, trivial⟩ ⟨rfl, rfl, rfl, trivial⟩) (fun _ => rfl) ?_
  rintro n ⟨l158, i159⟩ h
  rw [S_l4Find_l3] at h
  show VC _ _ _ (⟨[(2, .int a_2), (3, .int b_3), (4, .ptr 4 0), (5, .ptr 5 0), (8, .ptr 8 0), (10, .row 20 0 ((List.replicate ((g_0.n).toNat) (0 : Int)).length)), (11, .int i159)], [(20, some (3, .ints l158))], [(4, some [.int g_0.n, .ro false (.pairs g_0.bars)]), (5, some [.ro false (.ints p_1.free), .ro false (.ints p_1.tails), .ro false (.ints p_1.placed)]), (8, some [.nil, .nil, .nil])]⟩ : PS)
  iterate 2 refine vSeq ?_
  refine vRegion ?_
  iterate 4 refine oVal tt rfl rfl rfl rfl rfl trivial ?_
  refine vNil ?_
  change VC _ _ _ _
  refine vCond rfl (fun hb28 => ?_) (fun hb28 => ?_)
  ·replace h := cnd_t hb28 h
   refine vSkip ?_
   change VC _ _ _ _
   refine vSeq ?_
   refine vBlock ?_
   refine vRegion ?_
   iterate 2 refine oVal tt rfl rfl rfl rfl rfl trivial ?_
   obtain ⟨hg29, h⟩ := grd_inv h
   refine oVal tt rfl rfl rfl rfl rfl hg29 ?_
   obtain ⟨hg30, h⟩ := grd_inv h
   refine oStore tt rfl rfl rfl rfl rfl rfl rfl rfl rfl rfl ⟨_, _, rfl, hg30.1, hg30.2⟩ ⟨hg30, trivial⟩ ?_
   refine vNil ?_
   change VC _ _ _ _
   refine vRegion ?_
   refine oVal tt rfl rfl rfl rfl rfl trivial ?_
   obtain ⟨hg31, h⟩ := grd_inv h
   refine oVal tt rfl rfl rfl rfl rfl hg31 ?_
   refine oVal tt rfl rfl rfl rfl rfl trivial ?_
   refine vNil ?_
   change ∃ _, _
   exact ⟨((l158.set ((i159).toNat) (-1 : Int)), (i159 + (1 : Int))), (En.of ⟨rfl, rfl, rfl, rfl, rfl, rfl, rfl, trivial⟩ ⟨rfl, trivial⟩ ⟨rfl, rfl, rfl, trivial⟩), h⟩
  ·replace h := cnd_f hb28 h
   refine vExit ?_
   change ∃ _, _
   exact ⟨l158, (En.of ⟨rfl, rfl, rfl, rfl, rfl, rfl, trivial⟩ ⟨rfl, trivial⟩ ⟨rfl, rfl, rfl, trivial⟩), h⟩
set_option maxRecDepth 20000 in
set_option maxHeartbeats 1600000 in
theorem S_l4Find_wF (N : Nat) (g_0 : Grf) (p_1 : Pbl) (a_2 : Int) (b_3 : Int) (r : Pbl × Bool) (h : S_l4Find N g_0 p_1 a_2 b_3 = some r) (halt : r.2 = false) : PCall Try.prog 150 [gD g_0, bD p_1, .int a_2, .int b_3] [] (.tup [.agg [.any, .any, .any], .bool r.2]) := by
 unfold S_l4Find at h
 refine pcall_intro (TT := TT) tt Try.func150 rfl rfl Try.ntmps150 (congrArg Array.toList Try.results150) rfl rfl fun w0 => ?_
 refine vSeq ?_
 refine vRegion ?_
 iterate 2 refine oBox rfl rfl rfl rfl rfl rfl rfl rfl rfl ?_
 refine oAlloc tt rfl rfl rfl rfl rfl rfl rfl rfl rfl ?_
 refine oVal tt rfl rfl rfl rfl rfl trivial ?_
 refine vNil ?_
 change VC _ _ _ _
 refine vSeq ?_
 refine vRegion ?_
 iterate 2 refine oVal tt rfl rfl rfl rfl rfl trivial ?_
 obtain ⟨hg1, h⟩ := grd_inv h
 refine oMake tt rfl rfl rfl rfl rfl rfl rfl rfl rfl rfl rfl hg1 ?_
 refine oVal tt rfl rfl rfl rfl rfl trivial ?_
 refine vNil ?_
 change VC _ _ _ _
 iterate 2 refine vSeq ?_
 refine vRegion ?_
 refine oVal tt rfl rfl rfl rfl rfl trivial ?_
 refine vNil ?_
 change VC _ _ _ _
 refine vJoin (F := fun k => S_l4Find_l3 N g_0 k) h (α := List Int) (J := fun (l3 : List Int) => (⟨[(2, .int a_2), (3, .int b_3), (4, .ptr 4 0), (5, .ptr 5 0), (8, .ptr 8 0), (10, .row 20 0 ((List.replicate ((g_0.n).toNat) (0 : Int)).length))], [(20, some (3, .ints l3))], [(4, some [.int g_0.n, .ro false (.pairs g_0.bars)]), (5, some [.ro false (.ints p_1.free), .ro false (.ints p_1.tails), .ro false (.ints p_1.placed)]), (8, some [.nil, .nil, .nil])]⟩ : PS)) ?_ ?_
 ·rintro l3 h
  show VC _ _ _ (⟨[(2, .int a_2), (3, .int b_3), (4, .ptr 4 0), (5, .ptr 5 0), (8, .ptr 8 0), (10, .row 20 0 ((List.replicate ((g_0.n).toNat) (0 : Int)).length))], [(20, some (3, .ints l3))], [(4, some [.int g_0.n, .ro false (.pairs g_0.bars)]), (5, some [.ro false (.ints p_1.free), .ro false (.ints p_1.tails), .ro false (.ints p_1.placed)]), (8, some [.nil, .nil, .nil])]⟩ : PS)
  refine vSeq ?_
  refine vRegion ?_
  refine oVal tt rfl rfl rfl rfl rfl trivial ?_
  refine oBuild tt rfl rfl rfl rfl rfl rfl rfl rfl rfl rfl rfl ?_
  refine oVal tt rfl rfl rfl rfl rfl trivial ?_
  refine vNil ?_
  change VC _ _ _ _
  refine vSeq ?_
  refine vRegion ?_
  iterate 2 refine oVal tt rfl rfl rfl rfl rfl trivial ?_
  refine oMake tt rfl rfl rfl rfl rfl rfl rfl rfl rfl rfl rfl hg1 ?_
  refine oVal tt rfl rfl rfl rfl rfl trivial ?_
  refine vNil ?_
  change VC _ _ _ _
  refine vSeq ?_
  refine vRegion ?_
  iterate 2 refine oVal tt rfl rfl rfl rfl rfl trivial ?_
  obtain ⟨hg2, h⟩ := grd_inv h
  refine oVal tt rfl rfl rfl rfl rfl hg2 ?_
  refine oStore tt rfl rfl rfl rfl rfl rfl rfl rfl rfl rfl ⟨_, _, rfl, hg2.1, hg2.2⟩ ⟨hg2, trivial⟩ ?_
  refine vNil ?_
  change VC _ _ _ _
  iterate 2 refine vSeq ?_
  refine vRegion ?_
  refine oVal tt rfl rfl rfl rfl rfl trivial ?_
  refine vNil ?_
  change VC _ _ _ _
  refine vJoin (F := fun k => S_l4Find_l1 N g_0 p_1 a_2 b_3 k) h (α := Unit) (J := fun (_ : Unit) => (⟨[(5, .ptr 5 0), (8, .ptr 8 0)], [], [(5, some [.ro false (.ints p_1.free), .ro false (.ints p_1.tails), .ro false (.ints p_1.placed)]), (8, some [.nil, .nil, .nil])]⟩ : PS)) ?_ ?_
  ·rintro ⟨⟩ h
   show VC _ _ _ (⟨[(5, .ptr 5 0), (8, .ptr 8 0)], [], [(5, some [.ro false (.ints p_1.free), .ro false (.ints p_1.tails), .ro false (.ints p_1.placed)]), (8, some [.nil, .nil, .nil])]⟩ : PS)
   refine vSeq ?_
   refine vRegion ?_
   refine oVal tt rfl rfl rfl rfl rfl trivial ?_
   refine oStore tt rfl rfl rfl rfl rfl rfl rfl rfl rfl rfl rfl ⟨trivial, trivial, trivial, trivial⟩ ?_
   refine oVal tt rfl rfl rfl rfl rfl trivial ?_
   refine vNil ?_
   change VC _ _ _ _
   refine vRet ?_
   change ∃ _, _
   cases h
   exact ⟨[], _, rfl, trivial, rfl, (wkTup rfl rfl ⟨wkAgg rfl rfl ⟨.any rfl rfl, .any rfl rfl, .any rfl rfl, trivial⟩, .eq rfl, trivial⟩), rfl⟩
  ·intro k h
   refine vBlock ?_
   refine vLoopS (α := (List Int) × (List Int) × (List Bool) × Int) (fun | (l105, l106, l107, k108) => (⟨[(2, .int a_2), (3, .int b_3), (4, .ptr 4 0), (5, .ptr 5 0), (8, .ptr 8 0), (10, .row 20 0 ((List.replicate ((g_0.n).toNat) (0 : Int)).length)), (12, .row 31 0 l106.length), (13, .row 34 0 ((List.replicate ((g_0.n).toNat) (false : Bool)).length)), (14, .int k108)], [(20, some (3, .ints l105)), (31, some (3, .ints l106)), (34, some (4, .bools l107))], [(4, some [.int g_0.n, .ro false (.pairs g_0.bars)]), (5, some [.ro false (.ints p_1.free), .ro false (.ints p_1.tails), .ro false (.ints p_1.placed)]), (8, some [.nil, .nil, .nil])]⟩ : PS)) (S_l4Find_l1 N g_0 p_1 a_2 b_3 k) h (En.of ⟨rfl, rfl, rfl, rfl, rfl, rfl, rfl, rfl, rfl, trivial⟩ ⟨rfl, rfl, rfl, trivial⟩ ⟨rfl, rfl, rfl, trivial⟩) (fun _ => rfl) ?_
   rintro n ⟨l105, l106, l107, k108⟩ h
   rw [S_l4Find_l1] at h
   show VC _ _ _ (⟨[(2, .int a_2), (3, .int b_3), (4, .ptr 4 0), (5, .ptr 5 0), (8, .ptr 8 0), (10, .row 20 0 ((List.replicate ((g_0.n).toNat) (0 : Int)).length)), (12, .row 31 0 l106.length), (13, .row 34 0 ((List.replicate ((g_0.n).toNat) (false : Bool)).length)), (14, .int k108)], [(20, some (3, .ints l105)), (31, some (3, .ints l106)), (34, some (4, .bools l107))], [(4, some [.int g_0.n, .ro false (.pairs g_0.bars)]), (5, some [.ro false (.ints p_1.free), .ro false (.ints p_1.tails), .ro false (.ints p_1.placed)]), (8, some [.nil, .nil, .nil])]⟩ : PS)
   iterate 2 refine vSeq ?_
   refine vRegion ?_
   iterate 4 refine oVal tt rfl rfl rfl rfl rfl trivial ?_
   refine vNil ?_
   change VC _ _ _ _
   refine vCond rfl (fun hb3 => ?_) (fun hb3 => ?_)
   ·replace h := cnd_t hb3 h
    refine vSkip ?_
    change VC _ _ _ _
    refine vSeq ?_
    refine vBlock ?_
    refine vSeq ?_
    refine vRegion ?_
    iterate 2 refine oVal tt rfl rfl rfl rfl rfl trivial ?_
    obtain ⟨hg4, h⟩ := grd_inv h
    iterate 2 refine oVal tt rfl rfl rfl rfl rfl hg4 ?_
    refine oVal tt rfl rfl rfl rfl rfl trivial ?_
    refine vNil ?_
    change VC _ _ _ _
    refine vSeq ?_
    refine vRegion ?_
    refine oVal tt rfl rfl rfl rfl rfl trivial ?_
    refine vNil ?_
    change VC _ _ _ _
    refine vJoin (F := fun k => S_l4Find_l2 N g_0 p_1 a_2 b_3 l106 k108 k) h (α := (List Int) × (List Int) × (List Bool)) (J := fun | (l143, l144, l145) => (⟨[(2, .int a_2), (3, .int b_3), (4, .ptr 4 0), (5, .ptr 5 0), (8, .ptr 8 0), (10, .row 20 0 ((List.replicate ((g_0.n).toNat) (0 : Int)).length)), (12, .row 31 0 l144.length), (13, .row 34 0 ((List.replicate ((g_0.n).toNat) (false : Bool)).length)), (14, .int k108)], [(20, some (3, .ints l143)), (31, some (3, .ints l144)), (34, some (4, .bools l145))], [(4, some [.int g_0.n, .ro false (.pairs g_0.bars)]), (5, some [.ro false (.ints p_1.free), .ro false (.ints p_1.tails), .ro false (.ints p_1.placed)]), (8, some [.nil, .nil, .nil])]⟩ : PS)) ?_ ?_
    ·rintro ⟨l143, l144, l145⟩ h
     show VC _ _ _ (⟨[(2, .int a_2), (3, .int b_3), (4, .ptr 4 0), (5, .ptr 5 0), (8, .ptr 8 0), (10, .row 20 0 ((List.replicate ((g_0.n).toNat) (0 : Int)).length)), (12, .row 31 0 l144.length), (13, .row 34 0 ((List.replicate ((g_0.n).toNat) (false : Bool)).length)), (14, .int k108)], [(20, some (3, .ints l143)), (31, some (3, .ints l144)), (34, some (4, .bools l145))], [(4, some [.int g_0.n, .ro false (.pairs g_0.bars)]), (5, some [.ro false (.ints p_1.free), .ro false (.ints p_1.tails), .ro false (.ints p_1.placed)]), (8, some [.nil, .nil, .nil])]⟩ : PS)
     refine vRegion ?_
     refine oVal tt rfl rfl rfl rfl rfl trivial ?_
     obtain ⟨hg5, h⟩ := grd_inv h
     refine oVal tt rfl rfl rfl rfl rfl hg5 ?_
     refine oVal tt rfl rfl rfl rfl rfl trivial ?_
     refine vNil ?_
     change ∃ _, _
     exact ⟨(l143, l144, l145, (k108 + (1 : Int))), (En.of ⟨rfl, rfl, rfl, rfl, rfl, rfl, rfl, rfl, rfl, trivial⟩ ⟨rfl, rfl, rfl, trivial⟩ ⟨rfl, rfl, rfl, trivial⟩), h⟩
    ·intro k h
     refine vBlock ?_
     refine vLoopS (α := (List Int) × (List Int) × (List Bool) × Int) (fun | (l149, l150, l151, i152) => (⟨[(2, .int a_2), (3, .int b_3), (4, .ptr 4 0), (5, .ptr 5 0), (8, .ptr 8 0), (10, .row 20 0 ((List.replicate ((g_0.n).toNat) (0 : Int)).length)), (12, .row 31 0 l150.length), (13, .row 34 0 ((List.replicate ((g_0.n).toNat) (false : Bool)).length)), (14, .int k108), (15, .int (l106.getD ((k108).toNat) 0)), (16, .int i152)], [(20, some (3, .ints l149)), (31, some (3, .ints l150)), (34, some (4, .bools l151))], [(4, some [.int g_0.n, .ro false (.pairs g_0.bars)]), (5, some [.ro false (.ints p_1.free), .ro false (.ints p_1.tails), .ro false (.ints p_1.placed)]), (8, some [.nil, .nil, .nil])]⟩ : PS)) (S_l4Find_l2 N g_0 p_1 a_2 b_3 l106 k108 k) h (En.of ⟨rfl, rfl, rfl, rfl, rfl, rfl, rfl, rfl, rfl, rfl, rfl, trivial⟩ ⟨rfl, rfl, rfl, trivial⟩ ⟨rfl, rfl, rfl, trivial⟩) (fun _ => rfl) ?_
     rintro n ⟨l149, l150, l151, i152⟩ h
     rw [S_l4Find_l2] at h
     show VC _ _ _ (⟨[(2, .int a_2), (3, .int b_3), (4, .ptr 4 0), (5, .ptr 5 0), (8, .ptr 8 0), (10, .row 20 0 ((List.replicate ((g_0.n).toNat) (0 : Int)).length)), (12, .row 31 0 l150.length), (13, .row 34 0 ((List.replicate ((g_0.n).toNat) (false : Bool)).length)), (14, .int k108), (15, .int (l106.getD ((k108).toNat) 0)), (16, .int i152)], [(20, some (3, .ints l149)), (31, some (3, .ints l150)), (34, some (4, .bools l151))], [(4, some [.int g_0.n, .ro false (.pairs g_0.bars)]), (5, some [.ro false (.ints p_1.free), .ro false (.ints p_1.tails), .ro false (.ints p_1.placed)]), (8, some [.nil, .nil, .nil])]⟩ : PS)
     iterate 2 refine vSeq ?_
     refine vRegion ?_
     iterate 5 refine oVal tt rfl rfl rfl rfl rfl trivial ?_
     refine vNil ?_
     change VC _ _ _ _
     refine vCond rfl (fun hb6 => ?_) (fun hb6 => ?_)
     ·replace h := cnd_t hb6 h
      refine vSkip ?_
      change VC _ _ _ _
      refine vSeq ?_
      refine vBlock ?_
      iterate 2 refine vSeq ?_
      refine vRegion ?_
      iterate 3 refine oVal tt rfl rfl rfl rfl rfl trivial ?_
      obtain ⟨hg7, h⟩ := grd_inv h
      refine oVal tt rfl rfl rfl rfl rfl hg7 ?_
      iterate 3 refine oVal tt rfl rfl rfl rfl rfl trivial ?_
      refine vNil ?_
      change VC _ _ _ _
      refine vCond rfl (fun hb8 => ?_) (fun hb8 => ?_)
      ·replace h := cnd_t hb8 h
       refine vExit ?_
       change VC _ _ _ _
       refine vRegion ?_
       refine oVal tt rfl rfl rfl rfl rfl trivial ?_
       obtain ⟨hg9, h⟩ := grd_inv h
       refine oVal tt rfl rfl rfl rfl rfl hg9 ?_
       refine oVal tt rfl rfl rfl rfl rfl trivial ?_
       refine vNil ?_
       change ∃ _, _
       exact ⟨(l149, l150, l151, (i152 + (1 : Int))), (En.of ⟨rfl, rfl, rfl, rfl, rfl, rfl, rfl, rfl, rfl, rfl, rfl, trivial⟩ ⟨rfl, rfl, rfl, trivial⟩ ⟨rfl, rfl, rfl, trivial⟩), h⟩
      ·replace h := cnd_f hb8 h
       refine vSkip ?_
       change VC _ _ _ _
       refine vSeq ?_
       refine vRegionD (by kernel_rfl) (by kernel_rfl) ?_
       iterate 5 refine cVal tt rfl (wNone rfl) rfl rfl rfl trivial ?_
       obtain ⟨hg10, h⟩ := grd_inv h
       refine cVal tt rfl (wNone rfl) rfl rfl rfl hg10 ?_
       refine cVal tt rfl (wNone rfl) rfl rfl rfl trivial ?_
       obtain ⟨hg11, h⟩ := grd_inv h
       refine cVal tt rfl (wNone rfl) rfl rfl rfl hg11 ?_
       iterate 2 refine cVal tt rfl (wNone rfl) rfl rfl rfl trivial ?_
       obtain ⟨v155, hc12, h⟩ := bind_inv h
       refine cCall (S_l4Other_w N (g_0.bars.getD (((p_1.placed.getD ((i152).toNat) 0)).toNat) (0, 0)) (l106.getD ((k108).toNat) 0) v155 hc12) rfl (wNone rfl) rfl rfl rfl rfl rfl rfl ⟨⟨rfl, rfl, trivial⟩, rfl, trivial⟩ ?_
       refine cVal tt rfl (wNone rfl) rfl rfl rfl trivial ?_
       refine cNil ?_
       change VC _ _ _ _
       iterate 2 refine vSeq ?_
       refine vRegion ?_
       iterate 2 refine oVal tt rfl rfl rfl rfl rfl trivial ?_
       obtain ⟨hg13, h⟩ := grd_inv h
       refine oVal tt rfl rfl rfl rfl rfl hg13 ?_
       obtain ⟨hg14, h⟩ := grd_inv h
       refine oVal tt rfl rfl rfl rfl rfl hg14 ?_
       refine vNil ?_
       change VC _ _ _ _
       refine vCond rfl (fun hb15 => ?_) (fun hb15 => ?_)
       ·replace h := cnd_t hb15 h
        refine vExit ?_
        change VC _ _ _ _
        refine vRegion ?_
        refine oVal tt rfl rfl rfl rfl rfl trivial ?_
        obtain ⟨hg16, h⟩ := grd_inv h
        refine oVal tt rfl rfl rfl rfl rfl hg16 ?_
        refine oVal tt rfl rfl rfl rfl rfl trivial ?_
        refine vNil ?_
        change ∃ _, _
        exact ⟨(l149, l150, l151, (i152 + (1 : Int))), (En.of ⟨rfl, rfl, rfl, rfl, rfl, rfl, rfl, rfl, rfl, rfl, rfl, trivial⟩ ⟨rfl, rfl, rfl, trivial⟩ ⟨rfl, rfl, rfl, trivial⟩), h⟩
       ·replace h := cnd_f hb15 h
        refine vSkip ?_
        change VC _ _ _ _
        refine vSeq ?_
        refine vRegion ?_
        iterate 2 refine oVal tt rfl rfl rfl rfl rfl trivial ?_
        refine oVal tt rfl rfl rfl rfl rfl hg13 ?_
        refine oStore tt rfl rfl rfl rfl rfl rfl rfl rfl rfl rfl ⟨_, _, rfl, hg14.1, hg14.2⟩ ⟨hg14, trivial⟩ ?_
        refine vNil ?_
        change VC _ _ _ _
        refine vSeq ?_
        refine vRegion ?_
        iterate 3 refine oVal tt rfl rfl rfl rfl rfl trivial ?_
        obtain ⟨hg17, h⟩ := grd_inv h
        refine oVal tt rfl rfl rfl rfl rfl hg17 ?_
        obtain ⟨hg18, h⟩ := grd_inv h
        refine oStore tt rfl rfl rfl rfl rfl rfl rfl rfl rfl rfl ⟨_, _, rfl, hg18.1, hg18.2⟩ ⟨hg18, trivial⟩ ?_
        refine vNil ?_
        change VC _ _ _ _
        iterate 2 refine vSeq ?_
        refine vRegion ?_
        iterate 4 refine oVal tt rfl rfl rfl rfl rfl trivial ?_
        refine oSplit rfl rfl rfl (fun hb19 => ?_) (fun hb19 => ?_)
        ·replace h := cnd_t hb19 h
         iterate 3 refine oValG tt rfl rfl rfl rfl rfl hb19 rfl rfl rfl trivial ?_
         obtain ⟨hg20, h⟩ := grd_inv h
         refine oValG tt rfl rfl rfl rfl rfl hb19 rfl rfl rfl hg20 ?_
         iterate 2 refine oValG tt rfl rfl rfl rfl rfl hb19 rfl rfl rfl trivial ?_
         refine oPick rfl rfl rfl rfl rfl hb19 rfl ?_
         refine vNil ?_
         change VC _ _ _ _
         refine vCond rfl (fun hb21 => ?_) (fun hb21 => ?_)
         ·replace h := cnd_t hb21 h
          refine vSeq ?_
          refine vRegion ?_
          iterate 5 refine oVal tt rfl rfl rfl rfl rfl trivial ?_
          obtain ⟨hg22, h⟩ := grd_inv h
          obtain ⟨v156, hc23, h⟩ := bind_inv h
          refine oCall (S_l4Shift_w N g_0 p_1 (l149.set ((v155).toNat) i152) a_2 v155 v156 hc23) rfl rfl rfl rfl rfl rfl rfl rfl ⟨⟨rfl, rfl, trivial⟩, ⟨rfl, rfl, rfl, trivial⟩, (.inl ⟨hg22, rfl⟩), rfl, rfl, trivial⟩ ?_
          refine oStore tt rfl rfl rfl rfl rfl rfl rfl rfl rfl rfl rfl ⟨trivial, trivial, trivial, trivial⟩ ?_
          refine oVal tt rfl rfl rfl rfl rfl trivial ?_
          refine vNil ?_
          change VC _ _ _ _
          cases h
          cases halt
         ·replace h := cnd_f hb21 h
          refine vSkip ?_
          change VC _ _ _ _
          refine vRegion ?_
          iterate 2 refine oVal tt rfl rfl rfl rfl rfl trivial ?_
          refine oBuild tt rfl rfl rfl rfl rfl rfl rfl rfl rfl rfl rfl ?_
          obtain ⟨hg24, h⟩ := grd_inv h
          refine oAppend tt rfl rfl rfl rfl rfl rfl rfl rfl rfl rfl rfl rfl rfl rfl rfl rfl (Nat.le_of_eq (Nat.zero_add _)) hg24 ?_
          refine oVal tt rfl rfl rfl rfl rfl trivial ?_
          refine vNil ?_
          change VC _ _ _ _
          refine vRegion ?_
          refine oVal tt rfl rfl rfl rfl rfl trivial ?_
          obtain ⟨hg25, h⟩ := grd_inv h
          refine oVal tt rfl rfl rfl rfl rfl hg25 ?_
          refine oVal tt rfl rfl rfl rfl rfl trivial ?_
          refine vNil ?_
          change ∃ _, _
          exact ⟨((l149.set ((v155).toNat) i152), (l150 ++ ([v155] : List Int)), (l151.set ((v155).toNat) true), (i152 + (1 : Int))), (En.of ⟨rfl, rfl, rfl, rfl, rfl, rfl, rfl, rfl, rfl, rfl, rfl, trivial⟩ ⟨rfl, rfl, rfl, trivial⟩ ⟨rfl, rfl, rfl, trivial⟩), h⟩
        ·replace h := cnd_f hb19 h
         iterate 6 refine oNoT rfl rfl rfl rfl hb19 rfl rfl ?_
         refine oPickF rfl rfl rfl rfl rfl hb19 rfl ?_
         refine vNil ?_
         change VC _ _ _ _
         refine vCondF rfl rfl ?_
         refine vSkip ?_
         change VC _ _ _ _
         refine vRegion ?_
         iterate 2 refine oVal tt rfl rfl rfl rfl rfl trivial ?_
         refine oBuild tt rfl rfl rfl rfl rfl rfl rfl rfl rfl rfl rfl ?_
         obtain ⟨hg26, h⟩ := grd_inv h
         refine oAppend tt rfl rfl rfl rfl rfl rfl rfl rfl rfl rfl rfl rfl rfl rfl rfl rfl (Nat.le_of_eq (Nat.zero_add _)) hg26 ?_
         refine oVal tt rfl rfl rfl rfl rfl trivial ?_
         refine vNil ?_
         change VC _ _ _ _
         refine vRegion ?_
         refine oVal tt rfl rfl rfl rfl rfl trivial ?_
         obtain ⟨hg27, h⟩ := grd_inv h
         refine oVal tt rfl rfl rfl rfl rfl hg27 ?_
         refine oVal tt rfl rfl rfl rfl rfl trivial ?_
         refine vNil ?_
         change ∃ _, _
         exact ⟨((l149.set ((v155).toNat) i152), (l150 ++ ([v155] : List Int)), (l151.set ((v155).toNat) true), (i152 + (1 : Int))), (En.of ⟨rfl, rfl, rfl, rfl, rfl, rfl, rfl, rfl, rfl, rfl, rfl, trivial⟩ ⟨rfl, rfl, rfl, trivial⟩ ⟨rfl, rfl, rfl, trivial⟩), h⟩
     ·replace h := cnd_f hb6 h
      refine vExit ?_
      change ∃ _, _
      exact ⟨(l149, l150, l151), (En.of ⟨rfl, rfl, rfl, rfl, rfl, rfl, rfl, rfl, rfl, trivial⟩ ⟨rfl, rfl, rfl, trivial⟩ ⟨rfl, rfl, rfl, trivial⟩), h⟩
   ·replace h := cnd_f hb3 h
    refine vExit ?_
    change ∃ _, _
    exact ⟨(), (En.of ⟨rfl, rfl, trivial⟩ trivial ⟨rfl, rfl, trivial⟩), h⟩
 ·intro k h
  refine vBlock ?_
  refine vLoopS (α := (List Int) × Int) (fun | (l158, i159) => (⟨[(2, .int a_2), (3, .int b_3), (4, .ptr 4 0), (5, .ptr 5 0), (8, .ptr 8 0), (10, .row 20 0 ((List.replicate ((g_0.n).toNat) (0 : Int)).length)), (11, .int i159)], [(20, some (3, .ints l158))], [(4, some [.int g_0.n, .ro false (.pairs g_0.bars)]), (5, some [.ro false (.ints p_1.free), .ro false (.ints p_1.tails), .ro false (.ints p_1.placed)]), (8, some [.nil, .nil, .nil])]⟩ : PS)) (S_l4Find_l3 N g_0 k) h (En.of ⟨rfl, rfl, rfl, rfl, rfl, rfl, rfl, trivial⟩ ⟨rfl, trivial⟩ ⟨rfl, rfl, rfl, trivial⟩) (fun _ => rfl) ?_
  rintro n ⟨l158, i159⟩ h
  rw [S_l4Find_l3] at h
  show VC _ _ _ (⟨[(2, .int a_2), (3, .int b_3), (4, .ptr 4 0), (5, .ptr 5 0), (8, .ptr 8 0), (10, .row 20 0 ((List.replicate ((g_0.n).toNat) (0 : Int)).length)), (11, .int i159)], [(20, some (3, .ints l158))], [(4, some [.int g_0.n, .ro false (.pairs g_0.bars)]), (5, some [.ro false (.ints p_1.free), .ro false (.ints p_1.tails), .ro false (.ints p_1.placed)]), (8, some [.nil, .nil, .nil])]⟩ : PS)
  iterate 2 refine vSeq ?_
  refine vRegion ?_
  iterate 4 refine oVal tt rfl rfl rfl rfl rfl trivial ?_
  refine vNil ?_
  change VC _ _ _ _
  refine vCond rfl (fun hb28 => ?_) (fun hb28 => ?_)
  ·replace h := cnd_t hb28 h
   refine vSkip ?_
   change VC _ _ _ _
   refine vSeq ?_
   refine vBlock ?_
   refine vRegion ?_
   iterate 2 refine oVal tt rfl rfl rfl rfl rfl trivial ?_
   obtain ⟨hg29, h⟩ := grd_inv h
   refine oVal tt rfl rfl rfl rfl rfl hg29 ?_
   obtain ⟨hg30, h⟩ := grd_inv h
   refine oStore tt rfl rfl rfl rfl rfl rfl rfl rfl rfl rfl ⟨_, _, rfl, hg30.1, hg30.2⟩ ⟨hg30, trivial⟩ ?_
   refine vNil ?_
   change VC _ _ _ _
   refine vRegion ?_
   refine oVal tt rfl rfl rfl rfl rfl trivial ?_
   obtain ⟨hg31, h⟩ := grd_inv h
   refine oVal tt rfl rfl rfl rfl rfl hg31 ?_
   refine oVal tt rfl rfl rfl rfl rfl trivial ?_
   refine vNil ?_
   change ∃ _, _
   exact ⟨((l158.set ((i159).toNat) (-1 : Int)), (i159 + (1 : Int))), (En.of ⟨rfl, rfl, rfl, rfl, rfl, rfl, rfl, trivial⟩ ⟨rfl, trivial⟩ ⟨rfl, rfl, rfl, trivial⟩), h⟩
  ·replace h := cnd_f hb28 h
   refine vExit ?_
   change ∃ _, _
   exact ⟨l158, (En.of ⟨rfl, rfl, rfl, rfl, rfl, rfl, trivial⟩ ⟨rfl, trivial⟩ ⟨rfl, rfl, rfl, trivial⟩), h⟩
def S_l4Gather_l1 (N : Nat) (g_0 : Grf) (a_2 : Int) (b_3 : Int) (want_4 : Int) (k : ((List Int) × (List Int) × (List Int)) → Option (Pbl × Bool)) : Nat → ((List Int) × (List Int) × (List Int)) → Option (Pbl × Bool)
 | 0, _ => none
 | n + 1, (l17, l18, l19) =>
  grd (0 ≤ a_2 ∧ a_2 < (l17.length : Int)) <|
  grd (0 ≤ b_3 ∧ b_3 < (l17.length : Int)) <|
  grd (Rg64 ((l17.getD ((a_2).toNat) 0) + (l17.getD ((b_3).toNat) 0))) <|
  cnd (decide (((l17.getD ((a_2).toNat) 0) + (l17.getD ((b_3).toNat) 0)) < want_4)) (
   (S_l4Find N g_0 (⟨l17, l18, l19⟩ : Pbl) a_2 b_3).bind fun v22 =>
   cnd v22.2 (
    S_l4Gather_l1 N g_0 a_2 b_3 want_4 k n (v22.1.free, v22.1.tails, v22.1.placed)) (
    (S_l4Find N g_0 (⟨l17, l18, l19⟩ : Pbl) b_3 a_2).bind fun v23 =>
    cnd v23.2 (
     S_l4Gather_l1 N g_0 a_2 b_3 want_4 k n (v23.1.free, v23.1.tails, v23.1.placed)) (
     some ((⟨l17, l18, l19⟩ : Pbl), false)))) (
   k (l17, l18, l19))
def S_l4Gather (N : Nat) (g_0 : Grf) (p_1 : Pbl) (a_2 : Int) (b_3 : Int) (want_4 : Int) : Option (Pbl × Bool) :=
 (S_l4Copy N p_1).bind fun v1 =>
 S_l4Gather_l1 N g_0 a_2 b_3 want_4 (fun (x : (List Int) × (List Int) × (List Int)) =>
   match x with
   | (l11, l12, l13) =>
    some ((⟨l11, l12, l13⟩ : Pbl), true)) N (v1.free, v1.tails, v1.placed)
set_option maxRecDepth 20000 in
set_option maxHeartbeats 1600000 in
theorem S_l4Gather_w (N : Nat) (g_0 : Grf) (p_1 : Pbl) (a_2 : Int) (b_3 : Int) (want_4 : Int) (r : Pbl × Bool) (h : S_l4Gather N g_0 p_1 a_2 b_3 want_4 = some r) : PCall Try.prog 138 [gD g_0, bD p_1, .int a_2, .int b_3, .int want_4] [(3, .ints r.1.free), (3, .ints r.1.tails), (3, .ints r.1.placed)] (.tup [.agg [.row 0 0 r.1.free.length, .row 1 0 r.1.tails.length, .row 2 0 r.1.placed.length], .bool r.2]) := by
 unfold S_l4Gather at h
 refine pcall_intro (TT := TT) tt Try.func138 rfl rfl Try.ntmps138 (congrArg Array.toList Try.results138) rfl rfl fun w0 => ?_
 refine vSeq ?_
 refine vRegion ?_
 iterate 2 refine oBox rfl rfl rfl rfl rfl rfl rfl rfl rfl ?_
 refine oAlloc tt rfl rfl rfl rfl rfl rfl rfl rfl rfl ?_
 refine oVal tt rfl rfl rfl rfl rfl trivial ?_
 refine vNil ?_
 change VC _ _ _ _
 refine vSeq ?_
 refine vRegion ?_
 refine oVal tt rfl rfl rfl rfl rfl trivial ?_
 obtain ⟨v1, hc1, h⟩ := bind_inv h
 refine oCall (S_l4Copy_w N p_1 v1 hc1) rfl rfl rfl rfl rfl rfl rfl rfl ⟨⟨rfl, rfl, rfl, trivial⟩, trivial⟩ ?_
 refine oAlloc tt rfl rfl rfl rfl rfl rfl rfl rfl rfl ?_
 refine oStore tt rfl rfl rfl rfl rfl rfl rfl rfl rfl rfl rfl ⟨trivial, trivial, trivial, trivial⟩ ?_
 refine vNil ?_
 change VC _ _ _ _
 refine vSeq ?_
 refine vJoin (F := fun k => S_l4Gather_l1 N g_0 a_2 b_3 want_4 k) h (α := (List Int) × (List Int) × (List Int)) (J := fun | (l11, l12, l13) => (⟨[(10, .ptr 10 0), (12, .ptr 12 0)], [(1160, some (3, .ints l11)), (1161, some (3, .ints l12)), (1162, some (3, .ints l13))], [(10, some [.nil, .nil, .nil]), (12, some [.row 1160 0 l11.length, .row 1161 0 l12.length, .row 1162 0 l13.length])]⟩ : PS)) ?_ ?_
 ·rintro ⟨l11, l12, l13⟩ h
  show VC _ _ _ (⟨[(10, .ptr 10 0), (12, .ptr 12 0)], [(1160, some (3, .ints l11)), (1161, some (3, .ints l12)), (1162, some (3, .ints l13))], [(10, some [.nil, .nil, .nil]), (12, some [.row 1160 0 l11.length, .row 1161 0 l12.length, .row 1162 0 l13.length])]⟩ : PS)
  refine vSeq ?_
  refine vRegion ?_
  refine oVal tt rfl rfl rfl rfl rfl trivial ?_
  refine oStore tt rfl rfl rfl rfl rfl rfl rfl rfl rfl rfl rfl ⟨trivial, trivial, trivial, trivial⟩ ?_
  refine oVal tt rfl rfl rfl rfl rfl trivial ?_
  refine vNil ?_
  change VC _ _ _ _
  refine vRet ?_
  change ∃ _, _
  cases h
  exact ⟨[1160, 1161, 1162], _, rfl, ⟨rfl, rfl, rfl, trivial⟩, rfl, (.eq rfl), rfl⟩
 ·intro k h
  refine vBlock ?_
  refine vLoopS (α := (List Int) × (List Int) × (List Int)) (fun | (l17, l18, l19) => (⟨[(2, .int a_2), (3, .int b_3), (4, .int want_4), (5, .ptr 5 0), (10, .ptr 10 0), (12, .ptr 12 0)], [(1160, some (3, .ints l17)), (1161, some (3, .ints l18)), (1162, some (3, .ints l19))], [(5, some [.int g_0.n, .ro false (.pairs g_0.bars)]), (10, some [.nil, .nil, .nil]), (12, some [.row 1160 0 l17.length, .row 1161 0 l18.length, .row 1162 0 l19.length])]⟩ : PS)) (S_l4Gather_l1 N g_0 a_2 b_3 want_4 k) h (En.of ⟨rfl, rfl, rfl, rfl, rfl, rfl, trivial⟩ ⟨rfl, rfl, rfl, trivial⟩ ⟨rfl, rfl, rfl, trivial⟩) (fun _ => rfl) ?_
  rintro n ⟨l17, l18, l19⟩ h
  rw [S_l4Gather_l1] at h
  show VC _ _ _ (⟨[(2, .int a_2), (3, .int b_3), (4, .int want_4), (5, .ptr 5 0), (10, .ptr 10 0), (12, .ptr 12 0)], [(1160, some (3, .ints l17)), (1161, some (3, .ints l18)), (1162, some (3, .ints l19))], [(5, some [.int g_0.n, .ro false (.pairs g_0.bars)]), (10, some [.nil, .nil, .nil]), (12, some [.row 1160 0 l17.length, .row 1161 0 l18.length, .row 1162 0 l19.length])]⟩ : PS)
  iterate 2 refine vSeq ?_
  refine vRegionD (by kernel_rfl) (by kernel_rfl) ?_
  iterate 3 refine cVal tt rfl (wNone rfl) rfl rfl rfl trivial ?_
  obtain ⟨hg2, h⟩ := grd_inv h
  iterate 2 refine cVal tt rfl (wNone rfl) rfl rfl rfl hg2 ?_
  iterate 3 refine cVal tt rfl (wNone rfl) rfl rfl rfl trivial ?_
  obtain ⟨hg3, h⟩ := grd_inv h
  iterate 2 refine cVal tt rfl (wNone rfl) rfl rfl rfl hg3 ?_
  obtain ⟨hg4, h⟩ := grd_inv h
  refine cVal tt rfl (wNone rfl) rfl rfl rfl hg4 ?_
  iterate 2 refine cVal tt rfl (wNone rfl) rfl rfl rfl trivial ?_
  refine cNil ?_
  change VC _ _ _ _
  refine vCond rfl (fun hb5 => ?_) (fun hb5 => ?_)
  ·replace h := cnd_t hb5 h
   refine vSkip ?_
   change VC _ _ _ _
   refine vBlock ?_
   refine vSeq ?_
   refine vRegion ?_
   iterate 4 refine oVal tt rfl rfl rfl rfl rfl trivial ?_
   obtain ⟨v22, hc6, h⟩ := bind_inv h
   refine bsplit v22.2 (fun hb7 => ?_) (fun hb7 => ?_)
   ·replace h := cnd_t hb7 h
    refine oCall (S_l4Find_wT N g_0 (⟨l17, l18, l19⟩ : Pbl) a_2 b_3 v22 hc6 hb7) rfl rfl rfl rfl rfl rfl rfl rfl ⟨⟨rfl, rfl, trivial⟩, ⟨(.inl ⟨rfl, rfl⟩), (.inl ⟨rfl, rfl⟩), (.inl ⟨rfl, rfl⟩), trivial⟩, rfl, rfl, trivial⟩ ?_
    iterate 3 refine oVal tt rfl rfl rfl rfl rfl trivial ?_
    refine oAlloc tt rfl rfl rfl rfl rfl rfl rfl rfl rfl ?_
    refine oStore tt rfl rfl rfl rfl rfl rfl rfl rfl rfl rfl rfl ⟨trivial, trivial, trivial, trivial⟩ ?_
    refine oVal tt rfl rfl rfl rfl rfl trivial ?_
    refine vNil ?_
    change VC _ _ _ _
    iterate 2 refine vSeq ?_
    refine vRegion ?_
    iterate 2 refine oVal tt rfl rfl rfl rfl rfl trivial ?_
    refine vNil ?_
    change VC _ _ _ _
    refine vCondF rfl (by rw [hb7]; rfl) ?_
    refine vSkip ?_
    change VC _ _ _ _
    iterate 2 refine vSeq ?_
    refine vRegion ?_
    iterate 2 refine oVal tt rfl rfl rfl rfl rfl trivial ?_
    refine vNil ?_
    change VC _ _ _ _
    refine vCondF rfl (by rw [hb7]; rfl) ?_
    refine vSkip ?_
    change VC _ _ _ _
    refine vRegion ?_
    refine oVal tt rfl rfl rfl rfl rfl trivial ?_
    refine oStore tt rfl rfl rfl rfl rfl rfl rfl rfl rfl rfl rfl ⟨trivial, trivial, trivial, trivial⟩ ?_
    refine vNil ?_
    change ∃ _, _
    exact ⟨(v22.1.free, v22.1.tails, v22.1.placed), (En.ren [1160, 1161, 1162] [1350, 1351, 1352] rfl ⟨.inr rfl, .inr rfl, .inr rfl, .inr rfl, .inr rfl, .inr rfl, trivial⟩ ⟨.inr rfl, .inr rfl, .inr rfl, trivial⟩ ⟨.inr ⟨_, _, rfl, rfl, ⟨.inr rfl, .inr rfl, trivial⟩⟩, .inr ⟨_, _, rfl, rfl, ⟨.inr rfl, .inr rfl, .inr rfl, trivial⟩⟩, .inr ⟨_, _, rfl, rfl, ⟨.inr rfl, .inr rfl, .inr rfl, trivial⟩⟩, trivial⟩), h⟩
   ·replace h := cnd_f hb7 h
    refine oCall (S_l4Find_wF N g_0 (⟨l17, l18, l19⟩ : Pbl) a_2 b_3 v22 hc6 hb7) rfl rfl rfl rfl rfl rfl rfl rfl ⟨⟨rfl, rfl, trivial⟩, ⟨(.inl ⟨rfl, rfl⟩), (.inl ⟨rfl, rfl⟩), (.inl ⟨rfl, rfl⟩), trivial⟩, rfl, rfl, trivial⟩ ?_
    iterate 3 refine oVal tt rfl rfl rfl rfl rfl trivial ?_
    refine oAlloc tt rfl rfl rfl rfl rfl rfl rfl rfl rfl ?_
    refine oStore tt rfl rfl rfl rfl rfl rfl rfl rfl rfl rfl rfl ⟨trivial, trivial, trivial, trivial⟩ ?_
    refine oVal tt rfl rfl rfl rfl rfl trivial ?_
    refine vNil ?_
    change VC _ _ _ _
    iterate 2 refine vSeq ?_
    refine vRegion ?_
    iterate 2 refine oVal tt rfl rfl rfl rfl rfl trivial ?_
    refine vNil ?_
    change VC _ _ _ _
    refine vCondT rfl (by rw [hb7]; rfl) ?_
    refine vRegion ?_
    iterate 4 refine oVal tt rfl rfl rfl rfl rfl trivial ?_
    obtain ⟨v23, hc8, h⟩ := bind_inv h
    refine bsplit v23.2 (fun hb9 => ?_) (fun hb9 => ?_)
    ·replace h := cnd_t hb9 h
     refine oCall (S_l4Find_wT N g_0 (⟨l17, l18, l19⟩ : Pbl) b_3 a_2 v23 hc8 hb9) rfl rfl rfl rfl rfl rfl rfl rfl ⟨⟨rfl, rfl, trivial⟩, ⟨(.inl ⟨rfl, rfl⟩), (.inl ⟨rfl, rfl⟩), (.inl ⟨rfl, rfl⟩), trivial⟩, rfl, rfl, trivial⟩ ?_
     iterate 3 refine oVal tt rfl rfl rfl rfl rfl trivial ?_
     refine oStore tt rfl rfl rfl rfl rfl rfl rfl rfl rfl rfl rfl ⟨trivial, trivial, trivial, trivial⟩ ?_
     refine oVal tt rfl rfl rfl rfl rfl trivial ?_
     refine vNil ?_
     change VC _ _ _ _
     iterate 2 refine vSeq ?_
     refine vRegion ?_
     iterate 2 refine oVal tt rfl rfl rfl rfl rfl trivial ?_
     refine vNil ?_
     change VC _ _ _ _
     refine vCondF rfl (by rw [hb9]; rfl) ?_
     refine vSkip ?_
     change VC _ _ _ _
     refine vRegion ?_
     refine oVal tt rfl rfl rfl rfl rfl trivial ?_
     refine oStore tt rfl rfl rfl rfl rfl rfl rfl rfl rfl rfl rfl ⟨trivial, trivial, trivial, trivial⟩ ?_
     refine vNil ?_
     change ∃ _, _
     exact ⟨(v23.1.free, v23.1.tails, v23.1.placed), (En.ren [1160, 1161, 1162] [1450, 1451, 1452] rfl ⟨.inr rfl, .inr rfl, .inr rfl, .inr rfl, .inr rfl, .inr rfl, trivial⟩ ⟨.inr rfl, .inr rfl, .inr rfl, trivial⟩ ⟨.inr ⟨_, _, rfl, rfl, ⟨.inr rfl, .inr rfl, trivial⟩⟩, .inr ⟨_, _, rfl, rfl, ⟨.inr rfl, .inr rfl, .inr rfl, trivial⟩⟩, .inr ⟨_, _, rfl, rfl, ⟨.inr rfl, .inr rfl, .inr rfl, trivial⟩⟩, trivial⟩), h⟩
    ·replace h := cnd_f hb9 h
     refine oCall (S_l4Find_wF N g_0 (⟨l17, l18, l19⟩ : Pbl) b_3 a_2 v23 hc8 hb9) rfl rfl rfl rfl rfl rfl rfl rfl ⟨⟨rfl, rfl, trivial⟩, ⟨(.inl ⟨rfl, rfl⟩), (.inl ⟨rfl, rfl⟩), (.inl ⟨rfl, rfl⟩), trivial⟩, rfl, rfl, trivial⟩ ?_
     iterate 3 refine oVal tt rfl rfl rfl rfl rfl trivial ?_
     refine oStore tt rfl rfl rfl rfl rfl rfl rfl rfl rfl rfl rfl ⟨trivial, trivial, trivial, trivial⟩ ?_
     refine oVal tt rfl rfl rfl rfl rfl trivial ?_
     refine vNil ?_
     change VC _ _ _ _
     iterate 2 refine vSeq ?_
     refine vRegion ?_
     iterate 2 refine oVal tt rfl rfl rfl rfl rfl trivial ?_
     refine vNil ?_
     change VC _ _ _ _
     refine vCondT rfl (by rw [hb9]; rfl) ?_
     refine vSeq ?_
     refine vRegion ?_
     refine oVal tt rfl rfl rfl rfl rfl trivial ?_
     refine oStore tt rfl rfl rfl rfl rfl rfl rfl rfl rfl rfl rfl ⟨trivial, trivial, trivial, trivial⟩ ?_
     refine oVal tt rfl rfl rfl rfl rfl trivial ?_
     refine vNil ?_
     change VC _ _ _ _
     refine vRet ?_
     change ∃ _, _
     cases h
     exact ⟨[1160, 1161, 1162], _, rfl, ⟨rfl, rfl, rfl, trivial⟩, rfl, (.eq rfl), rfl⟩
  ·replace h := cnd_f hb5 h
   refine vExit ?_
   change ∃ _, _
   exact ⟨(l17, l18, l19), (En.of ⟨rfl, rfl, trivial⟩ ⟨rfl, rfl, rfl, trivial⟩ ⟨rfl, rfl, trivial⟩), h⟩
end Go.Proofs.Ytkklfgcelmeccaa
namespace Go.Proofs.Ytkklfgcelmeccaa
open Go.RowKit
def S_NewPebbles_l1 (N : Nat) (g_0 : Grf) (k_1 : Int) (k : (List Int) → Option (Pbl × Bool)) : Nat → ((List Int) × Int) → Option (Pbl × Bool)
 | 0, _ => none
 | n + 1, (l9, i10) =>
  cnd (decide (i10 < g_0.n)) (
   grd (l9.length + 1 ≤ 4294967296) <|
   grd (Rg64 (i10 + (1 : Int))) <|
   S_NewPebbles_l1 N g_0 k_1 k n ((l9 ++ ([k_1] : List Int)), (i10 + (1 : Int)))) (
   k l9)
def S_NewPebbles (N : Nat) (g_0 : Grf) (k_1 : Int) : Option (Pbl × Bool) :=
 (S_IsGraph N g_0).bind fun v1 =>
 cnd (!v1) (
  some ((⟨([] : List Int), [], []⟩ : Pbl), false)) (
  (S_l1In N k_1 (1 : Int) (3 : Int)).bind fun v2 =>
  cnd (!v2) (
   some ((⟨([] : List Int), [], []⟩ : Pbl), false)) (
   S_NewPebbles_l1 N g_0 k_1 (fun (l6 : List Int) =>
      some ((⟨l6, [], []⟩ : Pbl), true)) N (([] : List Int), (0 : Int))))
set_option maxRecDepth 20000 in
set_option maxHeartbeats 1600000 in
theorem S_NewPebbles_w (N : Nat) (g_0 : Grf) (k_1 : Int) (r : Pbl × Bool) (h : S_NewPebbles N g_0 k_1 = some r) : PCall Try.prog 137 [gD g_0, .int k_1] [(3, .ints r.1.free)] (.tup [.agg [.row 0 0 r.1.free.length, .nil, .nil], .bool r.2]) := by
 unfold S_NewPebbles at h
 refine pcall_intro (TT := TT) tt Try.func137 rfl rfl Try.ntmps137 (congrArg Array.toList Try.results137) rfl rfl fun w0 => ?_
 refine vSeq ?_
 refine vRegion ?_
 refine oBox rfl rfl rfl rfl rfl rfl rfl rfl rfl ?_
 refine oAlloc tt rfl rfl rfl rfl rfl rfl rfl rfl rfl ?_
 refine oVal tt rfl rfl rfl rfl rfl trivial ?_
 refine vNil ?_
 change VC _ _ _ _
 refine vSeq ?_
 refine vRegion ?_
 iterate 3 refine oEmpty tt (wNone rfl) rfl rfl rfl rfl ?_
 refine oPure (wNone rfl) (pBuild bld_impl_Pebbles rfl rfl) rfl rfl ?_
 refine oAlloc tt rfl rfl rfl rfl rfl rfl rfl rfl rfl ?_
 refine oStore tt rfl rfl rfl rfl rfl rfl rfl rfl rfl rfl rfl ⟨trivial, trivial, trivial, trivial⟩ ?_
 refine vNil ?_
 change VC _ _ _ _
 iterate 2 refine vSeq ?_
 refine vRegion ?_
 refine oVal tt rfl rfl rfl rfl rfl trivial ?_
 obtain ⟨v1, hc1, h⟩ := bind_inv h
 refine oCall (S_IsGraph_w N g_0 v1 hc1) rfl rfl rfl rfl rfl rfl rfl rfl ⟨⟨rfl, rfl, trivial⟩, trivial⟩ ?_
 iterate 2 refine oVal tt rfl rfl rfl rfl rfl trivial ?_
 refine oSplit rfl rfl rfl (fun hb2 => ?_) (fun hb2 => ?_)
 ·replace h := cnd_t hb2 h
  iterate 3 refine oNoF rfl rfl rfl rfl hb2 rfl rfl ?_
  refine oPick rfl rfl rfl rfl rfl hb2 rfl ?_
  refine vNil ?_
  change VC _ _ _ _
  refine vCondT rfl rfl ?_
  refine vSeq ?_
  refine vRegion ?_
  refine oPure (wNone rfl) (pBuild bld_impl_Pebbles rfl rfl) rfl rfl ?_
  refine oStore tt rfl rfl rfl rfl rfl rfl rfl rfl rfl rfl rfl ⟨trivial, trivial, trivial, trivial⟩ ?_
  refine oVal tt rfl rfl rfl rfl rfl trivial ?_
  refine vNil ?_
  change VC _ _ _ _
  refine vNilB 4 0 9001 3 (.ints []) rfl rfl rfl rfl rfl ?_
  refine vRet ?_
  change ∃ _, _
  cases h
  exact ⟨[9001], _, rfl, ⟨rfl, trivial⟩, rfl, (.eq rfl), rfl⟩
 ·replace h := cnd_f hb2 h
  refine oValG tt rfl rfl rfl rfl rfl hb2 rfl rfl rfl trivial ?_
  obtain ⟨v2, hc3, h⟩ := bind_inv h
  refine oCallG (S_l1In_w N k_1 (1 : Int) (3 : Int) v2 hc3) rfl rfl rfl rfl hb2 rfl rfl rfl rfl rfl rfl rfl ⟨rfl, rfl, rfl, trivial⟩ ?_
  refine oValG tt rfl rfl rfl rfl rfl hb2 rfl rfl rfl trivial ?_
  refine oPickF rfl rfl rfl rfl rfl hb2 rfl ?_
  refine vNil ?_
  change VC _ _ _ _
  refine vCond rfl (fun hb4 => ?_) (fun hb4 => ?_)
  ·replace h := cnd_t hb4 h
   refine vSeq ?_
   refine vRegion ?_
   refine oPure (wNone rfl) (pBuild bld_impl_Pebbles rfl rfl) rfl rfl ?_
   refine oStore tt rfl rfl rfl rfl rfl rfl rfl rfl rfl rfl rfl ⟨trivial, trivial, trivial, trivial⟩ ?_
   refine oVal tt rfl rfl rfl rfl rfl trivial ?_
   refine vNil ?_
   change VC _ _ _ _
   refine vNilB 4 0 9001 3 (.ints []) rfl rfl rfl rfl rfl ?_
   refine vRet ?_
   change ∃ _, _
   cases h
   exact ⟨[9001], _, rfl, ⟨rfl, trivial⟩, rfl, (.eq rfl), rfl⟩
  ·replace h := cnd_f hb4 h
   refine vSkip ?_
   change VC _ _ _ _
   iterate 2 refine vSeq ?_
   refine vRegion ?_
   refine oVal tt rfl rfl rfl rfl rfl trivial ?_
   refine vNil ?_
   change VC _ _ _ _
   refine vJoin (F := fun k => S_NewPebbles_l1 N g_0 k_1 k) h (α := List Int) (J := fun (l6 : List Int) => (⟨[(4, .ptr 4 0), (6, .ptr 6 0)], [(31, some (3, .ints l6))], [(4, some [.nil, .nil, .nil]), (6, some [.row 31 0 l6.length, .nil, .nil])]⟩ : PS)) ?_ ?_
   ·rintro l6 h
    show VC _ _ _ (⟨[(4, .ptr 4 0), (6, .ptr 6 0)], [(31, some (3, .ints l6))], [(4, some [.nil, .nil, .nil]), (6, some [.row 31 0 l6.length, .nil, .nil])]⟩ : PS)
    refine vSeq ?_
    refine vRegion ?_
    refine oVal tt rfl rfl rfl rfl rfl trivial ?_
    refine oStore tt rfl rfl rfl rfl rfl rfl rfl rfl rfl rfl rfl ⟨trivial, trivial, trivial, trivial⟩ ?_
    refine oVal tt rfl rfl rfl rfl rfl trivial ?_
    refine vNil ?_
    change VC _ _ _ _
    refine vRet ?_
    change ∃ _, _
    cases h
    exact ⟨[31], _, rfl, ⟨rfl, trivial⟩, rfl, (.eq rfl), rfl⟩
   ·intro k h
    refine vBlock ?_
    refine vNilB 6 0 31 3 (.ints []) rfl rfl rfl rfl rfl ?_
    refine vLoopS (α := (List Int) × Int) (fun | (l9, i10) => (⟨[(1, .int k_1), (2, .ptr 2 0), (4, .ptr 4 0), (6, .ptr 6 0), (7, .int i10)], [(31, some (3, .ints l9))], [(2, some [.int g_0.n, .ro false (.pairs g_0.bars)]), (4, some [.nil, .nil, .nil]), (6, some [.row 31 0 l9.length, .nil, .nil])]⟩ : PS)) (S_NewPebbles_l1 N g_0 k_1 k) h (En.of ⟨rfl, rfl, rfl, rfl, rfl, trivial⟩ ⟨rfl, trivial⟩ ⟨rfl, rfl, rfl, trivial⟩) (fun _ => rfl) ?_
    rintro n ⟨l9, i10⟩ h
    rw [S_NewPebbles_l1] at h
    show VC _ _ _ (⟨[(1, .int k_1), (2, .ptr 2 0), (4, .ptr 4 0), (6, .ptr 6 0), (7, .int i10)], [(31, some (3, .ints l9))], [(2, some [.int g_0.n, .ro false (.pairs g_0.bars)]), (4, some [.nil, .nil, .nil]), (6, some [.row 31 0 l9.length, .nil, .nil])]⟩ : PS)
    iterate 2 refine vSeq ?_
    refine vRegion ?_
    iterate 4 refine oVal tt rfl rfl rfl rfl rfl trivial ?_
    refine vNil ?_
    change VC _ _ _ _
    refine vCond rfl (fun hb5 => ?_) (fun hb5 => ?_)
    ·replace h := cnd_t hb5 h
     refine vSkip ?_
     change VC _ _ _ _
     refine vSeq ?_
     refine vBlock ?_
     refine vRegion ?_
     iterate 3 refine oVal tt rfl rfl rfl rfl rfl trivial ?_
     refine oBuild tt rfl rfl rfl rfl rfl rfl rfl rfl rfl rfl rfl ?_
     obtain ⟨hg6, h⟩ := grd_inv h
     refine oAppend tt rfl rfl rfl rfl rfl rfl rfl rfl rfl rfl rfl rfl rfl rfl rfl rfl (Nat.le_of_eq (Nat.zero_add _)) hg6 ?_
     refine oVal tt rfl rfl rfl rfl rfl trivial ?_
     refine oStore tt rfl rfl rfl rfl rfl rfl rfl rfl rfl rfl rfl ⟨trivial, trivial⟩ ?_
     refine vNil ?_
     change VC _ _ _ _
     refine vRegion ?_
     refine oVal tt rfl rfl rfl rfl rfl trivial ?_
     obtain ⟨hg7, h⟩ := grd_inv h
     refine oVal tt rfl rfl rfl rfl rfl hg7 ?_
     refine oVal tt rfl rfl rfl rfl rfl trivial ?_
     refine vNil ?_
     change ∃ _, _
     exact ⟨((l9 ++ ([k_1] : List Int)), (i10 + (1 : Int))), (En.of ⟨rfl, rfl, rfl, rfl, rfl, trivial⟩ ⟨rfl, trivial⟩ ⟨rfl, rfl, rfl, trivial⟩), h⟩
    ·replace h := cnd_f hb5 h
     refine vExit ?_
     change ∃ _, _
     exact ⟨l9, (En.of ⟨rfl, rfl, trivial⟩ ⟨rfl, trivial⟩ ⟨rfl, rfl, trivial⟩), h⟩
end Go.Proofs.Ytkklfgcelmeccaa
namespace Go.Proofs.Ytkklfgcelmeccaa
open Go.RowKit
end Go.Proofs.Ytkklfgcelmeccaa
namespace Go.Proofs.Ytkklfgcelmeccaa
variable {n : Nat} {f T : List Int} {a b : Int}
abbrev brI (bars : List (Int × Int)) (i : Int) : Int × Int := bars.getD i.toNat (0, 0)
structure PG (n : Nat) (bars : List (Int × Int)) (p : Pbl) : Prop where
 inv : PInv n (p.placed.map (brI bars)) p.free p.tails
 pl : ∀ i ∈ p.placed, 0 ≤ i ∧ i < (bars.length : Int)
theorem fsum_nn {n : Nat} {X : VS} {f : List Int} (nn : ∀ v : Nat, v < n → 0 ≤ f.getD v 0) : ∀ m, m ≤ n → 0 ≤ fsum X f m
 | 0, _ => by simp [fsum]
 | m + 1, hm => by
  have ih := fsum_nn (X := X) nn m (by omega)
  have := nn m (by omega)
  rw [fsum]; split <;> omega
theorem PInv.tlen {E : List (Int × Int)} (h : PInv n E f T) : T.length ≤ 2 * n := by
 have h1 := h.sum fun _ => true
 have h2 := fsum_nn (X := fun _ => true) h.nn n (Nat.le_refl _)
 have h3 : T.countP (fun _ => true) = T.length := by simp
 have h4 : vsz n (fun _ => true) = n := by simp [vsz]
 rw [h3, h4] at h1
 omega
theorem eAt {bars : List (Int × Int)} {pl : List Int} {i : Nat} (h : i < pl.length) : (pl.map (brI bars)).getD i (0, 0) = bars.getD (pl.getD i 0).toNat (0, 0) := by
 simp [List.getD_eq_getElem?_getD, List.getElem?_eq_getElem h]
section
variable {g : Grf} {p : Pbl} {N : Nat} (hN : 4000000 ≤ N) (hn : n ≤ 1000) (hg : g.n = n) (hp : PG n g.bars p)
include hp in
theorem PG.plAt {i : Nat} (h : i < p.placed.length) : 0 ≤ p.placed.getD i 0 ∧ p.placed.getD i 0 < (g.bars.length : Int) := hp.pl _ (getD_mem h)
include hp in
theorem PG.bok {i : Nat} (h : i < p.placed.length) : Bok n (g.bars.getD (p.placed.getD i 0).toNat (0, 0)) := by
 rw [← eAt h]; exact hp.inv.ok _ (getD_mem (by simpa using h))
theorem other_s {n : Nat} (hn : n ≤ 1000) {e : Int × Int} (he : Bok n e) {v : Int} (hv : 0 ≤ v ∧ v < n) : S_l4Other N e v = some (oth e v) := by
 obtain ⟨h1, h2, h3, h4, _⟩ := he
 unfold S_l4Other
 rw [grd_R (by omega) (by omega), grd_R (by omega) (by omega)]; rfl
include hn hp in
theorem shift_s {from' : List Int} {q : List Int} {u : Int} {v1 : Pbl} {kk : List Int → Option Pbl} (hfl : from'.length = n) (hb : BI n (p.placed.map (brI g.bars)) p.tails a q (fun v => from'.getD v.toNat 0)) (hv1 : v1.tails.length = p.tails.length) :
  ∀ (fuel j : Nat) (T' : List Int), j < q.length → j < fuel → Mv (p.placed.map (brI g.bars)) p.tails T' u (q.getD j 0) →
   (∀ j', 0 < j' → j' ≤ j → T'.getD (from'.getD (q.getD j' 0).toNat 0).toNat 0 = p.tails.getD (from'.getD (q.getD j' 0).toNat 0).toNat 0) →
   ∃ T'', Mv (p.placed.map (brI g.bars)) p.tails T'' u a ∧ S_l4Shift_l1 N g p from' a v1 kk fuel (T', q.getD j 0) = kk T'' := by
 intro fuel
 induction fuel with
 | zero => intro j T' _ h; omega
 | succ fuel ih =>
  intro j T' hj hf hm hun
  rw [S_l4Shift_l1]
  by_cases h0 : j = 0
  ·subst h0
   refine ⟨T', by rw [hb.hd] at hm; exact hm, ?_⟩
   rw [cnd_nef hb.hd]
  ·have hne : ¬ q.getD j 0 = a := by
    intro e
    rw [← hb.hd] at e
    have hp0 := hb.pos
    rw [List.getD_eq_getElem?_getD, List.getD_eq_getElem?_getD, List.getElem?_eq_getElem hj, List.getElem?_eq_getElem hp0] at e
    have := (List.getElem_inj hb.nd).1 e
    omega
   obtain ⟨j', i, g1, g2, g3, g4, g5, g6, g7⟩ := hb.back hp.inv (by omega) hj hm hun
   have hip : i < p.placed.length := by simpa using g2
   obtain ⟨T'', k1, k2⟩ := ih j' (T'.set i (q.getD j 0)) (by omega) (by omega) g6 g7
   refine ⟨T'', k1, ?_⟩
   have hr := hb.rg _ (getD_mem (d := 0) hj)
   have hpl := hp.plAt hip
   have htl := hp.inv.tl
   have hml := hm.len
   have eo := other_s (N := N) hn (hp.bok hip) hr
   rw [← eAt hip, g4] at eo
   rw [eAt hip] at eo
   simp only [List.length_map] at htl
   simp (disch := omega) only [Int.toNat_natCast, tk0, List.length_cons, List.length_nil, grd_pos, grd_T, grd_R, cnd_dt, cnd_df, cnd_true, cnd_false, Option.bind_some, cnd_net hne, g3, eo, hfl, hv1, hml, htl, k2]
include hN hn hp in
theorem shiftS_s {from' : List Int} {q : List Int} {j : Nat} (hfl : from'.length = n) (hb : BI n (p.placed.map (brI g.bars)) p.tails a q (fun v => from'.getD v.toNat 0)) (hj : j < q.length) (hj0 : 0 < j) (hbr : 0 ≤ b ∧ b < n) (hub : q.getD j 0 ≠ b) (hab : a ≠ b) (hf : 1 ≤ p.free.getD (q.getD j 0).toNat 0) :
  ∃ p' : Pbl, S_l4Shift N g p from' a (q.getD j 0) = some p' ∧ Won n (p.placed.map (brI g.bars)) p.free p'.free p'.tails a b ∧ p'.placed = p.placed := by
 have hu := hb.rg _ (getD_mem (d := 0) hj)
 have ha : 0 ≤ a ∧ a < n := by have := hb.rg _ (getD_mem (d := 0) hb.pos); rwa [hb.hd] at this
 have hua : q.getD j 0 ≠ a := by
  intro e
  rw [← hb.hd] at e
  have hp0 := hb.pos
  rw [List.getD_eq_getElem?_getD, List.getD_eq_getElem?_getD, List.getElem?_eq_getElem hj, List.getElem?_eq_getElem hp0] at e
  have := (List.getElem_inj hb.nd).1 e
  omega
 have hle := hb.len
 obtain ⟨T'', k1, k2⟩ := shift_s hn hp (N := N) (v1 := ⟨[] ++ p.free, [] ++ p.tails, [] ++ p.placed⟩) (u := q.getD j 0)
  (kk := fun l7 => grd (p.free.length = (fMove p.free (q.getD j 0) a).length) <| grd (p.tails.length = l7.length) <| some ⟨fMove p.free (q.getD j 0) a, l7, p.placed⟩) hfl hb (by simp) N j p.tails hj (by omega) (Mv.start hp.inv _) (fun _ _ _ => rfl)
 refine ⟨⟨fMove p.free (q.getD j 0) a, T'', p.placed⟩, ?_, k1.won hp.inv ha hu hbr hua hub hab hf, rfl⟩
 have f1 := hp.inv.fl
 have t1 := hp.inv.tl
 have t2 := hp.inv.tlen
 have t3 := k1.len
 simp only [List.length_map] at t1
 have b1 : p.free.getD (q.getD j 0).toNat 0 ≤ 2 := hp.inv.le2 (by omega)
 have b2 : 0 ≤ (p.free.set (q.getD j 0).toNat (p.free.getD (q.getD j 0).toNat 0 - 1)).getD a.toNat 0 ∧ (p.free.set (q.getD j 0).toNat (p.free.getD (q.getD j 0).toNat 0 - 1)).getD a.toNat 0 ≤ 2 := by
  rw [getD_set]
  have := hp.inv.le2 (v := a.toNat) (by omega)
  have := hp.inv.nn a.toNat (by omega)
  split <;> omega
 unfold S_l4Shift S_l4Copy
 simp (disch := omega) only [Int.toNat_natCast, tk0, List.length_cons, List.length_nil, grd_pos, grd_T, grd_R, cnd_dt, cnd_df, cnd_true, cnd_false, Option.bind_some, List.nil_append, List.length_set]
 simp only [List.nil_append] at k2
 simp only [fMove, List.length_set, grd_T] at k2 ⊢
 rw [k2]
 exact grd_pos t3.symm _
structure FSt (n : Nat) (bars : List (Int × Int)) (p : Pbl) (a b : Int) (from' q : List Int) (seen : List Bool) : Prop where
 bi : BI n (p.placed.map (brI bars)) p.tails a q (fun v => from'.getD v.toNat 0)
 bz : BZ p.free a b q
 fl : from'.length = n
 sl : seen.length = n
 sq : ∀ v : Int, 0 ≤ v → v < n → seen.getD v.toNat false = decide (v ∈ q)
theorem oth_rg {e : Int × Int} (he : Bok n e) {v : Int} (h : v = e.1 ∨ v = e.2) : 0 ≤ oth e v ∧ oth e v < n := by
 obtain ⟨h1, h2, h3, h4, _⟩ := he
 unfold oth
 rcases h with rfl | rfl <;> omega
theorem FSt.pushB {bars : List (Int × Int)} {from' q : List Int} {seen : List Bool} (h : FSt n bars p a b from' q seen) {k i : Nat} {v : Int} (hk : k < q.length) (hi : i < p.placed.length) (ht : p.tails.getD i 0 = q.getD k 0) (hv : oth ((p.placed.map (brI bars)).getD i (0, 0)) (q.getD k 0) = v) (hr : 0 ≤ v ∧ v < n) (hn : v ∉ q) :
  BI n (p.placed.map (brI bars)) p.tails a (q ++ [v]) (fun w => (from'.set v.toNat (i : Int)).getD w.toNat 0) := by
 have hfl := h.fl
 refine h.bi.push (fr' := fun w => (from'.set v.toNat i).getD w.toNat 0) hk (by simpa using hi) ht hv hr hn ?_ fun w hw => ?_
 ·show (from'.set v.toNat i).getD v.toNat 0 = i
  rw [getD_set, if_pos ⟨rfl, by omega⟩]
 ·show (from'.set v.toNat i).getD w.toNat 0 = from'.getD w.toNat 0
  have := h.bi.rg w hw
  have hne : w ≠ v := fun e => hn (e ▸ hw)
  rw [getD_set, if_neg (by omega)]
theorem FSt.push {bars : List (Int × Int)} {from' q : List Int} {seen : List Bool} (h : FSt n bars p a b from' q seen) {k i : Nat} {v : Int} (hk : k < q.length) (hi : i < p.placed.length) (ht : p.tails.getD i 0 = q.getD k 0) (hv : oth ((p.placed.map (brI bars)).getD i (0, 0)) (q.getD k 0) = v) (hr : 0 ≤ v ∧ v < n) (hn : v ∉ q) (hz : v = b ∨ p.free.getD v.toNat 0 = 0) :
  FSt n bars p a b (from'.set v.toNat i) (q ++ [v]) (seen.set v.toNat true) := by
 have hfl := h.fl
 have hsl := h.sl
 refine ⟨h.pushB hk hi ht hv hr hn, h.bz.push hz, by simp [hfl], by simp [hsl], fun w h1 h2 => ?_⟩
 rw [getD_set]
 by_cases e : w = v
 ·subst e
  rw [if_pos ⟨rfl, by omega⟩]; simp
 ·rw [if_neg (by omega), h.sq w h1 h2]
  simp [e]
include hN hn hg hp in
theorem find2_s {l106 : List Int} {kk : (List Int × List Int × List Bool) → Option (Pbl × Bool)} {k : Nat} (hab : a ≠ b) (hbr : 0 ≤ b ∧ b < n) :
  ∀ (fuel m : Nat) (from' q : List Int) (seen : List Bool), m ≤ p.placed.length → p.placed.length < fuel + m → FSt n g.bars p a b from' q seen → Done (p.placed.map (brI g.bars)) p.tails q k m → k < q.length → q.getD k 0 = l106.getD k 0 →
   (∃ p' : Pbl, S_l4Find_l2 N g p a b l106 k kk fuel (from', q, seen, (m : Int)) = some (p', true) ∧ Won n (p.placed.map (brI g.bars)) p.free p'.free p'.tails a b ∧ p'.placed = p.placed) ∨
   ∃ from'' q' seen', S_l4Find_l2 N g p a b l106 k kk fuel (from', q, seen, (m : Int)) = kk (from'', q', seen') ∧ FSt n g.bars p a b from'' q' seen' ∧ Done (p.placed.map (brI g.bars)) p.tails q' (k + 1) 0 ∧ k < q'.length := by
 intro fuel
 induction fuel with
 | zero => intro m _ _ _ h1 h2; omega
 | succ fuel ih =>
  intro m from' q seen h1 h2 hF hD hk hq
  rw [S_l4Find_l2]
  have hlen : (p.placed.map (brI g.bars)).length = p.placed.length := by simp
  by_cases hm : m < p.placed.length
  ·have htl := hp.inv.tl
   have hfr := hp.inv.fl
   have hfl := hF.fl
   have hsl := hF.sl
   rw [hlen] at htl
   have hpl := hp.plAt hm
   have ht2 := hp.inv.tlen
   by_cases ht : p.tails.getD m 0 = q.getD k 0
   ·have hbk := hp.bok hm
    have hen := hp.inv.en m (by rw [hlen]; exact hm)
    rw [eAt hm] at hen
    rw [ht] at hen
    have hr0 := hF.bi.rg _ (getD_mem (d := 0) hk)
    have eo := other_s (N := N) hn hbk hr0
    have hvr := oth_rg hbk hen
    have ht' : p.tails.getD m 0 = l106.getD k 0 := ht.trans hq
    rw [hq] at eo
    generalize hv : oth (g.bars.getD (p.placed.getD m 0).toNat (0, 0)) (q.getD k 0) = v at hvr
    rw [← hq, hv] at eo
    rw [hq] at eo
    have hvo : oth ((p.placed.map (brI g.bars)).getD m (0, 0)) (q.getD k 0) = v := by rw [eAt hm, hv]
    have hsq := hF.sq v hvr.1 hvr.2
    by_cases hs : v ∈ q
    ·have hsq : seen.getD v.toNat false = true := by rw [hsq]; exact decide_eq_true hs
     simp (disch := omega) only [Int.toNat_natCast, tk0, List.length_cons, List.length_nil, grd_pos, grd_T, grd_R, cnd_dt, cnd_df, cnd_true, cnd_false, Option.bind_some, cnd_nef ht', eo, hsq, hg, List.length_replicate, succ_cast]
     exact ih (m + 1) from' q seen (by omega) (by omega) hF (hD.step fun _ _ => by rw [hvo]; exact hs) hk hq
    ·have hsq : seen.getD v.toNat false = false := by rw [hsq]; exact decide_eq_false hs
     have hD' : Done (p.placed.map (brI g.bars)) p.tails (q ++ [v]) k (m + 1) := (hD.push hk).step fun _ _ => by rw [getD_appl hk, hvo]; simp
     have hql := hF.bi.len
     by_cases hvb : v = b
     ·have hF' := hF.push (i := m) hk hm ht hvo hvr hs (.inl hvb)
      simp (disch := omega) only [Int.toNat_natCast, tk0, List.length_cons, List.length_nil, grd_pos, grd_T, grd_R, cnd_dt, cnd_df, cnd_true, cnd_false, Option.bind_some, cnd_nef ht', eo, hsq, hg, List.length_replicate, succ_cast, cnd_nef hvb]
      exact ih (m + 1) _ _ _ (by omega) (by omega) hF' hD' (by simp; omega) (by rw [getD_appl hk]; exact hq)
     ·by_cases hz : p.free.getD v.toNat 0 > 0
      ·left
       have hb2 : BI n (p.placed.map (brI g.bars)) p.tails a (q ++ [v]) (fun w => (from'.set v.toNat (m : Int)).getD w.toNat 0) := hF.pushB hk hm ht hvo hvr hs
       have e1 : (q ++ [v]).getD q.length 0 = v := by rw [getD_app]; simp
       obtain ⟨p', s1, s2, s3⟩ := shiftS_s hN hn hp (from' := from'.set v.toNat (m : Int)) (q := q ++ [v]) (j := q.length) (a := a) (b := b) (by simp [hfl]) hb2 (by simp) (by have := hF.bi.pos; omega) hbr (by rw [e1]; exact hvb) hab (by rw [e1]; omega)
       rw [e1] at s1
       refine ⟨p', ?_, s2, s3⟩
       simp (disch := omega) only [Int.toNat_natCast, tk0, List.length_cons, List.length_nil, grd_pos, grd_T, grd_R, cnd_dt, cnd_df, cnd_true, cnd_false, Option.bind_some, cnd_nef ht', eo, hsq, hg, List.length_replicate, List.length_set, succ_cast, cnd_net hvb, s1]
      ·have hz0 : p.free.getD v.toNat 0 = 0 := by have := hp.inv.nn v.toNat (by omega); omega
       have hF' := hF.push (i := m) hk hm ht hvo hvr hs (.inr hz0)
       simp (disch := omega) only [Int.toNat_natCast, tk0, List.length_cons, List.length_nil, grd_pos, grd_T, grd_R, cnd_dt, cnd_df, cnd_true, cnd_false, Option.bind_some, cnd_nef ht', eo, hsq, hg, List.length_replicate, succ_cast, cnd_net hvb]
       exact ih (m + 1) _ _ _ (by omega) (by omega) hF' hD' (by simp; omega) (by rw [getD_appl hk]; exact hq)
   ·have ht' : ¬ p.tails.getD m 0 = l106.getD k 0 := by rw [← hq]; exact ht
    simp (disch := omega) only [Int.toNat_natCast, tk0, List.length_cons, List.length_nil, grd_pos, grd_T, grd_R, cnd_dt, cnd_df, cnd_true, cnd_false, Option.bind_some, cnd_net ht', succ_cast]
    exact ih (m + 1) from' q seen (by omega) (by omega) hF (hD.step fun _ e => absurd e ht) hk hq
  ·right
   have e : m = (p.placed.map (brI g.bars)).length := by omega
   refine ⟨from', q, seen, ?_, hF, by subst e; exact hD.next, hk⟩
   simp (disch := omega) only [Int.toNat_natCast, tk0, List.length_cons, List.length_nil, grd_pos, grd_T, grd_R, cnd_dt, cnd_df, cnd_true, cnd_false, Option.bind_some]
include hN hn hg hp in
theorem find1_s {kk : Unit → Option (Pbl × Bool)} (hab : a ≠ b) (hbr : 0 ≤ b ∧ b < n) :
  ∀ (fuel k : Nat) (from' q : List Int) (seen : List Bool), n < fuel + k → FSt n g.bars p a b from' q seen → Done (p.placed.map (brI g.bars)) p.tails q k 0 → k ≤ q.length →
   (∃ p' : Pbl, S_l4Find_l1 N g p a b kk fuel (from', q, seen, (k : Int)) = some (p', true) ∧ Won n (p.placed.map (brI g.bars)) p.free p'.free p'.tails a b ∧ p'.placed = p.placed) ∨
   (S_l4Find_l1 N g p a b kk fuel (from', q, seen, (k : Int)) = kk () ∧ Shut n (p.placed.map (brI g.bars)) p.free p.tails a b) := by
 intro fuel
 induction fuel with
 | zero => intro k from' q seen h1 hF hD hk; have := hF.bi.len; omega
 | succ fuel ih =>
  intro k from' q seen h1 hF hD hk
  rw [S_l4Find_l1]
  have ht2 := hp.inv.tlen
  have htl := hp.inv.tl
  simp only [List.length_map] at htl
  by_cases hkq : k < q.length
  ·have hql := hF.bi.len
   have key := find2_s (l106 := q) (kk := (fun (x : (List Int) × (List Int) × (List Bool)) =>
     match x with
     | (l143, l144, l145) =>
      grd (Rg64 ((k : Int) + (1 : Int))) <|
      S_l4Find_l1 N g p a b kk fuel (l143, l144, l145, ((k : Int) + (1 : Int))))) hN hn hg hp hab hbr N 0 from' q seen (by omega) (by omega) hF hD hkq rfl
   rw [show ((0 : Nat) : Int) = 0 from rfl] at key
   rcases key with ⟨p', g1, g2, g3⟩ | ⟨f2, q2, s2, g1, g2, g3, g4⟩
   ·left
    refine ⟨p', ?_, g2, g3⟩
    rw [cnd_dt (by omega), grd_pos (by omega)]
    exact g1
   ·have e : S_l4Find_l1 N g p a b kk (fuel + 1) (from', q, seen, (k : Int)) = S_l4Find_l1 N g p a b kk fuel (f2, q2, s2, ((k + 1 : Nat) : Int)) := by
     rw [S_l4Find_l1]
     rw [cnd_dt (by omega), grd_pos (by omega)]
     refine g1.trans ?_
     have := g2.bi.len
     simp (disch := omega) only [Int.toNat_natCast, tk0, List.length_cons, List.length_nil, grd_pos, grd_T, grd_R, cnd_dt, cnd_df, cnd_true, cnd_false, Option.bind_some, succ_cast]
    rw [S_l4Find_l1] at e
    rw [e]
    exact ih (k + 1) f2 q2 s2 (by omega) g2 g3 (by omega)
  ·right
   refine ⟨?_, hF.bi.shut hF.bz hD (by omega)⟩
   simp (disch := omega) only [Int.toNat_natCast, tk0, List.length_cons, List.length_nil, grd_pos, grd_T, grd_R, cnd_dt, cnd_df, cnd_true, cnd_false, Option.bind_some]
theorem find3_s {kk : List Int → Option (Pbl × Bool)} (hN : 4000000 ≤ N) (hn : n ≤ 1000) (hg : g.n = n) : ∀ (fuel i : Nat) (l : List Int), n < fuel + i → i ≤ n → l.length = n → ∃ l' : List Int, l'.length = n ∧ S_l4Find_l3 N g kk fuel (l, (i : Int)) = kk l' := by
 intro fuel
 induction fuel with
 | zero => intro i l h1 h2 h3; omega
 | succ fuel ih =>
  intro i l h1 h2 h3
  rw [S_l4Find_l3]
  by_cases hi : i < n
  ·obtain ⟨l', g1, g2⟩ := ih (i + 1) (l.set i (-1)) (by omega) (by omega) (by simp [h3])
   refine ⟨l', g1, ?_⟩
   simp (disch := omega) only [Int.toNat_natCast, tk0, List.length_cons, List.length_nil, grd_pos, grd_T, grd_R, cnd_dt, cnd_df, cnd_true, cnd_false, Option.bind_some, hg, List.length_replicate, succ_cast]
   exact g2
  ·refine ⟨l, h3, ?_⟩
   simp (disch := omega) only [Int.toNat_natCast, tk0, List.length_cons, List.length_nil, grd_pos, grd_T, grd_R, cnd_dt, cnd_df, cnd_true, cnd_false, Option.bind_some, hg]
include hN hn hg hp in
theorem find_s (hb : Bok n (a, b)) :
  (∃ p' : Pbl, S_l4Find N g p a b = some (p', true) ∧ Won n (p.placed.map (brI g.bars)) p.free p'.free p'.tails a b ∧ p'.placed = p.placed) ∨
  (S_l4Find N g p a b = some (p, false) ∧ Shut n (p.placed.map (brI g.bars)) p.free p.tails a b) := by
 obtain ⟨h1, h2, h3, h4, h5⟩ := hb
 simp only at h1 h2 h3 h4 h5
 have e : ∃ l : List Int, l.length = n ∧ S_l4Find N g p a b = S_l4Find_l1 N g p a b (fun _ => some (p, false)) N (l, [a], (List.replicate n false).set a.toNat true, ((0 : Nat) : Int)) := by
  obtain ⟨l, g1, g2⟩ := find3_s (N := N) (kk := fun (l3 : List Int) =>
    grd (0 ≤ a ∧ a < ((List.replicate ((g.n).toNat) (false : Bool)).length : Int)) <|
    S_l4Find_l1 N g p a b (fun (_ : Unit) => some ((⟨p.free, p.tails, p.placed⟩ : Pbl), false)) N (l3, ([a] : List Int), ((List.replicate ((g.n).toNat) (false : Bool)).set ((a).toNat) true), (0 : Int))) hN hn hg N 0 (List.replicate n 0) (by omega) (by omega) (by simp)
  refine ⟨l, g1, ?_⟩
  unfold S_l4Find
  rw [grd_pos (by omega)]
  simp only [hg, Int.toNat_natCast] at g2 ⊢
  refine g2.trans ?_
  simp (disch := omega) only [Int.toNat_natCast, tk0, List.length_cons, List.length_nil, grd_pos, grd_T, grd_R, cnd_dt, cnd_df, cnd_true, cnd_false, Option.bind_some, List.length_replicate]
  rfl
 obtain ⟨l, hl, e⟩ := e
 rw [e]
 refine find1_s (kk := fun _ => some (p, false)) hN hn hg hp h5 ⟨h3, h4⟩ N 0 l [a] _ (by omega) ⟨BI.start ⟨h1, h2⟩, fun v hv h _ => absurd (by simpa using hv) h, hl, by simp, fun v g1 g2 => ?_⟩ Done.start (by simp)
 rw [getD_set]
 by_cases e : v = a
 ·subst e
  rw [if_pos ⟨rfl, by simp; omega⟩]; simp
 ·rw [if_neg (by omega)]
  simp [e, List.getD_eq_getElem?_getD, List.getElem?_replicate]
  split <;> rfl
end
section
variable {g : Grf} {N : Nat} (hN : 4000000 ≤ N) (hn : n ≤ 1000) (hg : g.n = n)
theorem Won.pg {bars : List (Int × Int)} {p p' : Pbl} (hp : PG n bars p) (h : Won n (p.placed.map (brI bars)) p.free p'.free p'.tails a b) (he : p'.placed = p.placed) : PG n bars p' := ⟨by rw [he]; exact h.inv, by rw [he]; exact hp.pl⟩
theorem Won.symm' {E : List (Int × Int)} {f f' T' : List Int} (h : Won n E f f' T' a b) : f'.getD a.toNat 0 + f'.getD b.toNat 0 = f.getD a.toNat 0 + f.getD b.toNat 0 + 1 := by rw [h.up, h.keep]; omega
theorem Bok.swap (h : Bok n (a, b)) : Bok n (b, a) := ⟨h.2.2.1, h.2.2.2.1, h.1, h.2.1, h.2.2.2.2.symm⟩
include hN hn hg in
theorem gather1_s (hb : Bok n (a, b)) {kk : (List Int × List Int × List Int) → Option (Pbl × Bool)} : ∀ (fuel : Nat) (p : Pbl), PG n g.bars p → 4 < fuel + (p.free.getD a.toNat 0 + p.free.getD b.toNat 0) →
  ∃ p' : Pbl, p'.placed = p.placed ∧ PG n g.bars p' ∧ ((S_l4Gather_l1 N g a b 4 kk fuel (p.free, p.tails, p.placed) = kk (p'.free, p'.tails, p'.placed) ∧ 4 ≤ p'.free.getD a.toNat 0 + p'.free.getD b.toNat 0) ∨
   (S_l4Gather_l1 N g a b 4 kk fuel (p.free, p.tails, p.placed) = some (p', false) ∧ ∃ X, Tgt n (p.placed.map (brI g.bars)) X ∧ inX X (a, b) = true)) := by
 obtain ⟨h1, h2, h3, h4, h5⟩ := id hb
 simp only at h1 h2 h3 h4 h5
 intro fuel
 induction fuel with
 | zero =>
  intro p hp hf
  have := hp.inv.le2 (v := a.toNat) (by omega)
  have := hp.inv.le2 (v := b.toNat) (by omega)
  omega
 | succ fuel ih =>
  intro p hp hf
  have fl := hp.inv.fl
  have l1 := hp.inv.le2 (v := a.toNat) (by omega)
  have l2 := hp.inv.le2 (v := b.toNat) (by omega)
  have n1 := hp.inv.nn a.toNat (by omega)
  have n2 := hp.inv.nn b.toNat (by omega)
  rw [S_l4Gather_l1]
  by_cases hs : p.free.getD a.toNat 0 + p.free.getD b.toNat 0 < 4
  ·rcases find_s hN hn hg hp hb with ⟨p1, f1, f2, f3⟩ | ⟨f1, f2⟩
   ·obtain ⟨p', g1, g2, g3⟩ := ih p1 (f2.pg hp f3) (by have := f2.symm'; omega)
    refine ⟨p', g1.trans f3, g2, ?_⟩
    rw [f3] at g3
    have e : (⟨p.free, p.tails, p.placed⟩ : Pbl) = p := rfl
    simp (disch := omega) only [Int.toNat_natCast, tk0, List.length_cons, List.length_nil, grd_pos, grd_T, grd_R, cnd_dt, cnd_df, cnd_true, cnd_false, Option.bind_some, e, f1]
    rw [f3]
    exact g3
   ·rcases find_s hN hn hg hp hb.swap with ⟨p1, k1, k2, k3⟩ | ⟨k1, k2⟩
    ·obtain ⟨p', g1, g2, g3⟩ := ih p1 (k2.pg hp k3) (by have := k2.symm'; omega)
     refine ⟨p', g1.trans k3, g2, ?_⟩
     rw [k3] at g3
     have e : (⟨p.free, p.tails, p.placed⟩ : Pbl) = p := rfl
     simp (disch := omega) only [Int.toNat_natCast, tk0, List.length_cons, List.length_nil, grd_pos, grd_T, grd_R, cnd_dt, cnd_df, cnd_true, cnd_false, Option.bind_some, e, f1, k1]
     rw [k3]
     exact g3
    ·refine ⟨p, rfl, hp, .inr ⟨?_, Shut.tgt hp.inv hb f2 k2 (by omega)⟩⟩
     have e : (⟨p.free, p.tails, p.placed⟩ : Pbl) = p := rfl
     simp (disch := omega) only [Int.toNat_natCast, tk0, List.length_cons, List.length_nil, grd_pos, grd_T, grd_R, cnd_dt, cnd_df, cnd_true, cnd_false, Option.bind_some, e, f1, k1]
  ·refine ⟨p, rfl, hp, .inl ⟨?_, by omega⟩⟩
   simp (disch := omega) only [Int.toNat_natCast, tk0, List.length_cons, List.length_nil, grd_pos, grd_T, grd_R, cnd_dt, cnd_df, cnd_true, cnd_false, Option.bind_some]
include hN hn hg in
theorem gather_s (hb : Bok n (a, b)) {p : Pbl} (hp : PG n g.bars p) : ∃ p' : Pbl, p'.placed = p.placed ∧ PG n g.bars p' ∧ ((S_l4Gather N g p a b 4 = some (p', true) ∧ 4 ≤ p'.free.getD a.toNat 0 + p'.free.getD b.toNat 0) ∨
   (S_l4Gather N g p a b 4 = some (p', false) ∧ ∃ X, Tgt n (p.placed.map (brI g.bars)) X ∧ inX X (a, b) = true)) := by
 obtain ⟨h1, h2, h3, h4, h5⟩ := id hb
 simp only at h1 h2 h3 h4 h5
 have n1 := hp.inv.nn a.toNat (by omega)
 have n2 := hp.inv.nn b.toNat (by omega)
 have fl := hp.inv.fl
 have tl := hp.inv.tl
 simp only [List.length_map] at tl
 have t2 := hp.inv.tlen
 obtain ⟨p', g1, g2, g3⟩ := gather1_s hN hn hg hb (kk := fun x => match x with | (l11, l12, l13) => some ((⟨l11, l12, l13⟩ : Pbl), true)) N p hp (by omega)
 refine ⟨p', g1, g2, ?_⟩
 unfold S_l4Gather S_l4Copy
 simp (disch := omega) only [Int.toNat_natCast, tk0, List.length_cons, List.length_nil, grd_pos, grd_T, grd_R, cnd_dt, cnd_df, cnd_true, cnd_false, Option.bind_some, List.nil_append]
 exact g3
end
end Go.Proofs.Ytkklfgcelmeccaa
namespace Go.Proofs.Ytkklfgcelmeccaa
variable (N : Nat)
theorem l1In_s (x lo hi : Int) : S_l1In N x lo hi = some (inB x lo hi) := by
 unfold S_l1In inB
 rw [cnd_some]
 show some (cnd (decide (lo ≤ x)) _ _) = _
 cases decide (lo ≤ x) <;> rfl
theorem within_s (x lo hi : Int) : I_within N x lo hi = some (inB x lo hi) := by
 unfold I_within inB
 rw [cnd_some]
 show some (cnd (decide (lo ≤ x)) _ _) = _
 cases decide (lo ≤ x) <;> rfl
theorem l2Has_s (hN : 4000000 ≤ N) {l : List Int} (hl : l.length ≤ 3000000) (x : Int) : S_l2Has N l x = some (l.contains x) := by
 unfold S_l2Has
 refine (srch (len := l.length) (ok := fun i => !(l.getD i 0 == x)) (bad := some true) (fin := some false) (by omega) ?_ ?_).trans ?_
 ·intro n i hi _
  rw [S_l2Has_l1]
  simp (disch := omega) only [Int.toNat_natCast, tk0, List.length_cons, List.length_nil, grd_pos, grd_T, grd_R, cnd_dt, cnd_df, cnd_true, cnd_false, Option.bind_some, cnd_not, succ_cast]
 ·intro n _
  rw [S_l2Has_l1]
  simp (disch := omega) only [Int.toNat_natCast, tk0, List.length_cons, List.length_nil, grd_pos, grd_T, grd_R, cnd_dt, cnd_df, cnd_true, cnd_false, Option.bind_some]
 ·rw [range_all_not_contains, cnd_some]; cases l.contains x <;> rfl
theorem indexInt_l (hN : 4000000 ≤ N) {l : List Int} (hl : l.length ≤ 3000000) (x : Int) : ∀ n i : Nat, i ≤ l.length → l.length < n + i → ∃ r : Int, G_Index_int_l1 N l x (fun _ => some (-1)) n (i : Int) = some r ∧ (decide (r ≥ 0) = (l.drop i).contains x) := by
 intro n
 induction n with
 | zero => intro i h1 h2; omega
 | succ n ih =>
  intro i h1 h2
  rw [G_Index_int_l1]
  by_cases hi : i < l.length
  ·simp (disch := omega) only [Int.toNat_natCast, tk0, List.length_cons, List.length_nil, grd_pos, grd_T, grd_R, cnd_dt, cnd_df, cnd_true, cnd_false, Option.bind_some]
   rw [List.drop_eq_getElem_cons hi, List.contains_cons]
   have e : l.getD i 0 = l[i] := by simp [List.getD_eq_getElem?_getD, hi]
   rw [e]
   cases h : x == l[i] with
   | true => exact ⟨i, rfl, by simp⟩
   | false =>
    obtain ⟨r, h1, h2⟩ := ih (i + 1) (by omega) (by omega)
    exact ⟨r, h1, by rw [h2]; rfl⟩
  ·simp (disch := omega) only [Int.toNat_natCast, tk0, List.length_cons, List.length_nil, grd_pos, grd_T, grd_R, cnd_dt, cnd_df, cnd_true, cnd_false, Option.bind_some]
   exact ⟨-1, rfl, by rw [List.drop_eq_nil_of_le (by omega)]; rfl⟩
theorem contains_s (hN : 4000000 ≤ N) {l : List Int} (hl : l.length ≤ 3000000) (x : Int) : G_Contains_int N l x = some (l.contains x) := by
 unfold G_Contains_int G_Index_int
 obtain ⟨r, h1, h2⟩ := indexInt_l N hN hl x N 0 (by omega) (by omega)
 rw [show (0 : Int) = ((0 : Nat) : Int) from rfl, h1]
 show some (decide (r ≥ 0)) = _
 rw [h2]; rfl
theorem l2After_s (a b : Int × Int) : S_l2After N a b = some (barLeB a b) := by
 unfold S_l2After barLeB
 simp only [cnd_some]
 cases decide (a.1 < b.1) <;> cases a.1 == b.1 <;> rfl
theorem compareInts_s (a b : Int) : I_compareInts N a b = some (cmpI a b) := by
 unfold I_compareInts cmpI
 by_cases h : a < b
 ·simp (disch := omega) only [Int.toNat_natCast, tk0, List.length_cons, List.length_nil, grd_pos, grd_T, grd_R, cnd_dt, cnd_df, cnd_true, cnd_false, Option.bind_some, if_pos h]
 ·by_cases h' : b < a
  ·simp (disch := omega) only [Int.toNat_natCast, tk0, List.length_cons, List.length_nil, grd_pos, grd_T, grd_R, cnd_dt, cnd_df, cnd_true, cnd_false, Option.bind_some, if_neg h, if_pos h', gt_iff_lt]
  ·simp (disch := omega) only [Int.toNat_natCast, tk0, List.length_cons, List.length_nil, grd_pos, grd_T, grd_R, cnd_dt, cnd_df, cnd_true, cnd_false, Option.bind_some, if_neg h, if_neg h', gt_iff_lt]
theorem compareBars_s (a b : Int × Int) : I_compareBars N a b = some (cmpBar a b) := by
 unfold I_compareBars cmpBar
 simp only [compareInts_s, Option.bind_some]
 by_cases h : cmpI a.1 b.1 = 0
 ·rw [if_pos h, cnd_nef h]
 ·rw [if_neg h, cnd_net h]
theorem cmpBar_gt (a b : Int × Int) : decide (cmpBar a b > 0) = !barLeB a b := by
 have := cmpBar_pos a b
 cases h : barLeB a b with
 | true => rw [h] at this; simp at this; simp; omega
 | false => rw [h] at this; simp at this; simp; omega
theorem isGraphS_s (hN : 4000000 ≤ N) {g : Grf} : S_IsGraph N g = some (isGraph g) := by
 unfold S_IsGraph isGraph
 rw [l1In_s, Option.bind_some, cnd_not]
 cases h1 : inB g.n 1 8 with
 | false => rfl
 | true =>
  by_cases h2 : g.bars.length ≤ 24
  ·simp (disch := omega) only [Int.toNat_natCast, tk0, List.length_cons, List.length_nil, grd_pos, grd_T, grd_R, cnd_dt, cnd_df, cnd_true, cnd_false, Option.bind_some]
   refine (srch (len := g.bars.length) (ok := barAt g.n g.bars) (bad := some false) (fin := some true) (by omega) ?_ ?_).trans ?_
   ·intro n i hi _
    rw [S_IsGraph_l1]
    by_cases h0 : i = 0
    ·subst h0
     simp (disch := omega) only [Int.toNat_natCast, tk0, List.length_cons, List.length_nil, grd_pos, grd_T, grd_R, cnd_dt, cnd_df, cnd_true, cnd_false, Option.bind_some, l2After_s, cnd_or, cnd_and, succ_cast]
     refine cnd_congr' ?_ _ _
     simp only [barAt, barOkB]
     rw [Bool.eq_iff_iff]; simp; omega
    ·simp (disch := omega) only [Int.toNat_natCast, tk0, List.length_cons, List.length_nil, grd_pos, grd_T, grd_R, cnd_dt, cnd_df, cnd_true, cnd_false, Option.bind_some, l2After_s, cnd_or, cnd_and, succ_cast, show ((i : Int) - 1).toNat = i - 1 from by omega]
     refine cnd_congr' ?_ _ _
     simp only [barAt, barOkB, decide_eq_false h0, Bool.false_or]
     cases barLeB (g.bars.getD (i - 1) (0, 0)) (g.bars.getD i (0, 0)) <;> (rw [Bool.eq_iff_iff]; simp; try omega)
   ·intro n _
    rw [S_IsGraph_l1]
    simp (disch := omega) only [Int.toNat_natCast, tk0, List.length_cons, List.length_nil, grd_pos, grd_T, grd_R, cnd_dt, cnd_df, cnd_true, cnd_false, Option.bind_some]
   ·rw [cnd_some, cnd_bool]; simp [h2]
  ·simp (disch := omega) only [Int.toNat_natCast, tk0, List.length_cons, List.length_nil, grd_pos, grd_T, grd_R, cnd_dt, cnd_df, cnd_true, cnd_false, Option.bind_some]
   simp [h2]
theorem isGraphI_s (hN : 4000000 ≤ N) {g : Grf} : I_IsGraph N g = some (isGraph g) := by
 unfold I_IsGraph isGraph
 rw [within_s, Option.bind_some, cnd_not]
 cases h1 : inB g.n 1 8 with
 | false => rfl
 | true =>
  by_cases h2 : g.bars.length ≤ 24
  ·simp (disch := omega) only [Int.toNat_natCast, tk0, List.length_cons, List.length_nil, grd_pos, grd_T, grd_R, cnd_dt, cnd_df, cnd_true, cnd_false, Option.bind_some]
   refine (srch (len := g.bars.length) (ok := barAt g.n g.bars) (bad := some false) (fin := some true) (by omega) ?_ ?_).trans ?_
   ·intro n i hi _
    rw [I_IsGraph_l1]
    by_cases h0 : i = 0
    ·subst h0
     simp (disch := omega) only [Int.toNat_natCast, tk0, List.length_cons, List.length_nil, grd_pos, grd_T, grd_R, cnd_dt, cnd_df, cnd_true, cnd_false, Option.bind_some, compareBars_s, cmpBar_gt, cnd_or, cnd_and, succ_cast]
     refine cnd_congr' ?_ _ _
     simp only [barAt, barOkB]
     rw [Bool.eq_iff_iff]; simp; omega
    ·simp (disch := omega) only [Int.toNat_natCast, tk0, List.length_cons, List.length_nil, grd_pos, grd_T, grd_R, cnd_dt, cnd_df, cnd_true, cnd_false, Option.bind_some, compareBars_s, cmpBar_gt, cnd_or, cnd_and, succ_cast, show ((i : Int) - 1).toNat = i - 1 from by omega]
     refine cnd_congr' ?_ _ _
     simp only [barAt, barOkB, decide_eq_false h0, Bool.false_or]
     cases barLeB (g.bars.getD (i - 1) (0, 0)) (g.bars.getD i (0, 0)) <;> (rw [Bool.eq_iff_iff]; simp; try omega)
   ·intro n _
    rw [I_IsGraph_l1]
    simp (disch := omega) only [Int.toNat_natCast, tk0, List.length_cons, List.length_nil, grd_pos, grd_T, grd_R, cnd_dt, cnd_df, cnd_true, cnd_false, Option.bind_some]
   ·rw [cnd_some, cnd_bool]; simp [h2]
  ·simp (disch := omega) only [Int.toNat_natCast, tk0, List.length_cons, List.length_nil, grd_pos, grd_T, grd_R, cnd_dt, cnd_df, cnd_true, cnd_false, Option.bind_some]
   simp [h2]
end Go.Proofs.Ytkklfgcelmeccaa
namespace Go.Proofs.Ytkklfgcelmeccaa
variable {n : Nat} {N : Nat}
structure Gm (n : Nat) (bars : List (Int × Int)) (p : Pbl) (i : Nat) : Prop where
 pg : PG n bars p
 spr : Spr n (p.placed.map (brI bars))
 sp : ∀ j, j < i → ∃ X, Tgt n (p.placed.map (brI bars)) X ∧ inX X (bars.getD j (0, 0)) = true
theorem Gm.skip {bars : List (Int × Int)} {p : Pbl} {i : Nat} (h : Gm n bars p i) (hX : ∃ X, Tgt n (p.placed.map (brI bars)) X ∧ inX X (bars.getD i (0, 0)) = true) : Gm n bars p (i + 1) := ⟨h.pg, h.spr, fun j hj => by
 by_cases e : j = i
 ·subst e; exact hX
 ·exact h.sp j (by omega)⟩
theorem Gm.put {bars : List (Int × Int)} {p p' : Pbl} {i : Nat} (h : Gm n bars p i) (hi : i < bars.length) (hb : Bok n (bars.getD i (0, 0))) (hp : p'.placed = p.placed) (hg : PG n bars p') {t : Int} (ht : t = (bars.getD i (0, 0)).1 ∨ t = (bars.getD i (0, 0)).2) (hf : 1 ≤ p'.free.getD t.toNat 0) (h4 : 4 ≤ p'.free.getD (bars.getD i (0, 0)).1.toNat 0 + p'.free.getD (bars.getD i (0, 0)).2.toNat 0) :
  Gm n bars ⟨p'.free.set t.toNat (p'.free.getD t.toNat 0 - 1), p'.tails ++ [t], p'.placed ++ [(i : Int)]⟩ (i + 1) := by
 have hE : ((p'.placed ++ [(i : Int)]).map (brI bars)) = p.placed.map (brI bars) ++ [bars.getD i (0, 0)] := by rw [hp]; simp
 have hg' := hg.inv
 rw [hp] at hg'
 have hs : Spr n (p.placed.map (brI bars) ++ [bars.getD i (0, 0)]) := hg'.acc h.spr (a := (bars.getD i (0, 0)).1) (b := (bars.getD i (0, 0)).2) hb h4
 refine ⟨⟨?_, fun x hx => ?_⟩, ?_, fun j hj => ?_⟩
 ·show PInv n ((p'.placed ++ [(i : Int)]).map (brI bars)) _ _
  rw [hE]
  exact hg'.put (a := (bars.getD i (0, 0)).1) (b := (bars.getD i (0, 0)).2) hb ht hf
 ·rcases List.mem_append.1 hx with hx | hx
  ·exact hg.pl x hx
  ·simp at hx; subst hx; exact ⟨by omega, by omega⟩
 ·show Spr n ((p'.placed ++ [(i : Int)]).map (brI bars))
  rw [hE]; exact hs
 ·show ∃ X, Tgt n ((p'.placed ++ [(i : Int)]).map (brI bars)) X ∧ _
  rw [hE]
  by_cases e : j = i
  ·subst e
   exact ⟨_, tgt_bar (by simp) hb, by simp [inX, v2]⟩
  ·obtain ⟨X, g1, g2⟩ := h.sp j (by omega)
   exact ⟨X, g1.grow (by rw [spn_append]; omega), g2⟩
theorem Gm.bas {bars : List (Int × Int)} {p : Pbl} (h : Gm n bars p bars.length) : Bas n bars (p.placed.map (brI bars)) := by
 refine ⟨fun e he => ?_, h.spr, fun e he => ?_⟩
 ·obtain ⟨i, hi, rfl⟩ := List.mem_map.1 he
  have := h.pg.pl i hi
  exact getD_mem (by omega)
 ·obtain ⟨j, hj, e'⟩ := List.mem_iff_getElem.1 he
  have := h.sp j hj
  rwa [List.getD_eq_getElem?_getD, List.getElem?_eq_getElem hj, Option.getD_some, e'] at this
theorem Gm.start (bars : List (Int × Int)) : Gm n bars ⟨List.replicate n 2, [], []⟩ 0 := by
 refine ⟨⟨⟨by simp, by simp, by simp, by simp, fun v hv => ?_, fun v hv => ?_⟩, by simp⟩, fun X h => by simp [spn] at h, fun j h => by omega⟩
 ·simp [List.getD_eq_getElem?_getD, List.getElem?_replicate, hv]
 ·simp [List.getD_eq_getElem?_getD, List.getElem?_replicate, hv]
variable {g : Grf} (hN : 4000000 ≤ N) (hn : n ≤ 1000) (hg : g.n = n)
end Go.Proofs.Ytkklfgcelmeccaa
namespace Go.Proofs.Ytkklfgcelmeccaa
variable {n : Nat} {a b : Int} {N : Nat}
theorem mfind_app : ∀ (l : List (Int × Int)) (k v w : Int), mfind (l ++ [(k, v)]) w = match mfind l w with | some p => some p | none => if k = w then some (l.length, v) else none
 | [], k, v, w => by simp [mfind]
 | (x, y) :: l, k, v, w => by
  simp only [List.cons_append, mfind]
  by_cases h : x = w
  ·simp [h]
  ·rw [if_neg h, if_neg h, mfind_app l k v w]
   cases mfind l w with
   | some p => simp
   | none => simp only [Option.map_none]; split <;> simp
theorem mset_new {l : List (Int × Int)} {k v : Int} (h : mhas l k = false) : mset l k v = l ++ [(k, v)] := by
 unfold mhas at h
 unfold mset
 cases hm : mfind l k with
 | none => rfl
 | some p => rw [hm] at h; cases h
theorem mget_new {l : List (Int × Int)} {k v : Int} (h : mhas l k = false) : mget (mset l k v) k = v := by
 rw [mset_new h]
 unfold mget
 rw [mfind_app]
 unfold mhas at h
 cases hm : mfind l k with
 | none => simp
 | some p => rw [hm] at h; cases h
theorem mget_old {l : List (Int × Int)} {k v w : Int} (h : mhas l k = false) (hw : mhas l w = true) : mget (mset l k v) w = mget l w := by
 rw [mset_new h]
 unfold mget
 rw [mfind_app]
 unfold mhas at hw
 cases hm : mfind l w with
 | none => rw [hm] at hw; cases hw
 | some p => rfl
theorem mhas_set {l : List (Int × Int)} {k v w : Int} (h : mhas l k = false) : mhas (mset l k v) w = (mhas l w || k == w) := by
 rw [mset_new h]
 unfold mhas
 rw [mfind_app]
 cases hm : mfind l w with
 | none =>
  by_cases e : k = w
  ·simp [e]
  ·simp [e]
 | some p => simp
theorem otherI_s {e : Int × Int} {v : Int} (h : v = e.1 ∨ v = e.2) : M_Bar_other N e v = some (oth e v) := by
 unfold M_Bar_other oth
 by_cases h1 : e.1 = v
 ·rw [cnd_eqt h1, ← h1]; congr 1; omega
 ·rw [cnd_eqf h1]
  have := h.resolve_left (fun h => h1 h.symm)
  rw [this]; congr 1; omega
theorem copyIntsR {l : List Int} (hl : l.length ≤ 3000000) : I_copyInts N l = some l := by
 unfold I_copyInts
 rw [grd_pos (by first | omega | (simp; omega))]
 rfl
structure FI (n : Nat) (bars : List (Int × Int)) (p : Pbl) (a b : Int) (q : List Int) (mp : List (Int × Int)) : Prop where
 bi : BI n (p.placed.map (brI bars)) p.tails a q (mget mp)
 bz : BZ p.free a b q
 sq : ∀ v : Int, mhas mp v = decide (v ∈ q)
section
variable {bars : List (Int × Int)} {p : Pbl} (hN : 4000000 ≤ N) (hn : n ≤ 1000) (hp : PG n bars p)
include hp in
theorem PG.plAt' {i : Nat} (h : i < p.placed.length) : 0 ≤ p.placed.getD i 0 ∧ p.placed.getD i 0 < (bars.length : Int) := hp.pl _ (getD_mem h)
include hp in
theorem PG.bok' {i : Nat} (h : i < p.placed.length) : Bok n (bars.getD (p.placed.getD i 0).toNat (0, 0)) := by
 rw [← eAt h]; exact hp.inv.ok _ (getD_mem (by simpa using h))
include hp in
theorem turn_s {from' : List (Int × Int)} {q : List Int} {u x v : Int} {kk : List Int → Option (Bool × List Int × List Int × List Int)} (hb : BI n (p.placed.map (brI bars)) p.tails a q (mget (mset from' v x))) :
  ∀ (fuel j : Nat) (T' : List Int), j < q.length → j < fuel → Mv (p.placed.map (brI bars)) p.tails T' u (q.getD j 0) →
   (∀ j', 0 < j' → j' ≤ j → T'.getD (mget (mset from' v x) (q.getD j' 0)).toNat 0 = p.tails.getD (mget (mset from' v x) (q.getD j' 0)).toNat 0) →
   ∃ T'', Mv (p.placed.map (brI bars)) p.tails T'' u a ∧ I_moveTo_l3 N p a from' x v kk fuel (T', q.getD j 0) = kk T'' := by
 intro fuel
 induction fuel with
 | zero => intro j T' _ h; omega
 | succ fuel ih =>
  intro j T' hj hf hm hun
  rw [I_moveTo_l3]
  by_cases h0 : j = 0
  ·subst h0
   refine ⟨T', by rw [hb.hd] at hm; exact hm, ?_⟩
   rw [cnd_nef hb.hd]
  ·have hne : ¬ q.getD j 0 = a := by
    intro e
    rw [← hb.hd] at e
    have hp0 := hb.pos
    rw [List.getD_eq_getElem?_getD, List.getD_eq_getElem?_getD, List.getElem?_eq_getElem hj, List.getElem?_eq_getElem hp0] at e
    have := (List.getElem_inj hb.nd).1 e
    omega
   obtain ⟨j', i, g1, g2, g3, g4, g5, g6, g7⟩ := hb.back hp.inv (by omega) hj hm hun
   have hip : i < p.placed.length := by simpa using g2
   obtain ⟨T'', k1, k2⟩ := ih j' (T'.set i (q.getD j 0)) (by omega) (by omega) g6 g7
   refine ⟨T'', k1, ?_⟩
   have htl := hp.inv.tl
   have hml := hm.len
   simp only [List.length_map] at htl
   simp (disch := omega) only [Int.toNat_natCast, tk0, List.length_cons, List.length_nil, grd_pos, grd_T, grd_R, cnd_dt, cnd_df, cnd_true, cnd_false, Option.bind_some, cnd_net hne, g3, hml, htl, g5, k2]
theorem FI.pushB {q : List Int} {mp : List (Int × Int)} (h : FI n bars p a b q mp) {k i : Nat} {v : Int} (hk : k < q.length) (hi : i < p.placed.length) (ht : p.tails.getD i 0 = q.getD k 0) (hv : oth ((p.placed.map (brI bars)).getD i (0, 0)) (q.getD k 0) = v) (hr : 0 ≤ v ∧ v < n) (hn : v ∉ q) :
  BI n (p.placed.map (brI bars)) p.tails a (q ++ [v]) (mget (mset mp v (i : Int))) := by
 have hm : mhas mp v = false := by rw [h.sq v]; exact decide_eq_false hn
 exact h.bi.push hk (by simpa using hi) ht hv hr hn (mget_new hm) fun w hw => mget_old hm (by rw [h.sq w]; exact decide_eq_true hw)
theorem FI.push {q : List Int} {mp : List (Int × Int)} (h : FI n bars p a b q mp) {k i : Nat} {v : Int} (hk : k < q.length) (hi : i < p.placed.length) (ht : p.tails.getD i 0 = q.getD k 0) (hv : oth ((p.placed.map (brI bars)).getD i (0, 0)) (q.getD k 0) = v) (hr : 0 ≤ v ∧ v < n) (hn : v ∉ q) (hz : v = b ∨ p.free.getD v.toNat 0 = 0) :
  FI n bars p a b (q ++ [v]) (mset mp v (i : Int)) := by
 have hm : mhas mp v = false := by rw [h.sq v]; exact decide_eq_false hn
 refine ⟨h.pushB hk hi ht hv hr hn, h.bz.push hz, fun w => ?_⟩
 rw [mhas_set hm, h.sq w]
 by_cases e : v = w
 ·subst e; simp
 ·have e' : ¬ w = v := fun h => e h.symm
  simp [e, e']
include hN hn hp in
theorem move2_s {k : Nat} {kk : (List Int × List (Int × Int)) → Option (Bool × List Int × List Int × List Int)} (hab : a ≠ b) (hbr : 0 ≤ b ∧ b < n) :
  ∀ (fuel m : Nat) (q : List Int) (mp : List (Int × Int)), m ≤ p.placed.length → p.placed.length < fuel + m → FI n bars p a b q mp → Done (p.placed.map (brI bars)) p.tails q k m → k < q.length →
   (∃ p' : Pbl, I_moveTo_l2 N bars p a b k kk fuel (q, mp, (m : Int)) = some (true, p'.free, p'.tails, p'.placed) ∧ Won n (p.placed.map (brI bars)) p.free p'.free p'.tails a b ∧ p'.placed = p.placed) ∨
   ∃ q' mp', I_moveTo_l2 N bars p a b k kk fuel (q, mp, (m : Int)) = kk (q', mp') ∧ FI n bars p a b q' mp' ∧ Done (p.placed.map (brI bars)) p.tails q' (k + 1) 0 ∧ k < q'.length := by
 intro fuel
 induction fuel with
 | zero => intro m _ _ h1 h2; omega
 | succ fuel ih =>
  intro m q mp h1 h2 hF hD hk
  rw [I_moveTo_l2]
  have hlen : (p.placed.map (brI bars)).length = p.placed.length := by simp
  by_cases hm : m < p.placed.length
  ·have htl := hp.inv.tl
   have hfr := hp.inv.fl
   rw [hlen] at htl
   have hpl := hp.plAt' hm
   have ht2 := hp.inv.tlen
   have hql := hF.bi.len
   by_cases ht : p.tails.getD m 0 = q.getD k 0
   ·have hbk := hp.bok' hm
    have hen := hp.inv.en m (by rw [hlen]; exact hm)
    rw [eAt hm, ht] at hen
    have hr0 := hF.bi.rg _ (getD_mem (d := 0) hk)
    have eo := otherI_s (N := N) hen
    have hvr := oth_rg hbk hen
    generalize hv : oth (bars.getD (p.placed.getD m 0).toNat (0, 0)) (q.getD k 0) = v at hvr
    rw [hv] at eo
    have hvo : oth ((p.placed.map (brI bars)).getD m (0, 0)) (q.getD k 0) = v := by rw [eAt hm, hv]
    have hsq := hF.sq v
    by_cases hs : v ∈ q
    ·have hsq : mhas mp v = true := by rw [hsq]; exact decide_eq_true hs
     simp (disch := omega) only [Int.toNat_natCast, tk0, List.length_cons, List.length_nil, grd_pos, grd_T, grd_R, cnd_dt, cnd_df, cnd_true, cnd_false, Option.bind_some, cnd_nef ht, eo, hsq, succ_cast]
     exact ih (m + 1) q mp (by omega) (by omega) hF (hD.step fun _ _ => by rw [hvo]; exact hs) hk
    ·have hsq : mhas mp v = false := by rw [hsq]; exact decide_eq_false hs
     have hD' : Done (p.placed.map (brI bars)) p.tails (q ++ [v]) k (m + 1) := (hD.push hk).step fun _ _ => by rw [getD_appl hk, hvo]; simp
     by_cases hvb : v = b
     ·have hF' := hF.push (i := m) hk hm ht hvo hvr hs (.inl hvb)
      simp (disch := omega) only [Int.toNat_natCast, tk0, List.length_cons, List.length_nil, grd_pos, grd_T, grd_R, cnd_dt, cnd_df, cnd_true, cnd_false, Option.bind_some, cnd_nef ht, eo, hsq, succ_cast, cnd_eqt hvb]
      exact ih (m + 1) _ _ (by omega) (by omega) hF' hD' (by simp; omega)
     ·by_cases hz : p.free.getD v.toNat 0 = 0
      ·have hF' := hF.push (i := m) hk hm ht hvo hvr hs (.inr hz)
       simp (disch := omega) only [Int.toNat_natCast, tk0, List.length_cons, List.length_nil, grd_pos, grd_T, grd_R, cnd_dt, cnd_df, cnd_true, cnd_false, Option.bind_some, cnd_nef ht, eo, hsq, succ_cast, cnd_eqf hvb, cnd_eqt hz]
       exact ih (m + 1) _ _ (by omega) (by omega) hF' hD' (by simp; omega)
      ·left
       have n0 := hp.inv.nn v.toNat (by omega)
       have n2 := hp.inv.le2 (v := v.toNat) (by omega)
       have hb2 := hF.pushB hk hm ht hvo hvr hs
       have e1 : (q ++ [v]).getD q.length 0 = v := by rw [getD_app]; simp
       have ha : 0 ≤ a ∧ a < n := by have := hF.bi.rg _ (getD_mem (d := 0) hF.bi.pos); rwa [hF.bi.hd] at this
       have hva : v ≠ a := by
        rintro rfl
        have := getD_mem (d := (0 : Int)) hF.bi.pos
        rw [hF.bi.hd] at this
        exact hs this
       obtain ⟨T'', k1, k2⟩ := turn_s hp (N := N) (u := v)
        (kk := fun l310 => grd (p.free.length = (fMove p.free v a).length) <| grd (p.tails.length = l310.length) <| some (true, fMove p.free v a, l310, p.placed)) hb2 N q.length p.tails (by simp) (by omega) (by rw [e1]; exact Mv.start hp.inv _) (fun _ _ _ => rfl)
       rw [e1] at k2
       have b2 : 0 ≤ (p.free.set v.toNat (p.free.getD v.toNat 0 - 1)).getD a.toNat 0 ∧ (p.free.set v.toNat (p.free.getD v.toNat 0 - 1)).getD a.toNat 0 ≤ 2 := by
        rw [getD_set]
        have := hp.inv.le2 (v := a.toNat) (by omega)
        have := hp.inv.nn a.toNat (by omega)
        split <;> omega
       refine ⟨⟨fMove p.free v a, T'', p.placed⟩, ?_, k1.won hp.inv ha hvr hbr hva hvb hab (by omega), rfl⟩
       have t3 := k1.len
       simp only [fMove, List.length_set, grd_T] at k2 ⊢
       simp (disch := omega) only [Int.toNat_natCast, tk0, List.length_cons, List.length_nil, grd_pos, grd_T, grd_R, cnd_dt, cnd_df, cnd_true, cnd_false, Option.bind_some, cnd_nef ht, eo, hsq, succ_cast, cnd_eqf hvb, cnd_eqf hz, List.length_set]
       rw [k2]
       exact grd_pos t3.symm _
   ·simp (disch := omega) only [Int.toNat_natCast, tk0, List.length_cons, List.length_nil, grd_pos, grd_T, grd_R, cnd_dt, cnd_df, cnd_true, cnd_false, Option.bind_some, cnd_net ht, succ_cast]
    exact ih (m + 1) q mp (by omega) (by omega) hF (hD.step fun _ e => absurd e ht) hk
  ·right
   have e : m = (p.placed.map (brI bars)).length := by omega
   refine ⟨q, mp, ?_, hF, by subst e; exact hD.next, hk⟩
   simp (disch := omega) only [Int.toNat_natCast, tk0, List.length_cons, List.length_nil, grd_pos, grd_T, grd_R, cnd_dt, cnd_df, cnd_true, cnd_false, Option.bind_some]
include hN hn hp in
theorem move1_s {kk : Unit → Option (Bool × List Int × List Int × List Int)} (hab : a ≠ b) (hbr : 0 ≤ b ∧ b < n) :
  ∀ (fuel k : Nat) (q : List Int) (mp : List (Int × Int)), n < fuel + k → FI n bars p a b q mp → Done (p.placed.map (brI bars)) p.tails q k 0 → k ≤ q.length →
   (∃ p' : Pbl, I_moveTo_l1 N bars p a b kk fuel (q, mp, (k : Int)) = some (true, p'.free, p'.tails, p'.placed) ∧ Won n (p.placed.map (brI bars)) p.free p'.free p'.tails a b ∧ p'.placed = p.placed) ∨
   (I_moveTo_l1 N bars p a b kk fuel (q, mp, (k : Int)) = kk () ∧ Shut n (p.placed.map (brI bars)) p.free p.tails a b) := by
 intro fuel
 induction fuel with
 | zero => intro k q mp h1 hF hD hk; have := hF.bi.len; omega
 | succ fuel ih =>
  intro k q mp h1 hF hD hk
  have ht2 := hp.inv.tlen
  have htl := hp.inv.tl
  simp only [List.length_map] at htl
  by_cases hkq : k < q.length
  ·have hql := hF.bi.len
   have key := move2_s (k := k) (kk := (fun (x : (List Int) × (List (Int × Int))) =>
     match x with
     | (l287, from288) =>
      grd (Rg64 ((k : Int) + (1 : Int))) <|
      I_moveTo_l1 N bars p a b kk fuel (l287, from288, ((k : Int) + (1 : Int))))) hN hn hp hab hbr N 0 q mp (by omega) (by omega) hF hD hkq
   rw [show ((0 : Nat) : Int) = 0 from rfl] at key
   rcases key with ⟨p', g1, g2, g3⟩ | ⟨q2, m2, g1, g2, g3, g4⟩
   ·left
    refine ⟨p', ?_, g2, g3⟩
    rw [I_moveTo_l1, cnd_dt (by omega)]
    exact g1
   ·have e : I_moveTo_l1 N bars p a b kk (fuel + 1) (q, mp, (k : Int)) = I_moveTo_l1 N bars p a b kk fuel (q2, m2, ((k + 1 : Nat) : Int)) := by
     rw [I_moveTo_l1, cnd_dt (by omega)]
     refine g1.trans ?_
     have := g2.bi.len
     simp (disch := omega) only [Int.toNat_natCast, tk0, List.length_cons, List.length_nil, grd_pos, grd_T, grd_R, cnd_dt, cnd_df, cnd_true, cnd_false, Option.bind_some, succ_cast]
    rw [e]
    exact ih (k + 1) q2 m2 (by omega) g2 g3 (by omega)
  ·right
   refine ⟨?_, hF.bi.shut hF.bz hD (by omega)⟩
   rw [I_moveTo_l1]
   simp (disch := omega) only [Int.toNat_natCast, tk0, List.length_cons, List.length_nil, grd_pos, grd_T, grd_R, cnd_dt, cnd_df, cnd_true, cnd_false, Option.bind_some]
include hN hn hp in
theorem move_s (hb : Bok n (a, b)) :
  (∃ p' : Pbl, I_moveTo N bars p a b = some (true, p'.free, p'.tails, p'.placed) ∧ Won n (p.placed.map (brI bars)) p.free p'.free p'.tails a b ∧ p'.placed = p.placed) ∨
  (I_moveTo N bars p a b = some (false, p.free, p.tails, p.placed) ∧ Shut n (p.placed.map (brI bars)) p.free p.tails a b) := by
 obtain ⟨h1, h2, h3, h4, h5⟩ := hb
 simp only at h1 h2 h3 h4 h5
 have key := move1_s (kk := fun _ => some (false, p.free, p.tails, p.placed)) hN hn hp h5 ⟨h3, h4⟩ N 0 [a] (mset [] a (-1)) (by omega) ⟨BI.start ⟨h1, h2⟩, fun v hv h _ => absurd (by simpa using hv) h, fun v => by
  rw [mhas_set rfl]
  by_cases e : a = v
  ·subst e; simp
  ·have e' : ¬ v = a := fun h => e h.symm
   have : mhas [] v = false := rfl
   simp [e, e', this]⟩ Done.start (by simp)
 rw [show ((0 : Nat) : Int) = 0 from rfl] at key
 unfold I_moveTo
 exact key
end
section
variable {bars : List (Int × Int)} (hN : 4000000 ≤ N) (hn : n ≤ 1000)
include hN hn in
theorem gatherI1_s (hb : Bok n (a, b)) {kk : (List Int × List Int × List Int) → Option (Bool × List Int × List Int × List Int)} : ∀ (fuel : Nat) (p : Pbl), PG n bars p → 4 < fuel + (p.free.getD a.toNat 0 + p.free.getD b.toNat 0) →
  ∃ p' : Pbl, p'.placed = p.placed ∧ PG n bars p' ∧ ((I_gather_l1 N bars a b 4 kk fuel (p.free, p.tails, p.placed) = kk (p'.free, p'.tails, p'.placed) ∧ 4 ≤ p'.free.getD a.toNat 0 + p'.free.getD b.toNat 0) ∨
   (I_gather_l1 N bars a b 4 kk fuel (p.free, p.tails, p.placed) = some (false, p'.free, p'.tails, p'.placed) ∧ ∃ X, Tgt n (p.placed.map (brI bars)) X ∧ inX X (a, b) = true)) := by
 obtain ⟨h1, h2, h3, h4, h5⟩ := id hb
 simp only at h1 h2 h3 h4 h5
 intro fuel
 induction fuel with
 | zero =>
  intro p hp hf
  have := hp.inv.le2 (v := a.toNat) (by omega)
  have := hp.inv.le2 (v := b.toNat) (by omega)
  omega
 | succ fuel ih =>
  intro p hp hf
  have fl := hp.inv.fl
  have l1 := hp.inv.le2 (v := a.toNat) (by omega)
  have l2 := hp.inv.le2 (v := b.toNat) (by omega)
  have n1 := hp.inv.nn a.toNat (by omega)
  have n2 := hp.inv.nn b.toNat (by omega)
  rw [I_gather_l1]
  have e : (⟨p.free, p.tails, p.placed⟩ : Pbl) = p := rfl
  by_cases hs : p.free.getD a.toNat 0 + p.free.getD b.toNat 0 < 4
  ·rcases move_s hN hn hp hb with ⟨p1, f1, f2, f3⟩ | ⟨f1, f2⟩
   ·obtain ⟨p', g1, g2, g3⟩ := ih p1 (f2.pg hp f3) (by have := f2.symm'; omega)
    refine ⟨p', g1.trans f3, g2, ?_⟩
    rw [f3] at g3
    simp (disch := omega) only [Int.toNat_natCast, tk0, List.length_cons, List.length_nil, grd_pos, grd_T, grd_R, cnd_dt, cnd_df, cnd_true, cnd_false, Option.bind_some, e, f1, Bool.not_true]
    rw [f3]
    exact g3
   ·rcases move_s hN hn hp hb.swap with ⟨p1, k1, k2, k3⟩ | ⟨k1, k2⟩
    ·obtain ⟨p', g1, g2, g3⟩ := ih p1 (k2.pg hp k3) (by have := k2.symm'; omega)
     refine ⟨p', g1.trans k3, g2, ?_⟩
     rw [k3] at g3
     simp (disch := omega) only [Int.toNat_natCast, tk0, List.length_cons, List.length_nil, grd_pos, grd_T, grd_R, cnd_dt, cnd_df, cnd_true, cnd_false, Option.bind_some, e, f1, k1, Bool.not_true, Bool.not_false]
     rw [k3]
     exact g3
    ·refine ⟨p, rfl, hp, .inr ⟨?_, Shut.tgt hp.inv hb f2 k2 (by omega)⟩⟩
     simp (disch := omega) only [Int.toNat_natCast, tk0, List.length_cons, List.length_nil, grd_pos, grd_T, grd_R, cnd_dt, cnd_df, cnd_true, cnd_false, Option.bind_some, e, f1, k1, Bool.not_false]
  ·refine ⟨p, rfl, hp, .inl ⟨?_, by omega⟩⟩
   simp (disch := omega) only [Int.toNat_natCast, tk0, List.length_cons, List.length_nil, grd_pos, grd_T, grd_R, cnd_dt, cnd_df, cnd_true, cnd_false, Option.bind_some]
include hN hn in
theorem gatherI_s (hb : Bok n (a, b)) {p : Pbl} (hp : PG n bars p) : ∃ p' : Pbl, p'.placed = p.placed ∧ PG n bars p' ∧ ((I_gather N bars p a b 4 = some (true, p'.free, p'.tails, p'.placed) ∧ 4 ≤ p'.free.getD a.toNat 0 + p'.free.getD b.toNat 0) ∨
   (I_gather N bars p a b 4 = some (false, p'.free, p'.tails, p'.placed) ∧ ∃ X, Tgt n (p.placed.map (brI bars)) X ∧ inX X (a, b) = true)) := by
 obtain ⟨h1, h2, h3, h4, h5⟩ := id hb
 simp only at h1 h2 h3 h4 h5
 have n1 := hp.inv.nn a.toNat (by omega)
 have n2 := hp.inv.nn b.toNat (by omega)
 exact gatherI1_s hN hn hb (kk := fun x => match x with | (l11, l12, l13) => some (true, l11, l12, l13)) N p hp (by omega)
include hN hn in
theorem placeI_s {p : Pbl} {i : Nat} (hi : i < bars.length) (hbl : bars.length ≤ 1000) (hb : ∀ e ∈ bars, Bok n e) (h : Gm n bars p i) :
  (∃ p' : Pbl, I_place N bars 3 p i = some (true, p'.free, p'.tails, p'.placed) ∧ Gm n bars p' (i + 1)) ∨ ((∃ x, I_place N bars 3 p i = some (false, x)) ∧ Gm n bars p (i + 1)) := by
 have hbi := hb _ (getD_mem (d := (0, 0)) hi)
 have r1 := hbi.1
 have r2 := hbi.2.1
 have r3 := hbi.2.2.1
 have r4 := hbi.2.2.2.1
 have e : (⟨p.free, p.tails, p.placed⟩ : Pbl) = p := rfl
 have e4 : (3 : Int) + 1 = 4 := rfl
 obtain ⟨p', g1, g2, ⟨g3, g4⟩ | ⟨g3, g4⟩⟩ := gatherI_s hN hn (bars := bars) (a := (bars.getD i (0, 0)).1) (b := (bars.getD i (0, 0)).2) hbi h.pg
 ·left
  have le1 := g2.inv.le2 (v := (bars.getD i (0, 0)).2.toNat) (by omega)
  have le2 := g2.inv.le2 (v := (bars.getD i (0, 0)).1.toNat) (by omega)
  have hput := h.put hi hbi g1 g2 (.inl rfl) (by omega) g4
  refine ⟨_, ?_, hput⟩
  have fl := g2.inv.fl
  have tl := g2.inv.tl
  simp only [List.length_map] at tl
  have t2 := g2.inv.tlen
  unfold I_place
  have hz : ¬ p'.free.getD (bars.getD i (0, 0)).1.toNat 0 = 0 := by omega
  simp (disch := omega) only [Int.toNat_natCast, tk0, List.length_cons, List.length_nil, grd_pos, grd_T, grd_R, cnd_dt, cnd_df, cnd_true, cnd_false, Option.bind_some, e, e4, g3, Bool.not_true, jn_def, cnd_eqf hz, List.length_set]
 ·right
  refine ⟨⟨(p'.free, p'.tails, p'.placed), ?_⟩, h.skip g4⟩
  unfold I_place
  simp (disch := omega) only [Int.toNat_natCast, tk0, List.length_cons, List.length_nil, grd_pos, grd_T, grd_R, cnd_dt, cnd_df, cnd_true, cnd_false, Option.bind_some, e, e4, g3, Bool.not_false]
include hN hn in
theorem play1_s (hb : ∀ e ∈ bars, Bok n e) (hl : bars.length ≤ 1000) {kk : (List Int × List Int × List Int) → Option Pbl} : ∀ (fuel i : Nat) (p : Pbl), i ≤ bars.length → bars.length < fuel + i → Gm n bars p i →
  ∃ p' : Pbl, Gm n bars p' bars.length ∧ I_play_l1 N bars 3 kk fuel (p.free, p.tails, p.placed, (i : Int)) = kk (p'.free, p'.tails, p'.placed) := by
 intro fuel
 induction fuel with
 | zero => intro i p h1 h2; omega
 | succ fuel ih =>
  intro i p h1 h2 h
  rw [I_play_l1]
  by_cases hi : i < bars.length
  ·have e : (⟨p.free, p.tails, p.placed⟩ : Pbl) = p := rfl
   have fl := h.pg.inv.fl
   have tl := h.pg.inv.tl
   simp only [List.length_map] at tl
   have t2 := h.pg.inv.tlen
   have ec : I_copyPebbles N p = some p := by
    unfold I_copyPebbles
    rw [copyIntsR (by omega), copyIntsR (by omega), copyIntsR (by omega)]
    rfl
   rcases placeI_s hN hn hi hl hb h with ⟨p', g1, g2⟩ | ⟨⟨x, g1⟩, g2⟩
   ·obtain ⟨p2, k1, k2⟩ := ih (i + 1) p' (by omega) (by omega) g2
    refine ⟨p2, k1, ?_⟩
    simp (disch := omega) only [Int.toNat_natCast, tk0, List.length_cons, List.length_nil, grd_pos, grd_T, grd_R, cnd_dt, cnd_df, cnd_true, cnd_false, Option.bind_some, e, ec, g1, succ_cast]
    exact k2
   ·obtain ⟨p2, k1, k2⟩ := ih (i + 1) p (by omega) (by omega) g2
    refine ⟨p2, k1, ?_⟩
    simp (disch := omega) only [Int.toNat_natCast, tk0, List.length_cons, List.length_nil, grd_pos, grd_T, grd_R, cnd_dt, cnd_df, cnd_true, cnd_false, Option.bind_some, e, ec, g1, succ_cast]
    exact k2
  ·have e : i = bars.length := by omega
   subst e
   refine ⟨p, h, ?_⟩
   simp (disch := omega) only [Int.toNat_natCast, tk0, List.length_cons, List.length_nil, grd_pos, grd_T, grd_R, cnd_dt, cnd_df, cnd_true, cnd_false, Option.bind_some]
end
end Go.Proofs.Ytkklfgcelmeccaa
namespace Go.Proofs.Ytkklfgcelmeccaa
open Go.RowKit Go.Deep
section
variable {C : Cx} {ops : Array Oper} {K : PS → Prop} {l : List Oper} {s s' : PS} {TT : List (Nat × Ty)} {tm : List (Nat × D)} {rw' : List (Nat × Option (TypeId × Sq))} {bx : List (Nat × Option (List D))}
theorem vEnO (hl : En C s s') (h : VO C ops K l s') : VO C ops K l s := ⟨fun M a w Q hr hk => by
 obtain ⟨M', h'⟩ := hl.out M a w hr
 exact h.out M' a w Q h' hk⟩
theorem oRowT (t r : Nat) {n n' : Nat} (hn : n = n') (ht : (PS.t ⟨tm, rw', bx⟩ t) = .row r 0 n) (h : VO C ops K l ⟨(t, .row r 0 n') :: tm, rw', bx⟩) : VO C ops K l ⟨tm, rw', bx⟩ := by
 subst hn
 refine vEnO (s' := ⟨(t, .row r 0 n) :: tm, rw', bx⟩) ⟨fun M a w hr => ⟨M, hr.sameT (fun x => ?_) rfl rfl⟩⟩ h
 by_cases hx : t = x
 ·subst hx
  rw [ht]; simp [PS.t, look_cons_self]
 ·simp [PS.t, look_cons_ne hx]
end
section
end
section
variable {C : Cx} {ops : Array Oper} {K : PS → Prop} {l : List Oper} {s s' : PS} {TT : List (Nat × Ty)} {tm : List (Nat × D)} {rw' : List (Nat × Option (TypeId × Sq))} {bx : List (Nat × Option (List D))}
variable {o : Oper} {rest : List Oper} {rk rids bk bids pids : List Nat}
theorem oMCloX {f : FuncId} {x : Operand} {args : Array Operand} {ts : Array TypeId} {bs : List Nat} {r0 r1 : List (TypeId × Sq)} {b0 b1 : List (List D)} {d : D} (cs : List Nat) (ds : List D) (hp : MCall C.P f (ds ++ cs.map fun b => .ptr b 0) rk bk r0 r1 b0 b1 d) (rids bids pids : List Nat) (hg : o.guard = none) (hop : o.op = .call { callee := .value x, args := args, argTypes := ts })
  (hx : (PS.ev ⟨tm, rw', bx⟩ x) = .clo f bs) (hcs : cs.map (sgm bk bids) = bs) (hin : cs.all (isInL bk) = true) (hn : dstOk C.n o.dst = true)
  (hchk : mchk rk rids bk bids pids = true) (hf : frB ⟨tm, rw', bx⟩ noB (newP rids pids) = true)
  (hnf : nf ((PS.after ⟨tm, rw', bx⟩ rids pids r1 bids (b1.map fun cs => cs.map (renS (sgm bk bids) (sgm rk pids)))).put o.dst (ren (sgm bk bids) (sgm rk pids) d)) = some s')
  (hr : pairOk (PS.r ⟨tm, rw', bx⟩) rids r0) (hb : pairOk (PS.b ⟨tm, rw', bx⟩) bids (b0.map fun cs => cs.map (renS (sgm bk bids) (sgm rk rids)))) (hfit : fitsM rk rids bk bids ⟨tm, rw', bx⟩ args.toList ds) (h : VO C ops K rest s') (hrf : rfB ⟨tm, rw', bx⟩ rids = true := by rfl) : VO C ops K (o :: rest) ⟨tm, rw', bx⟩ :=
 vOp hg (sMClo hop hx hp hcs hin hn hchk hrf (frB_ok hf) hr hb hfit (vNf hnf h))
end
section
end
section
variable {C : Cx} {ops : Array Oper} {K : PS → Prop} {o : Oper} {rest : List Oper} {s s' : PS} {TT : List (Nat × Ty)} {tm : List (Nat × D)} {rw' : List (Nat × Option (TypeId × Sq))} {bx : List (Nat × Option (List D))} {cr B : List Nat} {j : Nat}
end
end Go.Proofs.Ytkklfgcelmeccaa
namespace Go.Proofs.Ytkklfgcelmeccaa
open Go.RowKit
end Go.Proofs.Ytkklfgcelmeccaa
namespace Go.Proofs.Ytkklfgcelmeccaa
open Go.RowKit
end Go.Proofs.Ytkklfgcelmeccaa
namespace Go.Proofs.Ytkklfgcelmeccaa
open Go.RowKit Go.Deep
def klXS (r : Nat) : D → D
 | .row x o n => match (Nat.beq x r || !notF x) with | true => .dead | false => .row x o n
 | .eptr x i o => match (Nat.beq x r || !notF x) with | true => .dead | false => .eptr x i o
 | .agg _ | .tup _ | .irow _ _ _ | .iptr _ _ _ _ => .dead
 | d => d
def klXA (r : Nat) : D → D
 | .agg l => .agg (l.map (klXS r))
 | d => klXS r d
def klX (r : Nat) : D → D
 | .tup l => .tup (l.map (klXA r))
 | d => klXA r d
def PS.killX (s : PS) (r : Nat) : PS := ⟨s.tmp.map fun p => (p.1, klX r p.2), s.row, s.box.map fun p => (p.1, p.2.map fun cs => cs.map (klXS r))⟩
section
variable {M M' : Mp} {A A' : Bool → Nat → Prop} {w w' : World} {r : Nat} {s : PS}
theorem VR.klXS (hA : ∀ f b, b < w.heap.size → A f b → A' f b ∧ b < w'.heap.size ∧ w'.heap[b]? = w.heap[b]?) (hγ : ∀ x y, x ≠ r → notF x = true → M'.γ x = some y → M.γ x = some y) (hβ : ∀ b k, M'.β b = some k → M.β b = some k)
  {d : D} {v : Value} (h : VR M A w d v) : VR M' A' w' (klXS r d) v := by
 cases h with
 | dead v => exact .dead v
 | int n => exact .int n
 | bool b => exact .bool b
 | val v h => exact .val v h
 | nil ao => exact .nil ao
 | ro f q ao cap b o u hn hc hao hu hv => exact VR.ro_any (.ro f q ao cap b o u hn hc hao hu hv) hA
 | row x off n v h1 h =>
  simp only [Ytkklfgcelmeccaa.klXS]
  split
  ·exact .dead _
  ·rename_i hx
   rw [Bool.or_eq_false_iff] at hx
   exact .row _ off n v h1 fun y hy => h y (hγ _ y (fun e => by subst e; rw [Nat.beq_refl] at hx; cases hx.1) (by simpa using hx.2) hy)
 | ptr b off v h1 h => exact .ptr _ off v h1 fun k hk => h k (hβ b k hk)
 | eptr x i off v h =>
  simp only [Ytkklfgcelmeccaa.klXS]
  split
  ·exact .dead _
  ·rename_i hx
   rw [Bool.or_eq_false_iff] at hx
   exact .eptr _ i off v fun g c z hg => h g c z (hγ _ _ (fun e => by subst e; rw [Nat.beq_refl] at hx; cases hx.1) (by simpa using hx.2) hg)
 | rptr f q i off b o u hb hA' hu hv => exact VR.rptr_any (.rptr f q i off b o u hb hA' hu hv) hA
 | agg l us hl h => exact .dead _
 | tup l us hl h => exact .dead _
 | clo f bs v h1 h => exact .clo f bs v h1 fun ks hk => h ks (capsOf_mono' (fun b _ => hβ b) hk)
 | map k l es clock h hl hk => obtain ⟨a1, a2, a3⟩ := hA _ k (heap_lt h) hk; exact .map k l es clock (a3.trans h) hl a1
 | any v h1 => exact .any v h1
 | irow F k n v h1 h => exact .dead _
 | iptr F k i off v h => exact .dead _
 | fam te q v => exact .fam te q v
theorem VR.klXA (hA : ∀ f b, b < w.heap.size → A f b → A' f b ∧ b < w'.heap.size ∧ w'.heap[b]? = w.heap[b]?) (hγ : ∀ x y, x ≠ r → notF x = true → M'.γ x = some y → M.γ x = some y) (hβ : ∀ b k, M'.β b = some k → M.β b = some k)
  {d : D} {v : Value} (h : VR M A w d v) : VR M' A' w' (klXA r d) v := by
 cases d with
 | agg l =>
  cases h with | agg _ us hl h =>
  refine .agg _ us (by simpa using hl) fun i d hd => ?_
  rw [List.getElem?_map] at hd
  obtain ⟨d0, h0, rfl⟩ := Option.map_eq_some_iff.1 hd
  exact (h i d0 h0).klXS hA hγ hβ
 | _ => exact VR.klXS hA hγ hβ h
theorem VR.klX (hA : ∀ f b, b < w.heap.size → A f b → A' f b ∧ b < w'.heap.size ∧ w'.heap[b]? = w.heap[b]?) (hγ : ∀ x y, x ≠ r → notF x = true → M'.γ x = some y → M.γ x = some y) (hβ : ∀ b k, M'.β b = some k → M.β b = some k)
  {d : D} {v : Value} (h : VR M A w d v) : VR M' A' w' (klX r d) v := by
 cases d with
 | tup l =>
  cases h with | tup _ us hl h =>
  refine .tup _ us (by simpa using hl) fun i d hd => ?_
  rw [List.getElem?_map] at hd
  obtain ⟨d0, h0, rfl⟩ := Option.map_eq_some_iff.1 hd
  exact (h i d0 h0).klXA hA hγ hβ
 | _ => exact VR.klXA hA hγ hβ h
theorem PS.t_killX (s : PS) (r t : Nat) : (s.killX r).t t = klX r (s.t t) := by
 unfold PS.t PS.killX
 simp only [look_map (klX r)]
 cases look s.tmp t <;> rfl
theorem PS.b_killX (s : PS) (r b : Nat) : (s.killX r).b b = (s.b b).map fun cs => cs.map (klXS r) := by
 unfold PS.b PS.killX
 simp only [look_map (fun (x : Option (List D)) => x.map fun cs => cs.map (Ytkklfgcelmeccaa.klXS r))]
 cases look s.box b <;> rfl
end
def lone (s : PS) (R F : Nat) : Bool := s.row.all fun p => Nat.beq p.1 R || (match s.r p.1 with | some (_, q) => (match q.refF with | some G => !Nat.beq G F && Nat.blt G 4294967296 | none => true) | none => true)
theorem lone_ok {s : PS} {R F : Nat} (hl : lone s R F = true) {x : Nat} {e : TypeId} {q : Sq} {G : Nat} (hx : s.r x = some (e, q)) (hG : q.refF = some G) : x = R ∨ (G ≠ F ∧ G < 4294967296) := by
 cases hb : Nat.ble BIG x with
 | true =>
  rw [PS.r_hi _ hb] at hx
  have := famr_flat hx
  cases q <;> simp [Sq.refF, Sq.isRefs] at hG this
 | false =>
  have hx' := hx
  rw [PS.r_lo _ hb] at hx'
  split at hx'
  ·rename_i y hy
   have := (List.all_eq_true.1 hl) _ (look_mem hy)
   simp only [hx, hG, Bool.or_eq_true, Bool.and_eq_true, Bool.not_eq_true', Nat.blt_eq] at this
   rcases this with h1 | ⟨h1, h2⟩
   ·exact .inl (Nat.eq_of_beq_eq_true h1)
   ·exact .inr ⟨fun e => (by rw [e, Nat.beq_refl] at h1; cases h1), h2⟩
  ·cases hx'
section
variable {w0 : World} {O0 : Hd} {n : Nat} {M : Mp} {s : PS} {a : Act} {w : World}
theorem Rel.remap (h : Rel w0 O0 n M s a w) {M' : Mp} {s' : PS} (r F : Nat) (hF : F < 4294967296) (hβ : ∀ b, M'.β b = M.β b) (hsub : ∀ x k c z, M'.γ x = some (some (k, c, z)) → ∃ y, M.γ y = some (some (k, c, z)))
  (hinj : ∀ x y k c z c' z', M'.γ x = some (some (k, c, z)) → M'.γ y = some (some (k, c', z')) → x = y)
  (hγ' : ∀ x y, x ≠ r → notF x = true → M'.γ x = some y → M.γ x = some y) (hγk : ∀ x y, x ≠ FK + F → notF x = false → Nat.ble BIG x = false → M'.γ x = some y → M.γ x = some y) (hrr : r < 1000000 ∨ M'.γ r = none) (hfk : ∀ u u', O0.fr (FK + F) = some u → M'.γ (FK + F) = some u' → u' = u)
  (hbg : ∀ G k y, G < 4294967296 → G ≠ F → M'.γ (inn G k) = some y → M.γ (inn G k) = some y)
  (ht : ∀ t, VR M' (Ow (Fs w0 O0) M') w (s'.t t) (a.tmps.getD t undef)) (hb : ∀ b, s'.b b = (s.b b).map fun cs => cs.map (klXS r))
  (hrow : ∀ x e q, s'.r x = some (e, q) → (s.r x = some (e, q) ∧ M'.γ x = M.γ x ∧ ∀ G, q.refF = some G → G ≠ F ∧ G < 4294967296) ∨ RowAt (Fs w0 O0) M' w x e q) (hrown : ∀ x, s'.r x = none → M'.γ x = none) : Rel w0 O0 n M' s' a w := by
 have hown : ∀ k, M'.owned k → M.owned k := by
  rintro k (⟨b, hb⟩ | ⟨y, c, z, hy⟩)
  ·exact .inl ⟨b, by rw [← hβ]; exact hb⟩
  ·obtain ⟨x, hx⟩ := hsub _ _ _ _ hy; exact .inr ⟨x, c, z, hx⟩
 have hA : ∀ f b, b < w.heap.size → Ow (Fs w0 O0) M f b → Ow (Fs w0 O0) M' f b ∧ b < w.heap.size ∧ w.heap[b]? = w.heap[b]? := fun f b h1 h2 => ⟨⟨fun h3 => h2.1 (hown b h3), h2.2⟩, h1, rfl⟩
 refine ⟨h.fr, h.dfr, h.sz, ht, fun b cs hx => ?_, fun b hx => ?_, fun x e q hx => ?_, hrown, fun k hk => h.low k (hown k hk), fun b b' k h1 h2 => h.inj1 b b' k (by rw [← hβ]; exact h1) (by rw [← hβ]; exact h2), hinj, fun b x k c z h1 h2 => ?_, h.nle, fun b k k' h1 h2 => h.fxb b k k' h1 (by rw [← hβ]; exact h2), fun x u u' h1 h2 => ?_⟩
 ·rw [hb] at hx
  obtain ⟨cs0, h0, rfl⟩ := Option.map_eq_some_iff.1 hx
  obtain ⟨k, cur, e2, a1, a2, a3, a4⟩ := h.box b cs0 h0
  refine ⟨k, cur, e2, by rw [hβ]; exact a1, a2, by simpa using a3, fun j d hd => ?_⟩
  rw [List.getElem?_map] at hd
  obtain ⟨d0, h1, rfl⟩ := Option.map_eq_some_iff.1 hd
  exact VR.klXS hA hγ' (fun b k hk => by rw [← hβ]; exact hk) (a4 j d0 h1)
 ·rw [hb] at hx
  rw [hβ]; exact h.boxn b (by simpa using hx)
 ·rcases hrow x e q hx with ⟨h1, h2, h3⟩ | h1
  ·rcases h.row x e q h1 with ⟨g1, g2⟩ | ⟨g, cap, cur, g1, g2, g3, g4, g5, g6⟩
   ·exact .inl ⟨h2.trans g1, g2⟩
   ·refine .inr ⟨g, cap, cur, h2.trans g1, g2, g3, g4, g5, fun i j d hi hd => (g6 i j d hi hd).relem_any2 hd hA fun G hG k y hy => ?_⟩
    exact hbg G k y (h3 G hG).2 (h3 G hG).1 hy
  ·exact h1
 ·obtain ⟨y, hy⟩ := hsub _ _ _ _ h2
  exact h.inj3 _ _ _ _ _ (by rw [← hβ]; exact h1) hy
 ·obtain ⟨h3, h4⟩ := O0.lor x u h1
  have hb1 : Nat.ble BIG x = false := by
   cases hb : Nat.ble BIG x with
   | false => rfl
   | true => have := Nat.le_of_ble_eq_true hb; omega
  by_cases hxr : x = r
  ·subst hxr
   rcases hrr with h5 | h5
   ·omega
   ·rw [h5] at h2; cases h2
  ·cases hn : notF x with
   | true => exact h.fxr x u u' h1 (hγ' x u' hxr hn h2)
   | false =>
    by_cases hxf : x = FK + F
    ·rw [hxf] at h1 h2; exact hfk u u' h1 h2
    ·exact h.fxr x u u' h1 (hγk x u' hxf hn hb1 h2)
end
end Go.Proofs.Ytkklfgcelmeccaa
namespace Go.Proofs.Ytkklfgcelmeccaa
open Go.RowKit Go.Deep
def Fq.len : Fq → Nat
 | .ints L => L.length | .pairs L => L.length | .bools L => L.length
def Fq.push : Fq → Sq → Option Fq
 | .ints L, .ints c => some (.ints (L ++ [some c])) | .pairs L, .pairs c => some (.pairs (L ++ [some c])) | .bools L, .bools c => some (.bools (L ++ [some c]))
 | _, _ => none
def Fq.hole : Fq → Nat → Fq
 | .ints L, k => .ints (L.set k none) | .pairs L, k => .pairs (L.set k none) | .bools L, k => .bools (L.set k none)
theorem getD_snoc {α : Type} (L : List (Option α)) (c : α) (k : Nat) : (L ++ [some c]).getD k none = if k = L.length then some c else L.getD k none := by
 by_cases h : k = L.length
 ·subst h; simp
 ·rw [if_neg h]
  by_cases h2 : k < L.length
  ·simp [List.getElem?_append_left h2]
  ·have h3 : L.length < k := by omega
   simp [List.getElem?_append_right (show L.length ≤ k by omega), List.getElem?_eq_none (show L.length ≤ k by omega), List.getElem?_eq_none (show [some c].length ≤ k - L.length by simp; omega)]
theorem Fq.get_push {fq fq' : Fq} {c : Sq} (h : fq.push c = some fq') (k : Nat) : fq'.get k = if k = fq.len then some c else fq.get k := by
 cases fq <;> cases c <;> simp only [Fq.push, reduceCtorEq, Option.some.injEq] at h <;> subst h <;> simp only [Fq.get, Fq.len, getD_snoc] <;> (rename_i L l; by_cases hk : k = L.length <;> simp [hk])
theorem Fq.get_flat {fq : Fq} {k : Nat} {c : Sq} (h : fq.get k = some c) : c.isRefs = false := by
 cases fq <;> simp only [Fq.get] at h <;> split at h <;> first | (cases h; done) | (cases h; rfl)
theorem inn_of {x : Nat} (h : Nat.ble BIG x = true) : inn (unF x) (unK x) = x := by
 have h1 := Nat.le_of_ble_eq_true h
 have e : ∀ y : Nat, y / 4294967296 * 4294967296 + y % 4294967296 % 4294967296 = y := fun y => by omega
 have := e (x - BIG)
 unfold inn unF unK
 rw [this]
 omega
theorem fam_r {s : PS} {F : Nat} (hF : F < 4294967296) {te : TypeId} {fq : Fq} (hf : s.r (FK + F) = some (te, .fam fq)) (i : Nat) : s.r (inn F i) = match fq.get i with | some c => some (te, c) | none => none := by
 rw [PS.r_hi _ (inn_hi F i), PS.inn_r, fk_unF hF, hf, unK_inn]
 rfl
def famM (M : Mp) (r F : Nat) (fq : Fq) (g : Nat → Nat) : Mp := ⟨M.β, fun x => match Nat.ble BIG x with
 | true => if unF x = F then (match fq.get (unK x) with | some _ => M.γ (g (unK x)) | none => none) else M.γ x
 | false => if x = r then none else M.γ x⟩
theorem famM_hi (M : Mp) (r F : Nat) (fq : Fq) (g : Nat → Nat) {x : Nat} (hb : Nat.ble BIG x = true) (hu : unF x = F) : (famM M r F fq g).γ x = match fq.get (unK x) with | some _ => M.γ (g (unK x)) | none => none := by
 simp only [famM]
 rw [hb]
 simp [hu]
theorem famM_hi2 (M : Mp) (r F : Nat) (fq : Fq) (g : Nat → Nat) {x : Nat} (hb : Nat.ble BIG x = true) (hu : unF x ≠ F) : (famM M r F fq g).γ x = M.γ x := by
 simp only [famM]
 rw [hb]
 simp [hu]
theorem famM_inn (M : Mp) (r F : Nat) (fq : Fq) (g : Nat → Nat) (hF : F < 4294967296) (k : Nat) : (famM M r F fq g).γ (inn F k) = match fq.get k with | some _ => M.γ (g k) | none => none := by
 have := famM_hi M r F fq g (inn_hi F k) (by rw [unF_inn, Nat.mod_eq_of_lt hF])
 rw [unK_inn] at this
 exact this
theorem famM_inn2 (M : Mp) (r F : Nat) (fq : Fq) (g : Nat → Nat) {G : Nat} (hG : G < 4294967296) (hne : G ≠ F) (k : Nat) : (famM M r F fq g).γ (inn G k) = M.γ (inn G k) :=
 famM_hi2 M r F fq g (inn_hi G k) (by rw [unF_inn, Nat.mod_eq_of_lt hG]; exact hne)
theorem famM_lo (M : Mp) (r F : Nat) (fq : Fq) (g : Nat → Nat) {x : Nat} (hb : Nat.ble BIG x = false) (hx : x ≠ r) : (famM M r F fq g).γ x = M.γ x := by
 simp only [famM]
 rw [hb]
 simp [hx]
theorem famM_r (M : Mp) (r F : Nat) (fq : Fq) (g : Nat → Nat) (hb : Nat.ble BIG r = false) : (famM M r F fq g).γ r = none := by
 simp only [famM]
 rw [hb]
 simp
theorem VR.irow_mv {M M' : Mp} {A A' : Bool → Nat → Prop} {w w' : World} {F F' k k' n : Nat} {v : Value} (hv : VR M A w (.irow F k n) v) (h : ∀ x, M'.γ (inn F' k') = some x → M.γ (inn F k) = some x) : VR M' A' w' (.irow F' k' n) v := by
 cases hv with | irow _ _ _ _ h1 h2 => exact .irow _ _ _ _ h1 fun x hx => h2 x (h x hx)
theorem VR.irow_of {M M' : Mp} {A A' : Bool → Nat → Prop} {w w' : World} {F' r k' n : Nat} {v : Value} (hv : VR M A w (.row r 0 n) v) (h : ∀ x, M'.γ (inn F' k') = some x → M.γ r = some x) : VR M' A' w' (.irow F' k' n) v := by
 cases hv with | row _ _ _ _ h1 h2 => exact .irow _ _ _ _ h1 fun x hx => h2 x (h x hx)
theorem RowAt.mv {F : Bool → Nat → Prop} {M M' : Mp} {w : World} {x y : Nat} {e : TypeId} {q : Sq} (h : RowAt F M w x e q) (hq : q.isRefs = false) (hγ : M'.γ y = M.γ x) (hA : ∀ f b, b < w.heap.size → Ow F M f b → Ow F M' f b ∧ b < w.heap.size ∧ w.heap[b]? = w.heap[b]?) : RowAt F M' w y e q := by
 rcases h with ⟨g1, g2⟩ | ⟨g, cap, cur, g1, g2, g3, g4, g5, g6⟩
 ·exact .inl ⟨hγ.trans g1, g2⟩
 ·refine .inr ⟨g, cap, cur, hγ.trans g1, g2, g3, g4, g5, fun i j d hi hd => ?_⟩
  have hd' := hd
  rw [Sq.relem_eq hq] at hd'
  exact (g6 i j d hi hd).elem_any hd' hA
section
variable {w0 : World} {O0 : Hd} {n : Nat} {M : Mp} {s : PS} {a : Act} {w : World}
theorem Rel.refam (h : Rel w0 O0 n M s a w) {s' : PS} (r R F : Nat) (hF : F < 4294967296) {te : TypeId} {fq fq' : Fq} (g : Nat → Nat) {yR : Option (TypeId × Sq)}
  (hr : r < 1000000) (hR : notF R = true) (hrR : r ≠ R) (hf : s.r (FK + F) = some (te, .fam fq)) (hl : lone s R F = true)
  (hg : ∀ k c, fq'.get k = some c → s.r (g k) = some (te, c)) (hinj : ∀ k k' c c', fq'.get k = some c → fq'.get k' = some c' → g k = g k' → k = k') (hsrc : ∀ k c, fq'.get k = some c → g k = r ∨ ∃ j, g k = inn F j)
  (hs : ∀ x, s'.r x = match Nat.ble BIG x with | true => (if unF x = F then famr (some (some (te, .fam fq'))) (unK x) else s.r x) | false => if x = r then none else if x = FK + F then some (te, .fam fq') else if x = R then yR else s.r x)
  (hyR : ∀ e q, yR = some (e, q) → RowAt (Fs w0 O0) (famM M r F fq' g) w R e q) (hyn : yR = none → M.γ R = none)
  (ht : ∀ t, VR (famM M r F fq' g) (Ow (Fs w0 O0) (famM M r F fq' g)) w (s'.t t) (a.tmps.getD t undef)) (hb : ∀ b, s'.b b = (s.b b).map fun cs => cs.map (klXS r)) : Rel w0 O0 n (famM M r F fq' g) s' a w := by
 have hrb : Nat.ble BIG r = false := notF_big (notF_lo hr)
 have hRb : Nat.ble BIG R = false := notF_big hR
 have hfr : FK + F ≠ r := fun e => by have := notF_lo hr; rw [← e] at this; have h2 := notF_fk (inn F 0); rw [fk_unF hF] at h2; rw [h2] at this; cases this
 have hfR : FK + F ≠ R := fun e => by rw [← e] at hR; have h2 := notF_fk (inn F 0); rw [fk_unF hF] at h2; rw [h2] at hR; cases hR
 have cases3 : ∀ x y, (famM M r F fq' g).γ x = some y → (∃ k c, x = inn F k ∧ fq'.get k = some c ∧ M.γ (g k) = some y) ∨ (M.γ x = some y ∧ x ≠ r ∧ ∀ j, x ≠ inn F j) := fun x y hx => by
  cases hbx : Nat.ble BIG x with
  | true =>
   by_cases hu : unF x = F
   ·have hxe : x = inn F (unK x) := by rw [← hu]; exact (inn_of hbx).symm
    rw [hxe, famM_inn _ _ _ _ _ hF] at hx
    split at hx
    ·rename_i c hc; exact .inl ⟨_, c, hxe, hc, hx⟩
    ·cases hx
   ·simp only [famM, hbx, hu, if_false] at hx
    refine .inr ⟨hx, fun e => (by rw [e, hrb] at hbx; cases hbx), fun j e => hu (by rw [e, unF_inn, Nat.mod_eq_of_lt hF])⟩
  | false =>
   simp only [famM, hbx] at hx
   split at hx
   ·cases hx
   ·rename_i hxr
    exact .inr ⟨hx, hxr, fun j e => by rw [e, inn_hi] at hbx; cases hbx⟩
 have hsub : ∀ x k c z, (famM M r F fq' g).γ x = some (some (k, c, z)) → ∃ y, M.γ y = some (some (k, c, z)) := fun x k c z hx => by
  rcases cases3 x _ hx with ⟨_, _, _, _, h1⟩ | ⟨h1, _⟩
  ·exact ⟨_, h1⟩
  ·exact ⟨_, h1⟩
 have hown : ∀ k, (famM M r F fq' g).owned k → M.owned k := by
  rintro k (⟨b, hb⟩ | ⟨y, c, z, hy⟩)
  ·exact .inl ⟨b, hb⟩
  ·obtain ⟨x, hx⟩ := hsub _ _ _ _ hy; exact .inr ⟨x, c, z, hx⟩
 have hA : ∀ f b, b < w.heap.size → Ow (Fs w0 O0) M f b → Ow (Fs w0 O0) (famM M r F fq' g) f b ∧ b < w.heap.size ∧ w.heap[b]? = w.heap[b]? := fun f b h1 h2 => ⟨⟨fun h3 => h2.1 (hown b h3), h2.2⟩, h1, rfl⟩
 refine h.remap (s' := s') r F hF (fun _ => rfl) hsub (fun x y k c z c' z' h1 h2 => ?_) (fun x y h1 h2 h3 => ?_) (fun x y h1 h2 h3 h4 => ?_) (.inl hr) (fun u u' h1 h2 => ?_) (fun G k y h1 h2 h3 => ?_) ht hb (fun x e q hx => ?_) fun x hx => ?_
 ·rcases cases3 x _ h1 with ⟨k1, c1, rfl, g1, g2⟩ | ⟨g1, g2, g3⟩
  ·rcases cases3 y _ h2 with ⟨k2, c2, rfl, g4, g5⟩ | ⟨g4, g5, g6⟩
   ·have := h.inj2 _ _ _ _ _ _ _ g2 g5
    rw [hinj k1 k2 c1 c2 g1 g4 this]
   ·exfalso
    have := h.inj2 _ _ _ _ _ _ _ g2 g4
    rcases hsrc k1 c1 g1 with h5 | ⟨j, h5⟩
    ·exact g5 (by rw [← this, h5])
    ·exact g6 j (by rw [← this, h5])
  ·rcases cases3 y _ h2 with ⟨k2, c2, rfl, g4, g5⟩ | ⟨g4, g5, g6⟩
   ·exfalso
    have := h.inj2 _ _ _ _ _ _ _ g1 g5
    rcases hsrc k2 c2 g4 with h5 | ⟨j, h5⟩
    ·exact g2 (by rw [this, h5])
    ·exact g3 j (by rw [this, h5])
   ·exact h.inj2 _ _ _ _ _ _ _ g1 g4
 ·rw [famM_lo _ _ _ _ _ (notF_big h2) h1] at h3; exact h3
 ·by_cases hxr : x = r
  ·rw [hxr, famM_r _ _ _ _ _ hrb] at h4; cases h4
  ·rw [famM_lo _ _ _ _ _ h3 hxr] at h4; exact h4
 ·rw [famM_lo _ _ _ _ _ (fk_lo hF) hfr] at h2
  exact h.fxr _ _ _ h1 h2
 ·rw [famM_inn2 _ _ _ _ _ h1 h2] at h3; exact h3
 ·rw [hs] at hx
  cases hbx : Nat.ble BIG x with
  | true =>
   rw [hbx] at hx
   by_cases hu : unF x = F
   ·have hxe : x = inn F (unK x) := by rw [← hu]; exact (inn_of hbx).symm
    simp only [hu, if_true, famr] at hx
    split at hx
    ·rename_i c hc
     cases hx
     right
     have h1 := h.row _ _ _ (hg _ _ hc)
     refine h1.mv (Fq.get_flat hc) ?_ hA
     rw [hxe, famM_inn _ _ _ _ _ hF, unK_inn, hc]
    ·cases hx
   ·simp only [hu, if_false] at hx
    refine .inl ⟨hx, by simp only [famM, hbx, hu, if_false], fun G hG => ?_⟩
    rcases lone_ok hl hx hG with h1 | h1
    ·rw [h1, hRb] at hbx; cases hbx
    ·exact h1
  | false =>
   rw [hbx] at hx
   simp only at hx
   split at hx
   ·cases hx
   rename_i hxr
   split at hx
   ·rename_i hxf
    cases hx
    right
    rcases h.row _ _ _ hf with ⟨g1, g2⟩ | ⟨gg, cap, cur, g1, g2, g3, g4, g5, g6⟩
    ·exact .inl ⟨by rw [hxf, famM_lo _ _ _ _ _ (fk_lo hF) hfr]; exact g1, rfl⟩
    ·exact .inr ⟨gg, cap, cur, by rw [hxf, famM_lo _ _ _ _ _ (fk_lo hF) hfr]; exact g1, g2, Nat.zero_le _, g4, g5, fun i j d hi hd => absurd hi (Nat.not_lt_zero _)⟩
   rename_i hxf
   split at hx
   ·rename_i hxR
    right
    rw [hxR]; exact hyR e q hx
   rename_i hxR
   refine .inl ⟨hx, famM_lo _ _ _ _ _ hbx hxr, fun G hG => ?_⟩
   rcases lone_ok hl hx hG with h1 | h1
   ·exact absurd h1 hxR
   ·exact h1
 ·rw [hs] at hx
  cases hbx : Nat.ble BIG x with
  | true =>
   rw [hbx] at hx
   by_cases hu : unF x = F
   ·have hxe : x = inn F (unK x) := by rw [← hu]; exact (inn_of hbx).symm
    simp only [hu, if_true, famr] at hx
    rw [hxe, famM_inn _ _ _ _ _ hF]
    split at hx
    ·cases hx
    ·rename_i hc; rw [hc]
   ·simp only [hu, if_false] at hx
    simp only [famM, hbx, hu, if_false]
    exact h.rown x hx
  | false =>
   rw [hbx] at hx
   simp only at hx
   split at hx
   ·rename_i hxr; rw [hxr]; exact famM_r _ _ _ _ _ hrb
   rename_i hxr
   split at hx
   ·cases hx
   rename_i hxf
   split at hx
   ·rename_i hxR
    rw [hxR, famM_lo _ _ _ _ _ hRb (Ne.symm hrR)]; exact hyn hx
   rename_i hxR
   rw [famM_lo _ _ _ _ _ hbx hxr]; exact h.rown x hx
end
end Go.Proofs.Ytkklfgcelmeccaa
namespace Go.Proofs.Ytkklfgcelmeccaa
open Go.RowKit Go.Deep
theorem PS.r_app {s s' : PS} {l : List (Nat × Option (TypeId × Sq))} (h : s'.row = l ++ s.row) (x : Nat) : s'.r x = match Nat.ble BIG x with | true => (match look l (FK + unF x) with | some y => famr (some y) (unK x) | none => s.r x) | false => (match look l x with | some y => y | none => s.r x) := by
 cases hb : Nat.ble BIG x with
 | true =>
  rw [PS.r_hi _ hb, PS.r_hi _ hb]
  unfold PS.inn
  rw [h, look_append]
  cases look l (FK + unF x) <;> rfl
 | false =>
  rw [PS.r_lo _ hb, PS.r_lo _ hb, h, look_append]
  cases look l x <;> rfl
def famOf : Sq → Fq
 | .intss X => .ints (X.map some) | .pairss X => .pairs (X.map some) | .boolss X => .bools (X.map some) | .raises X => .ints (X.map fun x => some x.2) | _ => .ints []
theorem dF_fam (q : Sq) : dF q = .fam (famOf q) := by cases q <;> rfl
theorem famOf_get {q : Sq} (hq : q.deep = true) (i : Nat) : (famOf q).get i = if i < q.len then some (q.nn i) else none := by
 have := famr_dF hq 0 i
 rw [dF_fam] at this
 simp only [famr] at this
 cases h : (famOf q).get i with
 | none => rw [h] at this; split at this <;> simp_all
 | some c => rw [h] at this; split at this <;> simp_all
theorem fk_ne {F r : Nat} (hF : F < 4294967296) (hr : notF r = true) : FK + F ≠ r := fun e => by
 have h2 := notF_fk (inn F 0)
 rw [fk_unF hF, e] at h2
 rw [h2] at hr; cases hr
theorem look_one' {α : Type} (k : Nat) (x : α) (i : Nat) : look [(k, x)] i = if k = i then some x else none := by
 by_cases h : k = i
 ·subst h; rw [look_cons_self, if_pos rfl]
 ·rw [look_cons_ne h, if_neg h]; rfl
theorem look_two' {α : Type} (k l : Nat) (x y : α) (i : Nat) : look [(k, x), (l, y)] i = if k = i then some x else if l = i then some y else none := by
 by_cases h : k = i
 ·subst h; rw [look_cons_self, if_pos rfl]
 ·rw [look_cons_ne h, if_neg h]; exact look_one' l y i
section
variable {C : Cx} {tm : List (Nat × D)} {rw' : List (Nat × Option (TypeId × Sq))} {bx : List (Nat × Option (List D))} {s' : PS}
theorem En.newFam (F : Nat) (te : TypeId) (fq : Fq) (h0 : fq.len = 0) (hl : lone ⟨tm, rw', bx⟩ 999999 F = true) (hl2 : PS.r ⟨tm, rw', bx⟩ 999999 = none) (hN : PS.r ⟨tm, rw', bx⟩ (FK + F) = none) (hO : ∀ u, C.O0.fr (FK + F) ≠ some u)
  (hnf : nf ⟨(PS.killX ⟨tm, rw', bx⟩ 999999).tmp, (FK + F, some (te, .fam fq)) :: rw', (PS.killX ⟨tm, rw', bx⟩ 999999).box⟩ = some s') (hF : Nat.blt F 4294967296 = true := by rfl) : En C ⟨tm, rw', bx⟩ s' := ⟨fun M a w h => by
 rw [nf_ok hnf]
 rw [Nat.blt_eq] at hF
 have hget : ∀ k, fq.get k = none := fun k => by
  cases fq <;> simp only [Fq.len, List.length_eq_zero_iff] at h0 <;> subst h0 <;> rfl
 let M' : Mp := ⟨M.β, fun x => if x = FK + F then some none else M.γ x⟩
 have hMi : ∀ G k, M'.γ (inn G k) = M.γ (inn G k) := fun G k => by
  have : inn G k ≠ FK + F := fun e => by have h1 := inn_hi G k; rw [e, fk_lo hF] at h1; cases h1
  simp [M', this]
 have hsub : ∀ x k c z, M'.γ x = some (some (k, c, z)) → M.γ x = some (some (k, c, z)) := fun x k c z hx => by
  simp only [M'] at hx
  split at hx
  ·cases hx
  ·exact hx
 have hown : ∀ k, M'.owned k → M.owned k := by
  rintro k (⟨b, hb⟩ | ⟨y, c, z, hy⟩)
  ·exact .inl ⟨b, hb⟩
  ·exact .inr ⟨y, c, z, hsub _ _ _ _ hy⟩
 have hA : ∀ f b, b < w.heap.size → Ow (Fs C.w0 C.O0) M f b → Ow (Fs C.w0 C.O0) M' f b ∧ b < w.heap.size ∧ w.heap[b]? = w.heap[b]? := fun f b h1 h2 => ⟨⟨fun h3 => h2.1 (hown b h3), h2.2⟩, h1, rfl⟩
 have hγ' : ∀ x y, x ≠ 999999 → notF x = true → M'.γ x = some y → M.γ x = some y := fun x y _ h2 h3 => by
  simp only [M'] at h3
  rw [if_neg (fun e => fk_ne hF h2 e.symm)] at h3
  exact h3
 refine ⟨M', h.remap 999999 F hF (fun _ => rfl) (fun x k c z hx => ⟨x, hsub _ _ _ _ hx⟩) (fun x y k c z c' z' h1 h2 => h.inj2 _ _ _ _ _ _ _ (hsub _ _ _ _ h1) (hsub _ _ _ _ h2)) hγ' (fun x y h1 h2 h3 h4 => ?_) (.inl (by decide)) (fun u u' h1 _ => absurd h1 (hO u)) (fun G k y _ _ h3 => by rw [← hMi]; exact h3) (fun t => ?_) (fun b => ?_) (fun x e q hx => ?_) fun x hx => ?_⟩
 ·simp only [M'] at h4
  rw [if_neg h1] at h4
  exact h4
 ·have : PS.t ⟨(PS.killX ⟨tm, rw', bx⟩ 999999).tmp, (FK + F, some (te, .fam fq)) :: rw', (PS.killX ⟨tm, rw', bx⟩ 999999).box⟩ t = klX 999999 (PS.t ⟨tm, rw', bx⟩ t) := PS.t_killX ⟨tm, rw', bx⟩ 999999 t
  rw [this]
  exact VR.klX hA hγ' (fun _ _ h => h) (h.tmp t)
 ·exact PS.b_killX ⟨tm, rw', bx⟩ 999999 b
 ·rw [PS.r_app (s := ⟨tm, rw', bx⟩) (l := [(FK + F, some (te, .fam fq))]) rfl, look_one', look_one'] at hx
  cases hbx : Nat.ble BIG x with
  | true =>
   rw [hbx] at hx
   have hxf : x ≠ FK + F := fun e => by rw [e, fk_lo hF] at hbx; cases hbx
   have hMx : M'.γ x = M.γ x := by simp [M', hxf]
   by_cases hu : FK + F = FK + unF x
   ·simp only [hu, if_true, famr, hget] at hx
    cases hx
   ·simp only [hu, if_false] at hx
    refine .inl ⟨hx, hMx, fun G hG => ?_⟩
    rcases lone_ok hl hx hG with h1 | h1
    ·rw [h1, hl2] at hx; cases hx
    ·exact h1
  | false =>
   rw [hbx] at hx
   by_cases hxf : FK + F = x
   ·subst hxf
    simp only [if_true] at hx
    cases hx
    exact .inr (.inl ⟨by simp [M'], rfl⟩)
   ·simp only [hxf, if_false] at hx
    refine .inl ⟨hx, by simp [M', Ne.symm hxf], fun G hG => ?_⟩
    rcases lone_ok hl hx hG with h1 | h1
    ·rw [h1, hl2] at hx; cases hx
    ·exact h1
 ·rw [PS.r_app (s := ⟨tm, rw', bx⟩) (l := [(FK + F, some (te, .fam fq))]) rfl, look_one', look_one'] at hx
  cases hbx : Nat.ble BIG x with
  | true =>
   rw [hbx] at hx
   have hxf : x ≠ FK + F := fun e => by rw [e, fk_lo hF] at hbx; cases hbx
   have hMx : M'.γ x = M.γ x := by simp [M', hxf]
   rw [hMx]
   refine h.rown x ?_
   by_cases hu : FK + F = FK + unF x
   ·rw [PS.r_hi _ hbx, PS.inn_r, ← hu, hN]; rfl
   ·simp only [hu, if_false] at hx; exact hx
  | false =>
   rw [hbx] at hx
   by_cases hxf : FK + F = x
   ·simp only [hxf, if_true] at hx; cases hx
   ·simp only [hxf, if_false] at hx
    simp only [M', Ne.symm hxf, if_false]
    exact h.rown x hx⟩
theorem En.asRefs (R F : Nat) {et : TypeId} {q qR : Sq} (hR : PS.r ⟨tm, rw', bx⟩ R = some (et, q)) (h0 : q.len = 0) (h1 : qR.len = 0) (hz : qR.sz = q.sz) (hFR : notF R = true := by rfl) : En C ⟨tm, rw', bx⟩ ⟨tm, (R, some (et, qR)) :: rw', bx⟩ := ⟨fun M a w h => by
 have hPS : ∀ x, PS.r ⟨tm, (R, some (et, qR)) :: rw', bx⟩ x = if R = x then some (et, qR) else PS.r ⟨tm, rw', bx⟩ x := fun x => PS.r_setR ⟨tm, rw', bx⟩ R (some (et, qR)) x hFR
 refine ⟨M, h.fr, h.dfr, h.sz, h.tmp, h.box, h.boxn, fun x e p hx => ?_, fun x hx => ?_, h.low, h.inj1, h.inj2, h.inj3, h.nle, h.fxb, h.fxr⟩
 ·rw [hPS] at hx
  split at hx
  ·rename_i hxR
   cases hx
   subst hxR
   rcases h.row _ _ _ hR with ⟨g1, g2⟩ | ⟨g, cap, cur, g1, g2, g3, g4, g5, g6⟩
   ·exact .inl ⟨g1, h1⟩
   ·exact .inr ⟨g, cap, cur, by rw [hz]; exact g1, g2, by omega, g4, by rw [hz]; exact g5, fun i j d hi hd => by omega⟩
  ·exact h.row x e p hx
 ·rw [hPS] at hx
  split at hx
  ·cases hx
  ·exact h.rown x hx⟩
theorem En.adopt (t r R F : Nat) {n : Nat} {et te : TypeId} {c q : Sq} {fq fq' : Fq} (ht : PS.t ⟨tm, rw', bx⟩ t = .row r 0 n) (hr : PS.r ⟨tm, rw', bx⟩ r = some (te, c)) (hn : n = c.len) (hf : PS.r ⟨tm, rw', bx⟩ (FK + F) = some (te, .fam fq)) (hR : PS.r ⟨tm, rw', bx⟩ R = some (et, dR F q))
  (hq : q.deep = true) (hlen : q.len = fq.len) (hp : fq.push c = some fq') (hl : lone ⟨tm, rw', bx⟩ R F = true) {d' : D} (hd' : d' = .irow F fq.len n)
  (hnf : nf ⟨(t, d') :: (PS.killX ⟨tm, rw', bx⟩ r).tmp, (r, none) :: (FK + F, some (te, .fam fq')) :: rw', (PS.killX ⟨tm, rw', bx⟩ r).box⟩ = some s') (hF : Nat.blt F 4294967296 = true := by rfl) (hr1 : Nat.blt r 1000000 = true := by rfl) (hFR : notF R = true := by rfl) (hrR : Nat.beq r R = false := by rfl) : En C ⟨tm, rw', bx⟩ s' := ⟨fun M a w h => by
 rw [nf_ok hnf]
 rw [Nat.blt_eq] at hF hr1
 subst hn hd'
 have hne : r ≠ R := fun e => by subst e; rw [Nat.beq_refl] at hrR; cases hrR
 have hget := Fq.get_push hp
 have hrn := notF_lo hr1
 let g : Nat → Nat := fun k => if k = fq.len then r else inn F k
 have hinnr : ∀ k, inn F k ≠ r := fun k e => by have := inn_hi F k; rw [e, notF_big hrn] at this; cases this
 have hown : ∀ k, (famM M r F fq' g).owned k → M.owned k := by
  rintro k (⟨b, hb⟩ | ⟨y, c, z, hy⟩)
  ·exact .inl ⟨b, hb⟩
  ·simp only [famM] at hy
   split at hy
   ·split at hy
    ·split at hy
     ·exact .inr ⟨_, c, z, hy⟩
     ·cases hy
    ·exact .inr ⟨_, c, z, hy⟩
   ·split at hy
    ·cases hy
    ·exact .inr ⟨_, c, z, hy⟩
 have hA : ∀ f b, b < w.heap.size → Ow (Fs C.w0 C.O0) M f b → Ow (Fs C.w0 C.O0) (famM M r F fq' g) f b ∧ b < w.heap.size ∧ w.heap[b]? = w.heap[b]? := fun f b h1 h2 => ⟨⟨fun h3 => h2.1 (hown b h3), h2.2⟩, h1, rfl⟩
 have hγ' : ∀ x y, x ≠ r → notF x = true → (famM M r F fq' g).γ x = some y → M.γ x = some y := fun x y h1 h2 h3 => by rw [famM_lo _ _ _ _ _ (notF_big h2) h1] at h3; exact h3
 have hgM : ∀ k, k ≠ fq.len → ∀ y, (famM M r F fq' g).γ (inn F k) = some y → M.γ (inn F k) = some y := fun k hk y hy => by
  rw [famM_inn _ _ _ _ _ hF] at hy
  split at hy
  ·simpa [g, hk] using hy
  ·cases hy
 refine ⟨_, h.refam r R F hF (fq' := fq') g (yR := some (et, dR F q)) hr1 hFR hne hf hl (fun k c' hc => ?_) (fun k k' c1 c2 h1 h2 h3 => ?_) (fun k c' hc => ?_) (fun x => ?_) (fun e p hx => ?_) (fun hx => by cases hx) (fun t' => ?_) fun b => ?_⟩
 ·rw [hget] at hc
  by_cases hk : k = fq.len
  ·rw [if_pos hk] at hc
   cases hc
   simp [g, hk, hr]
  ·rw [if_neg hk] at hc
   simp only [g, hk, if_false]
   rw [fam_r hF hf, hc]
 ·simp only [g] at h3
  split at h3 <;> split at h3
  ·omega
  ·exact absurd h3.symm (hinnr _)
  ·exact absurd h3 (hinnr _)
  ·exact (inn_inj h3).2
 ·by_cases hk : k = fq.len
  ·exact .inl (by simp [g, hk])
  ·exact .inr ⟨k, by simp [g, hk]⟩
 ·rw [PS.r_app (s := ⟨tm, rw', bx⟩) (l := [(r, none), (FK + F, some (te, .fam fq'))]) rfl, look_two', look_two']
  cases hbx : Nat.ble BIG x with
  | true =>
   have h1 : r ≠ FK + unF x := fun e => by have := notF_fk x; rw [← e, hrn] at this; cases this
   simp only [h1, if_false]
   by_cases hu : unF x = F
   ·simp [hu]
   ·simp [hu, Ne.symm hu]
  | false =>
   simp only
   by_cases hxr : r = x
   ·simp [hxr]
   ·simp only [hxr, if_false, Ne.symm hxr]
    by_cases hxf : FK + F = x
    ·simp [hxf]
    ·simp only [hxf, if_false, Ne.symm hxf]
     by_cases hxR : x = R
     ·simp [hxR, hR]
     ·simp [hxR]
 ·cases hx
  rcases h.row _ _ _ hR with ⟨g1, g2⟩ | ⟨gg, cap, cur, g1, g2, g3, g4, g5, g6⟩
  ·exact .inl ⟨by rw [famM_lo _ _ _ _ _ (notF_big hFR) (Ne.symm hne)]; exact g1, g2⟩
  ·refine .inr ⟨gg, cap, cur, by rw [famM_lo _ _ _ _ _ (notF_big hFR) (Ne.symm hne)]; exact g1, g2, g3, g4, g5, fun i j d hi hd => ?_⟩
   have hv := g6 i j d hi hd
   rw [dR_len] at hi
   rcases dR_relem hq hi hd with ⟨rfl, _⟩ | ⟨x, rfl, _⟩
   ·exact hv.irow_mv (hgM i (by omega))
   ·rw [hv.int_inv]; exact .int _
 ·have hk := PS.t_killX ⟨tm, rw', bx⟩ r t'
  by_cases htt : t = t'
  ·subst htt
   have : PS.t ⟨(t, .irow F fq.len c.len) :: (PS.killX ⟨tm, rw', bx⟩ r).tmp, (r, none) :: (FK + F, some (te, .fam fq')) :: rw', (PS.killX ⟨tm, rw', bx⟩ r).box⟩ t = .irow F fq.len c.len := by simp [PS.t, look_cons_self]
   rw [this]
   have hv := h.tmp t
   rw [ht] at hv
   refine hv.irow_of fun x hx => ?_
   rw [famM_inn _ _ _ _ _ hF] at hx
   split at hx
   ·simpa [g] using hx
   ·cases hx
  ·have : PS.t ⟨(t, .irow F fq.len c.len) :: (PS.killX ⟨tm, rw', bx⟩ r).tmp, (r, none) :: (FK + F, some (te, .fam fq')) :: rw', (PS.killX ⟨tm, rw', bx⟩ r).box⟩ t' = PS.t (PS.killX ⟨tm, rw', bx⟩ r) t' := by simp [PS.t, look_cons_ne htt]
   rw [this, hk]
   exact VR.klX hA hγ' (fun _ _ h => h) (h.tmp t')
 ·exact PS.b_killX ⟨tm, rw', bx⟩ r b⟩
end
end Go.Proofs.Ytkklfgcelmeccaa
namespace Go.Proofs.Ytkklfgcelmeccaa
open Go.RowKit Go.Deep
section
variable {C : Cx} {tm : List (Nat × D)} {rw' : List (Nat × Option (TypeId × Sq))} {bx : List (Nat × Option (List D))} {s' : PS}
end
end Go.Proofs.Ytkklfgcelmeccaa
namespace Go.Proofs.Ytkklfgcelmeccaa
open Go.RowKit Go.Deep
section
variable {w0 : World} {O0 : Hd} {n : Nat} {M : Mp} {s : PS} {a : Act} {w : World}
theorem Rel.newRowR (h : Rel w0 O0 n M s a w) {r m : Nat} {e : TypeId} {q : Sq} {cur : Array Value} (hq : q.len = m) (hm : m ≤ maxLen) (hc : cur.size = m * q.sz)
  (hv : ∀ i j d, i < m → (q.relem i)[j]? = some d → VR M (Ow (Fs w0 O0) M) w d (cur.getD (i * q.sz + j) undef)) (hf : Fresh s noB (isR r)) (hlo : r < 1000000) :
  ∃ M', Rel w0 O0 n M' (s.setR r (some (e, q))) a (w.alloc (.cells cur e)) ∧ VR M' (Ow (Fs w0 O0) M') (w.alloc (.cells cur e)) (.row r 0 m) (.slice (some ⟨w.heap.size, 0, none⟩) m m) := by
 have hF := notF_lo hlo
 let M' : Mp := ⟨M.β, fun x => if x = r then some (some (w.heap.size, m, q.sz)) else M.γ x⟩
 have m1 : M'.γ r = some (some (w.heap.size, m, q.sz)) := by simp [M']
 have m2 : ∀ x, x ≠ r → M'.γ x = M.γ x := fun x hx => by simp [M', hx]
 have hown : ∀ k, M'.owned k → M.owned k ∨ k = w.heap.size := by
  rintro k (⟨x, hx⟩ | ⟨y, c, z, hy⟩)
  ·exact .inl (.inl ⟨x, hx⟩)
  ·by_cases hyr : y = r
   ·rw [hyr, m1] at hy; cases hy; exact .inr rfl
   ·rw [m2 y hyr] at hy; exact .inl (.inr ⟨y, c, z, hy⟩)
 have hA : ∀ f k, k < w.heap.size → Ow (Fs w0 O0) M f k → Ow (Fs w0 O0) M' f k ∧ k < (w.alloc (.cells cur e)).heap.size ∧ (w.alloc (.cells cur e)).heap[k]? = w.heap[k]? := fun f k h1 h2 =>
  ⟨⟨fun h3 => by rcases hown k h3 with h4 | h4; exact h2.1 h4; omega, h2.2⟩, by simp; omega, Below.heap_alloc w _ k h1⟩
 have hγ : ∀ x y, isR r x = false → M'.γ x = some y → M.γ x = some y := fun x y h1 h2 => by
  rw [m2 x (fun e => by subst e; simp [isR, Nat.beq_refl] at h1)] at h2; exact h2
 have hrb := notF_big hF
 have hbig : ∀ x y, BIG ≤ x → M'.γ x = some y → M.γ x = some y := fun x y hx h2 => by
  rw [m2 x (fun e => by rw [← e, Nat.ble_eq_true_of_le hx] at hrb; cases hrb)] at h2; exact h2
 have hno : ∀ y c z, M.γ y ≠ some (some (w.heap.size, c, z)) := fun y c z hy => by have := h.lt _ (.inr ⟨y, c, z, hy⟩); omega
 refine ⟨M', ⟨?_, h.dfr, h.sz, fun t => ?_, fun x ds hx => ?_, fun x hx => h.boxn x hx, fun x e' p hx => ?_, fun x hx => ?_, fun k hk => ?_, h.inj1, fun x y k c z c' z' h1 h2 => ?_, fun x y k c z h1 h2 => ?_, h.nle, h.fxb, fun x u u' h1 h2 => ?_⟩, ?_⟩
 ·exact h.fr.step rfl rfl rfl (by simp) fun k h1 _ => Below.heap_alloc w _ k (Nat.lt_of_lt_of_le h1 h.fr.size)
 ·exact VR.new (b := noB) (r := isR r) hA hγ (fun _ _ _ h => h) (hf.t t) (h.tmp t) (hi := fun _ => hbig)
 ·obtain ⟨k, cur', e', h1, h2, h3, h4⟩ := h.box x ds hx
  have hlt := (Array.getElem?_eq_some_iff.1 h2).1
  exact ⟨k, cur', e', h1, (Below.heap_alloc w _ k hlt).trans h2, h3, fun j d hd => VR.newS (b := noB) (r := isR r) hA hγ (fun _ _ _ h => h) (hf.b _ _ hx d (List.mem_of_getElem? hd)) (h4 j d hd) (hi := fun _ => hbig)⟩
 ·rw [PS.r_setR _ _ _ _ hF] at hx
  by_cases hxr : r = x
  ·subst hxr
   rw [if_pos rfl] at hx
   cases hx
   exact .inr ⟨w.heap.size, m, cur, m1, heap_alloc_new w _, by omega, hm, hc, fun i j d hi hd => (hv i j d (by omega) hd).relem_any hd hA hbig⟩
  ·rw [if_neg hxr] at hx
   rcases h.row x e' p hx with ⟨h1, h2⟩ | ⟨g, cap, cur', h1, h2, h3, h4, h5, h6⟩
   ·exact .inl ⟨(m2 x (Ne.symm hxr)).trans h1, h2⟩
   ·have hlt := (Array.getElem?_eq_some_iff.1 h2).1
    exact .inr ⟨g, cap, cur', (m2 x (Ne.symm hxr)).trans h1, (Below.heap_alloc w _ g hlt).trans h2, h3, h4, h5, fun i j d hi hd => (h6 i j d hi hd).relem_any hd hA hbig⟩
 ·rw [PS.r_setR _ _ _ _ hF] at hx
  by_cases hxr : r = x
  ·rw [if_pos hxr] at hx; cases hx
  ·rw [if_neg hxr] at hx; exact (m2 x (Ne.symm hxr)).trans (h.rown x hx)
 ·rcases hown k hk with h1 | rfl
  ·exact h.low k h1
  ·exact .inl h.fr.size
 ·by_cases hx : x = r
  ·by_cases hy : y = r
   ·rw [hx, hy]
   ·rw [hx, m1] at h1; cases h1; rw [m2 y hy] at h2; exact absurd h2 (hno _ _ _)
  ·by_cases hy : y = r
   ·rw [hy, m1] at h2; cases h2; rw [m2 x hx] at h1; exact absurd h1 (hno _ _ _)
   ·rw [m2 x hx] at h1; rw [m2 y hy] at h2; exact h.inj2 _ _ _ _ _ _ _ h1 h2
 ·by_cases hy : y = r
  ·rw [hy, m1] at h2; cases h2
   have := h.lt _ (.inl ⟨x, h1⟩); omega
  ·rw [m2 y hy] at h2; exact h.inj3 _ _ _ _ _ h1 h2
 ·have h3 := (O0.lor x u h1).1
  rw [m2 x (by omega)] at h2
  exact h.fxr x u u' h1 h2
 ·exact .row _ _ _ _ rfl fun x hx => by rw [m1] at hx; cases hx; exact ⟨by omega, _, by rw [Nat.sub_zero], fun _ => by rw [Nat.zero_mul]⟩
end
def refOf : D → Option Sq
 | .irow F k n => some (.irefs F [(k, n)])
 | .agg [.int p, .irow F k n] => some (.rrefs F [(p, k, n)])
 | _ => none
theorem refOf_ok {d : D} {q : Sq} (h : refOf d = some q) : d.flat = true ∧ d.cells = q.relem 0 ∧ q.len = 1 := by
 unfold refOf at h
 split at h
 ·cases h; exact ⟨rfl, rfl, rfl⟩
 ·cases h; exact ⟨rfl, rfl, rfl⟩
 ·cases h
section
variable {C : Cx} {ops : Array Oper} {K : PS → Prop} {o : Oper} {rest : List Oper} {s : PS} {TT : List (Nat × Ty)} {tm : List (Nat × D)} {rw' : List (Nat × Option (TypeId × Sq))} {bx : List (Nat × Option (List D))}
theorem oBuildI (hT : TTOK C.P TT) (hg : o.guard = none) {t e : TypeId} {k q : Sq} {by' b : Nat} {x : Operand} {d : D} (hop : o.op = .buildSlice t 1 #[(0, x)]) (hd : o.dst = some b) (hy : look TT t = some (.sl e k by')) (hx : (PS.ev ⟨tm, rw', bx⟩ x) = d)
  (hq : refOf d = some q) (hz : Nat.beq k.sz q.sz = true) (hbig : Nat.ble (1 * k.sz) 16777216 = true) (hn : Nat.blt b C.n = true) (hf : frB ⟨tm, rw', bx⟩ noB (isR b) = true) (h : VO C ops K rest ⟨(b, .row b 0 1) :: tm, (b, some (e, q)) :: rw', bx⟩) : VO C ops K (o :: rest) ⟨tm, rw', bx⟩ := by
 refine vOp hg ⟨fun M a w Q K' hrl hk => ?_⟩
 have hev := hrl.ev x
 rw [hx] at hev
 obtain ⟨r1, r2, r3⟩ := refOf_ok hq
 have hz' := Nat.eq_of_beq_eq_true hz
 obtain ⟨c1, c2, _⟩ := hev.cells r1
 rw [r2, Sq.relem_len, ← hz'] at c1
 have hvs : ∀ v ∈ [a.eval x], v.cells.size = k.sz := by intro v hv; simp at hv; subst hv; exact c1.symm
 have hbig' := Nat.le_of_ble_eq_true hbig
 have hfill : ∀ cells : Array Value, cells.size = 1 * k.sz → Instr.fill (fun i => some (i * k.sz, k.sz)) cells (idxL 0 [a.eval x]) = some ([a.eval x].flatMap fun v => v.cells.toList).toArray := fun cells hc => by
  have := fill_all k.sz [a.eval x] 0 cells hvs (by rw [hc]; rfl)
  simpa using this
 have hrun : (execOp a.eval o).run C.P w = .ok (.value (.slice (some ⟨w.heap.size, 0, none⟩) 1 1)) (w.alloc (.cells ([a.eval x].flatMap fun v => v.cells.toList).toArray e)) := by
  have hparts : ((#[(0, x)] : Array (Nat × Operand)).map fun (p : Nat × Operand) => (p.1, a.eval p.2)).toList = idxL 0 [a.eval x] := by simp [idxL]
  have := run_buildSlice (hT t _ hy) w 1 _ ([a.eval x].flatMap fun v => v.cells.toList).toArray (by omega) (fun cells hc => by rw [hparts]; exact hfill cells hc)
  unfold execOp
  rw [hop]
  simp only [Sem.run_bind, this, Result.andThen_ok]
  rfl
 obtain ⟨M', h1, h2⟩ := hrl.newRowR (r := b) (m := 1) (e := e) (q := q) (cur := ([a.eval x].flatMap fun v => v.cells.toList).toArray) r3 (by unfold maxLen; omega)
  (by simp only [List.size_toArray]; rw [flatMap_len _ hvs, ← hz']; rfl) (fun i j d' hi hd' => by
   obtain rfl : i = 0 := by omega
   have := c2 j d' (by rw [r2]; exact hd')
   simpa using this) (frB_ok hf) (by have h1000 := hrl.nle; rw [Nat.blt_eq] at hn; omega)
 unfold Oper.wp
 rw [hrun]
 refine hk M' _ _ _ h ?_
 rw [hd]
 exact h1.put (o := some b) hn h2
end
end Go.Proofs.Ytkklfgcelmeccaa
namespace Go.Proofs.Ytkklfgcelmeccaa
open Go.RowKit Go.Deep
section
variable {P : Program} {w0 : World} {O0 : Hd} {n : Nat} {M : Mp} {s : PS} {a : Act} {w w' : World}
theorem fam_row {F : Nat} (hF : F < 4294967296) {te : TypeId} {fq' : Fq} (x : Nat) : PS.r ⟨s.tmp, (FK + F, some (te, .fam fq')) :: s.row, s.box⟩ x = match Nat.ble BIG x with | true => (if unF x = F then famr (some (some (te, .fam fq'))) (unK x) else s.r x) | false => if x = FK + F then some (te, .fam fq') else s.r x := by
 rw [PS.r_app (s := s) (l := [(FK + F, some (te, .fam fq'))]) rfl, look_one', look_one']
 cases hbx : Nat.ble BIG x with
 | true =>
  by_cases hu : unF x = F
  ·simp [hu]
  ·simp [hu, Ne.symm hu]
 | false =>
  by_cases hx : FK + F = x
  ·simp [hx]
  ·simp [hx, Ne.symm hx]
theorem Rel.inPlace (h : Rel w0 O0 n M s a w) {F k g cap : Nat} (hF : F < 4294967296) {te : TypeId} {c c' : Sq} {fq fq' : Fq} {cur' : Array Value} (hf : s.r (FK + F) = some (te, .fam fq)) (hc : fq.get k = some c) (hfq : ∀ j, fq'.get j = if j = k then some c' else fq.get j)
  (hos : w'.os = w.os) (ht : w'.tape = w.tape) (ho : w'.output = w.output) (hs : w.heap.size ≤ w'.heap.size)
  (hcase : (M.γ (inn F k) = some none ∧ c'.len = 0 ∧ ∀ x, x < w.heap.size → w'.heap[x]? = w.heap[x]?) ∨
   (M.γ (inn F k) = some (some (g, cap, c'.sz)) ∧ (∀ x, x < w.heap.size → x ≠ g → w'.heap[x]? = w.heap[x]?) ∧ w'.heap[g]? = some (.cells cur' te (0, 0)) ∧ c'.len ≤ cap ∧ cap ≤ maxLen ∧ cur'.size = cap * c'.sz ∧ ∀ i j d, i < c'.len → (c'.relem i)[j]? = some d → VR M (Ow (Fs w0 O0) M) w' d (cur'.getD (i * c'.sz + j) undef))) :
  Rel w0 O0 n M ⟨s.tmp, (FK + F, some (te, .fam fq')) :: s.row, s.box⟩ a w' ∧ ∀ d v, VR M (Ow (Fs w0 O0) M) w d v → VR M (Ow (Fs w0 O0) M) w' d v := by
 have hinn : s.r (inn F k) = some (te, c) := by rw [fam_r hF hf, hc]
 have hoth : ∀ x y cp z, M.γ y = some (some (x, cp, z)) → y ≠ inn F k → w'.heap[x]? = w.heap[x]? := fun x y cp z hy hne => by
  have hlt := h.lt x (.inr ⟨y, cp, z, hy⟩)
  rcases hcase with ⟨_, _, h3⟩ | ⟨h1, h2, _⟩
  ·exact h3 x hlt
  ·exact h2 x hlt fun e => hne (h.inj2 _ _ _ _ _ _ _ hy (by rw [e]; exact h1))
 have hbox : ∀ x b, M.β b = some x → w'.heap[x]? = w.heap[x]? := fun x b hb => by
  have hlt := h.lt x (.inl ⟨b, hb⟩)
  rcases hcase with ⟨_, _, h3⟩ | ⟨h1, h2, _⟩
  ·exact h3 x hlt
  ·exact h2 x hlt fun e => h.inj3 _ _ _ _ _ hb (by rw [e]; exact h1)
 have hun : ∀ x, x < w.heap.size → ¬ M.owned x → w'.heap[x]? = w.heap[x]? := fun x hlt hx => by
  rcases hcase with ⟨_, _, h3⟩ | ⟨h1, h2, _⟩
  ·exact h3 x hlt
  ·exact h2 x hlt fun e => hx (.inr ⟨_, _, _, by rw [e]; exact h1⟩)
 have hA : ∀ f b, b < w.heap.size → Ow (Fs w0 O0) M f b → Ow (Fs w0 O0) M f b ∧ b < w'.heap.size ∧ w'.heap[b]? = w.heap[b]? := fun f b h1 h2 => ⟨h2, by omega, hun b h1 h2.1⟩
 have g4 : ∀ d v, VR M (Ow (Fs w0 O0) M) w d v → VR M (Ow (Fs w0 O0) M) w' d v := fun d v hv => hv.mono hA (fun _ _ h => h) (fun _ _ h => h)
 have keep : ∀ x e q, s.r x = some (e, q) → x ≠ inn F k → RowAt (Fs w0 O0) M w' x e q := fun x e q hx hne => by
  rcases h.row x e q hx with ⟨h1, h2⟩ | ⟨g', cap', cur2, b1, b2, b3, b4, b5, b6⟩
  ·exact .inl ⟨h1, h2⟩
  ·exact .inr ⟨g', cap', cur2, b1, (hoth _ _ _ _ b1 hne).trans b2, b3, b4, b5, fun i j d hi hd => g4 _ _ (b6 i j d hi hd)⟩
 refine ⟨⟨?_, h.dfr, h.sz, fun t => g4 _ _ (h.tmp t), fun x ds hx => ?_, h.boxn, fun x e q hx => ?_, fun x hx => ?_, h.low, h.inj1, h.inj2, h.inj3, h.nle, h.fxb, h.fxr⟩, g4⟩
 ·refine h.fr.step hos ht ho hs fun x h1 h2 => hun x (Nat.lt_of_lt_of_le h1 h.fr.size) fun hx => ?_
  rcases h.low x hx with h3 | h3
  ·omega
  ·exact h2 h3
 ·obtain ⟨k2, cur2, e2, b1, b2, b3, b4⟩ := h.box x ds hx
  exact ⟨k2, cur2, e2, b1, (hbox _ _ b1).trans b2, b3, fun i d' hd => g4 _ _ (b4 i d' hd)⟩
 ·rw [fam_row hF] at hx
  cases hbx : Nat.ble BIG x with
  | true =>
   rw [hbx] at hx
   by_cases hu : unF x = F
   ·have hxe : x = inn F (unK x) := by rw [← hu]; exact (inn_of hbx).symm
    simp only [hu, if_true, famr, hfq] at hx
    by_cases hk : unK x = k
    ·simp only [hk, if_true, Option.some.injEq, Prod.mk.injEq] at hx
     obtain ⟨rfl, rfl⟩ := hx
     rw [hxe, hk]
     rcases hcase with ⟨h1, h2, _⟩ | ⟨h1, _, h3, h4, h5, h6, h7⟩
     ·exact .inl ⟨h1, h2⟩
     ·exact .inr ⟨g, cap, cur', h1, h3, h4, h5, h6, h7⟩
    ·simp only [hk, if_false] at hx
     split at hx
     ·rename_i c2 hc2
      cases hx
      refine keep x _ _ ?_ (fun e => hk (by rw [e, unK_inn]))
      rw [hxe, fam_r hF hf, hc2]
     ·cases hx
   ·simp only [hu, if_false] at hx
    exact keep x e q hx (fun e' => hu (by rw [e', unF_inn, Nat.mod_eq_of_lt hF]))
  | false =>
   rw [hbx] at hx
   have hxk : x ≠ inn F k := fun e => by rw [e, inn_hi] at hbx; cases hbx
   simp only at hx
   split at hx
   ·rename_i hxf
    cases hx
    rw [hxf]
    rcases h.row _ _ _ hf with ⟨g1, g2⟩ | ⟨gg, cp, cur, g1, g2, g3, g4', g5, g6⟩
    ·exact .inl ⟨g1, rfl⟩
    ·exact .inr ⟨gg, cp, cur, g1, (hoth _ _ _ _ g1 (by rw [← hxf]; exact hxk)).trans g2, Nat.zero_le _, g4', g5, fun i j d hi hd => absurd hi (Nat.not_lt_zero _)⟩
   ·exact keep x e q hx hxk
 ·rw [fam_row hF] at hx
  cases hbx : Nat.ble BIG x with
  | true =>
   rw [hbx] at hx
   by_cases hu : unF x = F
   ·have hxe : x = inn F (unK x) := by rw [← hu]; exact (inn_of hbx).symm
    simp only [hu, if_true, famr, hfq] at hx
    by_cases hk : unK x = k
    ·simp only [hk, if_true] at hx; cases hx
    ·simp only [hk, if_false] at hx
     refine h.rown x ?_
     rw [hxe, fam_r hF hf]
     split at hx
     ·cases hx
     ·rename_i h2; rw [h2]
   ·simp only [hu, if_false] at hx
    exact h.rown x hx
  | false =>
   rw [hbx] at hx
   simp only at hx
   split at hx
   ·cases hx
   ·exact h.rown x hx
end
section
variable {C : Cx} {ops : Array Oper} {K : PS → Prop} {o : Oper} {rest : List Oper} {s : PS} {TT : List (Nat × Ty)} {tm : List (Nat × D)} {rw' : List (Nat × Option (TypeId × Sq))} {bx : List (Nat × Option (List D))} {cr B : List Nat} {j : Nat}
end
end Go.Proofs.Ytkklfgcelmeccaa
namespace Go.Proofs.Ytkklfgcelmeccaa
open Go.RowKit Go.Deep
structure SetIn (F : Nat) (q q' : Sq) (k : Nat) (c' : Sq) : Prop where
 get : ∀ j, (famOf q').get j = if j = k then some c' else (famOf q).get j
 dR : dR F q = dR F q'
section
variable {C : Cx} {ops : Array Oper} {K : PS → Prop} {o : Oper} {rest : List Oper} {s : PS} {TT : List (Nat × Ty)} {tm : List (Nat × D)} {rw' : List (Nat × Option (TypeId × Sq))} {bx : List (Nat × Option (List D))}
theorem Rel.outer {w0 : World} {O0 : Hd} {n : Nat} {M : Mp} {a : Act} {w : World} {R F : Nat} {et : TypeId} {qo qo' : Sq} {z : Option (TypeId × Sq)} (hF : F < 4294967296) (hFR : notF R = true) (hR : PS.r ⟨tm, rw', bx⟩ R = some (et, qo)) (he : qo = qo') (h : Rel w0 O0 n M ⟨tm, (FK + F, z) :: rw', bx⟩ a w) :
  Rel w0 O0 n M ⟨tm, (R, some (et, qo')) :: (FK + F, z) :: rw', bx⟩ a w := by
 subst he
 have hne : FK + F ≠ R := fk_ne hF hFR
 have hrr : ∀ x, PS.r ⟨tm, (R, some (et, qo)) :: (FK + F, z) :: rw', bx⟩ x = PS.r ⟨tm, (FK + F, z) :: rw', bx⟩ x := fun x => by
  rw [PS.r_app (s := ⟨tm, rw', bx⟩) (s' := ⟨tm, (R, some (et, qo)) :: (FK + F, z) :: rw', bx⟩) (l := [(R, some (et, qo)), (FK + F, z)]) rfl, PS.r_app (s := ⟨tm, rw', bx⟩) (s' := ⟨tm, (FK + F, z) :: rw', bx⟩) (l := [(FK + F, z)]) rfl, look_two', look_two', look_one', look_one']
  cases hbx : Nat.ble BIG x with
  | true =>
   have h1 : R ≠ FK + unF x := fun e => by have := notF_fk x; rw [← e, hFR] at this; cases this
   simp [h1]
  | false =>
   by_cases hx : R = x
   ·subst hx; simp [hR, hne]
   ·simp [hx]
 exact ⟨h.fr, h.dfr, h.sz, h.tmp, h.box, h.boxn, fun x e p hx => h.row x e p (by rw [← hrr]; exact hx), fun x hx => h.rown x (by rw [← hrr]; exact hx), h.low, h.inj1, h.inj2, h.inj3, h.nle, h.fxb, h.fxr⟩
theorem oMCallI (R : Nat) (q' : Sq) {f : FuncId} {x y : Operand} {ts : Array TypeId} {te et : TypeId} {q c' : Sq} {F k m : Nat} {i r : Int} (hp : MCall C.P f [.row 1000000 0 m, .int i] [1000000] [] [(te, q.nn k)] [(te, c')] [] [] (.int r)) (hg : o.guard = none) (hop : o.op = .call { callee := .value (.func f), args := #[x, y], argTypes := ts }) {b : Nat} (hd : o.dst = some b) (hn : Nat.blt b C.n = true)
  (hx : (PS.ev ⟨tm, rw', bx⟩ x) = .irow F k m) (hyy : (PS.ev ⟨tm, rw', bx⟩ y) = .int i) (hf : PS.r ⟨tm, rw', bx⟩ (FK + F) = some (te, dF q)) (hR : PS.r ⟨tm, rw', bx⟩ R = some (et, dR F q)) (hq : q.deep = true) (hk : k < q.len) (hin : SetIn F q q' k c') (hl : c'.len = (q.nn k).len) (hz : c'.sz = (q.nn k).sz) (hcf : c'.isRefs = false)
  (h : VO C ops K rest ⟨(b, .int r) :: tm, (R, some (et, dR F q')) :: (FK + F, some (te, dF q')) :: rw', bx⟩) (hF : Nat.blt F 4294967296 = true := by rfl) (hFR : notF R = true := by rfl) : VO C ops K (o :: rest) ⟨tm, rw', bx⟩ := by
 refine vOp hg ⟨fun M a w Q K' hr hkk => ?_⟩
 rw [Nat.blt_eq] at hF
 have hevx := hr.ev x
 rw [hx] at hevx
 have hevy := hr.ev y
 rw [hyy] at hevy
 have hinn := deep_r hF hq (s := ⟨tm, rw', bx⟩) hf k
 rw [if_pos hk] at hinn
 have hflat : (q.nn k).isRefs = false := nn_refs q k
 have hf' := hf
 rw [dF_fam] at hf'
 let N : Mp := ⟨fun _ => none, fun z => if z = 1000000 then M.γ (inn F k) else none⟩
 have n1 : N.γ 1000000 = M.γ (inn F k) := by simp [N]
 have n2 : ∀ z, z ≠ 1000000 → N.γ z = none := fun z hz => by simp [N, hz]
 have hNo : ∀ g, N.owned g → ∃ c z, M.γ (inn F k) = some (some (g, c, z)) := by
  rintro g (⟨b', hb'⟩ | ⟨z, c, zz, hz⟩)
  ·cases hb'
  ·by_cases hz1 : z = 1000000
   ·rw [hz1, n1] at hz; exact ⟨c, zz, hz⟩
   ·rw [n2 z hz1] at hz; cases hz
 have hNM : ∀ g, N.owned g → M.owned g := fun g hg => by obtain ⟨c, z, h1⟩ := hNo g hg; exact .inr ⟨_, c, z, h1⟩
 have hPS : ∀ (cc : Sq) (z : Nat), PS.r ⟨[], asL [1000000] [(te, cc)], asL [] []⟩ z = if z = 1000000 then some (te, cc) else none := fun cc z => by
  have hNF : notF 1000000 = true := by decide
  by_cases hz : z = 1000000
  ·subst hz; rw [if_pos rfl, PS.r_lo _ (by decide)]; rfl
  ·rw [if_neg hz]
   cases hb : Nat.ble BIG z with
   | true =>
    rw [PS.r_hi _ hb]
    unfold PS.inn
    have : (1000000 : Nat) ≠ FK + unF z := fun e => by have := notF_fk z; rw [← e, hNF] at this; cases this
    simp only [asL]
    rw [look_cons_ne this]; rfl
   | false =>
    rw [PS.r_lo _ hb]
    simp only [asL]
    rw [look_cons_ne (Ne.symm hz)]; rfl
 have hAm : ∀ f b, b < w.heap.size → Ow (Fs C.w0 C.O0) M f b → Ow (Fs C.w0 C.O0) M f b ∧ b < w.heap.size ∧ w.heap[b]? = w.heap[b]? := fun _ _ h1 h2 => ⟨h2, h1, rfl⟩
 have pre : HasM (Ow (Fs C.w0 C.O0) M) N ⟨[], asL [1000000] [(te, q.nn k)], asL [] []⟩ w := by
  refine ⟨fun b' cs hb' => by simp [PS.b, asL, look] at hb', fun _ _ => rfl, fun z e p hz => ?_, fun z hz => ?_, fun _ _ _ h1 => (by cases h1), fun z z' kk c zz c' zz' h1 h2 => ?_, fun _ _ _ _ _ h1 => by cases h1⟩
  ·rw [hPS] at hz
   split at hz
   ·rename_i hz1
    cases hz
    subst hz1
    rcases hr.row _ _ _ hinn with ⟨g1, g2⟩ | ⟨g, cap, cur, g1, g2, g3, g4, g5, g6⟩
    ·exact .inl ⟨n1.trans g1, g2⟩
    ·refine .inr ⟨g, cap, cur, n1.trans g1, g2, g3, g4, g5, fun i' j' d' hi' hd' => ?_⟩
     have hd2 := hd'
     rw [Sq.relem_eq hflat] at hd2
     exact (g6 i' j' d' hi' hd').elem_any hd2 hAm
   ·cases hz
  ·rw [hPS] at hz
   split at hz
   ·cases hz
   ·rename_i hz1; exact n2 z hz1
  ·have e1 : z = 1000000 := by
    by_cases hz1 : z = 1000000
    ·exact hz1
    ·rw [n2 z hz1] at h1; cases h1
   have e2 : z' = 1000000 := by
    by_cases hz1 : z' = 1000000
    ·exact hz1
    ·rw [n2 z' hz1] at h2; cases h2
   rw [e1, e2]
 have hargs : ArgsM (Ow (Fs C.w0 C.O0) M) N w [.row 1000000 0 m, .int i] #[a.eval x, a.eval y] := by
  refine ⟨rfl, fun j d hj => ?_⟩
  rcases j with _ | _ | j
  ·simp at hj
   subst hj
   show VR N _ w _ (a.eval x)
   generalize a.eval x = v at hevx
   cases hevx with
   | irow _ _ _ _ g1 g2 => exact .row _ _ _ _ g1 fun y hy => g2 y (by rw [← n1]; exact hy)
  ·simp at hj
   subst hj
   show VR N _ w _ (a.eval y)
   rw [hevy.int_inv]; exact .int _
  ·simp at hj
 have hrun : (execOp a.eval o).run C.P w = .ok (.enter f #[a.eval x, a.eval y]) w := by
  have := hp.enter #[a.eval x, a.eval y] w
  unfold execOp
  rw [hop]
  show ((do let d ← resolve a.eval _ o.type; invoke d.target d.args : Sem Next)).run C.P w = _
  simp only [resolve]
  show ((callFunc f ((#[] ++ #[x, y].map a.eval) ++ #[])) : Sem Next).run C.P w = _
  rw [show (#[] ++ #[x, y].map a.eval) ++ #[] = #[a.eval x, a.eval y] by simp]
  exact this
 unfold Oper.wp
 rw [hrun]
 refine (hp.run w N _ (Ow (Fs C.w0 C.O0) M) (fun f k ha ho => ha.1 (hNM _ ho)) Rel.mon pre hargs).mono ?_
 rintro e w' ⟨v, rfl, N', p1, p2, p3, p4, p5, p6, p7, p8, p9, p10⟩
 have hg1 : N'.γ 1000000 = M.γ (inn F k) := (p3 1000000 (Nat.le_refl _) (by decide)).trans n1
 have hpost := p1.row 1000000 te c' (by rw [hPS, if_pos rfl])
 have hcase : (M.γ (inn F k) = some none ∧ c'.len = 0 ∧ ∀ x, x < w.heap.size → w'.heap[x]? = w.heap[x]?) ∨ ∃ g cap cur', (M.γ (inn F k) = some (some (g, cap, c'.sz)) ∧ (∀ x, x < w.heap.size → x ≠ g → w'.heap[x]? = w.heap[x]?) ∧ w'.heap[g]? = some (.cells cur' te (0, 0)) ∧ c'.len ≤ cap ∧ cap ≤ maxLen ∧ cur'.size = cap * c'.sz ∧ ∀ i j d, i < c'.len → (c'.relem i)[j]? = some d → VR M (Ow (Fs C.w0 C.O0) M) w' d (cur'.getD (i * c'.sz + j) undef)) := by
  rcases hpost with ⟨g1, g2⟩ | ⟨g, cap, cur', g1, g2, g3, g4, g5, g6⟩
  ·rw [hg1] at g1
   refine .inl ⟨g1, g2, fun x hx => p9 x hx fun ho => ?_⟩
   obtain ⟨c, z, h1⟩ := hNo x ho
   rw [g1] at h1; cases h1
  ·rw [hg1] at g1
   refine .inr ⟨g, cap, cur', g1, fun x hx hxg => p9 x hx fun ho => ?_, g2, g3, g4, g5, fun i' j' d' hi' hd' => ?_⟩
   ·obtain ⟨c, z, h1⟩ := hNo x ho
    rw [g1] at h1; cases h1; exact hxg rfl
   ·have hv := g6 i' j' d' hi' hd'
    have hd2 := hd'
    rw [Sq.relem_eq hcf] at hd2
    refine hv.elem_any hd2 fun f b hb hA2 => ⟨?_, hb, rfl⟩
    obtain ⟨ha, hnb⟩ := hA2
    rcases ha with ha | ha | ha
    ·exact ha
    ·refine ⟨fun ho => ?_, .inl (Nat.le_trans hr.fr.size ha)⟩
     have := hr.lt b ho; omega
    ·exfalso
     obtain ⟨c, z, h1⟩ := hNo b ha
     rw [g1] at h1
     cases h1
     exact hnb (.inr ⟨1000000, _, _, hg1.trans g1⟩)
 have hrel : Rel C.w0 C.O0 C.n M ⟨tm, (FK + F, some (te, .fam (famOf q'))) :: rw', bx⟩ a w' := by
  rcases hcase with hc | ⟨g, cap, cur', hc⟩
  ·exact (hr.inPlace (g := 0) (cap := 0) (cur' := #[]) (w' := w') hF hf' (by rw [famOf_get hq, if_pos hk]) hin.get p5 p6 p7 p8 (.inl hc)).1
  ·exact (hr.inPlace (w' := w') hF hf' (by rw [famOf_get hq, if_pos hk]) hin.get p5 p6 p7 p8 (.inr hc)).1
 refine hkk M _ _ _ h ?_
 rw [hd, dF_fam, p10.int_inv]
 exact (Rel.outer hF hFR hR hin.dR hrel).put (o := some b) hn (.int _)
end
end Go.Proofs.Ytkklfgcelmeccaa
namespace Go.Proofs.Ytkklfgcelmeccaa
open Go.RowKit Go.Deep
structure NewD (N : Mp) (A : Bool → Nat → Prop) (w w' : World) (B F : Nat) (et te : TypeId) (q : Sq) : Prop where
 os : w'.os = w.os
 tape : w'.tape = w.tape
 output : w'.output = w.output
 size : w.heap.size ≤ w'.heap.size
 block : ∀ k, k < w.heap.size → w'.heap[k]? = w.heap[k]?
 noβ : ∀ b, N.β b = none
 outer : (N.γ B = some none ∧ q.len = 0) ∨ ∃ g cap cur, N.γ B = some (some (g, cap, q.sz)) ∧ w'.heap[g]? = some (.cells cur et (0, 0)) ∧ q.len ≤ cap ∧ cap ≤ maxLen ∧ cur.size = cap * q.sz ∧ ∀ i j d, i < q.len → ((dR F q).relem i)[j]? = some d → VR N A w' d (cur.getD (i * q.sz + j) undef)
 inner : ∀ i, i < q.len → (N.γ (inn F i) = some none ∧ (q.nn i).len = 0) ∨ ∃ g cap cur, N.γ (inn F i) = some (some (g, cap, (q.nn i).sz)) ∧ w'.heap[g]? = some (.cells cur te (0, 0)) ∧ (q.nn i).len ≤ cap ∧ cap ≤ maxLen ∧ cur.size = cap * (q.nn i).sz ∧ ∀ i' j d, i' < (q.nn i).len → ((q.nn i).relem i')[j]? = some d → VR N A w' d (cur.getD (i' * (q.nn i).sz + j) undef)
 none : ∀ x, x ≠ B → (∀ i, i < q.len → x ≠ inn F i) → N.γ x = none
 low : ∀ k, N.owned k → w.heap.size ≤ k
 inj : ∀ r r' k c z c' z', N.γ r = some (some (k, c, z)) → N.γ r' = some (some (k, c', z')) → r = r'
structure PCallD (P : Program) (f : FuncId) (ds : List D) (et te : TypeId) (q : Sq) (d : D) : Prop where
 enter : ∀ args w, (callFunc f args).run P w = .ok (.enter f args) w
 deep : q.deep = true
 run : ∀ w args, ArgsOK w ds args → Calls P f args w fun e w' => ∃ v, e = .returned v ∧ ∀ B F, B ≤ 500000 → F < 4294967296 → ∃ N, NewD N (Rs w N) w w' B F et te q ∧ VR N (Rs w N) w' (ren id (fun j => B + j) d) v
section
variable {C : Cx} {ops : Array Oper} {K : PS → Prop} {o : Oper} {rest : List Oper} {s s' : PS} {TT : List (Nat × Ty)} {tm : List (Nat × D)} {rw' : List (Nat × Option (TypeId × Sq))} {bx : List (Nat × Option (List D))}
theorem Rel.newDeep {w0 : World} {O0 : Hd} {n : Nat} {M N : Mp} {A : Bool → Nat → Prop} {a : Act} {w w' : World} {B F : Nat} {et te : TypeId} {q : Sq} (h : Rel w0 O0 n M ⟨tm, rw', bx⟩ a w) (hq : q.deep = true) (hN : NewD N A w w' B F et te q) (hF : F < 4294967296) (hB : B < 1000000)
  (hA : ∀ f k, k < w'.heap.size → A f k → (¬ N.owned k ∧ ¬ M.owned k) ∧ Fs w0 O0 f k) (hf : Fresh ⟨tm, rw', bx⟩ (fun _ => false) (fun r => Nat.beq r B || !notF r)) (hl : lone ⟨tm, rw', bx⟩ 999999 F = true) (h9 : PS.r ⟨tm, rw', bx⟩ 999999 = none) (hfn : PS.r ⟨tm, rw', bx⟩ (FK + F) = none) (hO : ∀ u, O0.fr (FK + F) ≠ some u) :
  ∃ M', Rel w0 O0 n M' ⟨tm, (B, some (et, dR F q)) :: (FK + F, some (te, dF q)) :: rw', bx⟩ a w' ∧ ∀ d v, ment (fun _ => true) (fun r => !Nat.beq r B) d = false → VR N A w' d v → VR M' (Ow (Fs w0 O0) M') w' d v := by
 have hBF := notF_lo hB
 have hBb := notF_big hBF
 have hne : FK + F ≠ B := fk_ne hF hBF
 let M' : Mp := ⟨M.β, fun x => match Nat.ble BIG x with
  | true => if unF x = F then N.γ x else M.γ x
  | false => if x = B then N.γ B else if x = FK + F then some none else M.γ x⟩
 have mB : M'.γ B = N.γ B := by simp [M', hBb]
 have mF : M'.γ (FK + F) = some none := by simp [M', fk_lo hF, hne]
 have mI : ∀ i, M'.γ (inn F i) = N.γ (inn F i) := fun i => by
  have e : ∀ x, Nat.ble BIG x = true → unF x = F → M'.γ x = N.γ x := fun x h1 h2 => by simp [M', h1, h2]
  exact e _ (inn_hi F i) (by rw [unF_inn, Nat.mod_eq_of_lt hF])
 have mG : ∀ x, Nat.ble BIG x = true → unF x ≠ F → M'.γ x = M.γ x := fun x h1 h2 => by simp [M', h1, h2]
 have mL : ∀ x, Nat.ble BIG x = false → x ≠ B → x ≠ FK + F → M'.γ x = M.γ x := fun x h1 h2 h3 => by simp [M', h1, h2, h3]
 have hfi : ∀ k, M.γ (inn F k) = none := fun k => h.rown _ (by rw [PS.r_hi _ (inn_hi F k), PS.inn_r, fk_unF hF, hfn]; rfl)
 have cases4 : ∀ x y, M'.γ x = some y → N.γ x = some y ∨ (M.γ x = some y ∧ x ≠ FK + F) ∨ (x = FK + F ∧ y = none) := fun x y hx => by
  cases hb : Nat.ble BIG x with
  | true =>
   by_cases hu : unF x = F
   ·have : M'.γ x = N.γ x := by simp [M', hb, hu]
    rw [this] at hx; exact .inl hx
   ·rw [mG x hb hu] at hx
    exact .inr (.inl ⟨hx, fun e => by rw [e, fk_lo hF] at hb; cases hb⟩)
  | false =>
   by_cases h1 : x = B
   ·rw [h1, mB] at hx; rw [h1]; exact .inl hx
   ·by_cases h2 : x = FK + F
    ·rw [h2, mF] at hx; cases hx; exact .inr (.inr ⟨h2, rfl⟩)
    ·rw [mL x hb h1 h2] at hx; exact .inr (.inl ⟨hx, h2⟩)
 have hown : ∀ k, M'.owned k → M.owned k ∨ N.owned k := by
  rintro k (⟨x, hx⟩ | ⟨r, c, z, hr⟩)
  ·exact .inl (.inl ⟨x, hx⟩)
  ·rcases cases4 r _ hr with h1 | ⟨h1, _⟩ | ⟨_, h1⟩
   ·exact .inr (.inr ⟨r, c, z, h1⟩)
   ·exact .inl (.inr ⟨r, c, z, h1⟩)
   ·cases h1
 have hA0 : ∀ f k, k < w.heap.size → Ow (Fs w0 O0) M f k → Ow (Fs w0 O0) M' f k ∧ k < w'.heap.size ∧ w'.heap[k]? = w.heap[k]? := fun f k h1 h2 =>
  ⟨⟨fun h3 => by rcases hown k h3 with h4 | h4; exact h2.1 h4; have := hN.low k h4; omega, h2.2⟩, by have := hN.size; omega, hN.block k h1⟩
 have hA1 : ∀ f k, k < w'.heap.size → A f k → Ow (Fs w0 O0) M' f k ∧ k < w'.heap.size ∧ w'.heap[k]? = w'.heap[k]? := fun f k h1 h2 =>
  ⟨⟨fun h3 => by rcases hown k h3 with h4 | h4; exact (hA f k h1 h2).1.2 h4; exact (hA f k h1 h2).1.1 h4, (hA f k h1 h2).2⟩, h1, rfl⟩
 have hγ : ∀ x y, (Nat.beq x B || !notF x) = false → M'.γ x = some y → M.γ x = some y := fun x y h1 h2 => by
  rw [Bool.or_eq_false_iff] at h1
  have hn : notF x = true := by simpa using h1.2
  rw [mL x (notF_big hn) (fun e => by rw [e, Nat.beq_refl] at h1; cases h1.1) (fun e => fk_ne hF hn e.symm)] at h2
  exact h2
 have hbf : (Nat.beq BIG B || !notF BIG) = true := by
  have : notF BIG = false := by decide
  rw [this]; simp
 have oldrow : ∀ x e p, PS.r ⟨tm, rw', bx⟩ x = some (e, p) → M'.γ x = M.γ x → RowAt (Fs w0 O0) M' w' x e p := fun x e p hx hm => by
  rcases h.row x e p hx with ⟨g1, g2⟩ | ⟨g, cap, cur, g1, g2, g3, g4, g5, g6⟩
  ·exact .inl ⟨hm.trans g1, g2⟩
  ·have hlt := (Array.getElem?_eq_some_iff.1 g2).1
   refine .inr ⟨g, cap, cur, hm.trans g1, (hN.block g hlt).trans g2, g3, g4, g5, fun i j d hi hd => (g6 i j d hi hd).relem_any2 hd hA0 fun G hG k y hy => ?_⟩
   rcases lone_ok hl hx hG with h1 | ⟨h1, h2⟩
   ·rw [h1, h9] at hx; cases hx
   ·rw [mG _ (inn_hi G k) (by rw [unF_inn, Nat.mod_eq_of_lt h2]; exact h1)] at hy; exact hy
 have hPS : ∀ x, PS.r ⟨tm, (B, some (et, dR F q)) :: (FK + F, some (te, dF q)) :: rw', bx⟩ x = match Nat.ble BIG x with | true => (if unF x = F then famr (some (some (te, dF q))) (unK x) else PS.r ⟨tm, rw', bx⟩ x) | false => if x = B then some (et, dR F q) else if x = FK + F then some (te, dF q) else PS.r ⟨tm, rw', bx⟩ x := fun x => by
  rw [PS.r_app (s := ⟨tm, rw', bx⟩) (s' := ⟨tm, (B, some (et, dR F q)) :: (FK + F, some (te, dF q)) :: rw', bx⟩) (l := [(B, some (et, dR F q)), (FK + F, some (te, dF q))]) rfl, look_two', look_two']
  cases hbx : Nat.ble BIG x with
  | true =>
   have h1 : B ≠ FK + unF x := fun e => by have := notF_fk x; rw [← e, hBF] at this; cases this
   by_cases hu : unF x = F
   ·simp [hu, Ne.symm hne]
   ·simp [hu, Ne.symm hu, h1]
  | false =>
   by_cases hx : B = x
   ·subst hx; simp
   ·by_cases hxf : FK + F = x
    ·rw [← hxf, if_neg (Ne.symm hne), if_pos rfl, if_neg hne, if_pos rfl]
    ·simp [hx, hxf, Ne.symm hx, Ne.symm hxf]
 refine ⟨M', ⟨?_, h.dfr, h.sz, fun t => ?_, fun x ds hx => ?_, fun x hx => h.boxn x hx, fun x e p hx => ?_, fun x hx => ?_, fun k hk => ?_, h.inj1, fun x y k c z c' z' h1 h2 => ?_, fun x y k c z h1 h2 => ?_, h.nle, h.fxb, fun x u u' h1 h2 => ?_⟩, fun d v hd hv => ?_⟩
 ·exact h.fr.step hN.os hN.tape hN.output hN.size fun k h1 _ => hN.block k (Nat.lt_of_lt_of_le h1 h.fr.size)
 ·exact VR.new (b := fun _ => false) (r := fun r => Nat.beq r B || !notF r) hA0 hγ (fun _ _ _ h => h) (hf.t t) (h.tmp t) (hi := fun h0 => by rw [hbf] at h0; cases h0)
 ·obtain ⟨k, cur', e', h1, h2, h3, h4⟩ := h.box x ds hx
  have hlt := (Array.getElem?_eq_some_iff.1 h2).1
  exact ⟨k, cur', e', h1, (hN.block k hlt).trans h2, h3, fun j d hd => VR.newS (b := fun _ => false) (r := fun r => Nat.beq r B || !notF r) hA0 hγ (fun _ _ _ h => h) (hf.b _ _ hx d (List.mem_of_getElem? hd)) (h4 j d hd) (hi := fun h0 => by rw [hbf] at h0; cases h0)⟩
 ·rw [hPS] at hx
  cases hbx : Nat.ble BIG x with
  | true =>
   rw [hbx] at hx
   by_cases hu : unF x = F
   ·have hxe : x = inn F (unK x) := by rw [← hu]; exact (inn_of hbx).symm
    simp only [hu, if_true] at hx
    rw [famr_dF hq] at hx
    generalize unK x = k0 at hx hxe
    split at hx
    ·rename_i hk
     cases hx
     rw [hxe]
     rcases hN.inner _ hk with ⟨g1, g2⟩ | ⟨g, cap, cur, g1, g2, g3, g4, g5, g6⟩
     ·exact .inl ⟨(mI _).trans g1, g2⟩
     ·refine .inr ⟨g, cap, cur, (mI _).trans g1, g2, g3, g4, g5, fun i j d hi hd => ?_⟩
      have hd2 := hd
      rw [Sq.relem_eq (nn_refs q _)] at hd2
      exact (g6 i j d hi hd).elem_any hd2 hA1
    ·cases hx
   ·simp only [hu, if_false] at hx
    exact oldrow x e p hx (mG x hbx hu)
  | false =>
   rw [hbx] at hx
   simp only at hx
   split at hx
   ·rename_i hxB
    cases hx
    subst hxB
    rcases hN.outer with ⟨g1, g2⟩ | ⟨g, cap, cur, g1, g2, g3, g4, g5, g6⟩
    ·exact .inl ⟨mB.trans g1, by rw [dR_len]; exact g2⟩
    ·refine .inr ⟨g, cap, cur, by rw [mB, dR_sz]; exact g1, g2, by rw [dR_len]; exact g3, g4, by rw [dR_sz]; exact g5, fun i j d hi hd => ?_⟩
     rw [dR_len] at hi
     rw [dR_sz]
     have hv := g6 i j d hi hd
     rcases dR_relem hq hi hd with ⟨rfl, _⟩ | ⟨y, rfl, _⟩
     ·exact hv.irow_mv fun y hy => by rw [mI] at hy; exact hy
     ·rw [hv.int_inv]; exact .int _
   rename_i hxB
   split at hx
   ·rename_i hxf
    cases hx
    rw [hxf]
    exact .inl ⟨mF, dF_len q⟩
   ·rename_i hxf
    exact oldrow x e p hx (mL x hbx hxB hxf)
 ·rw [hPS] at hx
  cases hbx : Nat.ble BIG x with
  | true =>
   rw [hbx] at hx
   by_cases hu : unF x = F
   ·have hxe : x = inn F (unK x) := by rw [← hu]; exact (inn_of hbx).symm
    simp only [hu, if_true] at hx
    rw [famr_dF hq] at hx
    split at hx
    ·cases hx
    ·rename_i hk
     rw [hxe, mI]
     refine hN.none _ (fun e => by have := inn_hi F (unK x); rw [e, hBb] at this; cases this) fun i hi e => hk ?_
     rw [(inn_inj e).2]; exact hi
   ·simp only [hu, if_false] at hx
    rw [mG x hbx hu]; exact h.rown x hx
  | false =>
   rw [hbx] at hx
   simp only at hx
   split at hx
   ·cases hx
   rename_i hxB
   split at hx
   ·cases hx
   rename_i hxf
   rw [mL x hbx hxB hxf]; exact h.rown x hx
 ·rcases hown k hk with h1 | h1
  ·exact h.low k h1
  ·exact .inl (Nat.le_trans h.fr.size (hN.low k h1))
 ·have hx : ∀ r r' k c z c' z', M.γ r = some (some (k, c, z)) → N.γ r' = some (some (k, c', z')) → False := fun r r' k c z c' z' a1 a2 => by
   have := h.lt _ (.inr ⟨r, c, z, a1⟩); have := hN.low _ (.inr ⟨r', c', z', a2⟩); omega
  rcases cases4 x _ h1 with g1 | ⟨g1, _⟩ | ⟨_, g1⟩
  ·rcases cases4 y _ h2 with g2 | ⟨g2, _⟩ | ⟨_, g2⟩
   ·exact hN.inj _ _ _ _ _ _ _ g1 g2
   ·exact (hx _ _ _ _ _ _ _ g2 g1).elim
   ·cases g2
  ·rcases cases4 y _ h2 with g2 | ⟨g2, _⟩ | ⟨_, g2⟩
   ·exact (hx _ _ _ _ _ _ _ g1 g2).elim
   ·exact h.inj2 _ _ _ _ _ _ _ g1 g2
   ·cases g2
  ·cases g1
 ·rcases cases4 y _ h2 with g2 | ⟨g2, _⟩ | ⟨_, g2⟩
  ·have := h.lt _ (.inl ⟨x, h1⟩); have := hN.low _ (.inr ⟨y, c, z, g2⟩); omega
  ·exact h.inj3 _ _ _ _ _ h1 g2
  ·cases g2
 ·obtain ⟨h3, h4⟩ := O0.lor x u h1
  have hb1 : Nat.ble BIG x = false := by
   cases hb : Nat.ble BIG x with
   | false => rfl
   | true => have := Nat.le_of_ble_eq_true hb; omega
  by_cases hxf : x = FK + F
  ·rw [hxf] at h1; exact absurd h1 (hO u)
  ·rw [mL x hb1 (by omega) hxf] at h2; exact h.fxr x u u' h1 h2
 ·refine VR.new (b := fun _ => true) (r := fun r => !Nat.beq r B) hA1 (fun x y h1 h2 => ?_) (fun x k hx => by simp at hx) hd hv (hi := fun h0 => ?_)
  ·have : x = B := Nat.eq_of_beq_eq_true (by simpa using h1)
   rw [this, mB] at h2; rw [this]; exact h2
  ·have : BIG = B := Nat.eq_of_beq_eq_true (by simpa using h0)
   rw [← this] at hBb
   exact absurd hBb (by decide)
theorem oCallD (F : Nat) {f : FuncId} {args : Array Operand} {ts : Array TypeId} {ds : List D} {et te : TypeId} {q : Sq} {d d' : D} (hp : PCallD C.P f ds et te q d) (hg : o.guard = none) (hop : o.op = .call { callee := .value (.func f), args := args, argTypes := ts }) {b : Nat} (hd : o.dst = some b) (hn : Nat.blt b C.n = true) (hno : (ds.all noIds) = true)
  (hm : ment (fun _ => true) (fun r => !Nat.beq r (rowB b)) (ren id (fun j => rowB b + j) d) = false) (hx : (fcD (ren id (fun j => rowB b + j) d) some) = some d') (hf : frB ⟨tm, rw', bx⟩ (fun _ => false) (fun r => Nat.beq r (rowB b) || !notF r) = true) (hl : lone ⟨tm, rw', bx⟩ 999999 F = true) (h9 : PS.r ⟨tm, rw', bx⟩ 999999 = none) (hfn : PS.r ⟨tm, rw', bx⟩ (FK + F) = none) (hO : ∀ u, C.O0.fr (FK + F) ≠ some u) (hfit : fits ⟨tm, rw', bx⟩ args.toList ds)
  (h : VO C ops K rest ⟨(b, d') :: tm, (rowB b, some (et, dR F q)) :: (FK + F, some (te, dF q)) :: rw', bx⟩) (hF : Nat.blt F 4294967296 = true := by rfl) : VO C ops K (o :: rest) ⟨tm, rw', bx⟩ := by
 refine vOp hg ⟨fun M a w Q K' hr hk => ?_⟩
 rw [Nat.blt_eq] at hF
 rw [fcD_eq] at hx
 cases hx
 have hb1000 : b < 1000 := by have := hr.nle; rw [Nat.blt_eq] at hn; omega
 have hrun : (execOp a.eval o).run C.P w = .ok (.enter f (args.map a.eval)) w := by
  have := hp.enter (args.map a.eval) w
  unfold execOp
  rw [hop]
  show ((do let d ← resolve a.eval _ o.type; invoke d.target d.args : Sem Next)).run C.P w = _
  simp only [resolve]
  show ((callFunc f ((#[] ++ args.map a.eval) ++ #[])) : Sem Next).run C.P w = _
  rw [show (#[] ++ args.map a.eval) ++ #[] = args.map a.eval by simp]
  exact this
 unfold Oper.wp
 rw [hrun]
 refine (hp.run w _ (fits_args hr hfit hno)).mono ?_
 rintro e w' ⟨v, rfl, hB⟩
 obtain ⟨N, hN, hv⟩ := hB (rowB b) F (by simp only [rowB]; omega) hF
 obtain ⟨M', h1, h2⟩ := hr.newDeep hp.deep hN hF (by simp only [rowB]; omega) (fun f k hk hA => ⟨⟨hA.2, fun ho => by have := hr.lt k ho; have := hA.1; omega⟩, .inl (Nat.le_trans hr.fr.size hA.1)⟩) (frB_ok hf) hl h9 hfn hO
 refine hk M' _ _ _ h ?_
 rw [hd]
 exact h1.put (o := some b) hn (h2 _ _ hm hv)
end
end Go.Proofs.Ytkklfgcelmeccaa
namespace Go.Proofs.Ytkklfgcelmeccaa
open Go.RowKit Go.Deep
theorem mentA_ne {b r : Nat → Bool} {d : D} (h : ∀ l, d ≠ .agg l) : mentA b r d = mentS b r d := by cases d <;> first | rfl | exact absurd rfl (h _)
theorem ment_ne {b r : Nat → Bool} {d : D} (h : ∀ l, d ≠ .tup l) : ment b r d = mentA b r d := by cases d <;> first | rfl | exact absurd rfl (h _)
theorem renA_ne {τ σ : Nat → Nat} {d : D} (h : ∀ l, d ≠ .agg l) : renA τ σ d = renS τ σ d := by cases d <;> first | rfl | exact absurd rfl (h _)
theorem ren_ne {τ σ : Nat → Nat} {d : D} (h : ∀ l, d ≠ .tup l) : ren τ σ d = renA τ σ d := by cases d <;> first | rfl | exact absurd rfl (h _)
theorem renS_agg {τ σ : Nat → Nat} (d : D) : ∀ l, renS τ σ d ≠ .agg l := by cases d <;> intro l h <;> cases h
theorem renA_tup {τ σ : Nat → Nat} (d : D) : ∀ l, renA τ σ d ≠ .tup l := by cases d <;> intro l h <;> cases h
theorem ment_one {B : Nat} : ∀ d : D, ment (fun _ => true) (fun j => !Nat.blt j 1) d = false → ment (fun _ => true) (fun r => !Nat.beq r B) (ren id (fun j => B + j) d) = false := by
 have keyS : ∀ d : D, mentS (fun _ => true) (fun j => !Nat.blt j 1) d = false → mentS (fun _ => true) (fun r => !Nat.beq r B) (renS id (fun j => B + j) d) = false := fun d hd => by
  cases d <;> simp only [mentS, renS] at hd ⊢ <;> try (first | exact hd | rfl)
  ·rename_i x _ _
   have h1 : x < 1 := by simpa using hd
   have : x = 0 := by omega
   subst this; simp [Nat.beq_refl]
  ·rename_i x _ _
   have h1 : x < 1 := by simpa using hd
   have : x = 0 := by omega
   subst this; simp [Nat.beq_refl]
  ·rename_i f bs
   simpa using hd
  ·exact absurd hd (by decide)
  ·exact absurd hd (by decide)
 have keyA : ∀ d : D, mentA (fun _ => true) (fun j => !Nat.blt j 1) d = false → mentA (fun _ => true) (fun r => !Nat.beq r B) (renA id (fun j => B + j) d) = false := fun d hd => by
  by_cases ha : ∃ l, d = .agg l
  ·obtain ⟨l, rfl⟩ := ha
   simp only [mentA, renA, List.any_eq_false, List.mem_map] at hd ⊢
   rintro x ⟨y, hy, rfl⟩
   have := keyS y (by simpa using hd y hy)
   simp [this]
  ·have hne : ∀ l, d ≠ .agg l := fun l e => ha ⟨l, e⟩
   rw [mentA_ne hne] at hd
   rw [renA_ne hne, mentA_ne (renS_agg d)]
   exact keyS d hd
 intro d hd
 by_cases ha : ∃ l, d = .tup l
 ·obtain ⟨l, rfl⟩ := ha
  simp only [ment, ren, List.any_eq_false, List.mem_map] at hd ⊢
  rintro x ⟨y, hy, rfl⟩
  have := keyA y (by simpa using hd y hy)
  simp [this]
 ·have hne : ∀ l, d ≠ .tup l := fun l e => ha ⟨l, e⟩
  rw [ment_ne hne] at hd
  rw [ren_ne hne, ment_ne (renA_tup d)]
  exact keyA d hd
def RetPD (TT : List (Nat × Ty)) (res : List ResultVar) (et te : TypeId) (q : Sq) (d : D) : Exit → PS → Prop := fun e s => match e with
 | .normal | .ret => ∃ R F d', Nat.blt F 4294967296 = true ∧ retD TT s res = some d' ∧ s.r R = some (et, dR F q) ∧ s.r (FK + F) = some (te, dF q) ∧ notF R = true ∧ Wk d' (ren id (fun _ => R) d) ∧ okD 1 d = true
 | _ => False
theorem pcallD_intro {P : Program} {f : FuncId} {fn : Func} {c : Code} {TT : List (Nat × Ty)} {ds : List D} {et te : TypeId} {q : Sq} {d : D} {n : Nat} {res : List ResultVar} (hT : TTOK P TT) (hf : P.funcs[f]? = some fn) (hb : fn.body = some c)
  (hname : (fn.name == "runtime.NumGoroutine") = false) (hn : fn.ntmps = n) (hres : fn.results.toList = res) (hds : Nat.ble ds.length n = true) (hno : (ds.all fun d => noIds d && nwD false d) = true) (hq : q.deep = true)
  (h : ∀ w0, VC ⟨P, w0, Hd.no, n⟩ c (RetPD TT res et te q d) ⟨entL 0 ds, [], []⟩) (hn1000 : Nat.ble n 1000 = true := by rfl) : PCallD P f ds et te q d := by
 subst hn hres
 refine ⟨callFunc_of hf hname (by simp [hb]), hq, fun w0 args ⟨hsz, hargs⟩ => ?_⟩
 have hle := Nat.le_of_ble_eq_true hds
 have hent : Rel w0 Hd.no fn.ntmps M0 ⟨entL 0 ds, [], []⟩ { tmps := args ++ Array.replicate (fn.ntmps - args.size) undef, defers := [] } w0 := by
  refine ⟨⟨rfl, rfl, rfl, Nat.le_refl _, fun _ _ _ => rfl⟩, rfl, by simp; omega, fun t => ?_, fun b cs hb => by simp [PS.b, look] at hb, fun _ _ => rfl, fun r e q hr => (by rw [r_ent] at hr; cases hr), fun _ _ => rfl, ?_, by simp, by simp, by simp, Nat.le_of_ble_eq_true hn1000, by simp, by simp⟩
  ·simp only [PS.t, look_entL, Nat.zero_le, if_true, Nat.sub_zero]
   cases hd : ds[t]? with
   | none => exact .dead _
   | some d0 =>
    have hlt : t < args.size := by rw [hsz]; exact (List.getElem?_eq_some_iff.1 hd).1
    have h1 := hargs t d0 hd
    have h2 : (args ++ Array.replicate (fn.ntmps - args.size) undef).getD t undef = args.getD t undef := by
     simp [Array.getElem?_append_left hlt]
    rw [h2]
    have h4 := (List.all_eq_true.1 hno) d0 (List.mem_of_getElem? hd)
    simp only [Bool.and_eq_true] at h4
    refine VR.new (b := fun _ => true) (r := fun _ => true) (A := fun f _ => True ∧ f = false) (fun f b hb hf => ⟨⟨?_, .inr hf.2⟩, hb, rfl⟩) (fun x y hx => by simp at hx) (fun x y hx => by simp at hx) ?_ (h1.flag h4.2)
    ·simpa [noIds] using h4.1
    ·rintro (⟨x, hx⟩ | ⟨x, c, z, hx⟩) <;> simp at hx
  ·rintro k (⟨x, hx⟩ | ⟨x, c, z, hx⟩) <;> simp at hx
 refine calls_of_wp hf hb (Code.wp_mono ?_ ((h w0).out M0 _ w0 hent))
 rintro e a' w' ⟨s', M', hqq, hr⟩
 have fin : ∀ (hq' : ∃ R F d', Nat.blt F 4294967296 = true ∧ retD TT s' fn.results.toList = some d' ∧ s'.r R = some (et, dR F q) ∧ s'.r (FK + F) = some (te, dF q) ∧ notF R = true ∧ Wk d' (ren id (fun _ => R) d) ∧ okD 1 d = true),
   a'.defers = [] ∧ ∃ v, (results fn a'.tmps).run P w' = .ok v w' ∧ ∃ v', Ending.returned v = .returned v' ∧ ∀ B F, B ≤ 500000 → F < 4294967296 → ∃ N, NewD N (Rs w0 N) w0 w' B F et te q ∧ VR N (Rs w0 N) w' (ren id (fun j => B + j) d) v' := by
  rintro ⟨R, F0, d', hF0, h1, hR, hf0, hFR, h4, h5⟩
  rw [Nat.blt_eq] at hF0
  obtain ⟨v, h6, h7⟩ := ret_ok hT hr h1
  replace h7 := h7.wk h4
  refine ⟨hr.dfr, v, h6, v, rfl, fun B F hB0 hF => ?_⟩
  have hB : B < 1000000 := by omega
  have hBb := notF_big (notF_lo hB)
  simp only [okD, Bool.and_eq_true, Bool.not_eq_true'] at h5
  obtain ⟨⟨k1, k2⟩, k3⟩ := h5
  let M1 : Mp := ⟨fun _ => none, fun j => if j = 0 then M'.γ R else none⟩
  let N : Mp := ⟨fun _ => none, fun y => if y = B then M'.γ R else if Nat.ble BIG y = true ∧ unF y = F ∧ unK y < q.len then M'.γ (inn F0 (unK y)) else none⟩
  have nB : N.γ B = M'.γ R := by simp [N]
  have nI : ∀ i, i < q.len → N.γ (inn F i) = M'.γ (inn F0 i) := fun i hi => by
   have e : ∀ x, x ≠ B → (Nat.ble BIG x = true ∧ unF x = F ∧ unK x < q.len) → N.γ x = M'.γ (inn F0 (unK x)) := fun x h1 h2 => by simp [N, h1, h2]
   have := e (inn F i) (fun e => by have := inn_hi F i; rw [e, hBb] at this; cases this) ⟨inn_hi F i, by rw [unF_inn, Nat.mod_eq_of_lt hF], by rw [unK_inn]; exact hi⟩
   rwa [unK_inn] at this
  have nC : ∀ y z, N.γ y = some z → (y = B ∧ M'.γ R = some z) ∨ ∃ i, i < q.len ∧ y = inn F i ∧ M'.γ (inn F0 i) = some z := fun y z hy => by
   by_cases hyB : y = B
   ·rw [hyB, nB] at hy; exact .inl ⟨hyB, hy⟩
   ·simp only [N, hyB, if_false] at hy
    split at hy
    ·rename_i hc
     exact .inr ⟨_, hc.2.2, by rw [← hc.2.1]; exact (inn_of hc.1).symm, hy⟩
    ·cases hy
  have hNo : ∀ k, N.owned k → M'.owned k := by
   rintro k (⟨b, hb⟩ | ⟨y, c, z, hy⟩)
   ·cases hb
   ·rcases nC y _ hy with ⟨_, h1⟩ | ⟨i, _, _, h1⟩
    ·exact .inr ⟨_, c, z, h1⟩
    ·exact .inr ⟨_, c, z, h1⟩
  have hlow : ∀ k, M'.owned k → w0.heap.size ≤ k := fun k hk => (hr.low k hk).resolve_right (fun h => h)
  have hA : ∀ f b, b < w'.heap.size → (Ow (Fs w0 Hd.no) M' f b ∧ f = true) → Rs w0 N f b ∧ b < w'.heap.size ∧ w'.heap[b]? = w'.heap[b]? := fun f b hb hh =>
   ⟨⟨hh.1.2.resolve_right (fun h => by rw [hh.2] at h; cases h), fun ho => hh.1.1 (hNo b ho)⟩, hb, rfl⟩
  have hdeep := deep_r hF0 hq hf0
  have hRb := notF_big hFR
  refine ⟨N, ⟨hr.fr.os, hr.fr.tape, hr.fr.output, hr.fr.size, fun k hk => hr.fr.block k hk (fun h => h), fun _ => rfl, ?_, fun i hi => ?_, fun x hx hxi => ?_, fun k hk => hlow k (hNo k hk), fun r r' k c z c' z' a1 a2 => ?_⟩, ?_⟩
  ·rcases hr.row _ _ _ hR with ⟨b1, b2⟩ | ⟨g, cap, cur, b1, b2, b3, b4, b5, b6⟩
   ·exact .inl ⟨nB.trans b1, by rw [dR_len] at b2; exact b2⟩
   ·rw [dR_len] at b3 b6
    rw [dR_sz] at b1 b5 b6
    refine .inr ⟨g, cap, cur, nB.trans b1, b2, b3, b4, b5, fun i j d0 hi hd => ?_⟩
    rcases dR_relem hq hi hd with ⟨rfl, hro⟩ | ⟨y, rfl, hro⟩
    ·have : ((dR F0 q).relem i)[j]? = some (.irow F0 i (q.nn i).len) := by
      rcases dR_elem (F := F0) hq hi (hro true) with ⟨_, h2⟩ | ⟨y, h2, _⟩
      ·exact h2
      ·cases h2
     exact (b6 i j _ hi this).irow_mv fun y hy => by rw [nI i hi] at hy; exact hy
    ·have : ((dR F0 q).relem i)[j]? = some (.int y) := by
      rcases dR_elem (F := F0) hq hi (hro true) with ⟨h2, _⟩ | ⟨y', h2, h3⟩
      ·cases h2
      ·cases h2; exact h3
     rw [(b6 i j _ hi this).int_inv]; exact .int _
  ·have hin := hdeep i
   rw [if_pos hi] at hin
   rcases hr.row _ _ _ hin with ⟨b1, b2⟩ | ⟨g, cap, cur, b1, b2, b3, b4, b5, b6⟩
   ·exact .inl ⟨(nI i hi).trans b1, b2⟩
   ·refine .inr ⟨g, cap, cur, (nI i hi).trans b1, b2, b3, b4, b5, fun i' j d0 hi' hd => ?_⟩
    have h8 := b6 i' j d0 hi' hd
    rw [Sq.relem_eq (nn_refs q i)] at hd
    have hfl : nwS true d0 = true ∧ sameD d0 d0 := elem_new true (q.nn i) i' j d0 hd
    exact (h8.flagE (M' := M') hfl.2 hfl.1).elem_any hd hA
  ·cases hx' : N.γ x with
   | none => rfl
   | some z =>
    rcases nC x z hx' with ⟨h1, _⟩ | ⟨i, h1, h2, _⟩
    ·exact absurd h1 hx
    ·exact absurd h2 (hxi i h1)
  ·rcases nC r _ a1 with ⟨e1, b1⟩ | ⟨i, i1, e1, b1⟩
   ·rcases nC r' _ a2 with ⟨e2, b2⟩ | ⟨i', i2, e2, b2⟩
    ·rw [e1, e2]
    ·have := hr.inj2 _ _ _ _ _ _ _ b1 b2
     have h9 := inn_hi F0 i'
     rw [← this, hRb] at h9; cases h9
   ·rcases nC r' _ a2 with ⟨e2, b2⟩ | ⟨i', i2, e2, b2⟩
    ·have := hr.inj2 _ _ _ _ _ _ _ b1 b2
     have h9 := inn_hi F0 i
     rw [this, hRb] at h9; cases h9
    ·have := hr.inj2 _ _ _ _ _ _ _ b1 b2
     rw [e1, e2, (inn_inj this).2]
  ·have h8 : VR M1 (Ow (Fs w0 Hd.no) M') w' d v := VR.unren (M' := M') (A' := Ow (Fs w0 Hd.no) M') (τ := id) (σ := fun _ => R) (fun r x hx => by
    simp only [M1] at hx
    split at hx
    ·exact hx
    ·cases hx) (fun b k hb => by simp [M1] at hb) (fun _ _ _ h => h) k2 h7 (hi := fun r x hr1 hx => by
    simp only [M1] at hx
    split at hx
    ·rename_i h0
     subst h0
     exact absurd hr1 (by decide)
    ·cases hx)
   have hbk : ∀ r x, BIG ≤ r → M1.γ r = some x → False := fun r x hr1 hx => by
    simp only [M1] at hx
    split at hx
    ·rename_i h0; subst h0; exact absurd hr1 (by decide)
    ·cases hx
   have hment : ment (fun _ => true) (fun j => !Nat.blt j 1) d = false := k1
   have h9 : VR N (Rs w0 N) w' (ren id (fun j => B + j) d) v := by
    let N1 : Mp := ⟨fun _ => none, fun y => if y = B then M'.γ R else none⟩
    have h10 : VR N1 (Rs w0 N) w' (ren id (fun j => B + j) d) v := VR.ren (M := M1) hA (fun r x hx => by
     simp only [N1] at hx
     split at hx
     ·rename_i h0
      have : r = 0 := by omega
      simp only [M1, this, if_true]
      exact hx
     ·cases hx) (fun b k hb => by simp [N1] at hb) (h8.flag k3) (hi := fun r x hr1 hx => by
     simp only [N1] at hx
     split at hx
     ·rename_i h0
      rw [← h0, Nat.ble_eq_true_of_le hr1] at hBb; cases hBb
     ·cases hx)
    have hm2 : ment (fun _ => true) (fun r => !Nat.beq r B) (ren id (fun j => B + j) d) = false := ment_one d hment
    refine VR.new (b := fun _ => true) (r := fun r => !Nat.beq r B) (fun f b hb ha => ⟨ha, hb, rfl⟩) (fun x y hx hy => ?_) (fun x k hx => by simp at hx) hm2 h10 (hi := fun h0 => ?_)
    ·have : x = B := Nat.eq_of_beq_eq_true (by simpa using hx)
     rw [this, nB] at hy
     simp only [N1, this, if_true]; exact hy
    ·have : BIG = B := Nat.eq_of_beq_eq_true (by simpa using h0)
     rw [← this] at hBb; exact absurd hBb (by decide)
   exact h9
 cases e with
 | normal => exact fin hqq
 | ret => exact fin hqq
 | _ => exact hqq.elim
end Go.Proofs.Ytkklfgcelmeccaa
namespace Go.Proofs.Ytkklfgcelmeccaa
open Go.RowKit Go.Deep
theorem idn_snoc {α : Type} (X : List (List α)) (c : List α) : idn (X ++ [c]) = idn X ++ [(X.length, c.length)] := by simp [idn, List.zipIdx_append]
theorem appI (F : Nat) (X : List (List Int)) (c : List Int) : (dR F (.intss X)).app (.irefs F [(X.length, c.length)]) = some (dR F (.intss (X ++ [c]))) := by simp [dR, Sq.app, Nat.beq_refl, idn_snoc]
theorem pushI (X : List (List Int)) (c : List Int) : (Fq.ints (X.map some)).push (.ints c) = some (.ints ((X ++ [c]).map some)) := by simp [Fq.push]
theorem getD_set_eq {α : Type} (X : List α) (i j : Nat) (c z : α) (hi : i < X.length) : (X.set i c).getD j z = if j = i then c else X.getD j z := by
 by_cases h : j = i
 ·subst h; simp [hi]
 ·simp [List.getD_eq_getElem?_getD, List.getElem?_set, Ne.symm h, h]
theorem idn_set {α : Type} (X : List (List α)) (i : Nat) (c : List α) (hi : i < X.length) : idn (X.set i c) = (idn X).set i (i, c.length) := by
 apply List.ext_getElem
 ·simp [idn]
 ·intro j h1 h2
  simp only [idn, List.length_map, List.length_zipIdx, List.length_set] at h1 h2
  by_cases h : i = j
  ·subst h; simp [idn]
  ·simp [idn, List.getElem_set, h]
theorem inI (F : Nat) (X : List (List Int)) (k : Nat) (c : List Int) (hk : k < X.length) (hc : c.length = (X.getD k []).length) : SetIn F (.intss X) (.intss (X.set k c)) k (.ints c) := by
 refine ⟨fun j => ?_, ?_⟩
 ·rw [famOf_get rfl, famOf_get rfl]
  simp only [Sq.len, List.length_set, Sq.nn, getD_set_eq _ _ _ _ _ hk]
  by_cases h : j = k
  ·subst h; simp [hk]
  ·simp [h]
 ·simp only [dR]
  rw [idn_set _ _ _ hk, hc]
  congr 1
  apply List.ext_getElem
  ·simp
  ·intro j h1 h2
   by_cases h : k = j
   ·subst h; simp [idn, hk]
   ·simp [List.getElem_set, h]
section
variable {C : Cx} {ops : Array Oper} {K : PS → Prop} {o : Oper} {rest : List Oper} {s : PS} {TT : List (Nat × Ty)} {tm : List (Nat × D)} {rw' : List (Nat × Option (TypeId × Sq))} {bx : List (Nat × Option (List D))} {cr B : List Nat} {j : Nat}
theorem sLoadD (hT : TTOK C.P TT) {t et : TypeId} {e : TypeId} {kk : Sq} {by' : Nat} {x : Operand} {R F off m : Nat} {i : Int} {q : Sq} (hop : o.op = .load t x) (hy : look TT t = some (.sl e kk by')) (hx : s.ev x = .eptr R i off) (hR : s.r R = some (et, dR F q)) (hq : q.deep = true) (hoff : Nat.beq (off + 1) q.sz = true) (hm : (q.nn i.toNat).len = m) (hi : 0 ≤ i ∧ i < (q.len : Int)) (ho : dstOk C.n o.dst = true)
  (h : K (s.put o.dst (.irow F i.toNat m))) : Step C o s K := by
 have hi' : i.toNat < q.len := by omega
 have hoff' := Nat.eq_of_beq_eq_true hoff
 have hd : ((dR F q).relem i.toNat)[off]? = some (.irow F i.toNat m) := by
  have hlt : off < q.sz := by omega
  obtain ⟨d', hd'⟩ : ∃ d', (q.elem true i.toNat)[off]? = some d' := ⟨_, List.getElem?_eq_getElem (by rw [Sq.elem_len]; exact hlt)⟩
  rcases dR_elem (F := F) hq hi' hd' with ⟨_, h2⟩ | ⟨y, h1, _⟩
  ·rw [hm] at h2; exact h2
  ·exfalso
   subst h1
   cases q <;> first | (cases hq; done) | skip
   case raises X => simp [Sq.sz] at hoff'; subst hoff'; simp [Sq.elem] at hd'
   all_goals (simp [Sq.sz] at hoff'; subst hoff'; simp [Sq.elem] at hd')
 refine sRun (d := .irow F i.toNat m) (fun M a w hr => ?_) ho h
 have hv : evalV TT s (.load t x) = some (0 ≤ i ∧ i < ((dR F q).len : Int), .irow F i.toNat m) := by
  simp only [evalV, hx, ptrCells, hR, hy]
  have : ((dR F q).relem i.toNat).drop off = .irow F i.toNat m :: ((dR F q).relem i.toNat).drop (off + 1) := by
   obtain ⟨h1, h2⟩ := List.getElem?_eq_some_iff.1 hd
   rw [List.drop_eq_getElem_cons h1, h2]
  rw [this]
 obtain ⟨v, h1, h2⟩ := load_ok (P := C.P) hT hr hv (by rw [dR_len]; exact hi)
 refine ⟨v, ?_, h2⟩
 unfold execOp
 rw [hop]
 show ((do pure (Next.value (← Instr.loadAt t (a.eval x))) : Sem Next)).run C.P w = _
 rw [Sem.run_bind, h1]; rfl
theorem oLoadD (hT : TTOK C.P TT) (hw : Wanted C ops o ⟨tm, rw', bx⟩) {t et : TypeId} {e : TypeId} {kk : Sq} {by' : Nat} {x : Operand} {R F off m b : Nat} {i : Int} (q : Sq) (hop : o.op = .load t x) (hy : look TT t = some (.sl e kk by')) (hx : (PS.ev ⟨tm, rw', bx⟩ x) = .eptr R i off) (hR : PS.r ⟨tm, rw', bx⟩ R = some (et, dR F q)) (hq : q.deep = true) (hoff : Nat.beq (off + 1) q.sz = true) (hm : (q.nn i.toNat).len = m) (hd : o.dst = some b) (hn : Nat.blt b C.n = true) (hi : 0 ≤ i ∧ i < (q.len : Int))
  (h : VO C ops K rest ⟨(b, .irow F i.toNat m) :: tm, rw', bx⟩) : VO C ops K (o :: rest) ⟨tm, rw', bx⟩ :=
 oStepW hw (sLoadD hT hop hy hx hR hq hoff hm hi (by rw [hd]; exact hn) (by rw [hd]; exact h))
theorem oAppendD (q' : Sq) (hT : TTOK C.P TT) (hg : o.guard = none) {t e : TypeId} {k q qb : Sq} {by' b R F m m' : Nat} {x y : Operand} {dy : D} {ob : Prop} (hop : o.op = .call { callee := .builtin .append, args := #[x, y], argTypes := #[t, t] }) (hd : o.dst = some b) (hy : look TT t = some (.sl e k by'))
  (hx : (PS.ev ⟨tm, rw', bx⟩ x) = .row R 0 m) (hR : PS.r ⟨tm, rw', bx⟩ R = some (e, dR F q)) (hyy : (PS.ev ⟨tm, rw', bx⟩ y) = dy) (hs : srcSq ⟨tm, rw', bx⟩ dy = some (ob, qb)) (hob : ob) (hk : Nat.beq k.sz q.sz = true) (hbb : Nat.ble by' 32 = true) (hn : Nat.blt b C.n = true) (hlo : Nat.ble R 999999 = true)
  (hm : m = q.len) (hm' : m' = q'.len) {s' : PS} (hnf : nf ⟨(b, .row R 0 m') :: (PS.kill ⟨tm, rw', bx⟩ R).tmp, (R, some (e, dR F q')) :: rw', (PS.kill ⟨tm, rw', bx⟩ R).box⟩ = some s') (happ : (dR F q).app qb = some (dR F q')) (hbd : q.len + qb.len ≤ 4294967296) (h : VO C ops K rest s') : VO C ops K (o :: rest) ⟨tm, rw', bx⟩ := by
 subst hm'
 refine vOp hg (sAppend hT hop hd hy hx hR (by rw [dR_sz]; exact hk) hyy hs happ hbb hn (by rw [dR_len]; exact hm) hob (by rw [dR_len]; exact hbd) hlo ?_)
 rw [dR_len]
 exact vNf hnf h
end
end Go.Proofs.Ytkklfgcelmeccaa
namespace Go.Proofs.Ytkklfgcelmeccaa
open Go.RowKit Go.Deep
section
variable {C : Cx} {tm : List (Nat × D)} {rw' : List (Nat × Option (TypeId × Sq))} {bx : List (Nat × Option (List D))} {s' : PS}
end
section
variable {C : Cx} {ops : Array Oper} {K : PS → Prop} {o : Oper} {rest : List Oper} {s : PS} {TT : List (Nat × Ty)} {tm : List (Nat × D)} {rw' : List (Nat × Option (TypeId × Sq))} {bx : List (Nat × Option (List D))}
end
end Go.Proofs.Ytkklfgcelmeccaa
namespace Go.Proofs.Ytkklfgcelmeccaa
open Go.RowKit Go.Deep
section
variable {C : Cx} {ops : Array Oper} {K : PS → Prop} {o : Oper} {rest : List Oper} {TT : List (Nat × Ty)} {tm : List (Nat × D)} {rw' : List (Nat × Option (TypeId × Sq))} {bx : List (Nat × Option (List D))} {cr B : List Nat} {j : Nat}
end
end Go.Proofs.Ytkklfgcelmeccaa
namespace Go.Proofs.Ytkklfgcelmeccaa
open Go.RowKit Go.Deep
def S_l21Reach_l1 (N : Nat) (p_0 : Pin) (l75 : List Int) (k : (List Int) → Option (List Int)) : Nat → ((List Int) × Int) → Option (List Int)
 | 0, _ => none
 | n + 1, (l86, u87) =>
  cnd (decide (u87 < p_0.g.n)) (
   (S_l2Has N l75 u87).bind fun v89 =>
   cnd v89 (
    grd (l86.length + 1 ≤ 4294967296) <|
    grd (Rg64 (u87 + (1 : Int))) <|
    S_l21Reach_l1 N p_0 l75 k n ((l86 ++ ([u87] : List Int)), (u87 + (1 : Int)))) (
    grd (Rg64 (u87 + (1 : Int))) <|
    S_l21Reach_l1 N p_0 l75 k n (l86, (u87 + (1 : Int))))) (
   k l86)
def S_l21Reach_l3 (N : Nat) (p_0 : Pin) (owner_1 : List Int) (k116 : Int) (k : (List Int) → Option (List Int)) : Nat → ((List Int) × Int) → Option (List Int)
 | 0, _ => none
 | n + 1, (l157, i158) =>
  cnd (decide (i158 < (owner_1.length : Int))) (
   grd (0 ≤ i158 ∧ i158 < (owner_1.length : Int)) <|
   grd (0 ≤ k116 ∧ k116 < (l157.length : Int)) <|
   cnd ((owner_1.getD ((i158).toNat) 0) == (l157.getD ((k116).toNat) 0)) (
    grd (0 ≤ i158 ∧ i158 < (p_0.g.bars.length : Int)) <|
    (S_l4Other N (p_0.g.bars.getD ((i158).toNat) (0, 0)) (owner_1.getD ((i158).toNat) 0)).bind fun v162 =>
    (S_l2Has N l157 v162).bind fun v163 =>
    cnd (!v163) (
     (S_l2Has N p_0.ground v162).bind fun v164 =>
     cnd (!v164) (
      grd (l157.length + 1 ≤ 4294967296) <|
      grd (Rg64 (i158 + (1 : Int))) <|
      S_l21Reach_l3 N p_0 owner_1 k116 k n ((l157 ++ ([v162] : List Int)), (i158 + (1 : Int)))) (
      grd (Rg64 (i158 + (1 : Int))) <|
      S_l21Reach_l3 N p_0 owner_1 k116 k n (l157, (i158 + (1 : Int))))) (
     grd (Rg64 (i158 + (1 : Int))) <|
     S_l21Reach_l3 N p_0 owner_1 k116 k n (l157, (i158 + (1 : Int))))) (
    grd (Rg64 (i158 + (1 : Int))) <|
    S_l21Reach_l3 N p_0 owner_1 k116 k n (l157, (i158 + (1 : Int))))) (
   k l157)
def S_l21Reach_l2 (N : Nat) (p_0 : Pin) (owner_1 : List Int) (k : (List Int) → Option (List Int)) : Nat → ((List Int) × Int) → Option (List Int)
 | 0, _ => none
 | n + 1, (l115, k116) =>
  cnd (decide (k116 < (l115.length : Int))) (
   S_l21Reach_l3 N p_0 owner_1 k116 (fun (l152 : List Int) =>
      grd (Rg64 (k116 + (1 : Int))) <|
      S_l21Reach_l2 N p_0 owner_1 k n (l152, (k116 + (1 : Int)))) N (l115, (0 : Int))) (
   k l115)
def S_l21Reach (N : Nat) (p_0 : Pin) (owner_1 : List Int) (v_2 : Int) : Option (List Int) :=
 S_l21Reach_l2 N p_0 owner_1 (fun (l75 : List Int) =>
    S_l21Reach_l1 N p_0 l75 (fun (l82 : List Int) =>
       some l82) N (([] : List Int), (0 : Int))) N (([v_2] : List Int), (0 : Int))
end Go.Proofs.Ytkklfgcelmeccaa
