/- Plain texts of functions, and that the program computes them (printed by gen.py). -/
import Derived.Test.YtkpmijmlbpdknaaShb
import Derived.Test.YtkpmijmlbpdknaaG5
import Derived.Test.YtkpmijmlbpdknaaG32
import Derived.Test.YtkpmijmlbpdknaaG33
namespace Go.Proofs.Ytkpmijmlbpdknaa
open Go.RowKit
set_option linter.unusedVariables false
set_option linter.unusedSimpArgs false
def S_l4Find_l2 (N : Nat) (g_0 : Grf) (p_1 : Pbl) (a_2 : Int) (b_3 : Int) (l106 : List Int) (k108 : Int) (k : ((List Int) × (List Int) × (List Bool)) → Option (Pbl × Bool)) : Nat → ((List Int) × (List Int) × (List Bool) × Int) → Option (Pbl × Bool)
  | 0, _ => none
  | n + 1, (l149, l150, l151, i152) =>
    cnd (decide (i152 < (p_1.placed.length : Int))) (
      grd (0 ≤ i152 ∧ i152 < (p_1.tails.length : Int)) <|
      cnd ((p_1.tails.getD ((i152).toNat) 0) != (l106.getD ((k108).toNat) 0)) (
        grd (Rg64 (i152 + (1 : Int))) <|
        S_l4Find_l2 N g_0 p_1 a_2 b_3 l106 k108 k n (l149, l150, l151, (i152 + (1 : Int)))) (
        grd (0 ≤ i152 ∧ i152 < (p_1.placed.length : Int)) <|
        grd (0 ≤ (p_1.placed.getD ((i152).toNat) 0) ∧ (p_1.placed.getD ((i152).toNat) 0) < (g_0.bars.length : Int)) <|
        (S_l4Other N (g_0.bars.getD (((p_1.placed.getD ((i152).toNat) 0)).toNat) (0, 0)) (l106.getD ((k108).toNat) 0)).bind fun v155 =>
        grd (0 ≤ v155 ∧ v155 < ((List.replicate ((g_0.n).toNat) (false : Bool)).length : Int)) <|
        grd (0 ≤ v155 ∧ v155 < (l151.length : Int)) <|
        cnd (l151.getD ((v155).toNat) false) (
          grd (Rg64 (i152 + (1 : Int))) <|
          S_l4Find_l2 N g_0 p_1 a_2 b_3 l106 k108 k n (l149, l150, l151, (i152 + (1 : Int)))) (
          grd (0 ≤ v155 ∧ v155 < ((List.replicate ((g_0.n).toNat) (0 : Int)).length : Int)) <|
          grd (0 ≤ v155 ∧ v155 < (l149.length : Int)) <|
          cnd (v155 != b_3) (
            grd (0 ≤ v155 ∧ v155 < (p_1.free.length : Int)) <|
            cnd (decide ((p_1.free.getD ((v155).toNat) 0) > (0 : Int))) (
              grd ((List.replicate ((g_0.n).toNat) (0 : Int)).length = (l149.set ((v155).toNat) i152).length) <|
              (S_l4Shift N g_0 p_1 (l149.set ((v155).toNat) i152) a_2 v155).bind fun v156 =>
              some ((⟨v156.free, v156.tails, v156.placed⟩ : Pbl), true)) (
              grd (l150.length + 1 ≤ 4294967296) <|
              grd (Rg64 (i152 + (1 : Int))) <|
              S_l4Find_l2 N g_0 p_1 a_2 b_3 l106 k108 k n ((l149.set ((v155).toNat) i152), (l150 ++ ([v155] : List Int)), (l151.set ((v155).toNat) true), (i152 + (1 : Int))))) (
            grd (l150.length + 1 ≤ 4294967296) <|
            grd (Rg64 (i152 + (1 : Int))) <|
            S_l4Find_l2 N g_0 p_1 a_2 b_3 l106 k108 k n ((l149.set ((v155).toNat) i152), (l150 ++ ([v155] : List Int)), (l151.set ((v155).toNat) true), (i152 + (1 : Int))))))) (
      k (l149, l150, l151))
def S_l4Find_l1 (N : Nat) (g_0 : Grf) (p_1 : Pbl) (a_2 : Int) (b_3 : Int) (k : Unit → Option (Pbl × Bool)) : Nat → ((List Int) × (List Int) × (List Bool) × Int) → Option (Pbl × Bool)
  | 0, _ => none
  | n + 1, (l105, l106, l107, k108) =>
    cnd (decide (k108 < (l106.length : Int))) (
      grd (0 ≤ k108 ∧ k108 < (l106.length : Int)) <|
      S_l4Find_l2 N g_0 p_1 a_2 b_3 l106 k108 (fun (x : (List Int) × (List Int) × (List Bool)) =>
          match x with
          | (l143, l144, l145) =>
            grd (Rg64 (k108 + (1 : Int))) <|
            S_l4Find_l1 N g_0 p_1 a_2 b_3 k n (l143, l144, l145, (k108 + (1 : Int)))) N (l105, l106, l107, (0 : Int))) (
      k ())
def S_l4Find_l3 (N : Nat) (g_0 : Grf) (k : (List Int) → Option (Pbl × Bool)) : Nat → ((List Int) × Int) → Option (Pbl × Bool)
  | 0, _ => none
  | n + 1, (l158, i159) =>
    cnd (decide (i159 < g_0.n)) (
      grd (0 ≤ i159 ∧ i159 < ((List.replicate ((g_0.n).toNat) (0 : Int)).length : Int)) <|
      grd (0 ≤ i159 ∧ i159 < (l158.length : Int)) <|
      grd (Rg64 (i159 + (1 : Int))) <|
      S_l4Find_l3 N g_0 k n ((l158.set ((i159).toNat) (-1 : Int)), (i159 + (1 : Int)))) (
      k l158)
def S_l4Find (N : Nat) (g_0 : Grf) (p_1 : Pbl) (a_2 : Int) (b_3 : Int) : Option (Pbl × Bool) :=
  grd (0 ≤ g_0.n ∧ g_0.n ≤ 4294967296) <|
  S_l4Find_l3 N g_0 (fun (l3 : List Int) =>
        grd (0 ≤ a_2 ∧ a_2 < ((List.replicate ((g_0.n).toNat) (false : Bool)).length : Int)) <|
        S_l4Find_l1 N g_0 p_1 a_2 b_3 (fun (_ : Unit) =>
              some ((⟨p_1.free, p_1.tails, p_1.placed⟩ : Pbl), false)) N (l3, ([a_2] : List Int), ((List.replicate ((g_0.n).toNat) (false : Bool)).set ((a_2).toNat) true), (0 : Int))) N ((List.replicate ((g_0.n).toNat) (0 : Int)), (0 : Int))
set_option maxRecDepth 20000 in
set_option maxHeartbeats 1600000 in
theorem S_l4Find_wT (N : Nat) (g_0 : Grf) (p_1 : Pbl) (a_2 : Int) (b_3 : Int) (r : Pbl × Bool) (h : S_l4Find N g_0 p_1 a_2 b_3 = some r) (halt : r.2 = true) : PCall Try.prog 124 [gD g_0, bD p_1, .int a_2, .int b_3] [(3, .ints r.1.free), (3, .ints r.1.tails), (3, .ints r.1.placed)] (.tup [.agg [.row 0 0 r.1.free.length, .row 1 0 r.1.tails.length, .row 2 0 r.1.placed.length], .bool r.2]) := by
  unfold S_l4Find at h
  refine pcall_intro (TT := TT) tt Try.func124 rfl rfl Try.ntmps124 (congrArg Array.toList Try.results124) rfl rfl fun w0 => ?_
  refine vSeq ?_
  refine vRegion ?_
  iterate 2 refine oBox rfl rfl rfl rfl rfl rfl rfl rfl rfl ?_
  refine oAlloc tt rfl rfl rfl rfl rfl rfl rfl rfl rfl ?_
  refine oVal tt rfl rfl rfl rfl rfl trivial ?_
  refine vNil ?_
  change VC _ _ _ _
  refine vSeq ?_
  refine vRegion ?_
  iterate 2 refine oVal tt rfl rfl rfl rfl rfl trivial ?_
  obtain ⟨hg1, h⟩ := grd_inv h
  refine oMake tt rfl rfl rfl rfl rfl rfl rfl rfl rfl rfl rfl hg1 ?_
  refine oVal tt rfl rfl rfl rfl rfl trivial ?_
  refine vNil ?_
  change VC _ _ _ _
  iterate 2 refine vSeq ?_
  refine vRegion ?_
  refine oVal tt rfl rfl rfl rfl rfl trivial ?_
  refine vNil ?_
  change VC _ _ _ _
  refine vJoin (F := fun k => S_l4Find_l3 N g_0 k) h (α := List Int) (J := fun (l3 : List Int) => (⟨[(2, .int a_2), (3, .int b_3), (4, .ptr 4 0), (5, .ptr 5 0), (8, .ptr 8 0), (10, .row 20 0 ((List.replicate ((g_0.n).toNat) (0 : Int)).length))], [(20, some (3, .ints l3))], [(4, some [.int g_0.n, .ro false (.pairs g_0.bars)]), (5, some [.ro false (.ints p_1.free), .ro false (.ints p_1.tails), .ro false (.ints p_1.placed)]), (8, some [.nil, .nil, .nil])]⟩ : PS)) ?_ ?_
  · rintro l3 h
    show VC _ _ _ (⟨[(2, .int a_2), (3, .int b_3), (4, .ptr 4 0), (5, .ptr 5 0), (8, .ptr 8 0), (10, .row 20 0 ((List.replicate ((g_0.n).toNat) (0 : Int)).length))], [(20, some (3, .ints l3))], [(4, some [.int g_0.n, .ro false (.pairs g_0.bars)]), (5, some [.ro false (.ints p_1.free), .ro false (.ints p_1.tails), .ro false (.ints p_1.placed)]), (8, some [.nil, .nil, .nil])]⟩ : PS)
    refine vSeq ?_
    refine vRegion ?_
    refine oVal tt rfl rfl rfl rfl rfl trivial ?_
    refine oBuild tt rfl rfl rfl rfl rfl rfl rfl rfl rfl rfl rfl ?_
    refine oVal tt rfl rfl rfl rfl rfl trivial ?_
    refine vNil ?_
    change VC _ _ _ _
    refine vSeq ?_
    refine vRegion ?_
    iterate 2 refine oVal tt rfl rfl rfl rfl rfl trivial ?_
    refine oMake tt rfl rfl rfl rfl rfl rfl rfl rfl rfl rfl rfl hg1 ?_
    refine oVal tt rfl rfl rfl rfl rfl trivial ?_
    refine vNil ?_
    change VC _ _ _ _
    refine vSeq ?_
    refine vRegion ?_
    iterate 2 refine oVal tt rfl rfl rfl rfl rfl trivial ?_
    obtain ⟨hg2, h⟩ := grd_inv h
    refine oVal tt rfl rfl rfl rfl rfl hg2 ?_
    refine oStore tt rfl rfl rfl rfl rfl rfl rfl rfl rfl rfl ⟨_, _, rfl, hg2.1, hg2.2⟩ ⟨hg2, trivial⟩ ?_
    refine vNil ?_
    change VC _ _ _ _
    iterate 2 refine vSeq ?_
    refine vRegion ?_
    refine oVal tt rfl rfl rfl rfl rfl trivial ?_
    refine vNil ?_
    change VC _ _ _ _
    refine vJoin (F := fun k => S_l4Find_l1 N g_0 p_1 a_2 b_3 k) h (α := Unit) (J := fun (_ : Unit) => (⟨[(5, .ptr 5 0), (8, .ptr 8 0)], [], [(5, some [.ro false (.ints p_1.free), .ro false (.ints p_1.tails), .ro false (.ints p_1.placed)]), (8, some [.nil, .nil, .nil])]⟩ : PS)) ?_ ?_
    · rintro ⟨⟩ h
      show VC _ _ _ (⟨[(5, .ptr 5 0), (8, .ptr 8 0)], [], [(5, some [.ro false (.ints p_1.free), .ro false (.ints p_1.tails), .ro false (.ints p_1.placed)]), (8, some [.nil, .nil, .nil])]⟩ : PS)
      refine vSeq ?_
      refine vRegion ?_
      refine oVal tt rfl rfl rfl rfl rfl trivial ?_
      refine oStore tt rfl rfl rfl rfl rfl rfl rfl rfl rfl rfl rfl ⟨trivial, trivial, trivial, trivial⟩ ?_
      refine oVal tt rfl rfl rfl rfl rfl trivial ?_
      refine vNil ?_
      change VC _ _ _ _
      cases h
      cases halt
    · intro k h
      refine vBlock ?_
      refine vLoopS (α := (List Int) × (List Int) × (List Bool) × Int) (fun | (l105, l106, l107, k108) => (⟨[(2, .int a_2), (3, .int b_3), (4, .ptr 4 0), (5, .ptr 5 0), (8, .ptr 8 0), (10, .row 20 0 ((List.replicate ((g_0.n).toNat) (0 : Int)).length)), (12, .row 31 0 l106.length), (13, .row 34 0 ((List.replicate ((g_0.n).toNat) (false : Bool)).length)), (14, .int k108)], [(20, some (3, .ints l105)), (31, some (3, .ints l106)), (34, some (4, .bools l107))], [(4, some [.int g_0.n, .ro false (.pairs g_0.bars)]), (5, some [.ro false (.ints p_1.free), .ro false (.ints p_1.tails), .ro false (.ints p_1.placed)]), (8, some [.nil, .nil, .nil])]⟩ : PS)) (S_l4Find_l1 N g_0 p_1 a_2 b_3 k) h (En.of ⟨rfl, rfl, rfl, rfl, rfl, rfl, rfl, rfl, rfl, trivial⟩ ⟨rfl, rfl, rfl, trivial⟩ ⟨rfl, rfl, rfl, trivial⟩) (fun _ => rfl) ?_
      rintro n ⟨l105, l106, l107, k108⟩ h
      rw [S_l4Find_l1] at h
      show VC _ _ _ (⟨[(2, .int a_2), (3, .int b_3), (4, .ptr 4 0), (5, .ptr 5 0), (8, .ptr 8 0), (10, .row 20 0 ((List.replicate ((g_0.n).toNat) (0 : Int)).length)), (12, .row 31 0 l106.length), (13, .row 34 0 ((List.replicate ((g_0.n).toNat) (false : Bool)).length)), (14, .int k108)], [(20, some (3, .ints l105)), (31, some (3, .ints l106)), (34, some (4, .bools l107))], [(4, some [.int g_0.n, .ro false (.pairs g_0.bars)]), (5, some [.ro false (.ints p_1.free), .ro false (.ints p_1.tails), .ro false (.ints p_1.placed)]), (8, some [.nil, .nil, .nil])]⟩ : PS)
      iterate 2 refine vSeq ?_
      refine vRegion ?_
      iterate 4 refine oVal tt rfl rfl rfl rfl rfl trivial ?_
      refine vNil ?_
      change VC _ _ _ _
      refine vCond rfl (fun hb3 => ?_) (fun hb3 => ?_)
      · replace h := cnd_t hb3 h
        refine vSkip ?_
        change VC _ _ _ _
        refine vSeq ?_
        refine vBlock ?_
        refine vSeq ?_
        refine vRegion ?_
        iterate 2 refine oVal tt rfl rfl rfl rfl rfl trivial ?_
        obtain ⟨hg4, h⟩ := grd_inv h
        iterate 2 refine oVal tt rfl rfl rfl rfl rfl hg4 ?_
        refine oVal tt rfl rfl rfl rfl rfl trivial ?_
        refine vNil ?_
        change VC _ _ _ _
        refine vSeq ?_
        refine vRegion ?_
        refine oVal tt rfl rfl rfl rfl rfl trivial ?_
        refine vNil ?_
        change VC _ _ _ _
        refine vJoin (F := fun k => S_l4Find_l2 N g_0 p_1 a_2 b_3 l106 k108 k) h (α := (List Int) × (List Int) × (List Bool)) (J := fun | (l143, l144, l145) => (⟨[(2, .int a_2), (3, .int b_3), (4, .ptr 4 0), (5, .ptr 5 0), (8, .ptr 8 0), (10, .row 20 0 ((List.replicate ((g_0.n).toNat) (0 : Int)).length)), (12, .row 31 0 l144.length), (13, .row 34 0 ((List.replicate ((g_0.n).toNat) (false : Bool)).length)), (14, .int k108)], [(20, some (3, .ints l143)), (31, some (3, .ints l144)), (34, some (4, .bools l145))], [(4, some [.int g_0.n, .ro false (.pairs g_0.bars)]), (5, some [.ro false (.ints p_1.free), .ro false (.ints p_1.tails), .ro false (.ints p_1.placed)]), (8, some [.nil, .nil, .nil])]⟩ : PS)) ?_ ?_
        · rintro ⟨l143, l144, l145⟩ h
          show VC _ _ _ (⟨[(2, .int a_2), (3, .int b_3), (4, .ptr 4 0), (5, .ptr 5 0), (8, .ptr 8 0), (10, .row 20 0 ((List.replicate ((g_0.n).toNat) (0 : Int)).length)), (12, .row 31 0 l144.length), (13, .row 34 0 ((List.replicate ((g_0.n).toNat) (false : Bool)).length)), (14, .int k108)], [(20, some (3, .ints l143)), (31, some (3, .ints l144)), (34, some (4, .bools l145))], [(4, some [.int g_0.n, .ro false (.pairs g_0.bars)]), (5, some [.ro false (.ints p_1.free), .ro false (.ints p_1.tails), .ro false (.ints p_1.placed)]), (8, some [.nil, .nil, .nil])]⟩ : PS)
          refine vRegion ?_
          refine oVal tt rfl rfl rfl rfl rfl trivial ?_
          obtain ⟨hg5, h⟩ := grd_inv h
          refine oVal tt rfl rfl rfl rfl rfl hg5 ?_
          refine oVal tt rfl rfl rfl rfl rfl trivial ?_
          refine vNil ?_
          change ∃ _, _
          exact ⟨(l143, l144, l145, (k108 + (1 : Int))), (En.of ⟨rfl, rfl, rfl, rfl, rfl, rfl, rfl, rfl, rfl, trivial⟩ ⟨rfl, rfl, rfl, trivial⟩ ⟨rfl, rfl, rfl, trivial⟩), h⟩
        · intro k h
          refine vBlock ?_
          refine vLoopS (α := (List Int) × (List Int) × (List Bool) × Int) (fun | (l149, l150, l151, i152) => (⟨[(2, .int a_2), (3, .int b_3), (4, .ptr 4 0), (5, .ptr 5 0), (8, .ptr 8 0), (10, .row 20 0 ((List.replicate ((g_0.n).toNat) (0 : Int)).length)), (12, .row 31 0 l150.length), (13, .row 34 0 ((List.replicate ((g_0.n).toNat) (false : Bool)).length)), (14, .int k108), (15, .int (l106.getD ((k108).toNat) 0)), (16, .int i152)], [(20, some (3, .ints l149)), (31, some (3, .ints l150)), (34, some (4, .bools l151))], [(4, some [.int g_0.n, .ro false (.pairs g_0.bars)]), (5, some [.ro false (.ints p_1.free), .ro false (.ints p_1.tails), .ro false (.ints p_1.placed)]), (8, some [.nil, .nil, .nil])]⟩ : PS)) (S_l4Find_l2 N g_0 p_1 a_2 b_3 l106 k108 k) h (En.of ⟨rfl, rfl, rfl, rfl, rfl, rfl, rfl, rfl, rfl, rfl, rfl, trivial⟩ ⟨rfl, rfl, rfl, trivial⟩ ⟨rfl, rfl, rfl, trivial⟩) (fun _ => rfl) ?_
          rintro n ⟨l149, l150, l151, i152⟩ h
          rw [S_l4Find_l2] at h
          show VC _ _ _ (⟨[(2, .int a_2), (3, .int b_3), (4, .ptr 4 0), (5, .ptr 5 0), (8, .ptr 8 0), (10, .row 20 0 ((List.replicate ((g_0.n).toNat) (0 : Int)).length)), (12, .row 31 0 l150.length), (13, .row 34 0 ((List.replicate ((g_0.n).toNat) (false : Bool)).length)), (14, .int k108), (15, .int (l106.getD ((k108).toNat) 0)), (16, .int i152)], [(20, some (3, .ints l149)), (31, some (3, .ints l150)), (34, some (4, .bools l151))], [(4, some [.int g_0.n, .ro false (.pairs g_0.bars)]), (5, some [.ro false (.ints p_1.free), .ro false (.ints p_1.tails), .ro false (.ints p_1.placed)]), (8, some [.nil, .nil, .nil])]⟩ : PS)
          iterate 2 refine vSeq ?_
          refine vRegion ?_
          iterate 5 refine oVal tt rfl rfl rfl rfl rfl trivial ?_
          refine vNil ?_
          change VC _ _ _ _
          refine vCond rfl (fun hb6 => ?_) (fun hb6 => ?_)
          · replace h := cnd_t hb6 h
            refine vSkip ?_
            change VC _ _ _ _
            refine vSeq ?_
            refine vBlock ?_
            iterate 2 refine vSeq ?_
            refine vRegion ?_
            iterate 3 refine oVal tt rfl rfl rfl rfl rfl trivial ?_
            obtain ⟨hg7, h⟩ := grd_inv h
            refine oVal tt rfl rfl rfl rfl rfl hg7 ?_
            iterate 3 refine oVal tt rfl rfl rfl rfl rfl trivial ?_
            refine vNil ?_
            change VC _ _ _ _
            refine vCond rfl (fun hb8 => ?_) (fun hb8 => ?_)
            · replace h := cnd_t hb8 h
              refine vExit ?_
              change VC _ _ _ _
              refine vRegion ?_
              refine oVal tt rfl rfl rfl rfl rfl trivial ?_
              obtain ⟨hg9, h⟩ := grd_inv h
              refine oVal tt rfl rfl rfl rfl rfl hg9 ?_
              refine oVal tt rfl rfl rfl rfl rfl trivial ?_
              refine vNil ?_
              change ∃ _, _
              exact ⟨(l149, l150, l151, (i152 + (1 : Int))), (En.of ⟨rfl, rfl, rfl, rfl, rfl, rfl, rfl, rfl, rfl, rfl, rfl, trivial⟩ ⟨rfl, rfl, rfl, trivial⟩ ⟨rfl, rfl, rfl, trivial⟩), h⟩
            · replace h := cnd_f hb8 h
              refine vSkip ?_
              change VC _ _ _ _
              refine vSeq ?_
              refine vRegionD (by kernel_rfl) (by kernel_rfl) ?_
              iterate 5 refine cVal tt rfl (wNone rfl) rfl rfl rfl trivial ?_
              obtain ⟨hg10, h⟩ := grd_inv h
              refine cVal tt rfl (wNone rfl) rfl rfl rfl hg10 ?_
              refine cVal tt rfl (wNone rfl) rfl rfl rfl trivial ?_
              obtain ⟨hg11, h⟩ := grd_inv h
              refine cVal tt rfl (wNone rfl) rfl rfl rfl hg11 ?_
              iterate 2 refine cVal tt rfl (wNone rfl) rfl rfl rfl trivial ?_
              obtain ⟨v155, hc12, h⟩ := bind_inv h
              refine cCall (S_l4Other_w N (g_0.bars.getD (((p_1.placed.getD ((i152).toNat) 0)).toNat) (0, 0)) (l106.getD ((k108).toNat) 0) v155 hc12) rfl (wNone rfl) rfl rfl rfl rfl rfl rfl ⟨⟨rfl, rfl, trivial⟩, rfl, trivial⟩ ?_
              refine cVal tt rfl (wNone rfl) rfl rfl rfl trivial ?_
              refine cNil ?_
              change VC _ _ _ _
              iterate 2 refine vSeq ?_
              refine vRegion ?_
              iterate 2 refine oVal tt rfl rfl rfl rfl rfl trivial ?_
              obtain ⟨hg13, h⟩ := grd_inv h
              refine oVal tt rfl rfl rfl rfl rfl hg13 ?_
              obtain ⟨hg14, h⟩ := grd_inv h
              refine oVal tt rfl rfl rfl rfl rfl hg14 ?_
              refine vNil ?_
              change VC _ _ _ _
              refine vCond rfl (fun hb15 => ?_) (fun hb15 => ?_)
              · replace h := cnd_t hb15 h
                refine vExit ?_
                change VC _ _ _ _
                refine vRegion ?_
                refine oVal tt rfl rfl rfl rfl rfl trivial ?_
                obtain ⟨hg16, h⟩ := grd_inv h
                refine oVal tt rfl rfl rfl rfl rfl hg16 ?_
                refine oVal tt rfl rfl rfl rfl rfl trivial ?_
                refine vNil ?_
                change ∃ _, _
                exact ⟨(l149, l150, l151, (i152 + (1 : Int))), (En.of ⟨rfl, rfl, rfl, rfl, rfl, rfl, rfl, rfl, rfl, rfl, rfl, trivial⟩ ⟨rfl, rfl, rfl, trivial⟩ ⟨rfl, rfl, rfl, trivial⟩), h⟩
              · replace h := cnd_f hb15 h
                refine vSkip ?_
                change VC _ _ _ _
                refine vSeq ?_
                refine vRegion ?_
                iterate 2 refine oVal tt rfl rfl rfl rfl rfl trivial ?_
                refine oVal tt rfl rfl rfl rfl rfl hg13 ?_
                refine oStore tt rfl rfl rfl rfl rfl rfl rfl rfl rfl rfl ⟨_, _, rfl, hg14.1, hg14.2⟩ ⟨hg14, trivial⟩ ?_
                refine vNil ?_
                change VC _ _ _ _
                refine vSeq ?_
                refine vRegion ?_
                iterate 3 refine oVal tt rfl rfl rfl rfl rfl trivial ?_
                obtain ⟨hg17, h⟩ := grd_inv h
                refine oVal tt rfl rfl rfl rfl rfl hg17 ?_
                obtain ⟨hg18, h⟩ := grd_inv h
                refine oStore tt rfl rfl rfl rfl rfl rfl rfl rfl rfl rfl ⟨_, _, rfl, hg18.1, hg18.2⟩ ⟨hg18, trivial⟩ ?_
                refine vNil ?_
                change VC _ _ _ _
                iterate 2 refine vSeq ?_
                refine vRegion ?_
                iterate 4 refine oVal tt rfl rfl rfl rfl rfl trivial ?_
                refine oSplit rfl rfl rfl (fun hb19 => ?_) (fun hb19 => ?_)
                · replace h := cnd_t hb19 h
                  iterate 3 refine oValG tt rfl rfl rfl rfl rfl hb19 rfl rfl rfl trivial ?_
                  obtain ⟨hg20, h⟩ := grd_inv h
                  refine oValG tt rfl rfl rfl rfl rfl hb19 rfl rfl rfl hg20 ?_
                  iterate 2 refine oValG tt rfl rfl rfl rfl rfl hb19 rfl rfl rfl trivial ?_
                  refine oPick rfl rfl rfl rfl rfl hb19 rfl ?_
                  refine vNil ?_
                  change VC _ _ _ _
                  refine vCond rfl (fun hb21 => ?_) (fun hb21 => ?_)
                  · replace h := cnd_t hb21 h
                    refine vSeq ?_
                    refine vRegion ?_
                    iterate 5 refine oVal tt rfl rfl rfl rfl rfl trivial ?_
                    obtain ⟨hg22, h⟩ := grd_inv h
                    obtain ⟨v156, hc23, h⟩ := bind_inv h
                    refine oCall (S_l4Shift_w N g_0 p_1 (l149.set ((v155).toNat) i152) a_2 v155 v156 hc23) rfl rfl rfl rfl rfl rfl rfl rfl ⟨⟨rfl, rfl, trivial⟩, ⟨rfl, rfl, rfl, trivial⟩, (.inl ⟨hg22, rfl⟩), rfl, rfl, trivial⟩ ?_
                    refine oStore tt rfl rfl rfl rfl rfl rfl rfl rfl rfl rfl rfl ⟨trivial, trivial, trivial, trivial⟩ ?_
                    refine oVal tt rfl rfl rfl rfl rfl trivial ?_
                    refine vNil ?_
                    change VC _ _ _ _
                    refine vRet ?_
                    change ∃ _, _
                    cases h
                    exact ⟨[2000, 2001, 2002], _, rfl, ⟨rfl, rfl, rfl, trivial⟩, rfl, (.eq rfl), rfl⟩
                  · replace h := cnd_f hb21 h
                    refine vSkip ?_
                    change VC _ _ _ _
                    refine vRegion ?_
                    iterate 2 refine oVal tt rfl rfl rfl rfl rfl trivial ?_
                    refine oBuild tt rfl rfl rfl rfl rfl rfl rfl rfl rfl rfl rfl ?_
                    obtain ⟨hg24, h⟩ := grd_inv h
                    refine oAppend tt rfl rfl rfl rfl rfl rfl rfl rfl rfl rfl rfl rfl rfl rfl rfl rfl (Nat.le_of_eq (Nat.zero_add _)) hg24 ?_
                    refine oVal tt rfl rfl rfl rfl rfl trivial ?_
                    refine vNil ?_
                    change VC _ _ _ _
                    refine vRegion ?_
                    refine oVal tt rfl rfl rfl rfl rfl trivial ?_
                    obtain ⟨hg25, h⟩ := grd_inv h
                    refine oVal tt rfl rfl rfl rfl rfl hg25 ?_
                    refine oVal tt rfl rfl rfl rfl rfl trivial ?_
                    refine vNil ?_
                    change ∃ _, _
                    exact ⟨((l149.set ((v155).toNat) i152), (l150 ++ ([v155] : List Int)), (l151.set ((v155).toNat) true), (i152 + (1 : Int))), (En.of ⟨rfl, rfl, rfl, rfl, rfl, rfl, rfl, rfl, rfl, rfl, rfl, trivial⟩ ⟨rfl, rfl, rfl, trivial⟩ ⟨rfl, rfl, rfl, trivial⟩), h⟩
                · replace h := cnd_f hb19 h
                  iterate 6 refine oNoT rfl rfl rfl rfl hb19 rfl rfl ?_
                  refine oPickF rfl rfl rfl rfl rfl hb19 rfl ?_
                  refine vNil ?_
                  change VC _ _ _ _
                  refine vCondF rfl rfl ?_
                  refine vSkip ?_
                  change VC _ _ _ _
                  refine vRegion ?_
                  iterate 2 refine oVal tt rfl rfl rfl rfl rfl trivial ?_
                  refine oBuild tt rfl rfl rfl rfl rfl rfl rfl rfl rfl rfl rfl ?_
                  obtain ⟨hg26, h⟩ := grd_inv h
                  refine oAppend tt rfl rfl rfl rfl rfl rfl rfl rfl rfl rfl rfl rfl rfl rfl rfl rfl (Nat.le_of_eq (Nat.zero_add _)) hg26 ?_
                  refine oVal tt rfl rfl rfl rfl rfl trivial ?_
                  refine vNil ?_
                  change VC _ _ _ _
                  refine vRegion ?_
                  refine oVal tt rfl rfl rfl rfl rfl trivial ?_
                  obtain ⟨hg27, h⟩ := grd_inv h
                  refine oVal tt rfl rfl rfl rfl rfl hg27 ?_
                  refine oVal tt rfl rfl rfl rfl rfl trivial ?_
                  refine vNil ?_
                  change ∃ _, _
                  exact ⟨((l149.set ((v155).toNat) i152), (l150 ++ ([v155] : List Int)), (l151.set ((v155).toNat) true), (i152 + (1 : Int))), (En.of ⟨rfl, rfl, rfl, rfl, rfl, rfl, rfl, rfl, rfl, rfl, rfl, trivial⟩ ⟨rfl, rfl, rfl, trivial⟩ ⟨rfl, rfl, rfl, trivial⟩), h⟩
          · replace h := cnd_f hb6 h
            refine vExit ?_
            change ∃ _, _
            exact ⟨(l149, l150, l151), (En.of ⟨rfl, rfl, rfl, rfl, rfl, rfl, rfl, rfl, rfl, trivial⟩ ⟨rfl, rfl, rfl, trivial⟩ ⟨rfl, rfl, rfl, trivial⟩), h⟩
      · replace h := cnd_f hb3 h
        refine vExit ?_
        change ∃ _, _
        exact ⟨(), (En.of ⟨rfl, rfl, trivial⟩ trivial ⟨rfl, rfl, trivial⟩), h⟩
  · intro k h
    refine vBlock ?_
    refine vLoopS (α := (List Int) × Int) (fun | (l158, i159) => (⟨[(2, .int a_2), (3, .int b_3), (4, .ptr 4 0), (5, .ptr 5 0), (8, .ptr 8 0), (10, .row 20 0 ((List.replicate ((g_0.n).toNat) (0 : Int)).length)), (11, .int i159)], [(20, some (3, .ints l158))], [(4, some [.int g_0.n, .ro false (.pairs g_0.bars)]), (5, some [.ro false (.ints p_1.free), .ro false (.ints p_1.tails), .ro false (.ints p_1.placed)]), (8, some [.nil, .nil, .nil])]⟩ : PS)) (S_l4Find_l3 N g_0 k) h (En.of ⟨rfl, rfl, rfl, rfl, rfl, rfl, rfl, trivial⟩ ⟨rfl, trivial⟩ ⟨rfl, rfl, rfl, trivial⟩) (fun _ => rfl) ?_
    rintro n ⟨l158, i159⟩ h
    rw [S_l4Find_l3] at h
    show VC _ _ _ (⟨[(2, .int a_2), (3, .int b_3), (4, .ptr 4 0), (5, .ptr 5 0), (8, .ptr 8 0), (10, .row 20 0 ((List.replicate ((g_0.n).toNat) (0 : Int)).length)), (11, .int i159)], [(20, some (3, .ints l158))], [(4, some [.int g_0.n, .ro false (.pairs g_0.bars)]), (5, some [.ro false (.ints p_1.free), .ro false (.ints p_1.tails), .ro false (.ints p_1.placed)]), (8, some [.nil, .nil, .nil])]⟩ : PS)
    iterate 2 refine vSeq ?_
    refine vRegion ?_
    iterate 4 refine oVal tt rfl rfl rfl rfl rfl trivial ?_
    refine vNil ?_
    change VC _ _ _ _
    refine vCond rfl (fun hb28 => ?_) (fun hb28 => ?_)
    · replace h := cnd_t hb28 h
      refine vSkip ?_
      change VC _ _ _ _
      refine vSeq ?_
      refine vBlock ?_
      refine vRegion ?_
      iterate 2 refine oVal tt rfl rfl rfl rfl rfl trivial ?_
      obtain ⟨hg29, h⟩ := grd_inv h
      refine oVal tt rfl rfl rfl rfl rfl hg29 ?_
      obtain ⟨hg30, h⟩ := grd_inv h
      refine oStore tt rfl rfl rfl rfl rfl rfl rfl rfl rfl rfl ⟨_, _, rfl, hg30.1, hg30.2⟩ ⟨hg30, trivial⟩ ?_
      refine vNil ?_
      change VC _ _ _ _
      refine vRegion ?_
      refine oVal tt rfl rfl rfl rfl rfl trivial ?_
      obtain ⟨hg31, h⟩ := grd_inv h
      refine oVal tt rfl rfl rfl rfl rfl hg31 ?_
      refine oVal tt rfl rfl rfl rfl rfl trivial ?_
      refine vNil ?_
      change ∃ _, _
      exact ⟨((l158.set ((i159).toNat) (-1 : Int)), (i159 + (1 : Int))), (En.of ⟨rfl, rfl, rfl, rfl, rfl, rfl, rfl, trivial⟩ ⟨rfl, trivial⟩ ⟨rfl, rfl, rfl, trivial⟩), h⟩
    · replace h := cnd_f hb28 h
      refine vExit ?_
      change ∃ _, _
      exact ⟨l158, (En.of ⟨rfl, rfl, rfl, rfl, rfl, rfl, trivial⟩ ⟨rfl, trivial⟩ ⟨rfl, rfl, rfl, trivial⟩), h⟩
set_option maxRecDepth 20000 in
set_option maxHeartbeats 1600000 in
theorem S_l4Find_wF (N : Nat) (g_0 : Grf) (p_1 : Pbl) (a_2 : Int) (b_3 : Int) (r : Pbl × Bool) (h : S_l4Find N g_0 p_1 a_2 b_3 = some r) (halt : r.2 = false) : PCall Try.prog 124 [gD g_0, bD p_1, .int a_2, .int b_3] [] (.tup [.agg [.any, .any, .any], .bool r.2]) := by
  unfold S_l4Find at h
  refine pcall_intro (TT := TT) tt Try.func124 rfl rfl Try.ntmps124 (congrArg Array.toList Try.results124) rfl rfl fun w0 => ?_
  refine vSeq ?_
  refine vRegion ?_
  iterate 2 refine oBox rfl rfl rfl rfl rfl rfl rfl rfl rfl ?_
  refine oAlloc tt rfl rfl rfl rfl rfl rfl rfl rfl rfl ?_
  refine oVal tt rfl rfl rfl rfl rfl trivial ?_
  refine vNil ?_
  change VC _ _ _ _
  refine vSeq ?_
  refine vRegion ?_
  iterate 2 refine oVal tt rfl rfl rfl rfl rfl trivial ?_
  obtain ⟨hg1, h⟩ := grd_inv h
  refine oMake tt rfl rfl rfl rfl rfl rfl rfl rfl rfl rfl rfl hg1 ?_
  refine oVal tt rfl rfl rfl rfl rfl trivial ?_
  refine vNil ?_
  change VC _ _ _ _
  iterate 2 refine vSeq ?_
  refine vRegion ?_
  refine oVal tt rfl rfl rfl rfl rfl trivial ?_
  refine vNil ?_
  change VC _ _ _ _
  refine vJoin (F := fun k => S_l4Find_l3 N g_0 k) h (α := List Int) (J := fun (l3 : List Int) => (⟨[(2, .int a_2), (3, .int b_3), (4, .ptr 4 0), (5, .ptr 5 0), (8, .ptr 8 0), (10, .row 20 0 ((List.replicate ((g_0.n).toNat) (0 : Int)).length))], [(20, some (3, .ints l3))], [(4, some [.int g_0.n, .ro false (.pairs g_0.bars)]), (5, some [.ro false (.ints p_1.free), .ro false (.ints p_1.tails), .ro false (.ints p_1.placed)]), (8, some [.nil, .nil, .nil])]⟩ : PS)) ?_ ?_
  · rintro l3 h
    show VC _ _ _ (⟨[(2, .int a_2), (3, .int b_3), (4, .ptr 4 0), (5, .ptr 5 0), (8, .ptr 8 0), (10, .row 20 0 ((List.replicate ((g_0.n).toNat) (0 : Int)).length))], [(20, some (3, .ints l3))], [(4, some [.int g_0.n, .ro false (.pairs g_0.bars)]), (5, some [.ro false (.ints p_1.free), .ro false (.ints p_1.tails), .ro false (.ints p_1.placed)]), (8, some [.nil, .nil, .nil])]⟩ : PS)
    refine vSeq ?_
    refine vRegion ?_
    refine oVal tt rfl rfl rfl rfl rfl trivial ?_
    refine oBuild tt rfl rfl rfl rfl rfl rfl rfl rfl rfl rfl rfl ?_
    refine oVal tt rfl rfl rfl rfl rfl trivial ?_
    refine vNil ?_
    change VC _ _ _ _
    refine vSeq ?_
    refine vRegion ?_
    iterate 2 refine oVal tt rfl rfl rfl rfl rfl trivial ?_
    refine oMake tt rfl rfl rfl rfl rfl rfl rfl rfl rfl rfl rfl hg1 ?_
    refine oVal tt rfl rfl rfl rfl rfl trivial ?_
    refine vNil ?_
    change VC _ _ _ _
    refine vSeq ?_
    refine vRegion ?_
    iterate 2 refine oVal tt rfl rfl rfl rfl rfl trivial ?_
    obtain ⟨hg2, h⟩ := grd_inv h
    refine oVal tt rfl rfl rfl rfl rfl hg2 ?_
    refine oStore tt rfl rfl rfl rfl rfl rfl rfl rfl rfl rfl ⟨_, _, rfl, hg2.1, hg2.2⟩ ⟨hg2, trivial⟩ ?_
    refine vNil ?_
    change VC _ _ _ _
    iterate 2 refine vSeq ?_
    refine vRegion ?_
    refine oVal tt rfl rfl rfl rfl rfl trivial ?_
    refine vNil ?_
    change VC _ _ _ _
    refine vJoin (F := fun k => S_l4Find_l1 N g_0 p_1 a_2 b_3 k) h (α := Unit) (J := fun (_ : Unit) => (⟨[(5, .ptr 5 0), (8, .ptr 8 0)], [], [(5, some [.ro false (.ints p_1.free), .ro false (.ints p_1.tails), .ro false (.ints p_1.placed)]), (8, some [.nil, .nil, .nil])]⟩ : PS)) ?_ ?_
    · rintro ⟨⟩ h
      show VC _ _ _ (⟨[(5, .ptr 5 0), (8, .ptr 8 0)], [], [(5, some [.ro false (.ints p_1.free), .ro false (.ints p_1.tails), .ro false (.ints p_1.placed)]), (8, some [.nil, .nil, .nil])]⟩ : PS)
      refine vSeq ?_
      refine vRegion ?_
      refine oVal tt rfl rfl rfl rfl rfl trivial ?_
      refine oStore tt rfl rfl rfl rfl rfl rfl rfl rfl rfl rfl rfl ⟨trivial, trivial, trivial, trivial⟩ ?_
      refine oVal tt rfl rfl rfl rfl rfl trivial ?_
      refine vNil ?_
      change VC _ _ _ _
      refine vRet ?_
      change ∃ _, _
      cases h
      exact ⟨[], _, rfl, trivial, rfl, (wkTup rfl rfl ⟨wkAgg rfl rfl ⟨.any rfl rfl, .any rfl rfl, .any rfl rfl, trivial⟩, .eq rfl, trivial⟩), rfl⟩
    · intro k h
      refine vBlock ?_
      refine vLoopS (α := (List Int) × (List Int) × (List Bool) × Int) (fun | (l105, l106, l107, k108) => (⟨[(2, .int a_2), (3, .int b_3), (4, .ptr 4 0), (5, .ptr 5 0), (8, .ptr 8 0), (10, .row 20 0 ((List.replicate ((g_0.n).toNat) (0 : Int)).length)), (12, .row 31 0 l106.length), (13, .row 34 0 ((List.replicate ((g_0.n).toNat) (false : Bool)).length)), (14, .int k108)], [(20, some (3, .ints l105)), (31, some (3, .ints l106)), (34, some (4, .bools l107))], [(4, some [.int g_0.n, .ro false (.pairs g_0.bars)]), (5, some [.ro false (.ints p_1.free), .ro false (.ints p_1.tails), .ro false (.ints p_1.placed)]), (8, some [.nil, .nil, .nil])]⟩ : PS)) (S_l4Find_l1 N g_0 p_1 a_2 b_3 k) h (En.of ⟨rfl, rfl, rfl, rfl, rfl, rfl, rfl, rfl, rfl, trivial⟩ ⟨rfl, rfl, rfl, trivial⟩ ⟨rfl, rfl, rfl, trivial⟩) (fun _ => rfl) ?_
      rintro n ⟨l105, l106, l107, k108⟩ h
      rw [S_l4Find_l1] at h
      show VC _ _ _ (⟨[(2, .int a_2), (3, .int b_3), (4, .ptr 4 0), (5, .ptr 5 0), (8, .ptr 8 0), (10, .row 20 0 ((List.replicate ((g_0.n).toNat) (0 : Int)).length)), (12, .row 31 0 l106.length), (13, .row 34 0 ((List.replicate ((g_0.n).toNat) (false : Bool)).length)), (14, .int k108)], [(20, some (3, .ints l105)), (31, some (3, .ints l106)), (34, some (4, .bools l107))], [(4, some [.int g_0.n, .ro false (.pairs g_0.bars)]), (5, some [.ro false (.ints p_1.free), .ro false (.ints p_1.tails), .ro false (.ints p_1.placed)]), (8, some [.nil, .nil, .nil])]⟩ : PS)
      iterate 2 refine vSeq ?_
      refine vRegion ?_
      iterate 4 refine oVal tt rfl rfl rfl rfl rfl trivial ?_
      refine vNil ?_
      change VC _ _ _ _
      refine vCond rfl (fun hb3 => ?_) (fun hb3 => ?_)
      · replace h := cnd_t hb3 h
        refine vSkip ?_
        change VC _ _ _ _
        refine vSeq ?_
        refine vBlock ?_
        refine vSeq ?_
        refine vRegion ?_
        iterate 2 refine oVal tt rfl rfl rfl rfl rfl trivial ?_
        obtain ⟨hg4, h⟩ := grd_inv h
        iterate 2 refine oVal tt rfl rfl rfl rfl rfl hg4 ?_
        refine oVal tt rfl rfl rfl rfl rfl trivial ?_
        refine vNil ?_
        change VC _ _ _ _
        refine vSeq ?_
        refine vRegion ?_
        refine oVal tt rfl rfl rfl rfl rfl trivial ?_
        refine vNil ?_
        change VC _ _ _ _
        refine vJoin (F := fun k => S_l4Find_l2 N g_0 p_1 a_2 b_3 l106 k108 k) h (α := (List Int) × (List Int) × (List Bool)) (J := fun | (l143, l144, l145) => (⟨[(2, .int a_2), (3, .int b_3), (4, .ptr 4 0), (5, .ptr 5 0), (8, .ptr 8 0), (10, .row 20 0 ((List.replicate ((g_0.n).toNat) (0 : Int)).length)), (12, .row 31 0 l144.length), (13, .row 34 0 ((List.replicate ((g_0.n).toNat) (false : Bool)).length)), (14, .int k108)], [(20, some (3, .ints l143)), (31, some (3, .ints l144)), (34, some (4, .bools l145))], [(4, some [.int g_0.n, .ro false (.pairs g_0.bars)]), (5, some [.ro false (.ints p_1.free), .ro false (.ints p_1.tails), .ro false (.ints p_1.placed)]), (8, some [.nil, .nil, .nil])]⟩ : PS)) ?_ ?_
        · rintro ⟨l143, l144, l145⟩ h
          show VC _ _ _ (⟨[(2, .int a_2), (3, .int b_3), (4, .ptr 4 0), (5, .ptr 5 0), (8, .ptr 8 0), (10, .row 20 0 ((List.replicate ((g_0.n).toNat) (0 : Int)).length)), (12, .row 31 0 l144.length), (13, .row 34 0 ((List.replicate ((g_0.n).toNat) (false : Bool)).length)), (14, .int k108)], [(20, some (3, .ints l143)), (31, some (3, .ints l144)), (34, some (4, .bools l145))], [(4, some [.int g_0.n, .ro false (.pairs g_0.bars)]), (5, some [.ro false (.ints p_1.free), .ro false (.ints p_1.tails), .ro false (.ints p_1.placed)]), (8, some [.nil, .nil, .nil])]⟩ : PS)
          refine vRegion ?_
          refine oVal tt rfl rfl rfl rfl rfl trivial ?_
          obtain ⟨hg5, h⟩ := grd_inv h
          refine oVal tt rfl rfl rfl rfl rfl hg5 ?_
          refine oVal tt rfl rfl rfl rfl rfl trivial ?_
          refine vNil ?_
          change ∃ _, _
          exact ⟨(l143, l144, l145, (k108 + (1 : Int))), (En.of ⟨rfl, rfl, rfl, rfl, rfl, rfl, rfl, rfl, rfl, trivial⟩ ⟨rfl, rfl, rfl, trivial⟩ ⟨rfl, rfl, rfl, trivial⟩), h⟩
        · intro k h
          refine vBlock ?_
          refine vLoopS (α := (List Int) × (List Int) × (List Bool) × Int) (fun | (l149, l150, l151, i152) => (⟨[(2, .int a_2), (3, .int b_3), (4, .ptr 4 0), (5, .ptr 5 0), (8, .ptr 8 0), (10, .row 20 0 ((List.replicate ((g_0.n).toNat) (0 : Int)).length)), (12, .row 31 0 l150.length), (13, .row 34 0 ((List.replicate ((g_0.n).toNat) (false : Bool)).length)), (14, .int k108), (15, .int (l106.getD ((k108).toNat) 0)), (16, .int i152)], [(20, some (3, .ints l149)), (31, some (3, .ints l150)), (34, some (4, .bools l151))], [(4, some [.int g_0.n, .ro false (.pairs g_0.bars)]), (5, some [.ro false (.ints p_1.free), .ro false (.ints p_1.tails), .ro false (.ints p_1.placed)]), (8, some [.nil, .nil, .nil])]⟩ : PS)) (S_l4Find_l2 N g_0 p_1 a_2 b_3 l106 k108 k) h (En.of ⟨rfl, rfl, rfl, rfl, rfl, rfl, rfl, rfl, rfl, rfl, rfl, trivial⟩ ⟨rfl, rfl, rfl, trivial⟩ ⟨rfl, rfl, rfl, trivial⟩) (fun _ => rfl) ?_
          rintro n ⟨l149, l150, l151, i152⟩ h
          rw [S_l4Find_l2] at h
          show VC _ _ _ (⟨[(2, .int a_2), (3, .int b_3), (4, .ptr 4 0), (5, .ptr 5 0), (8, .ptr 8 0), (10, .row 20 0 ((List.replicate ((g_0.n).toNat) (0 : Int)).length)), (12, .row 31 0 l150.length), (13, .row 34 0 ((List.replicate ((g_0.n).toNat) (false : Bool)).length)), (14, .int k108), (15, .int (l106.getD ((k108).toNat) 0)), (16, .int i152)], [(20, some (3, .ints l149)), (31, some (3, .ints l150)), (34, some (4, .bools l151))], [(4, some [.int g_0.n, .ro false (.pairs g_0.bars)]), (5, some [.ro false (.ints p_1.free), .ro false (.ints p_1.tails), .ro false (.ints p_1.placed)]), (8, some [.nil, .nil, .nil])]⟩ : PS)
          iterate 2 refine vSeq ?_
          refine vRegion ?_
          iterate 5 refine oVal tt rfl rfl rfl rfl rfl trivial ?_
          refine vNil ?_
          change VC _ _ _ _
          refine vCond rfl (fun hb6 => ?_) (fun hb6 => ?_)
          · replace h := cnd_t hb6 h
            refine vSkip ?_
            change VC _ _ _ _
            refine vSeq ?_
            refine vBlock ?_
            iterate 2 refine vSeq ?_
            refine vRegion ?_
            iterate 3 refine oVal tt rfl rfl rfl rfl rfl trivial ?_
            obtain ⟨hg7, h⟩ := grd_inv h
            refine oVal tt rfl rfl rfl rfl rfl hg7 ?_
            iterate 3 refine oVal tt rfl rfl rfl rfl rfl trivial ?_
            refine vNil ?_
            change VC _ _ _ _
            refine vCond rfl (fun hb8 => ?_) (fun hb8 => ?_)
            · replace h := cnd_t hb8 h
              refine vExit ?_
              change VC _ _ _ _
              refine vRegion ?_
              refine oVal tt rfl rfl rfl rfl rfl trivial ?_
              obtain ⟨hg9, h⟩ := grd_inv h
              refine oVal tt rfl rfl rfl rfl rfl hg9 ?_
              refine oVal tt rfl rfl rfl rfl rfl trivial ?_
              refine vNil ?_
              change ∃ _, _
              exact ⟨(l149, l150, l151, (i152 + (1 : Int))), (En.of ⟨rfl, rfl, rfl, rfl, rfl, rfl, rfl, rfl, rfl, rfl, rfl, trivial⟩ ⟨rfl, rfl, rfl, trivial⟩ ⟨rfl, rfl, rfl, trivial⟩), h⟩
            · replace h := cnd_f hb8 h
              refine vSkip ?_
              change VC _ _ _ _
              refine vSeq ?_
              refine vRegionD (by kernel_rfl) (by kernel_rfl) ?_
              iterate 5 refine cVal tt rfl (wNone rfl) rfl rfl rfl trivial ?_
              obtain ⟨hg10, h⟩ := grd_inv h
              refine cVal tt rfl (wNone rfl) rfl rfl rfl hg10 ?_
              refine cVal tt rfl (wNone rfl) rfl rfl rfl trivial ?_
              obtain ⟨hg11, h⟩ := grd_inv h
              refine cVal tt rfl (wNone rfl) rfl rfl rfl hg11 ?_
              iterate 2 refine cVal tt rfl (wNone rfl) rfl rfl rfl trivial ?_
              obtain ⟨v155, hc12, h⟩ := bind_inv h
              refine cCall (S_l4Other_w N (g_0.bars.getD (((p_1.placed.getD ((i152).toNat) 0)).toNat) (0, 0)) (l106.getD ((k108).toNat) 0) v155 hc12) rfl (wNone rfl) rfl rfl rfl rfl rfl rfl ⟨⟨rfl, rfl, trivial⟩, rfl, trivial⟩ ?_
              refine cVal tt rfl (wNone rfl) rfl rfl rfl trivial ?_
              refine cNil ?_
              change VC _ _ _ _
              iterate 2 refine vSeq ?_
              refine vRegion ?_
              iterate 2 refine oVal tt rfl rfl rfl rfl rfl trivial ?_
              obtain ⟨hg13, h⟩ := grd_inv h
              refine oVal tt rfl rfl rfl rfl rfl hg13 ?_
              obtain ⟨hg14, h⟩ := grd_inv h
              refine oVal tt rfl rfl rfl rfl rfl hg14 ?_
              refine vNil ?_
              change VC _ _ _ _
              refine vCond rfl (fun hb15 => ?_) (fun hb15 => ?_)
              · replace h := cnd_t hb15 h
                refine vExit ?_
                change VC _ _ _ _
                refine vRegion ?_
                refine oVal tt rfl rfl rfl rfl rfl trivial ?_
                obtain ⟨hg16, h⟩ := grd_inv h
                refine oVal tt rfl rfl rfl rfl rfl hg16 ?_
                refine oVal tt rfl rfl rfl rfl rfl trivial ?_
                refine vNil ?_
                change ∃ _, _
                exact ⟨(l149, l150, l151, (i152 + (1 : Int))), (En.of ⟨rfl, rfl, rfl, rfl, rfl, rfl, rfl, rfl, rfl, rfl, rfl, trivial⟩ ⟨rfl, rfl, rfl, trivial⟩ ⟨rfl, rfl, rfl, trivial⟩), h⟩
              · replace h := cnd_f hb15 h
                refine vSkip ?_
                change VC _ _ _ _
                refine vSeq ?_
                refine vRegion ?_
                iterate 2 refine oVal tt rfl rfl rfl rfl rfl trivial ?_
                refine oVal tt rfl rfl rfl rfl rfl hg13 ?_
                refine oStore tt rfl rfl rfl rfl rfl rfl rfl rfl rfl rfl ⟨_, _, rfl, hg14.1, hg14.2⟩ ⟨hg14, trivial⟩ ?_
                refine vNil ?_
                change VC _ _ _ _
                refine vSeq ?_
                refine vRegion ?_
                iterate 3 refine oVal tt rfl rfl rfl rfl rfl trivial ?_
                obtain ⟨hg17, h⟩ := grd_inv h
                refine oVal tt rfl rfl rfl rfl rfl hg17 ?_
                obtain ⟨hg18, h⟩ := grd_inv h
                refine oStore tt rfl rfl rfl rfl rfl rfl rfl rfl rfl rfl ⟨_, _, rfl, hg18.1, hg18.2⟩ ⟨hg18, trivial⟩ ?_
                refine vNil ?_
                change VC _ _ _ _
                iterate 2 refine vSeq ?_
                refine vRegion ?_
                iterate 4 refine oVal tt rfl rfl rfl rfl rfl trivial ?_
                refine oSplit rfl rfl rfl (fun hb19 => ?_) (fun hb19 => ?_)
                · replace h := cnd_t hb19 h
                  iterate 3 refine oValG tt rfl rfl rfl rfl rfl hb19 rfl rfl rfl trivial ?_
                  obtain ⟨hg20, h⟩ := grd_inv h
                  refine oValG tt rfl rfl rfl rfl rfl hb19 rfl rfl rfl hg20 ?_
                  iterate 2 refine oValG tt rfl rfl rfl rfl rfl hb19 rfl rfl rfl trivial ?_
                  refine oPick rfl rfl rfl rfl rfl hb19 rfl ?_
                  refine vNil ?_
                  change VC _ _ _ _
                  refine vCond rfl (fun hb21 => ?_) (fun hb21 => ?_)
                  · replace h := cnd_t hb21 h
                    refine vSeq ?_
                    refine vRegion ?_
                    iterate 5 refine oVal tt rfl rfl rfl rfl rfl trivial ?_
                    obtain ⟨hg22, h⟩ := grd_inv h
                    obtain ⟨v156, hc23, h⟩ := bind_inv h
                    refine oCall (S_l4Shift_w N g_0 p_1 (l149.set ((v155).toNat) i152) a_2 v155 v156 hc23) rfl rfl rfl rfl rfl rfl rfl rfl ⟨⟨rfl, rfl, trivial⟩, ⟨rfl, rfl, rfl, trivial⟩, (.inl ⟨hg22, rfl⟩), rfl, rfl, trivial⟩ ?_
                    refine oStore tt rfl rfl rfl rfl rfl rfl rfl rfl rfl rfl rfl ⟨trivial, trivial, trivial, trivial⟩ ?_
                    refine oVal tt rfl rfl rfl rfl rfl trivial ?_
                    refine vNil ?_
                    change VC _ _ _ _
                    cases h
                    cases halt
                  · replace h := cnd_f hb21 h
                    refine vSkip ?_
                    change VC _ _ _ _
                    refine vRegion ?_
                    iterate 2 refine oVal tt rfl rfl rfl rfl rfl trivial ?_
                    refine oBuild tt rfl rfl rfl rfl rfl rfl rfl rfl rfl rfl rfl ?_
                    obtain ⟨hg24, h⟩ := grd_inv h
                    refine oAppend tt rfl rfl rfl rfl rfl rfl rfl rfl rfl rfl rfl rfl rfl rfl rfl rfl (Nat.le_of_eq (Nat.zero_add _)) hg24 ?_
                    refine oVal tt rfl rfl rfl rfl rfl trivial ?_
                    refine vNil ?_
                    change VC _ _ _ _
                    refine vRegion ?_
                    refine oVal tt rfl rfl rfl rfl rfl trivial ?_
                    obtain ⟨hg25, h⟩ := grd_inv h
                    refine oVal tt rfl rfl rfl rfl rfl hg25 ?_
                    refine oVal tt rfl rfl rfl rfl rfl trivial ?_
                    refine vNil ?_
                    change ∃ _, _
                    exact ⟨((l149.set ((v155).toNat) i152), (l150 ++ ([v155] : List Int)), (l151.set ((v155).toNat) true), (i152 + (1 : Int))), (En.of ⟨rfl, rfl, rfl, rfl, rfl, rfl, rfl, rfl, rfl, rfl, rfl, trivial⟩ ⟨rfl, rfl, rfl, trivial⟩ ⟨rfl, rfl, rfl, trivial⟩), h⟩
                · replace h := cnd_f hb19 h
                  iterate 6 refine oNoT rfl rfl rfl rfl hb19 rfl rfl ?_
                  refine oPickF rfl rfl rfl rfl rfl hb19 rfl ?_
                  refine vNil ?_
                  change VC _ _ _ _
                  refine vCondF rfl rfl ?_
                  refine vSkip ?_
                  change VC _ _ _ _
                  refine vRegion ?_
                  iterate 2 refine oVal tt rfl rfl rfl rfl rfl trivial ?_
                  refine oBuild tt rfl rfl rfl rfl rfl rfl rfl rfl rfl rfl rfl ?_
                  obtain ⟨hg26, h⟩ := grd_inv h
                  refine oAppend tt rfl rfl rfl rfl rfl rfl rfl rfl rfl rfl rfl rfl rfl rfl rfl rfl (Nat.le_of_eq (Nat.zero_add _)) hg26 ?_
                  refine oVal tt rfl rfl rfl rfl rfl trivial ?_
                  refine vNil ?_
                  change VC _ _ _ _
                  refine vRegion ?_
                  refine oVal tt rfl rfl rfl rfl rfl trivial ?_
                  obtain ⟨hg27, h⟩ := grd_inv h
                  refine oVal tt rfl rfl rfl rfl rfl hg27 ?_
                  refine oVal tt rfl rfl rfl rfl rfl trivial ?_
                  refine vNil ?_
                  change ∃ _, _
                  exact ⟨((l149.set ((v155).toNat) i152), (l150 ++ ([v155] : List Int)), (l151.set ((v155).toNat) true), (i152 + (1 : Int))), (En.of ⟨rfl, rfl, rfl, rfl, rfl, rfl, rfl, rfl, rfl, rfl, rfl, trivial⟩ ⟨rfl, rfl, rfl, trivial⟩ ⟨rfl, rfl, rfl, trivial⟩), h⟩
          · replace h := cnd_f hb6 h
            refine vExit ?_
            change ∃ _, _
            exact ⟨(l149, l150, l151), (En.of ⟨rfl, rfl, rfl, rfl, rfl, rfl, rfl, rfl, rfl, trivial⟩ ⟨rfl, rfl, rfl, trivial⟩ ⟨rfl, rfl, rfl, trivial⟩), h⟩
      · replace h := cnd_f hb3 h
        refine vExit ?_
        change ∃ _, _
        exact ⟨(), (En.of ⟨rfl, rfl, trivial⟩ trivial ⟨rfl, rfl, trivial⟩), h⟩
  · intro k h
    refine vBlock ?_
    refine vLoopS (α := (List Int) × Int) (fun | (l158, i159) => (⟨[(2, .int a_2), (3, .int b_3), (4, .ptr 4 0), (5, .ptr 5 0), (8, .ptr 8 0), (10, .row 20 0 ((List.replicate ((g_0.n).toNat) (0 : Int)).length)), (11, .int i159)], [(20, some (3, .ints l158))], [(4, some [.int g_0.n, .ro false (.pairs g_0.bars)]), (5, some [.ro false (.ints p_1.free), .ro false (.ints p_1.tails), .ro false (.ints p_1.placed)]), (8, some [.nil, .nil, .nil])]⟩ : PS)) (S_l4Find_l3 N g_0 k) h (En.of ⟨rfl, rfl, rfl, rfl, rfl, rfl, rfl, trivial⟩ ⟨rfl, trivial⟩ ⟨rfl, rfl, rfl, trivial⟩) (fun _ => rfl) ?_
    rintro n ⟨l158, i159⟩ h
    rw [S_l4Find_l3] at h
    show VC _ _ _ (⟨[(2, .int a_2), (3, .int b_3), (4, .ptr 4 0), (5, .ptr 5 0), (8, .ptr 8 0), (10, .row 20 0 ((List.replicate ((g_0.n).toNat) (0 : Int)).length)), (11, .int i159)], [(20, some (3, .ints l158))], [(4, some [.int g_0.n, .ro false (.pairs g_0.bars)]), (5, some [.ro false (.ints p_1.free), .ro false (.ints p_1.tails), .ro false (.ints p_1.placed)]), (8, some [.nil, .nil, .nil])]⟩ : PS)
    iterate 2 refine vSeq ?_
    refine vRegion ?_
    iterate 4 refine oVal tt rfl rfl rfl rfl rfl trivial ?_
    refine vNil ?_
    change VC _ _ _ _
    refine vCond rfl (fun hb28 => ?_) (fun hb28 => ?_)
    · replace h := cnd_t hb28 h
      refine vSkip ?_
      change VC _ _ _ _
      refine vSeq ?_
      refine vBlock ?_
      refine vRegion ?_
      iterate 2 refine oVal tt rfl rfl rfl rfl rfl trivial ?_
      obtain ⟨hg29, h⟩ := grd_inv h
      refine oVal tt rfl rfl rfl rfl rfl hg29 ?_
      obtain ⟨hg30, h⟩ := grd_inv h
      refine oStore tt rfl rfl rfl rfl rfl rfl rfl rfl rfl rfl ⟨_, _, rfl, hg30.1, hg30.2⟩ ⟨hg30, trivial⟩ ?_
      refine vNil ?_
      change VC _ _ _ _
      refine vRegion ?_
      refine oVal tt rfl rfl rfl rfl rfl trivial ?_
      obtain ⟨hg31, h⟩ := grd_inv h
      refine oVal tt rfl rfl rfl rfl rfl hg31 ?_
      refine oVal tt rfl rfl rfl rfl rfl trivial ?_
      refine vNil ?_
      change ∃ _, _
      exact ⟨((l158.set ((i159).toNat) (-1 : Int)), (i159 + (1 : Int))), (En.of ⟨rfl, rfl, rfl, rfl, rfl, rfl, rfl, trivial⟩ ⟨rfl, trivial⟩ ⟨rfl, rfl, rfl, trivial⟩), h⟩
    · replace h := cnd_f hb28 h
      refine vExit ?_
      change ∃ _, _
      exact ⟨l158, (En.of ⟨rfl, rfl, rfl, rfl, rfl, rfl, trivial⟩ ⟨rfl, trivial⟩ ⟨rfl, rfl, rfl, trivial⟩), h⟩
def S_l4Gather_l1 (N : Nat) (g_0 : Grf) (a_2 : Int) (b_3 : Int) (want_4 : Int) (k : ((List Int) × (List Int) × (List Int)) → Option (Pbl × Bool)) : Nat → ((List Int) × (List Int) × (List Int)) → Option (Pbl × Bool)
  | 0, _ => none
  | n + 1, (l17, l18, l19) =>
    grd (0 ≤ a_2 ∧ a_2 < (l17.length : Int)) <|
    grd (0 ≤ b_3 ∧ b_3 < (l17.length : Int)) <|
    grd (Rg64 ((l17.getD ((a_2).toNat) 0) + (l17.getD ((b_3).toNat) 0))) <|
    cnd (decide (((l17.getD ((a_2).toNat) 0) + (l17.getD ((b_3).toNat) 0)) < want_4)) (
      (S_l4Find N g_0 (⟨l17, l18, l19⟩ : Pbl) a_2 b_3).bind fun v22 =>
      cnd v22.2 (
        S_l4Gather_l1 N g_0 a_2 b_3 want_4 k n (v22.1.free, v22.1.tails, v22.1.placed)) (
        (S_l4Find N g_0 (⟨l17, l18, l19⟩ : Pbl) b_3 a_2).bind fun v23 =>
        cnd v23.2 (
          S_l4Gather_l1 N g_0 a_2 b_3 want_4 k n (v23.1.free, v23.1.tails, v23.1.placed)) (
          some ((⟨l17, l18, l19⟩ : Pbl), false)))) (
      k (l17, l18, l19))
def S_l4Gather (N : Nat) (g_0 : Grf) (p_1 : Pbl) (a_2 : Int) (b_3 : Int) (want_4 : Int) : Option (Pbl × Bool) :=
  (S_l4Copy N p_1).bind fun v1 =>
  S_l4Gather_l1 N g_0 a_2 b_3 want_4 (fun (x : (List Int) × (List Int) × (List Int)) =>
      match x with
      | (l11, l12, l13) =>
        some ((⟨l11, l12, l13⟩ : Pbl), true)) N (v1.free, v1.tails, v1.placed)
set_option maxRecDepth 20000 in
set_option maxHeartbeats 1600000 in
theorem S_l4Gather_w (N : Nat) (g_0 : Grf) (p_1 : Pbl) (a_2 : Int) (b_3 : Int) (want_4 : Int) (r : Pbl × Bool) (h : S_l4Gather N g_0 p_1 a_2 b_3 want_4 = some r) : PCall Try.prog 115 [gD g_0, bD p_1, .int a_2, .int b_3, .int want_4] [(3, .ints r.1.free), (3, .ints r.1.tails), (3, .ints r.1.placed)] (.tup [.agg [.row 0 0 r.1.free.length, .row 1 0 r.1.tails.length, .row 2 0 r.1.placed.length], .bool r.2]) := by
  unfold S_l4Gather at h
  refine pcall_intro (TT := TT) tt Try.func115 rfl rfl Try.ntmps115 (congrArg Array.toList Try.results115) rfl rfl fun w0 => ?_
  refine vSeq ?_
  refine vRegion ?_
  iterate 2 refine oBox rfl rfl rfl rfl rfl rfl rfl rfl rfl ?_
  refine oAlloc tt rfl rfl rfl rfl rfl rfl rfl rfl rfl ?_
  refine oVal tt rfl rfl rfl rfl rfl trivial ?_
  refine vNil ?_
  change VC _ _ _ _
  refine vSeq ?_
  refine vRegion ?_
  refine oVal tt rfl rfl rfl rfl rfl trivial ?_
  obtain ⟨v1, hc1, h⟩ := bind_inv h
  refine oCall (S_l4Copy_w N p_1 v1 hc1) rfl rfl rfl rfl rfl rfl rfl rfl ⟨⟨rfl, rfl, rfl, trivial⟩, trivial⟩ ?_
  refine oAlloc tt rfl rfl rfl rfl rfl rfl rfl rfl rfl ?_
  refine oStore tt rfl rfl rfl rfl rfl rfl rfl rfl rfl rfl rfl ⟨trivial, trivial, trivial, trivial⟩ ?_
  refine vNil ?_
  change VC _ _ _ _
  refine vSeq ?_
  refine vJoin (F := fun k => S_l4Gather_l1 N g_0 a_2 b_3 want_4 k) h (α := (List Int) × (List Int) × (List Int)) (J := fun | (l11, l12, l13) => (⟨[(10, .ptr 10 0), (12, .ptr 12 0)], [(1160, some (3, .ints l11)), (1161, some (3, .ints l12)), (1162, some (3, .ints l13))], [(10, some [.nil, .nil, .nil]), (12, some [.row 1160 0 l11.length, .row 1161 0 l12.length, .row 1162 0 l13.length])]⟩ : PS)) ?_ ?_
  · rintro ⟨l11, l12, l13⟩ h
    show VC _ _ _ (⟨[(10, .ptr 10 0), (12, .ptr 12 0)], [(1160, some (3, .ints l11)), (1161, some (3, .ints l12)), (1162, some (3, .ints l13))], [(10, some [.nil, .nil, .nil]), (12, some [.row 1160 0 l11.length, .row 1161 0 l12.length, .row 1162 0 l13.length])]⟩ : PS)
    refine vSeq ?_
    refine vRegion ?_
    refine oVal tt rfl rfl rfl rfl rfl trivial ?_
    refine oStore tt rfl rfl rfl rfl rfl rfl rfl rfl rfl rfl rfl ⟨trivial, trivial, trivial, trivial⟩ ?_
    refine oVal tt rfl rfl rfl rfl rfl trivial ?_
    refine vNil ?_
    change VC _ _ _ _
    refine vRet ?_
    change ∃ _, _
    cases h
    exact ⟨[1160, 1161, 1162], _, rfl, ⟨rfl, rfl, rfl, trivial⟩, rfl, (.eq rfl), rfl⟩
  · intro k h
    refine vBlock ?_
    refine vLoopS (α := (List Int) × (List Int) × (List Int)) (fun | (l17, l18, l19) => (⟨[(2, .int a_2), (3, .int b_3), (4, .int want_4), (5, .ptr 5 0), (10, .ptr 10 0), (12, .ptr 12 0)], [(1160, some (3, .ints l17)), (1161, some (3, .ints l18)), (1162, some (3, .ints l19))], [(5, some [.int g_0.n, .ro false (.pairs g_0.bars)]), (10, some [.nil, .nil, .nil]), (12, some [.row 1160 0 l17.length, .row 1161 0 l18.length, .row 1162 0 l19.length])]⟩ : PS)) (S_l4Gather_l1 N g_0 a_2 b_3 want_4 k) h (En.of ⟨rfl, rfl, rfl, rfl, rfl, rfl, trivial⟩ ⟨rfl, rfl, rfl, trivial⟩ ⟨rfl, rfl, rfl, trivial⟩) (fun _ => rfl) ?_
    rintro n ⟨l17, l18, l19⟩ h
    rw [S_l4Gather_l1] at h
    show VC _ _ _ (⟨[(2, .int a_2), (3, .int b_3), (4, .int want_4), (5, .ptr 5 0), (10, .ptr 10 0), (12, .ptr 12 0)], [(1160, some (3, .ints l17)), (1161, some (3, .ints l18)), (1162, some (3, .ints l19))], [(5, some [.int g_0.n, .ro false (.pairs g_0.bars)]), (10, some [.nil, .nil, .nil]), (12, some [.row 1160 0 l17.length, .row 1161 0 l18.length, .row 1162 0 l19.length])]⟩ : PS)
    iterate 2 refine vSeq ?_
    refine vRegionD (by kernel_rfl) (by kernel_rfl) ?_
    iterate 3 refine cVal tt rfl (wNone rfl) rfl rfl rfl trivial ?_
    obtain ⟨hg2, h⟩ := grd_inv h
    iterate 2 refine cVal tt rfl (wNone rfl) rfl rfl rfl hg2 ?_
    iterate 3 refine cVal tt rfl (wNone rfl) rfl rfl rfl trivial ?_
    obtain ⟨hg3, h⟩ := grd_inv h
    iterate 2 refine cVal tt rfl (wNone rfl) rfl rfl rfl hg3 ?_
    obtain ⟨hg4, h⟩ := grd_inv h
    refine cVal tt rfl (wNone rfl) rfl rfl rfl hg4 ?_
    iterate 2 refine cVal tt rfl (wNone rfl) rfl rfl rfl trivial ?_
    refine cNil ?_
    change VC _ _ _ _
    refine vCond rfl (fun hb5 => ?_) (fun hb5 => ?_)
    · replace h := cnd_t hb5 h
      refine vSkip ?_
      change VC _ _ _ _
      refine vBlock ?_
      refine vSeq ?_
      refine vRegion ?_
      iterate 4 refine oVal tt rfl rfl rfl rfl rfl trivial ?_
      obtain ⟨v22, hc6, h⟩ := bind_inv h
      refine bsplit v22.2 (fun hb7 => ?_) (fun hb7 => ?_)
      · replace h := cnd_t hb7 h
        refine oCall (S_l4Find_wT N g_0 (⟨l17, l18, l19⟩ : Pbl) a_2 b_3 v22 hc6 hb7) rfl rfl rfl rfl rfl rfl rfl rfl ⟨⟨rfl, rfl, trivial⟩, ⟨(.inl ⟨rfl, rfl⟩), (.inl ⟨rfl, rfl⟩), (.inl ⟨rfl, rfl⟩), trivial⟩, rfl, rfl, trivial⟩ ?_
        iterate 3 refine oVal tt rfl rfl rfl rfl rfl trivial ?_
        refine oAlloc tt rfl rfl rfl rfl rfl rfl rfl rfl rfl ?_
        refine oStore tt rfl rfl rfl rfl rfl rfl rfl rfl rfl rfl rfl ⟨trivial, trivial, trivial, trivial⟩ ?_
        refine oVal tt rfl rfl rfl rfl rfl trivial ?_
        refine vNil ?_
        change VC _ _ _ _
        iterate 2 refine vSeq ?_
        refine vRegion ?_
        iterate 2 refine oVal tt rfl rfl rfl rfl rfl trivial ?_
        refine vNil ?_
        change VC _ _ _ _
        refine vCondF rfl (by rw [hb7]; rfl) ?_
        refine vSkip ?_
        change VC _ _ _ _
        iterate 2 refine vSeq ?_
        refine vRegion ?_
        iterate 2 refine oVal tt rfl rfl rfl rfl rfl trivial ?_
        refine vNil ?_
        change VC _ _ _ _
        refine vCondF rfl (by rw [hb7]; rfl) ?_
        refine vSkip ?_
        change VC _ _ _ _
        refine vRegion ?_
        refine oVal tt rfl rfl rfl rfl rfl trivial ?_
        refine oStore tt rfl rfl rfl rfl rfl rfl rfl rfl rfl rfl rfl ⟨trivial, trivial, trivial, trivial⟩ ?_
        refine vNil ?_
        change ∃ _, _
        exact ⟨(v22.1.free, v22.1.tails, v22.1.placed), (En.ren [1160, 1161, 1162] [1350, 1351, 1352] rfl ⟨.inr rfl, .inr rfl, .inr rfl, .inr rfl, .inr rfl, .inr rfl, trivial⟩ ⟨.inr rfl, .inr rfl, .inr rfl, trivial⟩ ⟨.inr ⟨_, _, rfl, rfl, ⟨.inr rfl, .inr rfl, trivial⟩⟩, .inr ⟨_, _, rfl, rfl, ⟨.inr rfl, .inr rfl, .inr rfl, trivial⟩⟩, .inr ⟨_, _, rfl, rfl, ⟨.inr rfl, .inr rfl, .inr rfl, trivial⟩⟩, trivial⟩), h⟩
      · replace h := cnd_f hb7 h
        refine oCall (S_l4Find_wF N g_0 (⟨l17, l18, l19⟩ : Pbl) a_2 b_3 v22 hc6 hb7) rfl rfl rfl rfl rfl rfl rfl rfl ⟨⟨rfl, rfl, trivial⟩, ⟨(.inl ⟨rfl, rfl⟩), (.inl ⟨rfl, rfl⟩), (.inl ⟨rfl, rfl⟩), trivial⟩, rfl, rfl, trivial⟩ ?_
        iterate 3 refine oVal tt rfl rfl rfl rfl rfl trivial ?_
        refine oAlloc tt rfl rfl rfl rfl rfl rfl rfl rfl rfl ?_
        refine oStore tt rfl rfl rfl rfl rfl rfl rfl rfl rfl rfl rfl ⟨trivial, trivial, trivial, trivial⟩ ?_
        refine oVal tt rfl rfl rfl rfl rfl trivial ?_
        refine vNil ?_
        change VC _ _ _ _
        iterate 2 refine vSeq ?_
        refine vRegion ?_
        iterate 2 refine oVal tt rfl rfl rfl rfl rfl trivial ?_
        refine vNil ?_
        change VC _ _ _ _
        refine vCondT rfl (by rw [hb7]; rfl) ?_
        refine vRegion ?_
        iterate 4 refine oVal tt rfl rfl rfl rfl rfl trivial ?_
        obtain ⟨v23, hc8, h⟩ := bind_inv h
        refine bsplit v23.2 (fun hb9 => ?_) (fun hb9 => ?_)
        · replace h := cnd_t hb9 h
          refine oCall (S_l4Find_wT N g_0 (⟨l17, l18, l19⟩ : Pbl) b_3 a_2 v23 hc8 hb9) rfl rfl rfl rfl rfl rfl rfl rfl ⟨⟨rfl, rfl, trivial⟩, ⟨(.inl ⟨rfl, rfl⟩), (.inl ⟨rfl, rfl⟩), (.inl ⟨rfl, rfl⟩), trivial⟩, rfl, rfl, trivial⟩ ?_
          iterate 3 refine oVal tt rfl rfl rfl rfl rfl trivial ?_
          refine oStore tt rfl rfl rfl rfl rfl rfl rfl rfl rfl rfl rfl ⟨trivial, trivial, trivial, trivial⟩ ?_
          refine oVal tt rfl rfl rfl rfl rfl trivial ?_
          refine vNil ?_
          change VC _ _ _ _
          iterate 2 refine vSeq ?_
          refine vRegion ?_
          iterate 2 refine oVal tt rfl rfl rfl rfl rfl trivial ?_
          refine vNil ?_
          change VC _ _ _ _
          refine vCondF rfl (by rw [hb9]; rfl) ?_
          refine vSkip ?_
          change VC _ _ _ _
          refine vRegion ?_
          refine oVal tt rfl rfl rfl rfl rfl trivial ?_
          refine oStore tt rfl rfl rfl rfl rfl rfl rfl rfl rfl rfl rfl ⟨trivial, trivial, trivial, trivial⟩ ?_
          refine vNil ?_
          change ∃ _, _
          exact ⟨(v23.1.free, v23.1.tails, v23.1.placed), (En.ren [1160, 1161, 1162] [1450, 1451, 1452] rfl ⟨.inr rfl, .inr rfl, .inr rfl, .inr rfl, .inr rfl, .inr rfl, trivial⟩ ⟨.inr rfl, .inr rfl, .inr rfl, trivial⟩ ⟨.inr ⟨_, _, rfl, rfl, ⟨.inr rfl, .inr rfl, trivial⟩⟩, .inr ⟨_, _, rfl, rfl, ⟨.inr rfl, .inr rfl, .inr rfl, trivial⟩⟩, .inr ⟨_, _, rfl, rfl, ⟨.inr rfl, .inr rfl, .inr rfl, trivial⟩⟩, trivial⟩), h⟩
        · replace h := cnd_f hb9 h
          refine oCall (S_l4Find_wF N g_0 (⟨l17, l18, l19⟩ : Pbl) b_3 a_2 v23 hc8 hb9) rfl rfl rfl rfl rfl rfl rfl rfl ⟨⟨rfl, rfl, trivial⟩, ⟨(.inl ⟨rfl, rfl⟩), (.inl ⟨rfl, rfl⟩), (.inl ⟨rfl, rfl⟩), trivial⟩, rfl, rfl, trivial⟩ ?_
          iterate 3 refine oVal tt rfl rfl rfl rfl rfl trivial ?_
          refine oStore tt rfl rfl rfl rfl rfl rfl rfl rfl rfl rfl rfl ⟨trivial, trivial, trivial, trivial⟩ ?_
          refine oVal tt rfl rfl rfl rfl rfl trivial ?_
          refine vNil ?_
          change VC _ _ _ _
          iterate 2 refine vSeq ?_
          refine vRegion ?_
          iterate 2 refine oVal tt rfl rfl rfl rfl rfl trivial ?_
          refine vNil ?_
          change VC _ _ _ _
          refine vCondT rfl (by rw [hb9]; rfl) ?_
          refine vSeq ?_
          refine vRegion ?_
          refine oVal tt rfl rfl rfl rfl rfl trivial ?_
          refine oStore tt rfl rfl rfl rfl rfl rfl rfl rfl rfl rfl rfl ⟨trivial, trivial, trivial, trivial⟩ ?_
          refine oVal tt rfl rfl rfl rfl rfl trivial ?_
          refine vNil ?_
          change VC _ _ _ _
          refine vRet ?_
          change ∃ _, _
          cases h
          exact ⟨[1160, 1161, 1162], _, rfl, ⟨rfl, rfl, rfl, trivial⟩, rfl, (.eq rfl), rfl⟩
    · replace h := cnd_f hb5 h
      refine vExit ?_
      change ∃ _, _
      exact ⟨(l17, l18, l19), (En.of ⟨rfl, rfl, trivial⟩ ⟨rfl, rfl, rfl, trivial⟩ ⟨rfl, rfl, trivial⟩), h⟩
def I_planeRank (N : Nat) (points_0 : Int) (bars_1 : List (Int × Int)) : Option (Int) :=
  (I_play N points_0 bars_1 (2 : Int) (3 : Int)).bind fun v1 =>
  some (v1.placed.length : Int)
set_option maxRecDepth 20000 in
set_option maxHeartbeats 1600000 in
theorem I_planeRank_w (N : Nat) (points_0 : Int) (bars_1 : List (Int × Int)) (r : Int) (h : I_planeRank N points_0 bars_1 = some r) : PCall Try.prog 95 [.int points_0, .ro false (.pairs bars_1)] [] (.int r) := by
  unfold I_planeRank at h
  refine pcall_intro (TT := TT) tt Try.func95 rfl rfl Try.ntmps95 (congrArg Array.toList Try.results95) rfl rfl fun w0 => ?_
  refine vSeq ?_
  refine vRegion ?_
  refine oVal tt rfl rfl rfl rfl rfl trivial ?_
  refine vNil ?_
  change VC _ _ _ _
  refine vSeq ?_
  refine vRegion ?_
  iterate 2 refine oVal tt rfl rfl rfl rfl rfl trivial ?_
  obtain ⟨v1, hc1, h⟩ := bind_inv h
  refine oCall (I_play_w N points_0 bars_1 (2 : Int) (3 : Int) v1 hc1) rfl rfl rfl rfl rfl rfl rfl rfl ⟨rfl, rfl, rfl, rfl, trivial⟩ ?_
  refine oPure (wNone rfl) (pField (fld (off := 2) (by kernel_rfl)) rfl rfl rfl) rfl rfl ?_
  iterate 2 refine oVal tt rfl rfl rfl rfl rfl trivial ?_
  refine vNil ?_
  change VC _ _ _ _
  refine vRet ?_
  change ∃ _, _
  cases h
  exact ⟨[], _, rfl, trivial, rfl, (.eq rfl), rfl⟩
end Go.Proofs.Ytkpmijmlbpdknaa
