/- Texts that the proof needs, put together: G34 G30 G35 Pp Pd Pq Pr Pe G17 Pf Pw Ps G36. -/
import Derived.Test.YtkpmijmlbpdknaaBRm3
import Derived.Test.YtkpmijmlbpdknaaBRm4
namespace Go.Proofs.Ytkpmijmlbpdknaa
open Go.RowKit
set_option linter.unusedVariables false
set_option linter.unusedSimpArgs false
def S_l4Find_l2 (N : Nat) (g_0 : Grf) (p_1 : Pbl) (a_2 : Int) (b_3 : Int) (l106 : List Int) (k108 : Int) (k : ((List Int) × (List Int) × (List Bool)) → Option (Pbl × Bool)) : Nat → ((List Int) × (List Int) × (List Bool) × Int) → Option (Pbl × Bool)
  | 0, _ => none
  | n + 1, (l149, l150, l151, i152) =>
    cnd (decide (i152 < (p_1.placed.length : Int))) (
      grd (0 ≤ i152 ∧ i152 < (p_1.tails.length : Int)) <|
      cnd ((p_1.tails.getD ((i152).toNat) 0) != (l106.getD ((k108).toNat) 0)) (
        grd (Rg64 (i152 + (1 : Int))) <|
        S_l4Find_l2 N g_0 p_1 a_2 b_3 l106 k108 k n (l149, l150, l151, (i152 + (1 : Int)))) (
        grd (0 ≤ i152 ∧ i152 < (p_1.placed.length : Int)) <|
        grd (0 ≤ (p_1.placed.getD ((i152).toNat) 0) ∧ (p_1.placed.getD ((i152).toNat) 0) < (g_0.bars.length : Int)) <|
        (S_l4Other N (g_0.bars.getD (((p_1.placed.getD ((i152).toNat) 0)).toNat) (0, 0)) (l106.getD ((k108).toNat) 0)).bind fun v155 =>
        grd (0 ≤ v155 ∧ v155 < ((List.replicate ((g_0.n).toNat) (false : Bool)).length : Int)) <|
        grd (0 ≤ v155 ∧ v155 < (l151.length : Int)) <|
        cnd (l151.getD ((v155).toNat) false) (
          grd (Rg64 (i152 + (1 : Int))) <|
          S_l4Find_l2 N g_0 p_1 a_2 b_3 l106 k108 k n (l149, l150, l151, (i152 + (1 : Int)))) (
          grd (0 ≤ v155 ∧ v155 < ((List.replicate ((g_0.n).toNat) (0 : Int)).length : Int)) <|
          grd (0 ≤ v155 ∧ v155 < (l149.length : Int)) <|
          cnd (v155 != b_3) (
            grd (0 ≤ v155 ∧ v155 < (p_1.free.length : Int)) <|
            cnd (decide ((p_1.free.getD ((v155).toNat) 0) > (0 : Int))) (
              grd ((List.replicate ((g_0.n).toNat) (0 : Int)).length = (l149.set ((v155).toNat) i152).length) <|
              (S_l4Shift N g_0 p_1 (l149.set ((v155).toNat) i152) a_2 v155).bind fun v156 =>
              some ((⟨v156.free, v156.tails, v156.placed⟩ : Pbl), true)) (
              grd (l150.length + 1 ≤ 4294967296) <|
              grd (Rg64 (i152 + (1 : Int))) <|
              S_l4Find_l2 N g_0 p_1 a_2 b_3 l106 k108 k n ((l149.set ((v155).toNat) i152), (l150 ++ ([v155] : List Int)), (l151.set ((v155).toNat) true), (i152 + (1 : Int))))) (
            grd (l150.length + 1 ≤ 4294967296) <|
            grd (Rg64 (i152 + (1 : Int))) <|
            S_l4Find_l2 N g_0 p_1 a_2 b_3 l106 k108 k n ((l149.set ((v155).toNat) i152), (l150 ++ ([v155] : List Int)), (l151.set ((v155).toNat) true), (i152 + (1 : Int))))))) (
      k (l149, l150, l151))
def S_l4Find_l1 (N : Nat) (g_0 : Grf) (p_1 : Pbl) (a_2 : Int) (b_3 : Int) (k : Unit → Option (Pbl × Bool)) : Nat → ((List Int) × (List Int) × (List Bool) × Int) → Option (Pbl × Bool)
  | 0, _ => none
  | n + 1, (l105, l106, l107, k108) =>
    cnd (decide (k108 < (l106.length : Int))) (
      grd (0 ≤ k108 ∧ k108 < (l106.length : Int)) <|
      S_l4Find_l2 N g_0 p_1 a_2 b_3 l106 k108 (fun (x : (List Int) × (List Int) × (List Bool)) =>
          match x with
          | (l143, l144, l145) =>
            grd (Rg64 (k108 + (1 : Int))) <|
            S_l4Find_l1 N g_0 p_1 a_2 b_3 k n (l143, l144, l145, (k108 + (1 : Int)))) N (l105, l106, l107, (0 : Int))) (
      k ())
def S_l4Find_l3 (N : Nat) (g_0 : Grf) (k : (List Int) → Option (Pbl × Bool)) : Nat → ((List Int) × Int) → Option (Pbl × Bool)
  | 0, _ => none
  | n + 1, (l158, i159) =>
    cnd (decide (i159 < g_0.n)) (
      grd (0 ≤ i159 ∧ i159 < ((List.replicate ((g_0.n).toNat) (0 : Int)).length : Int)) <|
      grd (0 ≤ i159 ∧ i159 < (l158.length : Int)) <|
      grd (Rg64 (i159 + (1 : Int))) <|
      S_l4Find_l3 N g_0 k n ((l158.set ((i159).toNat) (-1 : Int)), (i159 + (1 : Int)))) (
      k l158)
def S_l4Find (N : Nat) (g_0 : Grf) (p_1 : Pbl) (a_2 : Int) (b_3 : Int) : Option (Pbl × Bool) :=
  grd (0 ≤ g_0.n ∧ g_0.n ≤ 4294967296) <|
  S_l4Find_l3 N g_0 (fun (l3 : List Int) =>
        grd (0 ≤ a_2 ∧ a_2 < ((List.replicate ((g_0.n).toNat) (false : Bool)).length : Int)) <|
        S_l4Find_l1 N g_0 p_1 a_2 b_3 (fun (_ : Unit) =>
              some ((⟨p_1.free, p_1.tails, p_1.placed⟩ : Pbl), false)) N (l3, ([a_2] : List Int), ((List.replicate ((g_0.n).toNat) (false : Bool)).set ((a_2).toNat) true), (0 : Int))) N ((List.replicate ((g_0.n).toNat) (0 : Int)), (0 : Int))
set_option maxRecDepth 20000 in
set_option maxHeartbeats 1600000 in
theorem S_l4Find_wT (N : Nat) (g_0 : Grf) (p_1 : Pbl) (a_2 : Int) (b_3 : Int) (r : Pbl × Bool) (h : S_l4Find N g_0 p_1 a_2 b_3 = some r) (halt : r.2 = true) : PCall Try.prog 124 [gD g_0, bD p_1, .int a_2, .int b_3] [(3, .ints r.1.free), (3, .ints r.1.tails), (3, .ints r.1.placed)] (.tup [.agg [.row 0 0 r.1.free.length, .row 1 0 r.1.tails.length, .row 2 0 r.1.placed.length], .bool r.2]) := by
  unfold S_l4Find at h
  refine pcall_intro (TT := TT) tt Try.func124 rfl rfl Try.ntmps124 (congrArg Array.toList Try.results124) rfl rfl fun w0 => ?_
  refine vSeq ?_
  refine vRegion ?_
  iterate 2 refine oBox rfl rfl rfl rfl rfl rfl rfl rfl rfl ?_
  refine oAlloc tt rfl rfl rfl rfl rfl rfl rfl rfl rfl ?_
  refine oVal tt rfl rfl rfl rfl rfl trivial ?_
  refine vNil ?_
  change VC _ _ _ _
  refine vSeq ?_
  refine vRegion ?_
  iterate 2 refine oVal tt rfl rfl rfl rfl rfl trivial ?_
  obtain ⟨hg1, h⟩ := grd_inv h
  refine oMake tt rfl rfl rfl rfl rfl rfl rfl rfl rfl rfl rfl hg1 ?_
  refine oVal tt rfl rfl rfl rfl rfl trivial ?_
  refine vNil ?_
  change VC _ _ _ _
  iterate 2 refine vSeq ?_
  refine vRegion ?_
  refine oVal tt rfl rfl rfl rfl rfl trivial ?_
  refine vNil ?_
  change VC _ _ _ _
  refine vJoin (F := fun k => S_l4Find_l3 N g_0 k) h (α := List Int) (J := fun (l3 : List Int) => (⟨[(2, .int a_2), (3, .int b_3), (4, .ptr 4 0), (5, .ptr 5 0), (8, .ptr 8 0), (10, .row 20 0 ((List.replicate ((g_0.n).toNat) (0 : Int)).length))], [(20, some (3, .ints l3))], [(4, some [.int g_0.n, .ro false (.pairs g_0.bars)]), (5, some [.ro false (.ints p_1.free), .ro false (.ints p_1.tails), .ro false (.ints p_1.placed)]), (8, some [.nil, .nil, .nil])]⟩ : PS)) ?_ ?_
  · rintro l3 h
    show VC _ _ _ (⟨[(2, .int a_2), (3, .int b_3), (4, .ptr 4 0), (5, .ptr 5 0), (8, .ptr 8 0), (10, .row 20 0 ((List.replicate ((g_0.n).toNat) (0 : Int)).length))], [(20, some (3, .ints l3))], [(4, some [.int g_0.n, .ro false (.pairs g_0.bars)]), (5, some [.ro false (.ints p_1.free), .ro false (.ints p_1.tails), .ro false (.ints p_1.placed)]), (8, some [.nil, .nil, .nil])]⟩ : PS)
    refine vSeq ?_
    refine vRegion ?_
    refine oVal tt rfl rfl rfl rfl rfl trivial ?_
    refine oBuild tt rfl rfl rfl rfl rfl rfl rfl rfl rfl rfl rfl ?_
    refine oVal tt rfl rfl rfl rfl rfl trivial ?_
    refine vNil ?_
    change VC _ _ _ _
    refine vSeq ?_
    refine vRegion ?_
    iterate 2 refine oVal tt rfl rfl rfl rfl rfl trivial ?_
    refine oMake tt rfl rfl rfl rfl rfl rfl rfl rfl rfl rfl rfl hg1 ?_
    refine oVal tt rfl rfl rfl rfl rfl trivial ?_
    refine vNil ?_
    change VC _ _ _ _
    refine vSeq ?_
    refine vRegion ?_
    iterate 2 refine oVal tt rfl rfl rfl rfl rfl trivial ?_
    obtain ⟨hg2, h⟩ := grd_inv h
    refine oVal tt rfl rfl rfl rfl rfl hg2 ?_
    refine oStore tt rfl rfl rfl rfl rfl rfl rfl rfl rfl rfl ⟨_, _, rfl, hg2.1, hg2.2⟩ ⟨hg2, trivial⟩ ?_
    refine vNil ?_
    change VC _ _ _ _
    iterate 2 refine vSeq ?_
    refine vRegion ?_
    refine oVal tt rfl rfl rfl rfl rfl trivial ?_
    refine vNil ?_
    change VC _ _ _ _
    refine vJoin (F := fun k => S_l4Find_l1 N g_0 p_1 a_2 b_3 k) h (α := Unit) (J := fun (_ : Unit) => (⟨[(5, .ptr 5 0), (8, .ptr 8 0)], [], [(5, some [.ro false (.ints p_1.free), .ro false (.ints p_1.tails), .ro false (.ints p_1.placed)]), (8, some [.nil, .nil, .nil])]⟩ : PS)) ?_ ?_
    · rintro ⟨⟩ h
      show VC _ _ _ (⟨[(5, .ptr 5 0), (8, .ptr 8 0)], [], [(5, some [.ro false (.ints p_1.free), .ro false (.ints p_1.tails), .ro false (.ints p_1.placed)]), (8, some [.nil, .nil, .nil])]⟩ : PS)
      refine vSeq ?_
      refine vRegion ?_
      refine oVal tt rfl rfl rfl rfl rfl trivial ?_
      refine oStore tt rfl rfl rfl rfl rfl rfl rfl rfl rfl rfl rfl ⟨trivial, trivial, trivial, trivial⟩ ?_
      refine oVal tt rfl rfl rfl rfl rfl trivial ?_
      refine vNil ?_
      change VC _ _ _ _
      cases h
      cases halt
    · intro k h
      refine vBlock ?_
      refine vLoopS (α := (List Int) × (List Int) × (List Bool) × Int) (fun | (l105, l106, l107, k108) => (⟨[(2, .int a_2), (3, .int b_3), (4, .ptr 4 0), (5, .ptr 5 0), (8, .ptr 8 0), (10, .row 20 0 ((List.replicate ((g_0.n).toNat) (0 : Int)).length)), (12, .row 31 0 l106.length), (13, .row 34 0 ((List.replicate ((g_0.n).toNat) (false : Bool)).length)), (14, .int k108)], [(20, some (3, .ints l105)), (31, some (3, .ints l106)), (34, some (4, .bools l107))], [(4, some [.int g_0.n, .ro false (.pairs g_0.bars)]), (5, some [.ro false (.ints p_1.free), .ro false (.ints p_1.tails), .ro false (.ints p_1.placed)]), (8, some [.nil, .nil, .nil])]⟩ : PS)) (S_l4Find_l1 N g_0 p_1 a_2 b_3 k) h (En.of ⟨rfl, rfl, rfl, rfl, rfl, rfl, rfl, rfl, rfl, trivial⟩ ⟨rfl, rfl, rfl, trivial⟩ ⟨rfl, rfl, rfl, trivial⟩) (fun _ => rfl) ?_
      rintro n ⟨l105, l106, l107, k108⟩ h
      rw [S_l4Find_l1] at h
      show VC _ _ _ (⟨[(2, .int a_2), (3, .int b_3), (4, .ptr 4 0), (5, .ptr 5 0), (8, .ptr 8 0), (10, .row 20 0 ((List.replicate ((g_0.n).toNat) (0 : Int)).length)), (12, .row 31 0 l106.length), (13, .row 34 0 ((List.replicate ((g_0.n).toNat) (false : Bool)).length)), (14, .int k108)], [(20, some (3, .ints l105)), (31, some (3, .ints l106)), (34, some (4, .bools l107))], [(4, some [.int g_0.n, .ro false (.pairs g_0.bars)]), (5, some [.ro false (.ints p_1.free), .ro false (.ints p_1.tails), .ro false (.ints p_1.placed)]), (8, some [.nil, .nil, .nil])]⟩ : PS)
      iterate 2 refine vSeq ?_
      refine vRegion ?_
      iterate 4 refine oVal tt rfl rfl rfl rfl rfl trivial ?_
      refine vNil ?_
      change VC _ _ _ _
      refine vCond rfl (fun hb3 => ?_) (fun hb3 => ?_)
      · replace h := cnd_t hb3 h
        refine vSkip ?_
        change VC _ _ _ _
        refine vSeq ?_
        refine vBlock ?_
        refine vSeq ?_
        refine vRegion ?_
        iterate 2 refine oVal tt rfl rfl rfl rfl rfl trivial ?_
        obtain ⟨hg4, h⟩ := grd_inv h
        iterate 2 refine oVal tt rfl rfl rfl rfl rfl hg4 ?_
        refine oVal tt rfl rfl rfl rfl rfl trivial ?_
        refine vNil ?_
        change VC _ _ _ _
        refine vSeq ?_
        refine vRegion ?_
        refine oVal tt rfl rfl rfl rfl rfl trivial ?_
        refine vNil ?_
        change VC _ _ _ _
        refine vJoin (F := fun k => S_l4Find_l2 N g_0 p_1 a_2 b_3 l106 k108 k) h (α := (List Int) × (List Int) × (List Bool)) (J := fun | (l143, l144, l145) => (⟨[(2, .int a_2), (3, .int b_3), (4, .ptr 4 0), (5, .ptr 5 0), (8, .ptr 8 0), (10, .row 20 0 ((List.replicate ((g_0.n).toNat) (0 : Int)).length)), (12, .row 31 0 l144.length), (13, .row 34 0 ((List.replicate ((g_0.n).toNat) (false : Bool)).length)), (14, .int k108)], [(20, some (3, .ints l143)), (31, some (3, .ints l144)), (34, some (4, .bools l145))], [(4, some [.int g_0.n, .ro false (.pairs g_0.bars)]), (5, some [.ro false (.ints p_1.free), .ro false (.ints p_1.tails), .ro false (.ints p_1.placed)]), (8, some [.nil, .nil, .nil])]⟩ : PS)) ?_ ?_
        · rintro ⟨l143, l144, l145⟩ h
          show VC _ _ _ (⟨[(2, .int a_2), (3, .int b_3), (4, .ptr 4 0), (5, .ptr 5 0), (8, .ptr 8 0), (10, .row 20 0 ((List.replicate ((g_0.n).toNat) (0 : Int)).length)), (12, .row 31 0 l144.length), (13, .row 34 0 ((List.replicate ((g_0.n).toNat) (false : Bool)).length)), (14, .int k108)], [(20, some (3, .ints l143)), (31, some (3, .ints l144)), (34, some (4, .bools l145))], [(4, some [.int g_0.n, .ro false (.pairs g_0.bars)]), (5, some [.ro false (.ints p_1.free), .ro false (.ints p_1.tails), .ro false (.ints p_1.placed)]), (8, some [.nil, .nil, .nil])]⟩ : PS)
          refine vRegion ?_
          refine oVal tt rfl rfl rfl rfl rfl trivial ?_
          obtain ⟨hg5, h⟩ := grd_inv h
          refine oVal tt rfl rfl rfl rfl rfl hg5 ?_
          refine oVal tt rfl rfl rfl rfl rfl trivial ?_
          refine vNil ?_
          change ∃ _, _
          exact ⟨(l143, l144, l145, (k108 + (1 : Int))), (En.of ⟨rfl, rfl, rfl, rfl, rfl, rfl, rfl, rfl, rfl, trivial⟩ ⟨rfl, rfl, rfl, trivial⟩ ⟨rfl, rfl, rfl, trivial⟩), h⟩
        · intro k h
          refine vBlock ?_
          refine vLoopS (α := (List Int) × (List Int) × (List Bool) × Int) (fun | (l149, l150, l151, i152) => (⟨[(2, .int a_2), (3, .int b_3), (4, .ptr 4 0), (5, .ptr 5 0), (8, .ptr 8 0), (10, .row 20 0 ((List.replicate ((g_0.n).toNat) (0 : Int)).length)), (12, .row 31 0 l150.length), (13, .row 34 0 ((List.replicate ((g_0.n).toNat) (false : Bool)).length)), (14, .int k108), (15, .int (l106.getD ((k108).toNat) 0)), (16, .int i152)], [(20, some (3, .ints l149)), (31, some (3, .ints l150)), (34, some (4, .bools l151))], [(4, some [.int g_0.n, .ro false (.pairs g_0.bars)]), (5, some [.ro false (.ints p_1.free), .ro false (.ints p_1.tails), .ro false (.ints p_1.placed)]), (8, some [.nil, .nil, .nil])]⟩ : PS)) (S_l4Find_l2 N g_0 p_1 a_2 b_3 l106 k108 k) h (En.of ⟨rfl, rfl, rfl, rfl, rfl, rfl, rfl, rfl, rfl, rfl, rfl, trivial⟩ ⟨rfl, rfl, rfl, trivial⟩ ⟨rfl, rfl, rfl, trivial⟩) (fun _ => rfl) ?_
          rintro n ⟨l149, l150, l151, i152⟩ h
          rw [S_l4Find_l2] at h
          show VC _ _ _ (⟨[(2, .int a_2), (3, .int b_3), (4, .ptr 4 0), (5, .ptr 5 0), (8, .ptr 8 0), (10, .row 20 0 ((List.replicate ((g_0.n).toNat) (0 : Int)).length)), (12, .row 31 0 l150.length), (13, .row 34 0 ((List.replicate ((g_0.n).toNat) (false : Bool)).length)), (14, .int k108), (15, .int (l106.getD ((k108).toNat) 0)), (16, .int i152)], [(20, some (3, .ints l149)), (31, some (3, .ints l150)), (34, some (4, .bools l151))], [(4, some [.int g_0.n, .ro false (.pairs g_0.bars)]), (5, some [.ro false (.ints p_1.free), .ro false (.ints p_1.tails), .ro false (.ints p_1.placed)]), (8, some [.nil, .nil, .nil])]⟩ : PS)
          iterate 2 refine vSeq ?_
          refine vRegion ?_
          iterate 5 refine oVal tt rfl rfl rfl rfl rfl trivial ?_
          refine vNil ?_
          change VC _ _ _ _
          refine vCond rfl (fun hb6 => ?_) (fun hb6 => ?_)
          · replace h := cnd_t hb6 h
            refine vSkip ?_
            change VC _ _ _ _
            refine vSeq ?_
            refine vBlock ?_
            iterate 2 refine vSeq ?_
            refine vRegion ?_
            iterate 3 refine oVal tt rfl rfl rfl rfl rfl trivial ?_
            obtain ⟨hg7, h⟩ := grd_inv h
            refine oVal tt rfl rfl rfl rfl rfl hg7 ?_
            iterate 3 refine oVal tt rfl rfl rfl rfl rfl trivial ?_
            refine vNil ?_
            change VC _ _ _ _
            refine vCond rfl (fun hb8 => ?_) (fun hb8 => ?_)
            · replace h := cnd_t hb8 h
              refine vExit ?_
              change VC _ _ _ _
              refine vRegion ?_
              refine oVal tt rfl rfl rfl rfl rfl trivial ?_
              obtain ⟨hg9, h⟩ := grd_inv h
              refine oVal tt rfl rfl rfl rfl rfl hg9 ?_
              refine oVal tt rfl rfl rfl rfl rfl trivial ?_
              refine vNil ?_
              change ∃ _, _
              exact ⟨(l149, l150, l151, (i152 + (1 : Int))), (En.of ⟨rfl, rfl, rfl, rfl, rfl, rfl, rfl, rfl, rfl, rfl, rfl, trivial⟩ ⟨rfl, rfl, rfl, trivial⟩ ⟨rfl, rfl, rfl, trivial⟩), h⟩
            · replace h := cnd_f hb8 h
              refine vSkip ?_
              change VC _ _ _ _
              refine vSeq ?_
              refine vRegionD (by kernel_rfl) (by kernel_rfl) ?_
              iterate 5 refine cVal tt rfl (wNone rfl) rfl rfl rfl trivial ?_
              obtain ⟨hg10, h⟩ := grd_inv h
              refine cVal tt rfl (wNone rfl) rfl rfl rfl hg10 ?_
              refine cVal tt rfl (wNone rfl) rfl rfl rfl trivial ?_
              obtain ⟨hg11, h⟩ := grd_inv h
              refine cVal tt rfl (wNone rfl) rfl rfl rfl hg11 ?_
              iterate 2 refine cVal tt rfl (wNone rfl) rfl rfl rfl trivial ?_
              obtain ⟨v155, hc12, h⟩ := bind_inv h
              refine cCall (S_l4Other_w N (g_0.bars.getD (((p_1.placed.getD ((i152).toNat) 0)).toNat) (0, 0)) (l106.getD ((k108).toNat) 0) v155 hc12) rfl (wNone rfl) rfl rfl rfl rfl rfl rfl ⟨⟨rfl, rfl, trivial⟩, rfl, trivial⟩ ?_
              refine cVal tt rfl (wNone rfl) rfl rfl rfl trivial ?_
              refine cNil ?_
              change VC _ _ _ _
              iterate 2 refine vSeq ?_
              refine vRegion ?_
              iterate 2 refine oVal tt rfl rfl rfl rfl rfl trivial ?_
              obtain ⟨hg13, h⟩ := grd_inv h
              refine oVal tt rfl rfl rfl rfl rfl hg13 ?_
              obtain ⟨hg14, h⟩ := grd_inv h
              refine oVal tt rfl rfl rfl rfl rfl hg14 ?_
              refine vNil ?_
              change VC _ _ _ _
              refine vCond rfl (fun hb15 => ?_) (fun hb15 => ?_)
              · replace h := cnd_t hb15 h
                refine vExit ?_
                change VC _ _ _ _
                refine vRegion ?_
                refine oVal tt rfl rfl rfl rfl rfl trivial ?_
                obtain ⟨hg16, h⟩ := grd_inv h
                refine oVal tt rfl rfl rfl rfl rfl hg16 ?_
                refine oVal tt rfl rfl rfl rfl rfl trivial ?_
                refine vNil ?_
                change ∃ _, _
                exact ⟨(l149, l150, l151, (i152 + (1 : Int))), (En.of ⟨rfl, rfl, rfl, rfl, rfl, rfl, rfl, rfl, rfl, rfl, rfl, trivial⟩ ⟨rfl, rfl, rfl, trivial⟩ ⟨rfl, rfl, rfl, trivial⟩), h⟩
              · replace h := cnd_f hb15 h
                refine vSkip ?_
                change VC _ _ _ _
                refine vSeq ?_
                refine vRegion ?_
                iterate 2 refine oVal tt rfl rfl rfl rfl rfl trivial ?_
                refine oVal tt rfl rfl rfl rfl rfl hg13 ?_
                refine oStore tt rfl rfl rfl rfl rfl rfl rfl rfl rfl rfl ⟨_, _, rfl, hg14.1, hg14.2⟩ ⟨hg14, trivial⟩ ?_
                refine vNil ?_
                change VC _ _ _ _
                refine vSeq ?_
                refine vRegion ?_
                iterate 3 refine oVal tt rfl rfl rfl rfl rfl trivial ?_
                obtain ⟨hg17, h⟩ := grd_inv h
                refine oVal tt rfl rfl rfl rfl rfl hg17 ?_
                obtain ⟨hg18, h⟩ := grd_inv h
                refine oStore tt rfl rfl rfl rfl rfl rfl rfl rfl rfl rfl ⟨_, _, rfl, hg18.1, hg18.2⟩ ⟨hg18, trivial⟩ ?_
                refine vNil ?_
                change VC _ _ _ _
                iterate 2 refine vSeq ?_
                refine vRegion ?_
                iterate 4 refine oVal tt rfl rfl rfl rfl rfl trivial ?_
                refine oSplit rfl rfl rfl (fun hb19 => ?_) (fun hb19 => ?_)
                · replace h := cnd_t hb19 h
                  iterate 3 refine oValG tt rfl rfl rfl rfl rfl hb19 rfl rfl rfl trivial ?_
                  obtain ⟨hg20, h⟩ := grd_inv h
                  refine oValG tt rfl rfl rfl rfl rfl hb19 rfl rfl rfl hg20 ?_
                  iterate 2 refine oValG tt rfl rfl rfl rfl rfl hb19 rfl rfl rfl trivial ?_
                  refine oPick rfl rfl rfl rfl rfl hb19 rfl ?_
                  refine vNil ?_
                  change VC _ _ _ _
                  refine vCond rfl (fun hb21 => ?_) (fun hb21 => ?_)
                  · replace h := cnd_t hb21 h
                    refine vSeq ?_
                    refine vRegion ?_
                    iterate 5 refine oVal tt rfl rfl rfl rfl rfl trivial ?_
                    obtain ⟨hg22, h⟩ := grd_inv h
                    obtain ⟨v156, hc23, h⟩ := bind_inv h
                    refine oCall (S_l4Shift_w N g_0 p_1 (l149.set ((v155).toNat) i152) a_2 v155 v156 hc23) rfl rfl rfl rfl rfl rfl rfl rfl ⟨⟨rfl, rfl, trivial⟩, ⟨rfl, rfl, rfl, trivial⟩, (.inl ⟨hg22, rfl⟩), rfl, rfl, trivial⟩ ?_
                    refine oStore tt rfl rfl rfl rfl rfl rfl rfl rfl rfl rfl rfl ⟨trivial, trivial, trivial, trivial⟩ ?_
                    refine oVal tt rfl rfl rfl rfl rfl trivial ?_
                    refine vNil ?_
                    change VC _ _ _ _
                    refine vRet ?_
                    change ∃ _, _
                    cases h
                    exact ⟨[2000, 2001, 2002], _, rfl, ⟨rfl, rfl, rfl, trivial⟩, rfl, (.eq rfl), rfl⟩
                  · replace h := cnd_f hb21 h
                    refine vSkip ?_
                    change VC _ _ _ _
                    refine vRegion ?_
                    iterate 2 refine oVal tt rfl rfl rfl rfl rfl trivial ?_
                    refine oBuild tt rfl rfl rfl rfl rfl rfl rfl rfl rfl rfl rfl ?_
                    obtain ⟨hg24, h⟩ := grd_inv h
                    refine oAppend tt rfl rfl rfl rfl rfl rfl rfl rfl rfl rfl rfl rfl rfl rfl rfl rfl (Nat.le_of_eq (Nat.zero_add _)) hg24 ?_
                    refine oVal tt rfl rfl rfl rfl rfl trivial ?_
                    refine vNil ?_
                    change VC _ _ _ _
                    refine vRegion ?_
                    refine oVal tt rfl rfl rfl rfl rfl trivial ?_
                    obtain ⟨hg25, h⟩ := grd_inv h
                    refine oVal tt rfl rfl rfl rfl rfl hg25 ?_
                    refine oVal tt rfl rfl rfl rfl rfl trivial ?_
                    refine vNil ?_
                    change ∃ _, _
                    exact ⟨((l149.set ((v155).toNat) i152), (l150 ++ ([v155] : List Int)), (l151.set ((v155).toNat) true), (i152 + (1 : Int))), (En.of ⟨rfl, rfl, rfl, rfl, rfl, rfl, rfl, rfl, rfl, rfl, rfl, trivial⟩ ⟨rfl, rfl, rfl, trivial⟩ ⟨rfl, rfl, rfl, trivial⟩), h⟩
                · replace h := cnd_f hb19 h
                  iterate 6 refine oNoT rfl rfl rfl rfl hb19 rfl rfl ?_
                  refine oPickF rfl rfl rfl rfl rfl hb19 rfl ?_
                  refine vNil ?_
                  change VC _ _ _ _
                  refine vCondF rfl rfl ?_
                  refine vSkip ?_
                  change VC _ _ _ _
                  refine vRegion ?_
                  iterate 2 refine oVal tt rfl rfl rfl rfl rfl trivial ?_
                  refine oBuild tt rfl rfl rfl rfl rfl rfl rfl rfl rfl rfl rfl ?_
                  obtain ⟨hg26, h⟩ := grd_inv h
                  refine oAppend tt rfl rfl rfl rfl rfl rfl rfl rfl rfl rfl rfl rfl rfl rfl rfl rfl (Nat.le_of_eq (Nat.zero_add _)) hg26 ?_
                  refine oVal tt rfl rfl rfl rfl rfl trivial ?_
                  refine vNil ?_
                  change VC _ _ _ _
                  refine vRegion ?_
                  refine oVal tt rfl rfl rfl rfl rfl trivial ?_
                  obtain ⟨hg27, h⟩ := grd_inv h
                  refine oVal tt rfl rfl rfl rfl rfl hg27 ?_
                  refine oVal tt rfl rfl rfl rfl rfl trivial ?_
                  refine vNil ?_
                  change ∃ _, _
                  exact ⟨((l149.set ((v155).toNat) i152), (l150 ++ ([v155] : List Int)), (l151.set ((v155).toNat) true), (i152 + (1 : Int))), (En.of ⟨rfl, rfl, rfl, rfl, rfl, rfl, rfl, rfl, rfl, rfl, rfl, trivial⟩ ⟨rfl, rfl, rfl, trivial⟩ ⟨rfl, rfl, rfl, trivial⟩), h⟩
          · replace h := cnd_f hb6 h
            refine vExit ?_
            change ∃ _, _
            exact ⟨(l149, l150, l151), (En.of ⟨rfl, rfl, rfl, rfl, rfl, rfl, rfl, rfl, rfl, trivial⟩ ⟨rfl, rfl, rfl, trivial⟩ ⟨rfl, rfl, rfl, trivial⟩), h⟩
      · replace h := cnd_f hb3 h
        refine vExit ?_
        change ∃ _, _
        exact ⟨(), (En.of ⟨rfl, rfl, trivial⟩ trivial ⟨rfl, rfl, trivial⟩), h⟩
  · intro k h
    refine vBlock ?_
    refine vLoopS (α := (List Int) × Int) (fun | (l158, i159) => (⟨[(2, .int a_2), (3, .int b_3), (4, .ptr 4 0), (5, .ptr 5 0), (8, .ptr 8 0), (10, .row 20 0 ((List.replicate ((g_0.n).toNat) (0 : Int)).length)), (11, .int i159)], [(20, some (3, .ints l158))], [(4, some [.int g_0.n, .ro false (.pairs g_0.bars)]), (5, some [.ro false (.ints p_1.free), .ro false (.ints p_1.tails), .ro false (.ints p_1.placed)]), (8, some [.nil, .nil, .nil])]⟩ : PS)) (S_l4Find_l3 N g_0 k) h (En.of ⟨rfl, rfl, rfl, rfl, rfl, rfl, rfl, trivial⟩ ⟨rfl, trivial⟩ ⟨rfl, rfl, rfl, trivial⟩) (fun _ => rfl) ?_
    rintro n ⟨l158, i159⟩ h
    rw [S_l4Find_l3] at h
    show VC _ _ _ (⟨[(2, .int a_2), (3, .int b_3), (4, .ptr 4 0), (5, .ptr 5 0), (8, .ptr 8 0), (10, .row 20 0 ((List.replicate ((g_0.n).toNat) (0 : Int)).length)), (11, .int i159)], [(20, some (3, .ints l158))], [(4, some [.int g_0.n, .ro false (.pairs g_0.bars)]), (5, some [.ro false (.ints p_1.free), .ro false (.ints p_1.tails), .ro false (.ints p_1.placed)]), (8, some [.nil, .nil, .nil])]⟩ : PS)
    iterate 2 refine vSeq ?_
    refine vRegion ?_
    iterate 4 refine oVal tt rfl rfl rfl rfl rfl trivial ?_
    refine vNil ?_
    change VC _ _ _ _
    refine vCond rfl (fun hb28 => ?_) (fun hb28 => ?_)
    · replace h := cnd_t hb28 h
      refine vSkip ?_
      change VC _ _ _ _
      refine vSeq ?_
      refine vBlock ?_
      refine vRegion ?_
      iterate 2 refine oVal tt rfl rfl rfl rfl rfl trivial ?_
      obtain ⟨hg29, h⟩ := grd_inv h
      refine oVal tt rfl rfl rfl rfl rfl hg29 ?_
      obtain ⟨hg30, h⟩ := grd_inv h
      refine oStore tt rfl rfl rfl rfl rfl rfl rfl rfl rfl rfl ⟨_, _, rfl, hg30.1, hg30.2⟩ ⟨hg30, trivial⟩ ?_
      refine vNil ?_
      change VC _ _ _ _
      refine vRegion ?_
      refine oVal tt rfl rfl rfl rfl rfl trivial ?_
      obtain ⟨hg31, h⟩ := grd_inv h
      refine oVal tt rfl rfl rfl rfl rfl hg31 ?_
      refine oVal tt rfl rfl rfl rfl rfl trivial ?_
      refine vNil ?_
      change ∃ _, _
      exact ⟨((l158.set ((i159).toNat) (-1 : Int)), (i159 + (1 : Int))), (En.of ⟨rfl, rfl, rfl, rfl, rfl, rfl, rfl, trivial⟩ ⟨rfl, trivial⟩ ⟨rfl, rfl, rfl, trivial⟩), h⟩
    · replace h := cnd_f hb28 h
      refine vExit ?_
      change ∃ _, _
      exact ⟨l158, (En.of ⟨rfl, rfl, rfl, rfl, rfl, rfl, trivial⟩ ⟨rfl, trivial⟩ ⟨rfl, rfl, rfl, trivial⟩), h⟩
set_option maxRecDepth 20000 in
set_option maxHeartbeats 1600000 in
theorem S_l4Find_wF (N : Nat) (g_0 : Grf) (p_1 : Pbl) (a_2 : Int) (b_3 : Int) (r : Pbl × Bool) (h : S_l4Find N g_0 p_1 a_2 b_3 = some r) (halt : r.2 = false) : PCall Try.prog 124 [gD g_0, bD p_1, .int a_2, .int b_3] [] (.tup [.agg [.any, .any, .any], .bool r.2]) := by
  unfold S_l4Find at h
  refine pcall_intro (TT := TT) tt Try.func124 rfl rfl Try.ntmps124 (congrArg Array.toList Try.results124) rfl rfl fun w0 => ?_
  refine vSeq ?_
  refine vRegion ?_
  iterate 2 refine oBox rfl rfl rfl rfl rfl rfl rfl rfl rfl ?_
  refine oAlloc tt rfl rfl rfl rfl rfl rfl rfl rfl rfl ?_
  refine oVal tt rfl rfl rfl rfl rfl trivial ?_
  refine vNil ?_
  change VC _ _ _ _
  refine vSeq ?_
  refine vRegion ?_
  iterate 2 refine oVal tt rfl rfl rfl rfl rfl trivial ?_
  obtain ⟨hg1, h⟩ := grd_inv h
  refine oMake tt rfl rfl rfl rfl rfl rfl rfl rfl rfl rfl rfl hg1 ?_
  refine oVal tt rfl rfl rfl rfl rfl trivial ?_
  refine vNil ?_
  change VC _ _ _ _
  iterate 2 refine vSeq ?_
  refine vRegion ?_
  refine oVal tt rfl rfl rfl rfl rfl trivial ?_
  refine vNil ?_
  change VC _ _ _ _
  refine vJoin (F := fun k => S_l4Find_l3 N g_0 k) h (α := List Int) (J := fun (l3 : List Int) => (⟨[(2, .int a_2), (3, .int b_3), (4, .ptr 4 0), (5, .ptr 5 0), (8, .ptr 8 0), (10, .row 20 0 ((List.replicate ((g_0.n).toNat) (0 : Int)).length))], [(20, some (3, .ints l3))], [(4, some [.int g_0.n, .ro false (.pairs g_0.bars)]), (5, some [.ro false (.ints p_1.free), .ro false (.ints p_1.tails), .ro false (.ints p_1.placed)]), (8, some [.nil, .nil, .nil])]⟩ : PS)) ?_ ?_
  · rintro l3 h
    show VC _ _ _ (⟨[(2, .int a_2), (3, .int b_3), (4, .ptr 4 0), (5, .ptr 5 0), (8, .ptr 8 0), (10, .row 20 0 ((List.replicate ((g_0.n).toNat) (0 : Int)).length))], [(20, some (3, .ints l3))], [(4, some [.int g_0.n, .ro false (.pairs g_0.bars)]), (5, some [.ro false (.ints p_1.free), .ro false (.ints p_1.tails), .ro false (.ints p_1.placed)]), (8, some [.nil, .nil, .nil])]⟩ : PS)
    refine vSeq ?_
    refine vRegion ?_
    refine oVal tt rfl rfl rfl rfl rfl trivial ?_
    refine oBuild tt rfl rfl rfl rfl rfl rfl rfl rfl rfl rfl rfl ?_
    refine oVal tt rfl rfl rfl rfl rfl trivial ?_
    refine vNil ?_
    change VC _ _ _ _
    refine vSeq ?_
    refine vRegion ?_
    iterate 2 refine oVal tt rfl rfl rfl rfl rfl trivial ?_
    refine oMake tt rfl rfl rfl rfl rfl rfl rfl rfl rfl rfl rfl hg1 ?_
    refine oVal tt rfl rfl rfl rfl rfl trivial ?_
    refine vNil ?_
    change VC _ _ _ _
    refine vSeq ?_
    refine vRegion ?_
    iterate 2 refine oVal tt rfl rfl rfl rfl rfl trivial ?_
    obtain ⟨hg2, h⟩ := grd_inv h
    refine oVal tt rfl rfl rfl rfl rfl hg2 ?_
    refine oStore tt rfl rfl rfl rfl rfl rfl rfl rfl rfl rfl ⟨_, _, rfl, hg2.1, hg2.2⟩ ⟨hg2, trivial⟩ ?_
    refine vNil ?_
    change VC _ _ _ _
    iterate 2 refine vSeq ?_
    refine vRegion ?_
    refine oVal tt rfl rfl rfl rfl rfl trivial ?_
    refine vNil ?_
    change VC _ _ _ _
    refine vJoin (F := fun k => S_l4Find_l1 N g_0 p_1 a_2 b_3 k) h (α := Unit) (J := fun (_ : Unit) => (⟨[(5, .ptr 5 0), (8, .ptr 8 0)], [], [(5, some [.ro false (.ints p_1.free), .ro false (.ints p_1.tails), .ro false (.ints p_1.placed)]), (8, some [.nil, .nil, .nil])]⟩ : PS)) ?_ ?_
    · rintro ⟨⟩ h
      show VC _ _ _ (⟨[(5, .ptr 5 0), (8, .ptr 8 0)], [], [(5, some [.ro false (.ints p_1.free), .ro false (.ints p_1.tails), .ro false (.ints p_1.placed)]), (8, some [.nil, .nil, .nil])]⟩ : PS)
      refine vSeq ?_
      refine vRegion ?_
      refine oVal tt rfl rfl rfl rfl rfl trivial ?_
      refine oStore tt rfl rfl rfl rfl rfl rfl rfl rfl rfl rfl rfl ⟨trivial, trivial, trivial, trivial⟩ ?_
      refine oVal tt rfl rfl rfl rfl rfl trivial ?_
      refine vNil ?_
      change VC _ _ _ _
      refine vRet ?_
      change ∃ _, _
      cases h
      exact ⟨[], _, rfl, trivial, rfl, (wkTup rfl rfl ⟨wkAgg rfl rfl ⟨.any rfl rfl, .any rfl rfl, .any rfl rfl, trivial⟩, .eq rfl, trivial⟩), rfl⟩
    · intro k h
      refine vBlock ?_
      refine vLoopS (α := (List Int) × (List Int) × (List Bool) × Int) (fun | (l105, l106, l107, k108) => (⟨[(2, .int a_2), (3, .int b_3), (4, .ptr 4 0), (5, .ptr 5 0), (8, .ptr 8 0), (10, .row 20 0 ((List.replicate ((g_0.n).toNat) (0 : Int)).length)), (12, .row 31 0 l106.length), (13, .row 34 0 ((List.replicate ((g_0.n).toNat) (false : Bool)).length)), (14, .int k108)], [(20, some (3, .ints l105)), (31, some (3, .ints l106)), (34, some (4, .bools l107))], [(4, some [.int g_0.n, .ro false (.pairs g_0.bars)]), (5, some [.ro false (.ints p_1.free), .ro false (.ints p_1.tails), .ro false (.ints p_1.placed)]), (8, some [.nil, .nil, .nil])]⟩ : PS)) (S_l4Find_l1 N g_0 p_1 a_2 b_3 k) h (En.of ⟨rfl, rfl, rfl, rfl, rfl, rfl, rfl, rfl, rfl, trivial⟩ ⟨rfl, rfl, rfl, trivial⟩ ⟨rfl, rfl, rfl, trivial⟩) (fun _ => rfl) ?_
      rintro n ⟨l105, l106, l107, k108⟩ h
      rw [S_l4Find_l1] at h
      show VC _ _ _ (⟨[(2, .int a_2), (3, .int b_3), (4, .ptr 4 0), (5, .ptr 5 0), (8, .ptr 8 0), (10, .row 20 0 ((List.replicate ((g_0.n).toNat) (0 : Int)).length)), (12, .row 31 0 l106.length), (13, .row 34 0 ((List.replicate ((g_0.n).toNat) (false : Bool)).length)), (14, .int k108)], [(20, some (3, .ints l105)), (31, some (3, .ints l106)), (34, some (4, .bools l107))], [(4, some [.int g_0.n, .ro false (.pairs g_0.bars)]), (5, some [.ro false (.ints p_1.free), .ro false (.ints p_1.tails), .ro false (.ints p_1.placed)]), (8, some [.nil, .nil, .nil])]⟩ : PS)
      iterate 2 refine vSeq ?_
      refine vRegion ?_
      iterate 4 refine oVal tt rfl rfl rfl rfl rfl trivial ?_
      refine vNil ?_
      change VC _ _ _ _
      refine vCond rfl (fun hb3 => ?_) (fun hb3 => ?_)
      · replace h := cnd_t hb3 h
        refine vSkip ?_
        change VC _ _ _ _
        refine vSeq ?_
        refine vBlock ?_
        refine vSeq ?_
        refine vRegion ?_
        iterate 2 refine oVal tt rfl rfl rfl rfl rfl trivial ?_
        obtain ⟨hg4, h⟩ := grd_inv h
        iterate 2 refine oVal tt rfl rfl rfl rfl rfl hg4 ?_
        refine oVal tt rfl rfl rfl rfl rfl trivial ?_
        refine vNil ?_
        change VC _ _ _ _
        refine vSeq ?_
        refine vRegion ?_
        refine oVal tt rfl rfl rfl rfl rfl trivial ?_
        refine vNil ?_
        change VC _ _ _ _
        refine vJoin (F := fun k => S_l4Find_l2 N g_0 p_1 a_2 b_3 l106 k108 k) h (α := (List Int) × (List Int) × (List Bool)) (J := fun | (l143, l144, l145) => (⟨[(2, .int a_2), (3, .int b_3), (4, .ptr 4 0), (5, .ptr 5 0), (8, .ptr 8 0), (10, .row 20 0 ((List.replicate ((g_0.n).toNat) (0 : Int)).length)), (12, .row 31 0 l144.length), (13, .row 34 0 ((List.replicate ((g_0.n).toNat) (false : Bool)).length)), (14, .int k108)], [(20, some (3, .ints l143)), (31, some (3, .ints l144)), (34, some (4, .bools l145))], [(4, some [.int g_0.n, .ro false (.pairs g_0.bars)]), (5, some [.ro false (.ints p_1.free), .ro false (.ints p_1.tails), .ro false (.ints p_1.placed)]), (8, some [.nil, .nil, .nil])]⟩ : PS)) ?_ ?_
        · rintro ⟨l143, l144, l145⟩ h
          show VC _ _ _ (⟨[(2, .int a_2), (3, .int b_3), (4, .ptr 4 0), (5, .ptr 5 0), (8, .ptr 8 0), (10, .row 20 0 ((List.replicate ((g_0.n).toNat) (0 : Int)).length)), (12, .row 31 0 l144.length), (13, .row 34 0 ((List.replicate ((g_0.n).toNat) (false : Bool)).length)), (14, .int k108)], [(20, some (3, .ints l143)), (31, some (3, .ints l144)), (34, some (4, .bools l145))], [(4, some [.int g_0.n, .ro false (.pairs g_0.bars)]), (5, some [.ro false (.ints p_1.free), .ro false (.ints p_1.tails), .ro false (.ints p_1.placed)]), (8, some [.nil, .nil, .nil])]⟩ : PS)
          refine vRegion ?_
          refine oVal tt rfl rfl rfl rfl rfl trivial ?_
          obtain ⟨hg5, h⟩ := grd_inv h
          refine oVal tt rfl rfl rfl rfl rfl hg5 ?_
          refine oVal tt rfl rfl rfl rfl rfl trivial ?_
          refine vNil ?_
          change ∃ _, _
          exact ⟨(l143, l144, l145, (k108 + (1 : Int))), (En.of ⟨rfl, rfl, rfl, rfl, rfl, rfl, rfl, rfl, rfl, trivial⟩ ⟨rfl, rfl, rfl, trivial⟩ ⟨rfl, rfl, rfl, trivial⟩), h⟩
        · intro k h
          refine vBlock ?_
          refine vLoopS (α := (List Int) × (List Int) × (List Bool) × Int) (fun | (l149, l150, l151, i152) => (⟨[(2, .int a_2), (3, .int b_3), (4, .ptr 4 0), (5, .ptr 5 0), (8, .ptr 8 0), (10, .row 20 0 ((List.replicate ((g_0.n).toNat) (0 : Int)).length)), (12, .row 31 0 l150.length), (13, .row 34 0 ((List.replicate ((g_0.n).toNat) (false : Bool)).length)), (14, .int k108), (15, .int (l106.getD ((k108).toNat) 0)), (16, .int i152)], [(20, some (3, .ints l149)), (31, some (3, .ints l150)), (34, some (4, .bools l151))], [(4, some [.int g_0.n, .ro false (.pairs g_0.bars)]), (5, some [.ro false (.ints p_1.free), .ro false (.ints p_1.tails), .ro false (.ints p_1.placed)]), (8, some [.nil, .nil, .nil])]⟩ : PS)) (S_l4Find_l2 N g_0 p_1 a_2 b_3 l106 k108 k) h (En.of ⟨rfl, rfl, rfl, rfl, rfl, rfl, rfl, rfl, rfl, rfl, rfl, trivial⟩ ⟨rfl, rfl, rfl, trivial⟩ ⟨rfl, rfl, rfl, trivial⟩) (fun _ => rfl) ?_
          rintro n ⟨l149, l150, l151, i152⟩ h
          rw [S_l4Find_l2] at h
          show VC _ _ _ (⟨[(2, .int a_2), (3, .int b_3), (4, .ptr 4 0), (5, .ptr 5 0), (8, .ptr 8 0), (10, .row 20 0 ((List.replicate ((g_0.n).toNat) (0 : Int)).length)), (12, .row 31 0 l150.length), (13, .row 34 0 ((List.replicate ((g_0.n).toNat) (false : Bool)).length)), (14, .int k108), (15, .int (l106.getD ((k108).toNat) 0)), (16, .int i152)], [(20, some (3, .ints l149)), (31, some (3, .ints l150)), (34, some (4, .bools l151))], [(4, some [.int g_0.n, .ro false (.pairs g_0.bars)]), (5, some [.ro false (.ints p_1.free), .ro false (.ints p_1.tails), .ro false (.ints p_1.placed)]), (8, some [.nil, .nil, .nil])]⟩ : PS)
          iterate 2 refine vSeq ?_
          refine vRegion ?_
          iterate 5 refine oVal tt rfl rfl rfl rfl rfl trivial ?_
          refine vNil ?_
          change VC _ _ _ _
          refine vCond rfl (fun hb6 => ?_) (fun hb6 => ?_)
          · replace h := cnd_t hb6 h
            refine vSkip ?_
            change VC _ _ _ _
            refine vSeq ?_
            refine vBlock ?_
            iterate 2 refine vSeq ?_
            refine vRegion ?_
            iterate 3 refine oVal tt rfl rfl rfl rfl rfl trivial ?_
            obtain ⟨hg7, h⟩ := grd_inv h
            refine oVal tt rfl rfl rfl rfl rfl hg7 ?_
            iterate 3 refine oVal tt rfl rfl rfl rfl rfl trivial ?_
            refine vNil ?_
            change VC _ _ _ _
            refine vCond rfl (fun hb8 => ?_) (fun hb8 => ?_)
            · replace h := cnd_t hb8 h
              refine vExit ?_
              change VC _ _ _ _
              refine vRegion ?_
              refine oVal tt rfl rfl rfl rfl rfl trivial ?_
              obtain ⟨hg9, h⟩ := grd_inv h
              refine oVal tt rfl rfl rfl rfl rfl hg9 ?_
              refine oVal tt rfl rfl rfl rfl rfl trivial ?_
              refine vNil ?_
              change ∃ _, _
              exact ⟨(l149, l150, l151, (i152 + (1 : Int))), (En.of ⟨rfl, rfl, rfl, rfl, rfl, rfl, rfl, rfl, rfl, rfl, rfl, trivial⟩ ⟨rfl, rfl, rfl, trivial⟩ ⟨rfl, rfl, rfl, trivial⟩), h⟩
            · replace h := cnd_f hb8 h
              refine vSkip ?_
              change VC _ _ _ _
              refine vSeq ?_
              refine vRegionD (by kernel_rfl) (by kernel_rfl) ?_
              iterate 5 refine cVal tt rfl (wNone rfl) rfl rfl rfl trivial ?_
              obtain ⟨hg10, h⟩ := grd_inv h
              refine cVal tt rfl (wNone rfl) rfl rfl rfl hg10 ?_
              refine cVal tt rfl (wNone rfl) rfl rfl rfl trivial ?_
              obtain ⟨hg11, h⟩ := grd_inv h
              refine cVal tt rfl (wNone rfl) rfl rfl rfl hg11 ?_
              iterate 2 refine cVal tt rfl (wNone rfl) rfl rfl rfl trivial ?_
              obtain ⟨v155, hc12, h⟩ := bind_inv h
              refine cCall (S_l4Other_w N (g_0.bars.getD (((p_1.placed.getD ((i152).toNat) 0)).toNat) (0, 0)) (l106.getD ((k108).toNat) 0) v155 hc12) rfl (wNone rfl) rfl rfl rfl rfl rfl rfl ⟨⟨rfl, rfl, trivial⟩, rfl, trivial⟩ ?_
              refine cVal tt rfl (wNone rfl) rfl rfl rfl trivial ?_
              refine cNil ?_
              change VC _ _ _ _
              iterate 2 refine vSeq ?_
              refine vRegion ?_
              iterate 2 refine oVal tt rfl rfl rfl rfl rfl trivial ?_
              obtain ⟨hg13, h⟩ := grd_inv h
              refine oVal tt rfl rfl rfl rfl rfl hg13 ?_
              obtain ⟨hg14, h⟩ := grd_inv h
              refine oVal tt rfl rfl rfl rfl rfl hg14 ?_
              refine vNil ?_
              change VC _ _ _ _
              refine vCond rfl (fun hb15 => ?_) (fun hb15 => ?_)
              · replace h := cnd_t hb15 h
                refine vExit ?_
                change VC _ _ _ _
                refine vRegion ?_
                refine oVal tt rfl rfl rfl rfl rfl trivial ?_
                obtain ⟨hg16, h⟩ := grd_inv h
                refine oVal tt rfl rfl rfl rfl rfl hg16 ?_
                refine oVal tt rfl rfl rfl rfl rfl trivial ?_
                refine vNil ?_
                change ∃ _, _
                exact ⟨(l149, l150, l151, (i152 + (1 : Int))), (En.of ⟨rfl, rfl, rfl, rfl, rfl, rfl, rfl, rfl, rfl, rfl, rfl, trivial⟩ ⟨rfl, rfl, rfl, trivial⟩ ⟨rfl, rfl, rfl, trivial⟩), h⟩
              · replace h := cnd_f hb15 h
                refine vSkip ?_
                change VC _ _ _ _
                refine vSeq ?_
                refine vRegion ?_
                iterate 2 refine oVal tt rfl rfl rfl rfl rfl trivial ?_
                refine oVal tt rfl rfl rfl rfl rfl hg13 ?_
                refine oStore tt rfl rfl rfl rfl rfl rfl rfl rfl rfl rfl ⟨_, _, rfl, hg14.1, hg14.2⟩ ⟨hg14, trivial⟩ ?_
                refine vNil ?_
                change VC _ _ _ _
                refine vSeq ?_
                refine vRegion ?_
                iterate 3 refine oVal tt rfl rfl rfl rfl rfl trivial ?_
                obtain ⟨hg17, h⟩ := grd_inv h
                refine oVal tt rfl rfl rfl rfl rfl hg17 ?_
                obtain ⟨hg18, h⟩ := grd_inv h
                refine oStore tt rfl rfl rfl rfl rfl rfl rfl rfl rfl rfl ⟨_, _, rfl, hg18.1, hg18.2⟩ ⟨hg18, trivial⟩ ?_
                refine vNil ?_
                change VC _ _ _ _
                iterate 2 refine vSeq ?_
                refine vRegion ?_
                iterate 4 refine oVal tt rfl rfl rfl rfl rfl trivial ?_
                refine oSplit rfl rfl rfl (fun hb19 => ?_) (fun hb19 => ?_)
                · replace h := cnd_t hb19 h
                  iterate 3 refine oValG tt rfl rfl rfl rfl rfl hb19 rfl rfl rfl trivial ?_
                  obtain ⟨hg20, h⟩ := grd_inv h
                  refine oValG tt rfl rfl rfl rfl rfl hb19 rfl rfl rfl hg20 ?_
                  iterate 2 refine oValG tt rfl rfl rfl rfl rfl hb19 rfl rfl rfl trivial ?_
                  refine oPick rfl rfl rfl rfl rfl hb19 rfl ?_
                  refine vNil ?_
                  change VC _ _ _ _
                  refine vCond rfl (fun hb21 => ?_) (fun hb21 => ?_)
                  · replace h := cnd_t hb21 h
                    refine vSeq ?_
                    refine vRegion ?_
                    iterate 5 refine oVal tt rfl rfl rfl rfl rfl trivial ?_
                    obtain ⟨hg22, h⟩ := grd_inv h
                    obtain ⟨v156, hc23, h⟩ := bind_inv h
                    refine oCall (S_l4Shift_w N g_0 p_1 (l149.set ((v155).toNat) i152) a_2 v155 v156 hc23) rfl rfl rfl rfl rfl rfl rfl rfl ⟨⟨rfl, rfl, trivial⟩, ⟨rfl, rfl, rfl, trivial⟩, (.inl ⟨hg22, rfl⟩), rfl, rfl, trivial⟩ ?_
                    refine oStore tt rfl rfl rfl rfl rfl rfl rfl rfl rfl rfl rfl ⟨trivial, trivial, trivial, trivial⟩ ?_
                    refine oVal tt rfl rfl rfl rfl rfl trivial ?_
                    refine vNil ?_
                    change VC _ _ _ _
                    cases h
                    cases halt
                  · replace h := cnd_f hb21 h
                    refine vSkip ?_
                    change VC _ _ _ _
                    refine vRegion ?_
                    iterate 2 refine oVal tt rfl rfl rfl rfl rfl trivial ?_
                    refine oBuild tt rfl rfl rfl rfl rfl rfl rfl rfl rfl rfl rfl ?_
                    obtain ⟨hg24, h⟩ := grd_inv h
                    refine oAppend tt rfl rfl rfl rfl rfl rfl rfl rfl rfl rfl rfl rfl rfl rfl rfl rfl (Nat.le_of_eq (Nat.zero_add _)) hg24 ?_
                    refine oVal tt rfl rfl rfl rfl rfl trivial ?_
                    refine vNil ?_
                    change VC _ _ _ _
                    refine vRegion ?_
                    refine oVal tt rfl rfl rfl rfl rfl trivial ?_
                    obtain ⟨hg25, h⟩ := grd_inv h
                    refine oVal tt rfl rfl rfl rfl rfl hg25 ?_
                    refine oVal tt rfl rfl rfl rfl rfl trivial ?_
                    refine vNil ?_
                    change ∃ _, _
                    exact ⟨((l149.set ((v155).toNat) i152), (l150 ++ ([v155] : List Int)), (l151.set ((v155).toNat) true), (i152 + (1 : Int))), (En.of ⟨rfl, rfl, rfl, rfl, rfl, rfl, rfl, rfl, rfl, rfl, rfl, trivial⟩ ⟨rfl, rfl, rfl, trivial⟩ ⟨rfl, rfl, rfl, trivial⟩), h⟩
                · replace h := cnd_f hb19 h
                  iterate 6 refine oNoT rfl rfl rfl rfl hb19 rfl rfl ?_
                  refine oPickF rfl rfl rfl rfl rfl hb19 rfl ?_
                  refine vNil ?_
                  change VC _ _ _ _
                  refine vCondF rfl rfl ?_
                  refine vSkip ?_
                  change VC _ _ _ _
                  refine vRegion ?_
                  iterate 2 refine oVal tt rfl rfl rfl rfl rfl trivial ?_
                  refine oBuild tt rfl rfl rfl rfl rfl rfl rfl rfl rfl rfl rfl ?_
                  obtain ⟨hg26, h⟩ := grd_inv h
                  refine oAppend tt rfl rfl rfl rfl rfl rfl rfl rfl rfl rfl rfl rfl rfl rfl rfl rfl (Nat.le_of_eq (Nat.zero_add _)) hg26 ?_
                  refine oVal tt rfl rfl rfl rfl rfl trivial ?_
                  refine vNil ?_
                  change VC _ _ _ _
                  refine vRegion ?_
                  refine oVal tt rfl rfl rfl rfl rfl trivial ?_
                  obtain ⟨hg27, h⟩ := grd_inv h
                  refine oVal tt rfl rfl rfl rfl rfl hg27 ?_
                  refine oVal tt rfl rfl rfl rfl rfl trivial ?_
                  refine vNil ?_
                  change ∃ _, _
                  exact ⟨((l149.set ((v155).toNat) i152), (l150 ++ ([v155] : List Int)), (l151.set ((v155).toNat) true), (i152 + (1 : Int))), (En.of ⟨rfl, rfl, rfl, rfl, rfl, rfl, rfl, rfl, rfl, rfl, rfl, trivial⟩ ⟨rfl, rfl, rfl, trivial⟩ ⟨rfl, rfl, rfl, trivial⟩), h⟩
          · replace h := cnd_f hb6 h
            refine vExit ?_
            change ∃ _, _
            exact ⟨(l149, l150, l151), (En.of ⟨rfl, rfl, rfl, rfl, rfl, rfl, rfl, rfl, rfl, trivial⟩ ⟨rfl, rfl, rfl, trivial⟩ ⟨rfl, rfl, rfl, trivial⟩), h⟩
      · replace h := cnd_f hb3 h
        refine vExit ?_
        change ∃ _, _
        exact ⟨(), (En.of ⟨rfl, rfl, trivial⟩ trivial ⟨rfl, rfl, trivial⟩), h⟩
  · intro k h
    refine vBlock ?_
    refine vLoopS (α := (List Int) × Int) (fun | (l158, i159) => (⟨[(2, .int a_2), (3, .int b_3), (4, .ptr 4 0), (5, .ptr 5 0), (8, .ptr 8 0), (10, .row 20 0 ((List.replicate ((g_0.n).toNat) (0 : Int)).length)), (11, .int i159)], [(20, some (3, .ints l158))], [(4, some [.int g_0.n, .ro false (.pairs g_0.bars)]), (5, some [.ro false (.ints p_1.free), .ro false (.ints p_1.tails), .ro false (.ints p_1.placed)]), (8, some [.nil, .nil, .nil])]⟩ : PS)) (S_l4Find_l3 N g_0 k) h (En.of ⟨rfl, rfl, rfl, rfl, rfl, rfl, rfl, trivial⟩ ⟨rfl, trivial⟩ ⟨rfl, rfl, rfl, trivial⟩) (fun _ => rfl) ?_
    rintro n ⟨l158, i159⟩ h
    rw [S_l4Find_l3] at h
    show VC _ _ _ (⟨[(2, .int a_2), (3, .int b_3), (4, .ptr 4 0), (5, .ptr 5 0), (8, .ptr 8 0), (10, .row 20 0 ((List.replicate ((g_0.n).toNat) (0 : Int)).length)), (11, .int i159)], [(20, some (3, .ints l158))], [(4, some [.int g_0.n, .ro false (.pairs g_0.bars)]), (5, some [.ro false (.ints p_1.free), .ro false (.ints p_1.tails), .ro false (.ints p_1.placed)]), (8, some [.nil, .nil, .nil])]⟩ : PS)
    iterate 2 refine vSeq ?_
    refine vRegion ?_
    iterate 4 refine oVal tt rfl rfl rfl rfl rfl trivial ?_
    refine vNil ?_
    change VC _ _ _ _
    refine vCond rfl (fun hb28 => ?_) (fun hb28 => ?_)
    · replace h := cnd_t hb28 h
      refine vSkip ?_
      change VC _ _ _ _
      refine vSeq ?_
      refine vBlock ?_
      refine vRegion ?_
      iterate 2 refine oVal tt rfl rfl rfl rfl rfl trivial ?_
      obtain ⟨hg29, h⟩ := grd_inv h
      refine oVal tt rfl rfl rfl rfl rfl hg29 ?_
      obtain ⟨hg30, h⟩ := grd_inv h
      refine oStore tt rfl rfl rfl rfl rfl rfl rfl rfl rfl rfl ⟨_, _, rfl, hg30.1, hg30.2⟩ ⟨hg30, trivial⟩ ?_
      refine vNil ?_
      change VC _ _ _ _
      refine vRegion ?_
      refine oVal tt rfl rfl rfl rfl rfl trivial ?_
      obtain ⟨hg31, h⟩ := grd_inv h
      refine oVal tt rfl rfl rfl rfl rfl hg31 ?_
      refine oVal tt rfl rfl rfl rfl rfl trivial ?_
      refine vNil ?_
      change ∃ _, _
      exact ⟨((l158.set ((i159).toNat) (-1 : Int)), (i159 + (1 : Int))), (En.of ⟨rfl, rfl, rfl, rfl, rfl, rfl, rfl, trivial⟩ ⟨rfl, trivial⟩ ⟨rfl, rfl, rfl, trivial⟩), h⟩
    · replace h := cnd_f hb28 h
      refine vExit ?_
      change ∃ _, _
      exact ⟨l158, (En.of ⟨rfl, rfl, rfl, rfl, rfl, rfl, trivial⟩ ⟨rfl, trivial⟩ ⟨rfl, rfl, rfl, trivial⟩), h⟩
def S_l4Gather_l1 (N : Nat) (g_0 : Grf) (a_2 : Int) (b_3 : Int) (want_4 : Int) (k : ((List Int) × (List Int) × (List Int)) → Option (Pbl × Bool)) : Nat → ((List Int) × (List Int) × (List Int)) → Option (Pbl × Bool)
  | 0, _ => none
  | n + 1, (l17, l18, l19) =>
    grd (0 ≤ a_2 ∧ a_2 < (l17.length : Int)) <|
    grd (0 ≤ b_3 ∧ b_3 < (l17.length : Int)) <|
    grd (Rg64 ((l17.getD ((a_2).toNat) 0) + (l17.getD ((b_3).toNat) 0))) <|
    cnd (decide (((l17.getD ((a_2).toNat) 0) + (l17.getD ((b_3).toNat) 0)) < want_4)) (
      (S_l4Find N g_0 (⟨l17, l18, l19⟩ : Pbl) a_2 b_3).bind fun v22 =>
      cnd v22.2 (
        S_l4Gather_l1 N g_0 a_2 b_3 want_4 k n (v22.1.free, v22.1.tails, v22.1.placed)) (
        (S_l4Find N g_0 (⟨l17, l18, l19⟩ : Pbl) b_3 a_2).bind fun v23 =>
        cnd v23.2 (
          S_l4Gather_l1 N g_0 a_2 b_3 want_4 k n (v23.1.free, v23.1.tails, v23.1.placed)) (
          some ((⟨l17, l18, l19⟩ : Pbl), false)))) (
      k (l17, l18, l19))
def S_l4Gather (N : Nat) (g_0 : Grf) (p_1 : Pbl) (a_2 : Int) (b_3 : Int) (want_4 : Int) : Option (Pbl × Bool) :=
  (S_l4Copy N p_1).bind fun v1 =>
  S_l4Gather_l1 N g_0 a_2 b_3 want_4 (fun (x : (List Int) × (List Int) × (List Int)) =>
      match x with
      | (l11, l12, l13) =>
        some ((⟨l11, l12, l13⟩ : Pbl), true)) N (v1.free, v1.tails, v1.placed)
set_option maxRecDepth 20000 in
set_option maxHeartbeats 1600000 in
theorem S_l4Gather_w (N : Nat) (g_0 : Grf) (p_1 : Pbl) (a_2 : Int) (b_3 : Int) (want_4 : Int) (r : Pbl × Bool) (h : S_l4Gather N g_0 p_1 a_2 b_3 want_4 = some r) : PCall Try.prog 115 [gD g_0, bD p_1, .int a_2, .int b_3, .int want_4] [(3, .ints r.1.free), (3, .ints r.1.tails), (3, .ints r.1.placed)] (.tup [.agg [.row 0 0 r.1.free.length, .row 1 0 r.1.tails.length, .row 2 0 r.1.placed.length], .bool r.2]) := by
  unfold S_l4Gather at h
  refine pcall_intro (TT := TT) tt Try.func115 rfl rfl Try.ntmps115 (congrArg Array.toList Try.results115) rfl rfl fun w0 => ?_
  refine vSeq ?_
  refine vRegion ?_
  iterate 2 refine oBox rfl rfl rfl rfl rfl rfl rfl rfl rfl ?_
  refine oAlloc tt rfl rfl rfl rfl rfl rfl rfl rfl rfl ?_
  refine oVal tt rfl rfl rfl rfl rfl trivial ?_
  refine vNil ?_
  change VC _ _ _ _
  refine vSeq ?_
  refine vRegion ?_
  refine oVal tt rfl rfl rfl rfl rfl trivial ?_
  obtain ⟨v1, hc1, h⟩ := bind_inv h
  refine oCall (S_l4Copy_w N p_1 v1 hc1) rfl rfl rfl rfl rfl rfl rfl rfl ⟨⟨rfl, rfl, rfl, trivial⟩, trivial⟩ ?_
  refine oAlloc tt rfl rfl rfl rfl rfl rfl rfl rfl rfl ?_
  refine oStore tt rfl rfl rfl rfl rfl rfl rfl rfl rfl rfl rfl ⟨trivial, trivial, trivial, trivial⟩ ?_
  refine vNil ?_
  change VC _ _ _ _
  refine vSeq ?_
  refine vJoin (F := fun k => S_l4Gather_l1 N g_0 a_2 b_3 want_4 k) h (α := (List Int) × (List Int) × (List Int)) (J := fun | (l11, l12, l13) => (⟨[(10, .ptr 10 0), (12, .ptr 12 0)], [(1160, some (3, .ints l11)), (1161, some (3, .ints l12)), (1162, some (3, .ints l13))], [(10, some [.nil, .nil, .nil]), (12, some [.row 1160 0 l11.length, .row 1161 0 l12.length, .row 1162 0 l13.length])]⟩ : PS)) ?_ ?_
  · rintro ⟨l11, l12, l13⟩ h
    show VC _ _ _ (⟨[(10, .ptr 10 0), (12, .ptr 12 0)], [(1160, some (3, .ints l11)), (1161, some (3, .ints l12)), (1162, some (3, .ints l13))], [(10, some [.nil, .nil, .nil]), (12, some [.row 1160 0 l11.length, .row 1161 0 l12.length, .row 1162 0 l13.length])]⟩ : PS)
    refine vSeq ?_
    refine vRegion ?_
    refine oVal tt rfl rfl rfl rfl rfl trivial ?_
    refine oStore tt rfl rfl rfl rfl rfl rfl rfl rfl rfl rfl rfl ⟨trivial, trivial, trivial, trivial⟩ ?_
    refine oVal tt rfl rfl rfl rfl rfl trivial ?_
    refine vNil ?_
    change VC _ _ _ _
    refine vRet ?_
    change ∃ _, _
    cases h
    exact ⟨[1160, 1161, 1162], _, rfl, ⟨rfl, rfl, rfl, trivial⟩, rfl, (.eq rfl), rfl⟩
  · intro k h
    refine vBlock ?_
    refine vLoopS (α := (List Int) × (List Int) × (List Int)) (fun | (l17, l18, l19) => (⟨[(2, .int a_2), (3, .int b_3), (4, .int want_4), (5, .ptr 5 0), (10, .ptr 10 0), (12, .ptr 12 0)], [(1160, some (3, .ints l17)), (1161, some (3, .ints l18)), (1162, some (3, .ints l19))], [(5, some [.int g_0.n, .ro false (.pairs g_0.bars)]), (10, some [.nil, .nil, .nil]), (12, some [.row 1160 0 l17.length, .row 1161 0 l18.length, .row 1162 0 l19.length])]⟩ : PS)) (S_l4Gather_l1 N g_0 a_2 b_3 want_4 k) h (En.of ⟨rfl, rfl, rfl, rfl, rfl, rfl, trivial⟩ ⟨rfl, rfl, rfl, trivial⟩ ⟨rfl, rfl, rfl, trivial⟩) (fun _ => rfl) ?_
    rintro n ⟨l17, l18, l19⟩ h
    rw [S_l4Gather_l1] at h
    show VC _ _ _ (⟨[(2, .int a_2), (3, .int b_3), (4, .int want_4), (5, .ptr 5 0), (10, .ptr 10 0), (12, .ptr 12 0)], [(1160, some (3, .ints l17)), (1161, some (3, .ints l18)), (1162, some (3, .ints l19))], [(5, some [.int g_0.n, .ro false (.pairs g_0.bars)]), (10, some [.nil, .nil, .nil]), (12, some [.row 1160 0 l17.length, .row 1161 0 l18.length, .row 1162 0 l19.length])]⟩ : PS)
    iterate 2 refine vSeq ?_
    refine vRegionD (by kernel_rfl) (by kernel_rfl) ?_
    iterate 3 refine cVal tt rfl (wNone rfl) rfl rfl rfl trivial ?_
    obtain ⟨hg2, h⟩ := grd_inv h
    iterate 2 refine cVal tt rfl (wNone rfl) rfl rfl rfl hg2 ?_
    iterate 3 refine cVal tt rfl (wNone rfl) rfl rfl rfl trivial ?_
    obtain ⟨hg3, h⟩ := grd_inv h
    iterate 2 refine cVal tt rfl (wNone rfl) rfl rfl rfl hg3 ?_
    obtain ⟨hg4, h⟩ := grd_inv h
    refine cVal tt rfl (wNone rfl) rfl rfl rfl hg4 ?_
    iterate 2 refine cVal tt rfl (wNone rfl) rfl rfl rfl trivial ?_
    refine cNil ?_
    change VC _ _ _ _
    refine vCond rfl (fun hb5 => ?_) (fun hb5 => ?_)
    · replace h := cnd_t hb5 h
      refine vSkip ?_
      change VC _ _ _ _
      refine vBlock ?_
      refine vSeq ?_
      refine vRegion ?_
      iterate 4 refine oVal tt rfl rfl rfl rfl rfl trivial ?_
      obtain ⟨v22, hc6, h⟩ := bind_inv h
      refine bsplit v22.2 (fun hb7 => ?_) (fun hb7 => ?_)
      · replace h := cnd_t hb7 h
        refine oCall (S_l4Find_wT N g_0 (⟨l17, l18, l19⟩ : Pbl) a_2 b_3 v22 hc6 hb7) rfl rfl rfl rfl rfl rfl rfl rfl ⟨⟨rfl, rfl, trivial⟩, ⟨(.inl ⟨rfl, rfl⟩), (.inl ⟨rfl, rfl⟩), (.inl ⟨rfl, rfl⟩), trivial⟩, rfl, rfl, trivial⟩ ?_
        iterate 3 refine oVal tt rfl rfl rfl rfl rfl trivial ?_
        refine oAlloc tt rfl rfl rfl rfl rfl rfl rfl rfl rfl ?_
        refine oStore tt rfl rfl rfl rfl rfl rfl rfl rfl rfl rfl rfl ⟨trivial, trivial, trivial, trivial⟩ ?_
        refine oVal tt rfl rfl rfl rfl rfl trivial ?_
        refine vNil ?_
        change VC _ _ _ _
        iterate 2 refine vSeq ?_
        refine vRegion ?_
        iterate 2 refine oVal tt rfl rfl rfl rfl rfl trivial ?_
        refine vNil ?_
        change VC _ _ _ _
        refine vCondF rfl (by rw [hb7]; rfl) ?_
        refine vSkip ?_
        change VC _ _ _ _
        iterate 2 refine vSeq ?_
        refine vRegion ?_
        iterate 2 refine oVal tt rfl rfl rfl rfl rfl trivial ?_
        refine vNil ?_
        change VC _ _ _ _
        refine vCondF rfl (by rw [hb7]; rfl) ?_
        refine vSkip ?_
        change VC _ _ _ _
        refine vRegion ?_
        refine oVal tt rfl rfl rfl rfl rfl trivial ?_
        refine oStore tt rfl rfl rfl rfl rfl rfl rfl rfl rfl rfl rfl ⟨trivial, trivial, trivial, trivial⟩ ?_
        refine vNil ?_
        change ∃ _, _
        exact ⟨(v22.1.free, v22.1.tails, v22.1.placed), (En.ren [1160, 1161, 1162] [1350, 1351, 1352] rfl ⟨.inr rfl, .inr rfl, .inr rfl, .inr rfl, .inr rfl, .inr rfl, trivial⟩ ⟨.inr rfl, .inr rfl, .inr rfl, trivial⟩ ⟨.inr ⟨_, _, rfl, rfl, ⟨.inr rfl, .inr rfl, trivial⟩⟩, .inr ⟨_, _, rfl, rfl, ⟨.inr rfl, .inr rfl, .inr rfl, trivial⟩⟩, .inr ⟨_, _, rfl, rfl, ⟨.inr rfl, .inr rfl, .inr rfl, trivial⟩⟩, trivial⟩), h⟩
      · replace h := cnd_f hb7 h
        refine oCall (S_l4Find_wF N g_0 (⟨l17, l18, l19⟩ : Pbl) a_2 b_3 v22 hc6 hb7) rfl rfl rfl rfl rfl rfl rfl rfl ⟨⟨rfl, rfl, trivial⟩, ⟨(.inl ⟨rfl, rfl⟩), (.inl ⟨rfl, rfl⟩), (.inl ⟨rfl, rfl⟩), trivial⟩, rfl, rfl, trivial⟩ ?_
        iterate 3 refine oVal tt rfl rfl rfl rfl rfl trivial ?_
        refine oAlloc tt rfl rfl rfl rfl rfl rfl rfl rfl rfl ?_
        refine oStore tt rfl rfl rfl rfl rfl rfl rfl rfl rfl rfl rfl ⟨trivial, trivial, trivial, trivial⟩ ?_
        refine oVal tt rfl rfl rfl rfl rfl trivial ?_
        refine vNil ?_
        change VC _ _ _ _
        iterate 2 refine vSeq ?_
        refine vRegion ?_
        iterate 2 refine oVal tt rfl rfl rfl rfl rfl trivial ?_
        refine vNil ?_
        change VC _ _ _ _
        refine vCondT rfl (by rw [hb7]; rfl) ?_
        refine vRegion ?_
        iterate 4 refine oVal tt rfl rfl rfl rfl rfl trivial ?_
        obtain ⟨v23, hc8, h⟩ := bind_inv h
        refine bsplit v23.2 (fun hb9 => ?_) (fun hb9 => ?_)
        · replace h := cnd_t hb9 h
          refine oCall (S_l4Find_wT N g_0 (⟨l17, l18, l19⟩ : Pbl) b_3 a_2 v23 hc8 hb9) rfl rfl rfl rfl rfl rfl rfl rfl ⟨⟨rfl, rfl, trivial⟩, ⟨(.inl ⟨rfl, rfl⟩), (.inl ⟨rfl, rfl⟩), (.inl ⟨rfl, rfl⟩), trivial⟩, rfl, rfl, trivial⟩ ?_
          iterate 3 refine oVal tt rfl rfl rfl rfl rfl trivial ?_
          refine oStore tt rfl rfl rfl rfl rfl rfl rfl rfl rfl rfl rfl ⟨trivial, trivial, trivial, trivial⟩ ?_
          refine oVal tt rfl rfl rfl rfl rfl trivial ?_
          refine vNil ?_
          change VC _ _ _ _
          iterate 2 refine vSeq ?_
          refine vRegion ?_
          iterate 2 refine oVal tt rfl rfl rfl rfl rfl trivial ?_
          refine vNil ?_
          change VC _ _ _ _
          refine vCondF rfl (by rw [hb9]; rfl) ?_
          refine vSkip ?_
          change VC _ _ _ _
          refine vRegion ?_
          refine oVal tt rfl rfl rfl rfl rfl trivial ?_
          refine oStore tt rfl rfl rfl rfl rfl rfl rfl rfl rfl rfl rfl ⟨trivial, trivial, trivial, trivial⟩ ?_
          refine vNil ?_
          change ∃ _, _
          exact ⟨(v23.1.free, v23.1.tails, v23.1.placed), (En.ren [1160, 1161, 1162] [1450, 1451, 1452] rfl ⟨.inr rfl, .inr rfl, .inr rfl, .inr rfl, .inr rfl, .inr rfl, trivial⟩ ⟨.inr rfl, .inr rfl, .inr rfl, trivial⟩ ⟨.inr ⟨_, _, rfl, rfl, ⟨.inr rfl, .inr rfl, trivial⟩⟩, .inr ⟨_, _, rfl, rfl, ⟨.inr rfl, .inr rfl, .inr rfl, trivial⟩⟩, .inr ⟨_, _, rfl, rfl, ⟨.inr rfl, .inr rfl, .inr rfl, trivial⟩⟩, trivial⟩), h⟩
        · replace h := cnd_f hb9 h
          refine oCall (S_l4Find_wF N g_0 (⟨l17, l18, l19⟩ : Pbl) b_3 a_2 v23 hc8 hb9) rfl rfl rfl rfl rfl rfl rfl rfl ⟨⟨rfl, rfl, trivial⟩, ⟨(.inl ⟨rfl, rfl⟩), (.inl ⟨rfl, rfl⟩), (.inl ⟨rfl, rfl⟩), trivial⟩, rfl, rfl, trivial⟩ ?_
          iterate 3 refine oVal tt rfl rfl rfl rfl rfl trivial ?_
          refine oStore tt rfl rfl rfl rfl rfl rfl rfl rfl rfl rfl rfl ⟨trivial, trivial, trivial, trivial⟩ ?_
          refine oVal tt rfl rfl rfl rfl rfl trivial ?_
          refine vNil ?_
          change VC _ _ _ _
          iterate 2 refine vSeq ?_
          refine vRegion ?_
          iterate 2 refine oVal tt rfl rfl rfl rfl rfl trivial ?_
          refine vNil ?_
          change VC _ _ _ _
          refine vCondT rfl (by rw [hb9]; rfl) ?_
          refine vSeq ?_
          refine vRegion ?_
          refine oVal tt rfl rfl rfl rfl rfl trivial ?_
          refine oStore tt rfl rfl rfl rfl rfl rfl rfl rfl rfl rfl rfl ⟨trivial, trivial, trivial, trivial⟩ ?_
          refine oVal tt rfl rfl rfl rfl rfl trivial ?_
          refine vNil ?_
          change VC _ _ _ _
          refine vRet ?_
          change ∃ _, _
          cases h
          exact ⟨[1160, 1161, 1162], _, rfl, ⟨rfl, rfl, rfl, trivial⟩, rfl, (.eq rfl), rfl⟩
    · replace h := cnd_f hb5 h
      refine vExit ?_
      change ∃ _, _
      exact ⟨(l17, l18, l19), (En.of ⟨rfl, rfl, trivial⟩ ⟨rfl, rfl, rfl, trivial⟩ ⟨rfl, rfl, trivial⟩), h⟩
def I_planeRank (N : Nat) (points_0 : Int) (bars_1 : List (Int × Int)) : Option (Int) :=
  (I_play N points_0 bars_1 (2 : Int) (3 : Int)).bind fun v1 =>
  some (v1.placed.length : Int)
set_option maxRecDepth 20000 in
set_option maxHeartbeats 1600000 in
theorem I_planeRank_w (N : Nat) (points_0 : Int) (bars_1 : List (Int × Int)) (r : Int) (h : I_planeRank N points_0 bars_1 = some r) : PCall Try.prog 95 [.int points_0, .ro false (.pairs bars_1)] [] (.int r) := by
  unfold I_planeRank at h
  refine pcall_intro (TT := TT) tt Try.func95 rfl rfl Try.ntmps95 (congrArg Array.toList Try.results95) rfl rfl fun w0 => ?_
  refine vSeq ?_
  refine vRegion ?_
  refine oVal tt rfl rfl rfl rfl rfl trivial ?_
  refine vNil ?_
  change VC _ _ _ _
  refine vSeq ?_
  refine vRegion ?_
  iterate 2 refine oVal tt rfl rfl rfl rfl rfl trivial ?_
  obtain ⟨v1, hc1, h⟩ := bind_inv h
  refine oCall (I_play_w N points_0 bars_1 (2 : Int) (3 : Int) v1 hc1) rfl rfl rfl rfl rfl rfl rfl rfl ⟨rfl, rfl, rfl, rfl, trivial⟩ ?_
  refine oPure (wNone rfl) (pField (fld (off := 2) (by kernel_rfl)) rfl rfl rfl) rfl rfl ?_
  iterate 2 refine oVal tt rfl rfl rfl rfl rfl trivial ?_
  refine vNil ?_
  change VC _ _ _ _
  refine vRet ?_
  change ∃ _, _
  cases h
  exact ⟨[], _, rfl, trivial, rfl, (.eq rfl), rfl⟩
end Go.Proofs.Ytkpmijmlbpdknaa

namespace Go.Proofs.Ytkpmijmlbpdknaa
open Go.RowKit
set_option linter.unusedVariables false
set_option linter.unusedSimpArgs false
def S_l2Put_l1 (N : Nat) (g_0 : Grf) (x_1 : Int × Int) (k : ((List (Int × Int)) × Bool) → Option (Grf)) : Nat → ((List (Int × Int)) × Bool × Int) → Option (Grf)
  | 0, _ => none
  | n + 1, (l17, placed18, i19) =>
    cnd (decide (i19 < (g_0.bars.length : Int))) (
      cnd (!placed18) (
        grd (0 ≤ i19 ∧ i19 < (g_0.bars.length : Int)) <|
        (S_l2After N (g_0.bars.getD ((i19).toNat) (0, 0)) x_1).bind fun v21 =>
        cnd (!v21) (
          grd (l17.length + 1 ≤ 4294967296) <|
          grd ((l17 ++ ([(x_1.1, x_1.2)] : List (Int × Int))).length + 1 ≤ 4294967296) <|
          grd (Rg64 (i19 + (1 : Int))) <|
          S_l2Put_l1 N g_0 x_1 k n (((l17 ++ ([(x_1.1, x_1.2)] : List (Int × Int))) ++ ([((g_0.bars.getD ((i19).toNat) (0, 0)).1, (g_0.bars.getD ((i19).toNat) (0, 0)).2)] : List (Int × Int))), true, (i19 + (1 : Int)))) (
          grd (l17.length + 1 ≤ 4294967296) <|
          grd (Rg64 (i19 + (1 : Int))) <|
          S_l2Put_l1 N g_0 x_1 k n ((l17 ++ ([((g_0.bars.getD ((i19).toNat) (0, 0)).1, (g_0.bars.getD ((i19).toNat) (0, 0)).2)] : List (Int × Int))), placed18, (i19 + (1 : Int))))) (
        grd (0 ≤ i19 ∧ i19 < (g_0.bars.length : Int)) <|
        grd (l17.length + 1 ≤ 4294967296) <|
        grd (Rg64 (i19 + (1 : Int))) <|
        S_l2Put_l1 N g_0 x_1 k n ((l17 ++ ([((g_0.bars.getD ((i19).toNat) (0, 0)).1, (g_0.bars.getD ((i19).toNat) (0, 0)).2)] : List (Int × Int))), placed18, (i19 + (1 : Int))))) (
      k (l17, placed18))
def S_l2Put (N : Nat) (g_0 : Grf) (x_1 : Int × Int) : Option (Grf) :=
  S_l2Put_l1 N g_0 x_1 (fun (x : (List (Int × Int)) × Bool) =>
      match x with
      | (l10, placed11) =>
        cnd (!placed11) (
          grd (l10.length + 1 ≤ 4294967296) <|
          some (⟨g_0.n, (l10 ++ ([(x_1.1, x_1.2)] : List (Int × Int)))⟩ : Grf)) (
          some (⟨g_0.n, l10⟩ : Grf))) N (([] : List (Int × Int)), false, (0 : Int))
set_option maxRecDepth 20000 in
set_option maxHeartbeats 1600000 in
theorem S_l2Put_w (N : Nat) (g_0 : Grf) (x_1 : Int × Int) (r : Grf) (h : S_l2Put N g_0 x_1 = some r) : PCall Try.prog 102 [gD g_0, .agg [.int x_1.1, .int x_1.2]] [(71, .pairs r.bars)] (.agg [.int r.n, .row 0 0 r.bars.length]) := by
  unfold S_l2Put at h
  refine pcall_intro (TT := TT) tt Try.func102 rfl rfl Try.ntmps102 (congrArg Array.toList Try.results102) rfl rfl fun w0 => ?_
  refine vSeq ?_
  refine vRegion ?_
  iterate 2 refine oBox rfl rfl rfl rfl rfl rfl rfl rfl rfl ?_
  refine oAlloc tt rfl rfl rfl rfl rfl rfl rfl rfl rfl ?_
  refine vNil ?_
  change VC _ _ _ _
  refine vSeq ?_
  refine vRegion ?_
  iterate 2 refine oVal tt rfl rfl rfl rfl rfl trivial ?_
  refine oEmpty tt (wNone rfl) rfl rfl rfl rfl ?_
  refine oPure (wNone rfl) (pBuild bld_impl_Graph rfl rfl) rfl rfl ?_
  refine oAlloc tt rfl rfl rfl rfl rfl rfl rfl rfl rfl ?_
  refine oStore tt rfl rfl rfl rfl rfl rfl rfl rfl rfl rfl rfl ⟨trivial, trivial, trivial⟩ ?_
  refine vNil ?_
  change VC _ _ _ _
  refine vSeq ?_
  refine vRegion ?_
  refine oVal tt rfl rfl rfl rfl rfl trivial ?_
  refine vNil ?_
  change VC _ _ _ _
  iterate 2 refine vSeq ?_
  refine vRegion ?_
  refine oVal tt rfl rfl rfl rfl rfl trivial ?_
  refine vNil ?_
  change VC _ _ _ _
  refine vJoin (F := fun k => S_l2Put_l1 N g_0 x_1 k) h (α := (List (Int × Int)) × Bool) (J := fun | (l10, placed11) => (⟨[(3, .ptr 3 0), (4, .ptr 4 0), (5, .ptr 5 0), (6, .bool placed11)], [(35, some (71, .pairs l10))], [(3, some [.int x_1.1, .int x_1.2]), (4, some [.int (0 : Int), .nil]), (5, some [.int g_0.n, .row 35 0 l10.length])]⟩ : PS)) ?_ ?_
  · rintro ⟨l10, placed11⟩ h
    show VC _ _ _ (⟨[(3, .ptr 3 0), (4, .ptr 4 0), (5, .ptr 5 0), (6, .bool placed11)], [(35, some (71, .pairs l10))], [(3, some [.int x_1.1, .int x_1.2]), (4, some [.int (0 : Int), .nil]), (5, some [.int g_0.n, .row 35 0 l10.length])]⟩ : PS)
    iterate 2 refine vSeq ?_
    refine vRegion ?_
    iterate 2 refine oVal tt rfl rfl rfl rfl rfl trivial ?_
    refine vNil ?_
    change VC _ _ _ _
    refine vCond rfl (fun hb1 => ?_) (fun hb1 => ?_)
    · replace h := cnd_t hb1 h
      refine vRegion ?_
      iterate 3 refine oVal tt rfl rfl rfl rfl rfl trivial ?_
      refine oBuild tt rfl rfl rfl rfl rfl rfl rfl rfl rfl rfl rfl ?_
      obtain ⟨hg2, h⟩ := grd_inv h
      refine oAppend tt rfl rfl rfl rfl rfl rfl rfl rfl rfl rfl rfl rfl rfl rfl rfl rfl (Nat.le_of_eq (Nat.zero_add _)) hg2 ?_
      refine oVal tt rfl rfl rfl rfl rfl trivial ?_
      refine oStore tt rfl rfl rfl rfl rfl rfl rfl rfl rfl rfl rfl ⟨trivial, trivial⟩ ?_
      refine vNil ?_
      change VC _ _ _ _
      refine vSeq ?_
      refine vRegion ?_
      refine oVal tt rfl rfl rfl rfl rfl trivial ?_
      refine oStore tt rfl rfl rfl rfl rfl rfl rfl rfl rfl rfl rfl ⟨trivial, trivial, trivial⟩ ?_
      refine vNil ?_
      change VC _ _ _ _
      refine vRet ?_
      change ∃ _, _
      cases h
      exact ⟨[35], _, rfl, ⟨rfl, trivial⟩, rfl, (.eq rfl), rfl⟩
    · replace h := cnd_f hb1 h
      refine vSkip ?_
      change VC _ _ _ _
      refine vSeq ?_
      refine vRegion ?_
      refine oVal tt rfl rfl rfl rfl rfl trivial ?_
      refine oStore tt rfl rfl rfl rfl rfl rfl rfl rfl rfl rfl rfl ⟨trivial, trivial, trivial⟩ ?_
      refine vNil ?_
      change VC _ _ _ _
      refine vRet ?_
      change ∃ _, _
      cases h
      exact ⟨[35], _, rfl, ⟨rfl, trivial⟩, rfl, (.eq rfl), rfl⟩
  · intro k h
    refine vBlock ?_
    refine vNilB 5 1 35 71 (.pairs []) rfl rfl rfl rfl rfl ?_
    refine vLoopS (α := (List (Int × Int)) × Bool × Int) (fun | (l17, placed18, i19) => (⟨[(2, .ptr 2 0), (3, .ptr 3 0), (4, .ptr 4 0), (5, .ptr 5 0), (6, .bool placed18), (7, .int i19)], [(35, some (71, .pairs l17))], [(2, some [.int g_0.n, .ro false (.pairs g_0.bars)]), (3, some [.int x_1.1, .int x_1.2]), (4, some [.int (0 : Int), .nil]), (5, some [.int g_0.n, .row 35 0 l17.length])]⟩ : PS)) (S_l2Put_l1 N g_0 x_1 k) h (En.of ⟨rfl, rfl, rfl, rfl, rfl, rfl, trivial⟩ ⟨rfl, trivial⟩ ⟨rfl, rfl, rfl, rfl, trivial⟩) (fun _ => rfl) ?_
    rintro n ⟨l17, placed18, i19⟩ h
    rw [S_l2Put_l1] at h
    show VC _ _ _ (⟨[(2, .ptr 2 0), (3, .ptr 3 0), (4, .ptr 4 0), (5, .ptr 5 0), (6, .bool placed18), (7, .int i19)], [(35, some (71, .pairs l17))], [(2, some [.int g_0.n, .ro false (.pairs g_0.bars)]), (3, some [.int x_1.1, .int x_1.2]), (4, some [.int (0 : Int), .nil]), (5, some [.int g_0.n, .row 35 0 l17.length])]⟩ : PS)
    iterate 2 refine vSeq ?_
    refine vRegion ?_
    iterate 5 refine oVal tt rfl rfl rfl rfl rfl trivial ?_
    refine vNil ?_
    change VC _ _ _ _
    refine vCond rfl (fun hb3 => ?_) (fun hb3 => ?_)
    · replace h := cnd_t hb3 h
      refine vSkip ?_
      change VC _ _ _ _
      refine vSeq ?_
      refine vBlock ?_
      iterate 2 refine vSeq ?_
      refine vRegionD (by kernel_rfl) (by kernel_rfl) ?_
      iterate 3 refine cVal tt rfl (wNone rfl) rfl rfl rfl trivial ?_
      refine cSplit rfl rfl rfl (fun hb4 => ?_) (fun hb4 => ?_)
      · replace h := cnd_t hb4 h
        iterate 3 refine cVal tt rfl (wSome rfl rfl rfl rfl hb4) rfl rfl rfl trivial ?_
        obtain ⟨hg5, h⟩ := grd_inv h
        refine cVal tt rfl (wSome rfl rfl rfl rfl hb4) rfl rfl rfl hg5 ?_
        iterate 2 refine cVal tt rfl (wSome rfl rfl rfl rfl hb4) rfl rfl rfl trivial ?_
        obtain ⟨v21, hc6, h⟩ := bind_inv h
        refine cCall (S_l2After_w N (g_0.bars.getD ((i19).toNat) (0, 0)) x_1 v21 hc6) rfl (wSome rfl rfl rfl rfl hb4) rfl rfl rfl rfl rfl rfl ⟨⟨rfl, rfl, trivial⟩, ⟨rfl, rfl, trivial⟩, trivial⟩ ?_
        refine cVal tt rfl (wSome rfl rfl rfl rfl hb4) rfl rfl rfl trivial ?_
        refine cPickT rfl (wNone rfl) rfl rfl rfl hb4 rfl ?_
        refine cNil ?_
        change VC _ _ _ _
        refine vCond rfl (fun hb7 => ?_) (fun hb7 => ?_)
        · replace h := cnd_t hb7 h
          refine vSeq ?_
          refine vRegion ?_
          iterate 3 refine oVal tt rfl rfl rfl rfl rfl trivial ?_
          refine oBuild tt rfl rfl rfl rfl rfl rfl rfl rfl rfl rfl rfl ?_
          obtain ⟨hg8, h⟩ := grd_inv h
          refine oAppend tt rfl rfl rfl rfl rfl rfl rfl rfl rfl rfl rfl rfl rfl rfl rfl rfl (Nat.le_of_eq (Nat.zero_add _)) hg8 ?_
          refine oVal tt rfl rfl rfl rfl rfl trivial ?_
          refine oStore tt rfl rfl rfl rfl rfl rfl rfl rfl rfl rfl rfl ⟨trivial, trivial⟩ ?_
          refine vNil ?_
          change VC _ _ _ _
          refine vRegion ?_
          refine oVal tt rfl rfl rfl rfl rfl trivial ?_
          refine vNil ?_
          change VC _ _ _ _
          refine vRegionN 8 [7] [0, 1, 0, 4, 0, 28, 60, 124, 255, 511, 1023] (by kernel_rfl) (by kernel_rfl) (by kernel_rfl) (by kernel_rfl) (by kernel_rfl) rfl (by rfl) ?_
          iterate 5 refine nVal tt rfl (wNone rfl) rfl rfl rfl rfl rfl trivial ?_
          refine nVal tt rfl (wNone rfl) rfl rfl rfl rfl rfl hg5 ?_
          refine nVal tt rfl (wNone rfl) rfl rfl rfl rfl rfl trivial ?_
          refine nBuild tt (wNone rfl) rfl rfl rfl rfl rfl rfl rfl rfl rfl rfl rfl rfl ?_
          refine nNil ?_
          change VO _ _ _ _ _
          obtain ⟨hg9, h⟩ := grd_inv h
          refine oAppend tt rfl rfl rfl rfl rfl rfl rfl rfl rfl rfl rfl rfl rfl rfl rfl rfl (Nat.le_of_eq (Nat.zero_add _)) hg9 ?_
          refine oVal tt rfl rfl rfl rfl rfl trivial ?_
          refine oStore tt rfl rfl rfl rfl rfl rfl rfl rfl rfl rfl rfl ⟨trivial, trivial⟩ ?_
          refine vNil ?_
          change VC _ _ _ _
          refine vRegion ?_
          refine oVal tt rfl rfl rfl rfl rfl trivial ?_
          obtain ⟨hg10, h⟩ := grd_inv h
          refine oVal tt rfl rfl rfl rfl rfl hg10 ?_
          refine oVal tt rfl rfl rfl rfl rfl trivial ?_
          refine vNil ?_
          change ∃ _, _
          exact ⟨(((l17 ++ ([(x_1.1, x_1.2)] : List (Int × Int))) ++ ([((g_0.bars.getD ((i19).toNat) (0, 0)).1, (g_0.bars.getD ((i19).toNat) (0, 0)).2)] : List (Int × Int))), true, (i19 + (1 : Int))), (En.of ⟨rfl, rfl, rfl, rfl, rfl, rfl, trivial⟩ ⟨rfl, trivial⟩ ⟨rfl, rfl, rfl, rfl, trivial⟩), h⟩
        · replace h := cnd_f hb7 h
          refine vSkip ?_
          change VC _ _ _ _
          refine vRegionN 8 [7] [0, 1, 0, 4, 0, 28, 60, 124, 255, 511, 1023] (by kernel_rfl) (by kernel_rfl) (by kernel_rfl) (by kernel_rfl) (by kernel_rfl) rfl (by rfl) ?_
          iterate 5 refine nVal tt rfl (wNone rfl) rfl rfl rfl rfl rfl trivial ?_
          refine nVal tt rfl (wNone rfl) rfl rfl rfl rfl rfl hg5 ?_
          refine nVal tt rfl (wNone rfl) rfl rfl rfl rfl rfl trivial ?_
          refine nBuild tt (wNone rfl) rfl rfl rfl rfl rfl rfl rfl rfl rfl rfl rfl rfl ?_
          refine nNil ?_
          change VO _ _ _ _ _
          obtain ⟨hg11, h⟩ := grd_inv h
          refine oAppend tt rfl rfl rfl rfl rfl rfl rfl rfl rfl rfl rfl rfl rfl rfl rfl rfl (Nat.le_of_eq (Nat.zero_add _)) hg11 ?_
          refine oVal tt rfl rfl rfl rfl rfl trivial ?_
          refine oStore tt rfl rfl rfl rfl rfl rfl rfl rfl rfl rfl rfl ⟨trivial, trivial⟩ ?_
          refine vNil ?_
          change VC _ _ _ _
          refine vRegion ?_
          refine oVal tt rfl rfl rfl rfl rfl trivial ?_
          obtain ⟨hg12, h⟩ := grd_inv h
          refine oVal tt rfl rfl rfl rfl rfl hg12 ?_
          refine oVal tt rfl rfl rfl rfl rfl trivial ?_
          refine vNil ?_
          change ∃ _, _
          exact ⟨((l17 ++ ([((g_0.bars.getD ((i19).toNat) (0, 0)).1, (g_0.bars.getD ((i19).toNat) (0, 0)).2)] : List (Int × Int))), placed18, (i19 + (1 : Int))), (En.of ⟨rfl, rfl, rfl, rfl, rfl, rfl, trivial⟩ ⟨rfl, trivial⟩ ⟨rfl, rfl, rfl, rfl, trivial⟩), h⟩
      · replace h := cnd_f hb4 h
        iterate 8 refine cNoT rfl rfl rfl rfl hb4 rfl rfl ?_
        refine cPickF rfl (wNone rfl) rfl rfl rfl hb4 rfl ?_
        refine cNil ?_
        change VC _ _ _ _
        refine vCondF rfl rfl ?_
        refine vSkip ?_
        change VC _ _ _ _
        refine vRegionN 8 [7] [0, 1, 0, 4, 0, 28, 60, 124, 255, 511, 1023] (by kernel_rfl) (by kernel_rfl) (by kernel_rfl) (by kernel_rfl) (by kernel_rfl) rfl (by rfl) ?_
        iterate 5 refine nVal tt rfl (wNone rfl) rfl rfl rfl rfl rfl trivial ?_
        obtain ⟨hg13, h⟩ := grd_inv h
        refine nVal tt rfl (wNone rfl) rfl rfl rfl rfl rfl hg13 ?_
        refine nVal tt rfl (wNone rfl) rfl rfl rfl rfl rfl trivial ?_
        refine nBuild tt (wNone rfl) rfl rfl rfl rfl rfl rfl rfl rfl rfl rfl rfl rfl ?_
        refine nNil ?_
        change VO _ _ _ _ _
        obtain ⟨hg14, h⟩ := grd_inv h
        refine oAppend tt rfl rfl rfl rfl rfl rfl rfl rfl rfl rfl rfl rfl rfl rfl rfl rfl (Nat.le_of_eq (Nat.zero_add _)) hg14 ?_
        refine oVal tt rfl rfl rfl rfl rfl trivial ?_
        refine oStore tt rfl rfl rfl rfl rfl rfl rfl rfl rfl rfl rfl ⟨trivial, trivial⟩ ?_
        refine vNil ?_
        change VC _ _ _ _
        refine vRegion ?_
        refine oVal tt rfl rfl rfl rfl rfl trivial ?_
        obtain ⟨hg15, h⟩ := grd_inv h
        refine oVal tt rfl rfl rfl rfl rfl hg15 ?_
        refine oVal tt rfl rfl rfl rfl rfl trivial ?_
        refine vNil ?_
        change ∃ _, _
        exact ⟨((l17 ++ ([((g_0.bars.getD ((i19).toNat) (0, 0)).1, (g_0.bars.getD ((i19).toNat) (0, 0)).2)] : List (Int × Int))), placed18, (i19 + (1 : Int))), (En.of ⟨rfl, rfl, rfl, rfl, rfl, rfl, trivial⟩ ⟨rfl, trivial⟩ ⟨rfl, rfl, rfl, rfl, trivial⟩), h⟩
    · replace h := cnd_f hb3 h
      refine vExit ?_
      change ∃ _, _
      exact ⟨(l17, placed18), (En.of ⟨rfl, rfl, rfl, rfl, trivial⟩ ⟨rfl, trivial⟩ ⟨rfl, rfl, rfl, trivial⟩), h⟩
def S_l20Held_l1 (N : Nat) (p_0 : Pin) (k : ((List (Int × Int)) × Int) → Option (Grf)) : Nat → ((List (Int × Int)) × Int × Int) → Option (Grf)
  | 0, _ => none
  | n + 1, (l23, i24, c25) =>
    cnd (decide (i24 < (p_0.ground.length : Int))) (
      grd (0 ≤ (0 : Int) ∧ (0 : Int) < (p_0.ground.length : Int)) <|
      grd (0 ≤ i24 ∧ i24 < (p_0.ground.length : Int)) <|
      (S_l2Put N (⟨c25, l23⟩ : Grf) ((p_0.ground.getD ((0 : Int).toNat) 0), (p_0.ground.getD ((i24).toNat) 0))).bind fun v28 =>
      cnd (decide (i24 > (1 : Int))) (
        grd (0 ≤ (1 : Int) ∧ (1 : Int) < (p_0.ground.length : Int)) <|
        (S_l2Put N v28 ((p_0.ground.getD ((1 : Int).toNat) 0), (p_0.ground.getD ((i24).toNat) 0))).bind fun v29 =>
        grd (Rg64 (i24 + (1 : Int))) <|
        S_l20Held_l1 N p_0 k n (v29.bars, (i24 + (1 : Int)), v29.n)) (
        grd (Rg64 (i24 + (1 : Int))) <|
        S_l20Held_l1 N p_0 k n (v28.bars, (i24 + (1 : Int)), v28.n))) (
      k (l23, c25))
def S_l20Held (N : Nat) (p_0 : Pin) : Option (Grf) :=
  S_l20Held_l1 N p_0 (fun (x : (List (Int × Int)) × Int) =>
      match x with
      | (l14, c15) =>
        some (⟨c15, l14⟩ : Grf)) N (([] : List (Int × Int)), (1 : Int), p_0.g.n)
set_option maxRecDepth 20000 in
set_option maxHeartbeats 1600000 in
theorem S_l20Held_w (N : Nat) (p_0 : Pin) (r : Grf) (h : S_l20Held N p_0 = some r) : PCall Try.prog 94 [pD p_0] [(71, .pairs r.bars)] (.agg [.int r.n, .row 0 0 r.bars.length]) := by
  unfold S_l20Held at h
  refine pcall_intro (TT := TT) tt Try.func94 rfl rfl Try.ntmps94 (congrArg Array.toList Try.results94) rfl rfl fun w0 => ?_
  refine vSeq ?_
  refine vRegion ?_
  refine oBox rfl rfl rfl rfl rfl rfl rfl rfl rfl ?_
  refine oAlloc tt rfl rfl rfl rfl rfl rfl rfl rfl rfl ?_
  refine vNil ?_
  change VC _ _ _ _
  refine vSeq ?_
  refine vRegion ?_
  iterate 3 refine oVal tt rfl rfl rfl rfl rfl trivial ?_
  refine oEmpty tt (wNone rfl) rfl rfl rfl rfl ?_
  refine oPure (wNone rfl) (pBuild bld_impl_Graph rfl rfl) rfl rfl ?_
  refine oAlloc tt rfl rfl rfl rfl rfl rfl rfl rfl rfl ?_
  refine oStore tt rfl rfl rfl rfl rfl rfl rfl rfl rfl rfl rfl ⟨trivial, trivial, trivial⟩ ?_
  refine vNil ?_
  change VC _ _ _ _
  iterate 2 refine vSeq ?_
  refine vRegion ?_
  refine oVal tt rfl rfl rfl rfl rfl trivial ?_
  refine vNil ?_
  change VC _ _ _ _
  refine vJoin (F := fun k => S_l20Held_l1 N p_0 k) h (α := (List (Int × Int)) × Int) (J := fun | (l14, c15) => (⟨[(2, .ptr 2 0), (3, .ptr 3 0)], [(9503, some (71, .pairs l14))], [(2, some [.int (0 : Int), .nil]), (3, some [.int c15, .row 9503 0 l14.length])]⟩ : PS)) ?_ ?_
  · rintro ⟨l14, c15⟩ h
    show VC _ _ _ (⟨[(2, .ptr 2 0), (3, .ptr 3 0)], [(9503, some (71, .pairs l14))], [(2, some [.int (0 : Int), .nil]), (3, some [.int c15, .row 9503 0 l14.length])]⟩ : PS)
    refine vSeq ?_
    refine vRegion ?_
    refine oVal tt rfl rfl rfl rfl rfl trivial ?_
    refine oStore tt rfl rfl rfl rfl rfl rfl rfl rfl rfl rfl rfl ⟨trivial, trivial, trivial⟩ ?_
    refine vNil ?_
    change VC _ _ _ _
    refine vRet ?_
    change ∃ _, _
    cases h
    exact ⟨[9503], _, rfl, ⟨rfl, trivial⟩, rfl, (.eq rfl), rfl⟩
  · intro k h
    refine vBlock ?_
    refine vNilB 3 1 9504 71 (.pairs []) rfl rfl rfl rfl rfl ?_
    refine vLoopS (α := (List (Int × Int)) × Int × Int) (fun | (l23, i24, c25) => (⟨[(1, .ptr 1 0), (2, .ptr 2 0), (3, .ptr 3 0), (4, .int i24)], [(9504, some (71, .pairs l23))], [(1, some [.int p_0.g.n, .ro false (.pairs p_0.g.bars), .ro false (.ints p_0.ground)]), (2, some [.int (0 : Int), .nil]), (3, some [.int c25, .row 9504 0 l23.length])]⟩ : PS)) (S_l20Held_l1 N p_0 k) h (En.of ⟨rfl, rfl, rfl, rfl, trivial⟩ ⟨rfl, trivial⟩ ⟨rfl, rfl, rfl, trivial⟩) (fun _ => rfl) ?_
    rintro n ⟨l23, i24, c25⟩ h
    rw [S_l20Held_l1] at h
    show VC _ _ _ (⟨[(1, .ptr 1 0), (2, .ptr 2 0), (3, .ptr 3 0), (4, .int i24)], [(9504, some (71, .pairs l23))], [(1, some [.int p_0.g.n, .ro false (.pairs p_0.g.bars), .ro false (.ints p_0.ground)]), (2, some [.int (0 : Int), .nil]), (3, some [.int c25, .row 9504 0 l23.length])]⟩ : PS)
    iterate 2 refine vSeq ?_
    refine vRegion ?_
    iterate 5 refine oVal tt rfl rfl rfl rfl rfl trivial ?_
    refine vNil ?_
    change VC _ _ _ _
    refine vCond rfl (fun hb1 => ?_) (fun hb1 => ?_)
    · replace h := cnd_t hb1 h
      refine vSkip ?_
      change VC _ _ _ _
      refine vSeq ?_
      refine vBlock ?_
      refine vSeq ?_
      refine vRegionN 11 [] [0, 0, 2, 6, 14, 0, 32, 0, 224, 480, 1022, 2047, 4095] (by kernel_rfl) (by kernel_rfl) (by kernel_rfl) (by kernel_rfl) (by kernel_rfl) rfl (by rfl) ?_
      iterate 3 refine nVal tt rfl (wNone rfl) rfl rfl rfl rfl rfl trivial ?_
      obtain ⟨hg2, h⟩ := grd_inv h
      refine nVal tt rfl (wNone rfl) rfl rfl rfl rfl rfl hg2 ?_
      iterate 4 refine nVal tt rfl (wNone rfl) rfl rfl rfl rfl rfl trivial ?_
      obtain ⟨hg3, h⟩ := grd_inv h
      refine nVal tt rfl (wNone rfl) rfl rfl rfl rfl rfl hg3 ?_
      refine nVal tt rfl (wNone rfl) rfl rfl rfl rfl rfl trivial ?_
      refine nPure (wNone rfl) (pBuild bld_impl_Bar rfl rfl) rfl rfl rfl rfl ?_
      refine nNil ?_
      change VO _ _ _ _ _
      obtain ⟨v28, hc4, h⟩ := bind_inv h
      refine oCall (S_l2Put_w N (⟨c25, l23⟩ : Grf) ((p_0.ground.getD ((0 : Int).toNat) 0), (p_0.ground.getD ((i24).toNat) 0)) v28 hc4) rfl rfl rfl rfl rfl rfl rfl rfl ⟨⟨rfl, (.inl ⟨rfl, rfl⟩), trivial⟩, ⟨rfl, rfl, trivial⟩, trivial⟩ ?_
      refine oStore tt rfl rfl rfl rfl rfl rfl rfl rfl rfl rfl rfl ⟨trivial, trivial, trivial⟩ ?_
      refine vNil ?_
      change VC _ _ _ _
      refine vSeq ?_
      refine vRegion ?_
      iterate 2 refine oVal tt rfl rfl rfl rfl rfl trivial ?_
      refine vNil ?_
      change VC _ _ _ _
      refine vCond rfl (fun hb5 => ?_) (fun hb5 => ?_)
      · replace h := cnd_t hb5 h
        refine vRegionN 11 [] [0, 0, 2, 6, 14, 0, 32, 0, 224, 480, 1022, 2047, 4095] (by kernel_rfl) (by kernel_rfl) (by kernel_rfl) (by kernel_rfl) (by kernel_rfl) rfl (by rfl) ?_
        iterate 3 refine nVal tt rfl (wNone rfl) rfl rfl rfl rfl rfl trivial ?_
        obtain ⟨hg6, h⟩ := grd_inv h
        refine nVal tt rfl (wNone rfl) rfl rfl rfl rfl rfl hg6 ?_
        iterate 4 refine nVal tt rfl (wNone rfl) rfl rfl rfl rfl rfl trivial ?_
        refine nVal tt rfl (wNone rfl) rfl rfl rfl rfl rfl hg3 ?_
        refine nVal tt rfl (wNone rfl) rfl rfl rfl rfl rfl trivial ?_
        refine nPure (wNone rfl) (pBuild bld_impl_Bar rfl rfl) rfl rfl rfl rfl ?_
        refine nNil ?_
        change VO _ _ _ _ _
        obtain ⟨v29, hc7, h⟩ := bind_inv h
        refine oCall (S_l2Put_w N v28 ((p_0.ground.getD ((1 : Int).toNat) 0), (p_0.ground.getD ((i24).toNat) 0)) v29 hc7) rfl rfl rfl rfl rfl rfl rfl rfl ⟨⟨rfl, (.inl ⟨rfl, rfl⟩), trivial⟩, ⟨rfl, rfl, trivial⟩, trivial⟩ ?_
        refine oStore tt rfl rfl rfl rfl rfl rfl rfl rfl rfl rfl rfl ⟨trivial, trivial, trivial⟩ ?_
        refine vNil ?_
        change VC _ _ _ _
        refine vRegion ?_
        refine oVal tt rfl rfl rfl rfl rfl trivial ?_
        obtain ⟨hg8, h⟩ := grd_inv h
        refine oVal tt rfl rfl rfl rfl rfl hg8 ?_
        refine oVal tt rfl rfl rfl rfl rfl trivial ?_
        refine vNil ?_
        change ∃ _, _
        exact ⟨(v29.bars, (i24 + (1 : Int)), v29.n), (En.ren [9504] [1420] rfl ⟨.inr rfl, .inr rfl, .inr rfl, .inr rfl, trivial⟩ ⟨.inr rfl, trivial⟩ ⟨.inr ⟨_, _, rfl, rfl, ⟨.inr rfl, .inr rfl, .inr rfl, trivial⟩⟩, .inr ⟨_, _, rfl, rfl, ⟨.inr rfl, .inr rfl, trivial⟩⟩, .inr ⟨_, _, rfl, rfl, ⟨.inr rfl, .inr rfl, trivial⟩⟩, trivial⟩), h⟩
      · replace h := cnd_f hb5 h
        refine vSkip ?_
        change VC _ _ _ _
        refine vRegion ?_
        refine oVal tt rfl rfl rfl rfl rfl trivial ?_
        obtain ⟨hg9, h⟩ := grd_inv h
        refine oVal tt rfl rfl rfl rfl rfl hg9 ?_
        refine oVal tt rfl rfl rfl rfl rfl trivial ?_
        refine vNil ?_
        change ∃ _, _
        exact ⟨(v28.bars, (i24 + (1 : Int)), v28.n), (En.ren [9504] [1280] rfl ⟨.inr rfl, .inr rfl, .inr rfl, .inr rfl, trivial⟩ ⟨.inr rfl, trivial⟩ ⟨.inr ⟨_, _, rfl, rfl, ⟨.inr rfl, .inr rfl, .inr rfl, trivial⟩⟩, .inr ⟨_, _, rfl, rfl, ⟨.inr rfl, .inr rfl, trivial⟩⟩, .inr ⟨_, _, rfl, rfl, ⟨.inr rfl, .inr rfl, trivial⟩⟩, trivial⟩), h⟩
    · replace h := cnd_f hb1 h
      refine vExit ?_
      change ∃ _, _
      exact ⟨(l23, c25), (En.ren [9503] [9504] rfl ⟨.inr rfl, .inr rfl, trivial⟩ ⟨.inr rfl, trivial⟩ ⟨.inr ⟨_, _, rfl, rfl, ⟨.inr rfl, .inr rfl, trivial⟩⟩, .inr ⟨_, _, rfl, rfl, ⟨.inr rfl, .inr rfl, trivial⟩⟩, trivial⟩), h⟩
def S_l20All_l1 (N : Nat) (p_0 : Pin) (k : ((List (Int × Int)) × Int) → Option (Grf)) : Nat → ((List (Int × Int)) × Int × Int) → Option (Grf)
  | 0, _ => none
  | n + 1, (l12, i13, c14) =>
    cnd (decide (i13 < (p_0.g.bars.length : Int))) (
      grd (0 ≤ i13 ∧ i13 < (p_0.g.bars.length : Int)) <|
      (S_l2Put N (⟨c14, l12⟩ : Grf) (p_0.g.bars.getD ((i13).toNat) (0, 0))).bind fun v16 =>
      grd (Rg64 (i13 + (1 : Int))) <|
      S_l20All_l1 N p_0 k n (v16.bars, (i13 + (1 : Int)), v16.n)) (
      k (l12, c14))
def S_l20All (N : Nat) (p_0 : Pin) : Option (Grf) :=
  (S_l20Held N p_0).bind fun v1 =>
  S_l20All_l1 N p_0 (fun (x : (List (Int × Int)) × Int) =>
      match x with
      | (l8, c9) =>
        some (⟨c9, l8⟩ : Grf)) N (v1.bars, (0 : Int), v1.n)
set_option maxRecDepth 20000 in
set_option maxHeartbeats 1600000 in
theorem S_l20All_w (N : Nat) (p_0 : Pin) (r : Grf) (h : S_l20All N p_0 = some r) : PCall Try.prog 67 [pD p_0] [(71, .pairs r.bars)] (.agg [.int r.n, .row 0 0 r.bars.length]) := by
  unfold S_l20All at h
  refine pcall_intro (TT := TT) tt Try.func67 rfl rfl Try.ntmps67 (congrArg Array.toList Try.results67) rfl rfl fun w0 => ?_
  refine vSeq ?_
  refine vRegion ?_
  refine oBox rfl rfl rfl rfl rfl rfl rfl rfl rfl ?_
  refine oAlloc tt rfl rfl rfl rfl rfl rfl rfl rfl rfl ?_
  refine vNil ?_
  change VC _ _ _ _
  refine vSeq ?_
  refine vRegion ?_
  refine oVal tt rfl rfl rfl rfl rfl trivial ?_
  obtain ⟨v1, hc1, h⟩ := bind_inv h
  refine oCall (S_l20Held_w N p_0 v1 hc1) rfl rfl rfl rfl rfl rfl rfl rfl ⟨⟨rfl, rfl, rfl, trivial⟩, trivial⟩ ?_
  refine oAlloc tt rfl rfl rfl rfl rfl rfl rfl rfl rfl ?_
  refine oStore tt rfl rfl rfl rfl rfl rfl rfl rfl rfl rfl rfl ⟨trivial, trivial, trivial⟩ ?_
  refine vNil ?_
  change VC _ _ _ _
  iterate 2 refine vSeq ?_
  refine vRegion ?_
  refine oVal tt rfl rfl rfl rfl rfl trivial ?_
  refine vNil ?_
  change VC _ _ _ _
  refine vJoin (F := fun k => S_l20All_l1 N p_0 k) h (α := (List (Int × Int)) × Int) (J := fun | (l8, c9) => (⟨[(2, .ptr 2 0), (3, .ptr 3 0)], [(1060, some (71, .pairs l8))], [(2, some [.int (0 : Int), .nil]), (3, some [.int c9, .row 1060 0 l8.length])]⟩ : PS)) ?_ ?_
  · rintro ⟨l8, c9⟩ h
    show VC _ _ _ (⟨[(2, .ptr 2 0), (3, .ptr 3 0)], [(1060, some (71, .pairs l8))], [(2, some [.int (0 : Int), .nil]), (3, some [.int c9, .row 1060 0 l8.length])]⟩ : PS)
    refine vSeq ?_
    refine vRegion ?_
    refine oVal tt rfl rfl rfl rfl rfl trivial ?_
    refine oStore tt rfl rfl rfl rfl rfl rfl rfl rfl rfl rfl rfl ⟨trivial, trivial, trivial⟩ ?_
    refine vNil ?_
    change VC _ _ _ _
    refine vRet ?_
    change ∃ _, _
    cases h
    exact ⟨[1060], _, rfl, ⟨rfl, trivial⟩, rfl, (.eq rfl), rfl⟩
  · intro k h
    refine vBlock ?_
    refine vLoopS (α := (List (Int × Int)) × Int × Int) (fun | (l12, i13, c14) => (⟨[(1, .ptr 1 0), (2, .ptr 2 0), (3, .ptr 3 0), (4, .int i13)], [(1060, some (71, .pairs l12))], [(1, some [.int p_0.g.n, .ro false (.pairs p_0.g.bars), .ro false (.ints p_0.ground)]), (2, some [.int (0 : Int), .nil]), (3, some [.int c14, .row 1060 0 l12.length])]⟩ : PS)) (S_l20All_l1 N p_0 k) h (En.of ⟨rfl, rfl, rfl, rfl, trivial⟩ ⟨rfl, trivial⟩ ⟨rfl, rfl, rfl, trivial⟩) (fun _ => rfl) ?_
    rintro n ⟨l12, i13, c14⟩ h
    rw [S_l20All_l1] at h
    show VC _ _ _ (⟨[(1, .ptr 1 0), (2, .ptr 2 0), (3, .ptr 3 0), (4, .int i13)], [(1060, some (71, .pairs l12))], [(1, some [.int p_0.g.n, .ro false (.pairs p_0.g.bars), .ro false (.ints p_0.ground)]), (2, some [.int (0 : Int), .nil]), (3, some [.int c14, .row 1060 0 l12.length])]⟩ : PS)
    iterate 2 refine vSeq ?_
    refine vRegion ?_
    iterate 6 refine oVal tt rfl rfl rfl rfl rfl trivial ?_
    refine vNil ?_
    change VC _ _ _ _
    refine vCond rfl (fun hb2 => ?_) (fun hb2 => ?_)
    · replace h := cnd_t hb2 h
      refine vSkip ?_
      change VC _ _ _ _
      refine vSeq ?_
      refine vBlock ?_
      refine vRegionN 7 [] [0, 0, 2, 6, 0, 30, 62, 127, 255] (by kernel_rfl) (by kernel_rfl) (by kernel_rfl) (by kernel_rfl) (by kernel_rfl) rfl (by rfl) ?_
      iterate 5 refine nVal tt rfl (wNone rfl) rfl rfl rfl rfl rfl trivial ?_
      obtain ⟨hg3, h⟩ := grd_inv h
      refine nVal tt rfl (wNone rfl) rfl rfl rfl rfl rfl hg3 ?_
      refine nVal tt rfl (wNone rfl) rfl rfl rfl rfl rfl trivial ?_
      refine nNil ?_
      change VO _ _ _ _ _
      obtain ⟨v16, hc4, h⟩ := bind_inv h
      refine oCall (S_l2Put_w N (⟨c14, l12⟩ : Grf) (p_0.g.bars.getD ((i13).toNat) (0, 0)) v16 hc4) rfl rfl rfl rfl rfl rfl rfl rfl ⟨⟨rfl, (.inl ⟨rfl, rfl⟩), trivial⟩, ⟨rfl, rfl, trivial⟩, trivial⟩ ?_
      refine oStore tt rfl rfl rfl rfl rfl rfl rfl rfl rfl rfl rfl ⟨trivial, trivial, trivial⟩ ?_
      refine vNil ?_
      change VC _ _ _ _
      refine vRegion ?_
      refine oVal tt rfl rfl rfl rfl rfl trivial ?_
      obtain ⟨hg5, h⟩ := grd_inv h
      refine oVal tt rfl rfl rfl rfl rfl hg5 ?_
      refine oVal tt rfl rfl rfl rfl rfl trivial ?_
      refine vNil ?_
      change ∃ _, _
      exact ⟨(v16.bars, (i13 + (1 : Int)), v16.n), (En.ren [1060] [1220] rfl ⟨.inr rfl, .inr rfl, .inr rfl, .inr rfl, trivial⟩ ⟨.inr rfl, trivial⟩ ⟨.inr ⟨_, _, rfl, rfl, ⟨.inr rfl, .inr rfl, .inr rfl, trivial⟩⟩, .inr ⟨_, _, rfl, rfl, ⟨.inr rfl, .inr rfl, trivial⟩⟩, .inr ⟨_, _, rfl, rfl, ⟨.inr rfl, .inr rfl, trivial⟩⟩, trivial⟩), h⟩
    · replace h := cnd_f hb2 h
      refine vExit ?_
      change ∃ _, _
      exact ⟨(l12, c14), (En.of ⟨rfl, rfl, trivial⟩ ⟨rfl, trivial⟩ ⟨rfl, rfl, trivial⟩), h⟩
def S_NewPebbles_l1 (N : Nat) (g_0 : Grf) (k_1 : Int) (k : (List Int) → Option (Pbl × Bool)) : Nat → ((List Int) × Int) → Option (Pbl × Bool)
  | 0, _ => none
  | n + 1, (l9, i10) =>
    cnd (decide (i10 < g_0.n)) (
      grd (l9.length + 1 ≤ 4294967296) <|
      grd (Rg64 (i10 + (1 : Int))) <|
      S_NewPebbles_l1 N g_0 k_1 k n ((l9 ++ ([k_1] : List Int)), (i10 + (1 : Int)))) (
      k l9)
def S_NewPebbles (N : Nat) (g_0 : Grf) (k_1 : Int) : Option (Pbl × Bool) :=
  (S_IsGraph N g_0).bind fun v1 =>
  cnd (!v1) (
    some ((⟨([] : List Int), [], []⟩ : Pbl), false)) (
    (S_l1In N k_1 (1 : Int) (3 : Int)).bind fun v2 =>
    cnd (!v2) (
      some ((⟨([] : List Int), [], []⟩ : Pbl), false)) (
      S_NewPebbles_l1 N g_0 k_1 (fun (l6 : List Int) =>
            some ((⟨l6, [], []⟩ : Pbl), true)) N (([] : List Int), (0 : Int))))
set_option maxRecDepth 20000 in
set_option maxHeartbeats 1600000 in
theorem S_NewPebbles_w (N : Nat) (g_0 : Grf) (k_1 : Int) (r : Pbl × Bool) (h : S_NewPebbles N g_0 k_1 = some r) : PCall Try.prog 114 [gD g_0, .int k_1] [(3, .ints r.1.free)] (.tup [.agg [.row 0 0 r.1.free.length, .nil, .nil], .bool r.2]) := by
  unfold S_NewPebbles at h
  refine pcall_intro (TT := TT) tt Try.func114 rfl rfl Try.ntmps114 (congrArg Array.toList Try.results114) rfl rfl fun w0 => ?_
  refine vSeq ?_
  refine vRegion ?_
  refine oBox rfl rfl rfl rfl rfl rfl rfl rfl rfl ?_
  refine oAlloc tt rfl rfl rfl rfl rfl rfl rfl rfl rfl ?_
  refine oVal tt rfl rfl rfl rfl rfl trivial ?_
  refine vNil ?_
  change VC _ _ _ _
  refine vSeq ?_
  refine vRegion ?_
  iterate 3 refine oEmpty tt (wNone rfl) rfl rfl rfl rfl ?_
  refine oPure (wNone rfl) (pBuild bld_impl_Pebbles rfl rfl) rfl rfl ?_
  refine oAlloc tt rfl rfl rfl rfl rfl rfl rfl rfl rfl ?_
  refine oStore tt rfl rfl rfl rfl rfl rfl rfl rfl rfl rfl rfl ⟨trivial, trivial, trivial, trivial⟩ ?_
  refine vNil ?_
  change VC _ _ _ _
  iterate 2 refine vSeq ?_
  refine vRegion ?_
  refine oVal tt rfl rfl rfl rfl rfl trivial ?_
  obtain ⟨v1, hc1, h⟩ := bind_inv h
  refine oCall (S_IsGraph_w N g_0 v1 hc1) rfl rfl rfl rfl rfl rfl rfl rfl ⟨⟨rfl, rfl, trivial⟩, trivial⟩ ?_
  iterate 2 refine oVal tt rfl rfl rfl rfl rfl trivial ?_
  refine oSplit rfl rfl rfl (fun hb2 => ?_) (fun hb2 => ?_)
  · replace h := cnd_t hb2 h
    iterate 3 refine oNoF rfl rfl rfl rfl hb2 rfl rfl ?_
    refine oPick rfl rfl rfl rfl rfl hb2 rfl ?_
    refine vNil ?_
    change VC _ _ _ _
    refine vCondT rfl rfl ?_
    refine vSeq ?_
    refine vRegion ?_
    refine oPure (wNone rfl) (pBuild bld_impl_Pebbles rfl rfl) rfl rfl ?_
    refine oStore tt rfl rfl rfl rfl rfl rfl rfl rfl rfl rfl rfl ⟨trivial, trivial, trivial, trivial⟩ ?_
    refine oVal tt rfl rfl rfl rfl rfl trivial ?_
    refine vNil ?_
    change VC _ _ _ _
    refine vNilB 4 0 9001 3 (.ints []) rfl rfl rfl rfl rfl ?_
    refine vRet ?_
    change ∃ _, _
    cases h
    exact ⟨[9001], _, rfl, ⟨rfl, trivial⟩, rfl, (.eq rfl), rfl⟩
  · replace h := cnd_f hb2 h
    refine oValG tt rfl rfl rfl rfl rfl hb2 rfl rfl rfl trivial ?_
    obtain ⟨v2, hc3, h⟩ := bind_inv h
    refine oCallG (S_l1In_w N k_1 (1 : Int) (3 : Int) v2 hc3) rfl rfl rfl rfl hb2 rfl rfl rfl rfl rfl rfl rfl ⟨rfl, rfl, rfl, trivial⟩ ?_
    refine oValG tt rfl rfl rfl rfl rfl hb2 rfl rfl rfl trivial ?_
    refine oPickF rfl rfl rfl rfl rfl hb2 rfl ?_
    refine vNil ?_
    change VC _ _ _ _
    refine vCond rfl (fun hb4 => ?_) (fun hb4 => ?_)
    · replace h := cnd_t hb4 h
      refine vSeq ?_
      refine vRegion ?_
      refine oPure (wNone rfl) (pBuild bld_impl_Pebbles rfl rfl) rfl rfl ?_
      refine oStore tt rfl rfl rfl rfl rfl rfl rfl rfl rfl rfl rfl ⟨trivial, trivial, trivial, trivial⟩ ?_
      refine oVal tt rfl rfl rfl rfl rfl trivial ?_
      refine vNil ?_
      change VC _ _ _ _
      refine vNilB 4 0 9001 3 (.ints []) rfl rfl rfl rfl rfl ?_
      refine vRet ?_
      change ∃ _, _
      cases h
      exact ⟨[9001], _, rfl, ⟨rfl, trivial⟩, rfl, (.eq rfl), rfl⟩
    · replace h := cnd_f hb4 h
      refine vSkip ?_
      change VC _ _ _ _
      iterate 2 refine vSeq ?_
      refine vRegion ?_
      refine oVal tt rfl rfl rfl rfl rfl trivial ?_
      refine vNil ?_
      change VC _ _ _ _
      refine vJoin (F := fun k => S_NewPebbles_l1 N g_0 k_1 k) h (α := List Int) (J := fun (l6 : List Int) => (⟨[(4, .ptr 4 0), (6, .ptr 6 0)], [(31, some (3, .ints l6))], [(4, some [.nil, .nil, .nil]), (6, some [.row 31 0 l6.length, .nil, .nil])]⟩ : PS)) ?_ ?_
      · rintro l6 h
        show VC _ _ _ (⟨[(4, .ptr 4 0), (6, .ptr 6 0)], [(31, some (3, .ints l6))], [(4, some [.nil, .nil, .nil]), (6, some [.row 31 0 l6.length, .nil, .nil])]⟩ : PS)
        refine vSeq ?_
        refine vRegion ?_
        refine oVal tt rfl rfl rfl rfl rfl trivial ?_
        refine oStore tt rfl rfl rfl rfl rfl rfl rfl rfl rfl rfl rfl ⟨trivial, trivial, trivial, trivial⟩ ?_
        refine oVal tt rfl rfl rfl rfl rfl trivial ?_
        refine vNil ?_
        change VC _ _ _ _
        refine vRet ?_
        change ∃ _, _
        cases h
        exact ⟨[31], _, rfl, ⟨rfl, trivial⟩, rfl, (.eq rfl), rfl⟩
      · intro k h
        refine vBlock ?_
        refine vNilB 6 0 31 3 (.ints []) rfl rfl rfl rfl rfl ?_
        refine vLoopS (α := (List Int) × Int) (fun | (l9, i10) => (⟨[(1, .int k_1), (2, .ptr 2 0), (4, .ptr 4 0), (6, .ptr 6 0), (7, .int i10)], [(31, some (3, .ints l9))], [(2, some [.int g_0.n, .ro false (.pairs g_0.bars)]), (4, some [.nil, .nil, .nil]), (6, some [.row 31 0 l9.length, .nil, .nil])]⟩ : PS)) (S_NewPebbles_l1 N g_0 k_1 k) h (En.of ⟨rfl, rfl, rfl, rfl, rfl, trivial⟩ ⟨rfl, trivial⟩ ⟨rfl, rfl, rfl, trivial⟩) (fun _ => rfl) ?_
        rintro n ⟨l9, i10⟩ h
        rw [S_NewPebbles_l1] at h
        show VC _ _ _ (⟨[(1, .int k_1), (2, .ptr 2 0), (4, .ptr 4 0), (6, .ptr 6 0), (7, .int i10)], [(31, some (3, .ints l9))], [(2, some [.int g_0.n, .ro false (.pairs g_0.bars)]), (4, some [.nil, .nil, .nil]), (6, some [.row 31 0 l9.length, .nil, .nil])]⟩ : PS)
        iterate 2 refine vSeq ?_
        refine vRegion ?_
        iterate 4 refine oVal tt rfl rfl rfl rfl rfl trivial ?_
        refine vNil ?_
        change VC _ _ _ _
        refine vCond rfl (fun hb5 => ?_) (fun hb5 => ?_)
        · replace h := cnd_t hb5 h
          refine vSkip ?_
          change VC _ _ _ _
          refine vSeq ?_
          refine vBlock ?_
          refine vRegion ?_
          iterate 3 refine oVal tt rfl rfl rfl rfl rfl trivial ?_
          refine oBuild tt rfl rfl rfl rfl rfl rfl rfl rfl rfl rfl rfl ?_
          obtain ⟨hg6, h⟩ := grd_inv h
          refine oAppend tt rfl rfl rfl rfl rfl rfl rfl rfl rfl rfl rfl rfl rfl rfl rfl rfl (Nat.le_of_eq (Nat.zero_add _)) hg6 ?_
          refine oVal tt rfl rfl rfl rfl rfl trivial ?_
          refine oStore tt rfl rfl rfl rfl rfl rfl rfl rfl rfl rfl rfl ⟨trivial, trivial⟩ ?_
          refine vNil ?_
          change VC _ _ _ _
          refine vRegion ?_
          refine oVal tt rfl rfl rfl rfl rfl trivial ?_
          obtain ⟨hg7, h⟩ := grd_inv h
          refine oVal tt rfl rfl rfl rfl rfl hg7 ?_
          refine oVal tt rfl rfl rfl rfl rfl trivial ?_
          refine vNil ?_
          change ∃ _, _
          exact ⟨((l9 ++ ([k_1] : List Int)), (i10 + (1 : Int))), (En.of ⟨rfl, rfl, rfl, rfl, rfl, trivial⟩ ⟨rfl, trivial⟩ ⟨rfl, rfl, rfl, trivial⟩), h⟩
        · replace h := cnd_f hb5 h
          refine vExit ?_
          change ∃ _, _
          exact ⟨l9, (En.of ⟨rfl, rfl, trivial⟩ ⟨rfl, trivial⟩ ⟨rfl, rfl, trivial⟩), h⟩
def I_bar (N : Nat) (a_0 : Int) (b_1 : Int) : Option (Int × Int) :=
  some ((min a_0 b_1), (max a_0 b_1))
set_option maxRecDepth 20000 in
set_option maxHeartbeats 1600000 in
theorem I_bar_w (N : Nat) (a_0 : Int) (b_1 : Int) (r : Int × Int) (h : I_bar N a_0 b_1 = some r) : PCall Try.prog 71 [.int a_0, .int b_1] [] (.agg [.int r.1, .int r.2]) := by
  unfold I_bar at h
  refine pcall_intro (TT := TT) tt Try.func71 rfl rfl Try.ntmps71 (congrArg Array.toList Try.results71) rfl rfl fun w0 => ?_
  refine vSeq ?_
  refine vRegion ?_
  refine oAlloc tt rfl rfl rfl rfl rfl rfl rfl rfl rfl ?_
  refine vNil ?_
  change VC _ _ _ _
  refine vSeq ?_
  refine vRegion ?_
  iterate 6 refine oVal tt rfl rfl rfl rfl rfl trivial ?_
  refine oPure (wNone rfl) (pBuild bld_impl_Bar rfl rfl) rfl rfl ?_
  refine oStore tt rfl rfl rfl rfl rfl rfl rfl rfl rfl rfl rfl ⟨trivial, trivial, trivial⟩ ?_
  refine vNil ?_
  change VC _ _ _ _
  refine vRet ?_
  change ∃ _, _
  cases h
  exact ⟨[], _, rfl, trivial, rfl, (.eq rfl), rfl⟩
def M_Pinned_held_l2 (N : Nat) (p_0 : Pin) (x82 : Int) (k : (List (Int × Int)) → Option (List (Int × Int))) : Nat → ((List (Int × Int)) × Int) → Option (List (Int × Int))
  | 0, _ => none
  | n + 1, (l103, x104) =>
    cnd (decide (x104 < (((p_0.ground.take p_0.ground.length).drop (((x82 + (1 : Int))).toNat)).length : Int))) (
      grd (0 ≤ x104 ∧ x104 < (((p_0.ground.take p_0.ground.length).drop (((x82 + (1 : Int))).toNat)).length : Int)) <|
      (I_bar N (p_0.ground.getD ((x82).toNat) 0) (((p_0.ground.take p_0.ground.length).drop (((x82 + (1 : Int))).toNat)).getD ((x104).toNat) 0)).bind fun v106 =>
      grd (l103.length + 1 ≤ 4294967296) <|
      grd (Rg64 (x104 + (1 : Int))) <|
      M_Pinned_held_l2 N p_0 x82 k n ((l103 ++ ([(v106.1, v106.2)] : List (Int × Int))), (x104 + (1 : Int)))) (
      k l103)
def M_Pinned_held_l1 (N : Nat) (p_0 : Pin) (k : (List (Int × Int)) → Option (List (Int × Int))) : Nat → ((List (Int × Int)) × Int) → Option (List (Int × Int))
  | 0, _ => none
  | n + 1, (l81, x82) =>
    cnd (decide (x82 < (p_0.ground.length : Int))) (
      grd (0 ≤ x82 ∧ x82 < (p_0.ground.length : Int)) <|
      grd (Rg64 (x82 + (1 : Int))) <|
      grd (0 ≤ (x82 + (1 : Int)) ∧ (x82 + (1 : Int)) ≤ (p_0.ground.length : Int)) <|
      M_Pinned_held_l2 N p_0 x82 (fun (l100 : List (Int × Int)) =>
            M_Pinned_held_l1 N p_0 k n (l100, (x82 + (1 : Int)))) N (l81, (0 : Int))) (
      k l81)
def M_Pinned_held (N : Nat) (p_0 : Pin) : Option (List (Int × Int)) :=
  M_Pinned_held_l1 N p_0 (fun (l53 : List (Int × Int)) =>
        some l53) N (([] : List (Int × Int)), (0 : Int))
set_option maxRecDepth 20000 in
set_option maxHeartbeats 1600000 in
theorem M_Pinned_held_w (N : Nat) (p_0 : Pin) (r : List (Int × Int)) (h : M_Pinned_held N p_0 = some r) : PCall Try.prog 69 [pD p_0] [(71, .pairs r)] (.row 0 0 r.length) := by
  unfold M_Pinned_held at h
  refine pcall_intro (TT := TT) tt Try.func69 rfl rfl Try.ntmps69 (congrArg Array.toList Try.results69) rfl rfl fun w0 => ?_
  refine vSeq ?_
  refine vRegion ?_
  refine oBox rfl rfl rfl rfl rfl rfl rfl rfl rfl ?_
  refine oVal tt rfl rfl rfl rfl rfl trivial ?_
  refine vNil ?_
  change VC _ _ _ _
  refine vSeq ?_
  refine vRegion ?_
  refine oEmpty tt (wNone rfl) rfl rfl rfl rfl ?_
  refine oVal tt rfl rfl rfl rfl rfl trivial ?_
  refine vNil ?_
  change VC _ _ _ _
  iterate 2 refine vSeq ?_
  refine vRegion ?_
  iterate 4 refine oVal tt rfl rfl rfl rfl rfl trivial ?_
  refine vNil ?_
  change VC _ _ _ _
  refine vJoin (F := fun k => M_Pinned_held_l1 N p_0 k) h (α := List (Int × Int)) (J := fun (l53 : List (Int × Int)) => (⟨[(3, .row 32 0 l53.length)], [(32, some (71, .pairs l53))], []⟩ : PS)) ?_ ?_
  · rintro l53 h
    show VC _ _ _ (⟨[(3, .row 32 0 l53.length)], [(32, some (71, .pairs l53))], []⟩ : PS)
    refine vSeq ?_
    refine vRegion ?_
    iterate 2 refine oVal tt rfl rfl rfl rfl rfl trivial ?_
    refine vNil ?_
    change VC _ _ _ _
    refine vRet ?_
    change ∃ _, _
    cases h
    exact ⟨[32], _, rfl, ⟨rfl, trivial⟩, rfl, (.eq rfl), rfl⟩
  · intro k h
    refine vBlock ?_
    refine vNilT 3 32 71 (.pairs []) rfl rfl rfl rfl ?_
    refine vLoopS (α := (List (Int × Int)) × Int) (fun | (l81, x82) => (⟨[(1, .ptr 1 0), (3, .row 32 0 l81.length), (10, .ro false (.ints p_0.ground)), (11, .int (p_0.ground.length : Int)), (12, .int x82)], [(32, some (71, .pairs l81))], [(1, some [.int p_0.g.n, .ro false (.pairs p_0.g.bars), .ro false (.ints p_0.ground)])]⟩ : PS)) (M_Pinned_held_l1 N p_0 k) h (En.of ⟨rfl, rfl, rfl, rfl, rfl, trivial⟩ ⟨rfl, trivial⟩ ⟨rfl, trivial⟩) (fun _ => rfl) ?_
    rintro n ⟨l81, x82⟩ h
    rw [M_Pinned_held_l1] at h
    show VC _ _ _ (⟨[(1, .ptr 1 0), (3, .row 32 0 l81.length), (10, .ro false (.ints p_0.ground)), (11, .int (p_0.ground.length : Int)), (12, .int x82)], [(32, some (71, .pairs l81))], [(1, some [.int p_0.g.n, .ro false (.pairs p_0.g.bars), .ro false (.ints p_0.ground)])]⟩ : PS)
    refine vSeq ?_
    refine vRegion ?_
    refine oVal tt rfl rfl rfl rfl rfl trivial ?_
    refine vNil ?_
    change VC _ _ _ _
    refine vSeq ?_
    refine vCond rfl (fun hb1 => ?_) (fun hb1 => ?_)
    · replace h := cnd_t hb1 h
      refine vSkip ?_
      change VC _ _ _ _
      refine vSeq ?_
      refine vBlock ?_
      refine vSeq ?_
      refine vRegion ?_
      refine oVal tt rfl rfl rfl rfl rfl trivial ?_
      obtain ⟨hg2, h⟩ := grd_inv h
      refine oVal tt rfl rfl rfl rfl rfl hg2 ?_
      iterate 3 refine oVal tt rfl rfl rfl rfl rfl trivial ?_
      refine vNil ?_
      change VC _ _ _ _
      refine vSeq ?_
      refine vRegion ?_
      iterate 3 refine oVal tt rfl rfl rfl rfl rfl trivial ?_
      obtain ⟨hg3, h⟩ := grd_inv h
      refine oVal tt rfl rfl rfl rfl rfl hg3 ?_
      obtain ⟨hg4, h⟩ := grd_inv h
      refine oVal tt rfl rfl rfl rfl rfl hg4 ?_
      iterate 2 refine oVal tt rfl rfl rfl rfl rfl trivial ?_
      refine vNil ?_
      change VC _ _ _ _
      refine vJoin (F := fun k => M_Pinned_held_l2 N p_0 x82 k) h (α := List (Int × Int)) (J := fun (l100 : List (Int × Int)) => (⟨[(1, .ptr 1 0), (3, .row 32 0 l100.length), (10, .ro false (.ints p_0.ground)), (11, .int (p_0.ground.length : Int)), (12, .int x82)], [(32, some (71, .pairs l100))], [(1, some [.int p_0.g.n, .ro false (.pairs p_0.g.bars), .ro false (.ints p_0.ground)])]⟩ : PS)) ?_ ?_
      · rintro l100 h
        show VC _ _ _ (⟨[(1, .ptr 1 0), (3, .row 32 0 l100.length), (10, .ro false (.ints p_0.ground)), (11, .int (p_0.ground.length : Int)), (12, .int x82)], [(32, some (71, .pairs l100))], [(1, some [.int p_0.g.n, .ro false (.pairs p_0.g.bars), .ro false (.ints p_0.ground)])]⟩ : PS)
        refine vRegion ?_
        refine oVal tt rfl rfl rfl rfl rfl hg3 ?_
        refine oVal tt rfl rfl rfl rfl rfl trivial ?_
        refine vNil ?_
        change ∃ _, _
        exact ⟨(l100, (x82 + (1 : Int))), (En.of ⟨rfl, rfl, rfl, rfl, rfl, trivial⟩ ⟨rfl, trivial⟩ ⟨rfl, trivial⟩), h⟩
      · intro k h
        refine vBlock ?_
        refine vLoopS (α := (List (Int × Int)) × Int) (fun | (l103, x104) => (⟨[(1, .ptr 1 0), (3, .row 32 0 l103.length), (5, .int (p_0.ground.getD ((x82).toNat) 0)), (10, .ro false (.ints p_0.ground)), (11, .int (p_0.ground.length : Int)), (12, .int x82), (21, .ro false (.ints ((p_0.ground.take p_0.ground.length).drop (((x82 + (1 : Int))).toNat)))), (22, .int (((p_0.ground.take p_0.ground.length).drop (((x82 + (1 : Int))).toNat)).length : Int)), (23, .int x104)], [(32, some (71, .pairs l103))], [(1, some [.int p_0.g.n, .ro false (.pairs p_0.g.bars), .ro false (.ints p_0.ground)])]⟩ : PS)) (M_Pinned_held_l2 N p_0 x82 k) h (En.of ⟨rfl, rfl, rfl, rfl, rfl, rfl, rfl, rfl, rfl, trivial⟩ ⟨rfl, trivial⟩ ⟨rfl, trivial⟩) (fun _ => rfl) ?_
        rintro n ⟨l103, x104⟩ h
        rw [M_Pinned_held_l2] at h
        show VC _ _ _ (⟨[(1, .ptr 1 0), (3, .row 32 0 l103.length), (5, .int (p_0.ground.getD ((x82).toNat) 0)), (10, .ro false (.ints p_0.ground)), (11, .int (p_0.ground.length : Int)), (12, .int x82), (21, .ro false (.ints ((p_0.ground.take p_0.ground.length).drop (((x82 + (1 : Int))).toNat)))), (22, .int (((p_0.ground.take p_0.ground.length).drop (((x82 + (1 : Int))).toNat)).length : Int)), (23, .int x104)], [(32, some (71, .pairs l103))], [(1, some [.int p_0.g.n, .ro false (.pairs p_0.g.bars), .ro false (.ints p_0.ground)])]⟩ : PS)
        refine vSeq ?_
        refine vRegion ?_
        refine oVal tt rfl rfl rfl rfl rfl trivial ?_
        refine vNil ?_
        change VC _ _ _ _
        refine vSeq ?_
        refine vCond rfl (fun hb5 => ?_) (fun hb5 => ?_)
        · replace h := cnd_t hb5 h
          refine vSkip ?_
          change VC _ _ _ _
          refine vSeq ?_
          refine vBlock ?_
          refine vSeq ?_
          refine vRegion ?_
          obtain ⟨hg6, h⟩ := grd_inv h
          refine oVal tt rfl rfl rfl rfl rfl hg6 ?_
          iterate 2 refine oVal tt rfl rfl rfl rfl rfl trivial ?_
          refine vNil ?_
          change VC _ _ _ _
          refine vRegion ?_
          iterate 3 refine oVal tt rfl rfl rfl rfl rfl trivial ?_
          obtain ⟨v106, hc7, h⟩ := bind_inv h
          refine oCall (I_bar_w N (p_0.ground.getD ((x82).toNat) 0) (((p_0.ground.take p_0.ground.length).drop (((x82 + (1 : Int))).toNat)).getD ((x104).toNat) 0) v106 hc7) rfl rfl rfl rfl rfl rfl rfl rfl ⟨rfl, rfl, trivial⟩ ?_
          refine oBuild tt rfl rfl rfl rfl rfl rfl rfl rfl rfl rfl rfl ?_
          obtain ⟨hg8, h⟩ := grd_inv h
          refine oAppend tt rfl rfl rfl rfl rfl rfl rfl rfl rfl rfl rfl rfl rfl rfl rfl rfl (Nat.le_of_eq (Nat.zero_add _)) hg8 ?_
          refine oVal tt rfl rfl rfl rfl rfl trivial ?_
          refine vNil ?_
          change VC _ _ _ _
          refine vRegion ?_
          obtain ⟨hg9, h⟩ := grd_inv h
          refine oVal tt rfl rfl rfl rfl rfl hg9 ?_
          refine oVal tt rfl rfl rfl rfl rfl trivial ?_
          refine vNil ?_
          change ∃ _, _
          exact ⟨((l103 ++ ([(v106.1, v106.2)] : List (Int × Int))), (x104 + (1 : Int))), (En.of ⟨rfl, rfl, rfl, rfl, rfl, rfl, rfl, rfl, rfl, trivial⟩ ⟨rfl, trivial⟩ ⟨rfl, trivial⟩), h⟩
        · replace h := cnd_f hb5 h
          refine vExit ?_
          change ∃ _, _
          exact ⟨l103, (En.of ⟨rfl, rfl, rfl, rfl, rfl, trivial⟩ ⟨rfl, trivial⟩ ⟨rfl, trivial⟩), h⟩
    · replace h := cnd_f hb1 h
      refine vExit ?_
      change ∃ _, _
      exact ⟨l81, (En.of ⟨rfl, trivial⟩ ⟨rfl, trivial⟩ trivial), h⟩
end Go.Proofs.Ytkpmijmlbpdknaa

namespace Go.Proofs.Ytkpmijmlbpdknaa
open Go.RowKit
set_option linter.unusedVariables false
set_option linter.unusedSimpArgs false
def S_l6Rank_l1 (N : Nat) (g_0 : Grf) (k : Int → Option (Int)) : Nat → ((List Int) × (List Int) × (List Int) × Int × Int × Nat) → Option (Int)
  | 0, _ => none
  | n + 1, (l36, l37, l38, n39, i40, n41) =>
    cnd (decide (i40 < (g_0.bars.length : Int))) (
      grd (0 ≤ i40 ∧ i40 < (g_0.bars.length : Int)) <|
      grd (n41 = l36.length) <|
      (S_l4Gather N g_0 (⟨l36, l37, l38⟩ : Pbl) ((g_0.bars.getD ((i40).toNat) (0, 0)).1) ((g_0.bars.getD ((i40).toNat) (0, 0)).2) (4 : Int)).bind fun v43 =>
      cnd (!v43.2) (
        grd (Rg64 (i40 + (1 : Int))) <|
        S_l6Rank_l1 N g_0 k n (l36, l37, l38, n39, (i40 + (1 : Int)), n41)) (
        grd (0 ≤ ((g_0.bars.getD ((i40).toNat) (0, 0)).1) ∧ ((g_0.bars.getD ((i40).toNat) (0, 0)).1) < (v43.1.free.length : Int)) <|
        grd (Rg64 ((v43.1.free.getD (((g_0.bars.getD ((i40).toNat) (0, 0)).1).toNat) 0) - (1 : Int))) <|
        grd (v43.1.tails.length + 1 ≤ 4294967296) <|
        grd (v43.1.placed.length + 1 ≤ 4294967296) <|
        grd (Rg64 (n39 + (1 : Int))) <|
        grd (Rg64 (i40 + (1 : Int))) <|
        S_l6Rank_l1 N g_0 k n ((v43.1.free.set (((g_0.bars.getD ((i40).toNat) (0, 0)).1).toNat) ((v43.1.free.getD (((g_0.bars.getD ((i40).toNat) (0, 0)).1).toNat) 0) - (1 : Int))), (v43.1.tails ++ ([(g_0.bars.getD ((i40).toNat) (0, 0)).1] : List Int)), (v43.1.placed ++ ([i40] : List Int)), (n39 + (1 : Int)), (i40 + (1 : Int)), v43.1.free.length))) (
      k n39)
def S_l6Rank (N : Nat) (g_0 : Grf) : Option (Int) :=
  (S_NewPebbles N (⟨g_0.n, ([] : List (Int × Int))⟩ : Grf) (2 : Int)).bind fun v1 =>
  S_l6Rank_l1 N g_0 (fun (n22 : Int) =>
        some n22) N (v1.1.free, ([] : List Int), ([] : List Int), (0 : Int), (0 : Int), v1.1.free.length)
set_option maxRecDepth 20000 in
set_option maxHeartbeats 1600000 in
theorem S_l6Rank_w (N : Nat) (g_0 : Grf) (r : Int) (h : S_l6Rank N g_0 = some r) : PCall Try.prog 93 [gD g_0] [] (.int r) := by
  unfold S_l6Rank at h
  refine pcall_intro (TT := TT) tt Try.func93 rfl rfl Try.ntmps93 (congrArg Array.toList Try.results93) rfl rfl fun w0 => ?_
  refine vSeq ?_
  refine vRegion ?_
  refine oBox rfl rfl rfl rfl rfl rfl rfl rfl rfl ?_
  refine oVal tt rfl rfl rfl rfl rfl trivial ?_
  refine vNil ?_
  change VC _ _ _ _
  refine vSeq ?_
  refine vRegion ?_
  iterate 2 refine oVal tt rfl rfl rfl rfl rfl trivial ?_
  refine oPure (wNone rfl) (pBuild bld_impl_Graph rfl rfl) rfl rfl ?_
  obtain ⟨v1, hc1, h⟩ := bind_inv h
  refine oCall (S_NewPebbles_w N (⟨g_0.n, ([] : List (Int × Int))⟩ : Grf) (2 : Int) v1 hc1) rfl rfl rfl rfl rfl rfl rfl rfl ⟨⟨rfl, rfl, trivial⟩, rfl, trivial⟩ ?_
  iterate 3 refine oVal tt rfl rfl rfl rfl rfl trivial ?_
  refine oAlloc tt rfl rfl rfl rfl rfl rfl rfl rfl rfl ?_
  refine oStore tt rfl rfl rfl rfl rfl rfl rfl rfl rfl rfl rfl ⟨trivial, trivial, trivial, trivial⟩ ?_
  refine oVal tt rfl rfl rfl rfl rfl trivial ?_
  refine vNil ?_
  change VC _ _ _ _
  refine vSeq ?_
  refine vRegion ?_
  refine oVal tt rfl rfl rfl rfl rfl trivial ?_
  refine vNil ?_
  change VC _ _ _ _
  iterate 2 refine vSeq ?_
  refine vRegion ?_
  refine oVal tt rfl rfl rfl rfl rfl trivial ?_
  refine vNil ?_
  change VC _ _ _ _
  refine vJoin (F := fun k => S_l6Rank_l1 N g_0 k) h (α := Int) (J := fun (n22 : Int) => (⟨[(5, .int n22)], [], []⟩ : PS)) ?_ ?_
  · rintro n22 h
    show VC _ _ _ (⟨[(5, .int n22)], [], []⟩ : PS)
    refine vSeq ?_
    refine vRegion ?_
    iterate 2 refine oVal tt rfl rfl rfl rfl rfl trivial ?_
    refine vNil ?_
    change VC _ _ _ _
    refine vRet ?_
    change ∃ _, _
    cases h
    exact ⟨[], _, rfl, trivial, rfl, (.eq rfl), rfl⟩
  · intro k h
    refine vBlock ?_
    refine vNilB 3 1 9507 3 (.ints []) rfl rfl rfl rfl rfl ?_
    refine vNilB 3 2 9508 3 (.ints []) rfl rfl rfl rfl rfl ?_
    refine vLoopS (α := (List Int) × (List Int) × (List Int) × Int × Int × Nat) (fun | (l36, l37, l38, n39, i40, n41) => (⟨[(1, .ptr 1 0), (3, .ptr 3 0), (5, .int n39), (6, .int i40)], [(1130, some (3, .ints l36)), (9507, some (3, .ints l37)), (9508, some (3, .ints l38))], [(1, some [.int g_0.n, .ro false (.pairs g_0.bars)]), (3, some [.row 1130 0 n41, .row 9507 0 l37.length, .row 9508 0 l38.length])]⟩ : PS)) (S_l6Rank_l1 N g_0 k) h (En.of ⟨rfl, rfl, rfl, rfl, trivial⟩ ⟨rfl, rfl, rfl, trivial⟩ ⟨rfl, rfl, trivial⟩) (fun _ => rfl) ?_
    rintro n ⟨l36, l37, l38, n39, i40, n41⟩ h
    rw [S_l6Rank_l1] at h
    show VC _ _ _ (⟨[(1, .ptr 1 0), (3, .ptr 3 0), (5, .int n39), (6, .int i40)], [(1130, some (3, .ints l36)), (9507, some (3, .ints l37)), (9508, some (3, .ints l38))], [(1, some [.int g_0.n, .ro false (.pairs g_0.bars)]), (3, some [.row 1130 0 n41, .row 9507 0 l37.length, .row 9508 0 l38.length])]⟩ : PS)
    iterate 2 refine vSeq ?_
    refine vRegion ?_
    iterate 5 refine oVal tt rfl rfl rfl rfl rfl trivial ?_
    refine vNil ?_
    change VC _ _ _ _
    refine vCond rfl (fun hb2 => ?_) (fun hb2 => ?_)
    · replace h := cnd_t hb2 h
      refine vSkip ?_
      change VC _ _ _ _
      refine vSeq ?_
      refine vBlock ?_
      refine vSeq ?_
      refine vRegionN 20 [14, 18, 1190000007] [0, 0, 0, 4, 0, 28, 60, 124, 0, 256, 0, 1792, 3840, 7936, 16383, 32767, 65535, 65535, 0, 393215, 1048575] (by kernel_rfl) (by kernel_rfl) (by kernel_rfl) (by kernel_rfl) (by kernel_rfl) rfl (by rfl) ?_
      iterate 5 refine nVal tt rfl (wNone rfl) rfl rfl rfl rfl rfl trivial ?_
      obtain ⟨hg3, h⟩ := grd_inv h
      refine nVal tt rfl (wNone rfl) rfl rfl rfl rfl rfl hg3 ?_
      iterate 5 refine nVal tt rfl (wNone rfl) rfl rfl rfl rfl rfl trivial ?_
      refine nVal tt rfl (wNone rfl) rfl rfl rfl rfl rfl hg3 ?_
      iterate 2 refine nVal tt rfl (wNone rfl) rfl rfl rfl rfl rfl trivial ?_
      obtain ⟨hg4, h⟩ := grd_inv h
      obtain ⟨v43, hc5, h⟩ := bind_inv h
      refine nCallR (S_l4Gather_w N g_0 (⟨l36, l37, l38⟩ : Pbl) ((g_0.bars.getD ((i40).toNat) (0, 0)).1) ((g_0.bars.getD ((i40).toNat) (0, 0)).2) (4 : Int) v43 hc5) rfl (wNone rfl) rfl rfl rfl rfl rfl rfl (by first | rfl | kernel_rfl | (simp [nrL, nm, gdst, nmT, rowB]; done)) rfl (by first | rfl | kernel_rfl | (simp [chkE, nrL, nm, gdst, nmT, rowB, hid, ment, mentA, mentS]; done) | (simp [chkE, nrL, nm, gdst, nmT, rowB, hid, ment, mentA, mentS]; decide)) ⟨⟨rfl, rfl, trivial⟩, ⟨(.inl ⟨hg4, rfl⟩), (.inl ⟨rfl, rfl⟩), (.inl ⟨rfl, rfl⟩), trivial⟩, rfl, rfl, rfl, trivial⟩ ?_
      iterate 3 refine nVal tt rfl (wNone rfl) rfl rfl rfl rfl rfl trivial ?_
      refine nAlloc tt (wNone rfl) rfl rfl rfl rfl rfl rfl rfl rfl rfl rfl ?_
      refine nStoreB tt (wNone rfl) rfl rfl rfl rfl rfl rfl rfl rfl rfl rfl rfl rfl ?_
      refine nNil ?_
      change VO _ _ _ _ _
      refine oVal tt rfl rfl rfl rfl rfl trivial ?_
      refine vNil ?_
      change VC _ _ _ _
      iterate 2 refine vSeq ?_
      refine vRegion ?_
      iterate 2 refine oVal tt rfl rfl rfl rfl rfl trivial ?_
      refine vNil ?_
      change VC _ _ _ _
      refine vCond rfl (fun hb6 => ?_) (fun hb6 => ?_)
      · replace h := cnd_t hb6 h
        refine vExit ?_
        change VC _ _ _ _
        refine vRegion ?_
        refine oVal tt rfl rfl rfl rfl rfl trivial ?_
        obtain ⟨hg7, h⟩ := grd_inv h
        refine oVal tt rfl rfl rfl rfl rfl hg7 ?_
        refine oVal tt rfl rfl rfl rfl rfl trivial ?_
        refine vNil ?_
        change ∃ _, _
        exact ⟨(l36, l37, l38, n39, (i40 + (1 : Int)), n41), (En.of ⟨rfl, rfl, rfl, rfl, trivial⟩ ⟨rfl, rfl, rfl, trivial⟩ ⟨rfl, rfl, trivial⟩), h⟩
      · replace h := cnd_f hb6 h
        refine vSkip ?_
        change VC _ _ _ _
        refine vSeq ?_
        refine vRegionN 19 [] [0, 1, 0, 4, 0, 28, 60, 124, 0, 256, 0, 1024, 0, 7168, 15360, 31744, 65280, 130816, 261888, 524287, 1048575] (by kernel_rfl) (by kernel_rfl) (by kernel_rfl) (by kernel_rfl) (by kernel_rfl) rfl (by rfl) ?_
        iterate 5 refine nVal tt rfl (wNone rfl) rfl rfl rfl rfl rfl trivial ?_
        refine nVal tt rfl (wNone rfl) rfl rfl rfl rfl rfl hg3 ?_
        iterate 7 refine nVal tt rfl (wNone rfl) rfl rfl rfl rfl rfl trivial ?_
        refine nVal tt rfl (wNone rfl) rfl rfl rfl rfl rfl hg3 ?_
        iterate 2 refine nVal tt rfl (wNone rfl) rfl rfl rfl rfl rfl trivial ?_
        obtain ⟨hg8, h⟩ := grd_inv h
        iterate 2 refine nVal tt rfl (wNone rfl) rfl rfl rfl rfl rfl hg8 ?_
        obtain ⟨hg9, h⟩ := grd_inv h
        refine nVal tt rfl (wNone rfl) rfl rfl rfl rfl rfl hg9 ?_
        refine nNil ?_
        change VO _ _ _ _ _
        refine oVal tt rfl rfl rfl rfl rfl hg8 ?_
        refine oStore tt rfl rfl rfl rfl rfl rfl rfl rfl rfl rfl ⟨_, _, rfl, hg8.1, hg8.2⟩ ⟨hg8, trivial⟩ ?_
        refine vNil ?_
        change VC _ _ _ _
        refine vSeq ?_
        refine vRegionN 9 [8] [0, 1, 0, 4, 0, 28, 60, 124, 252, 511, 1023, 2047] (by kernel_rfl) (by kernel_rfl) (by kernel_rfl) (by kernel_rfl) (by kernel_rfl) rfl (by rfl) ?_
        iterate 5 refine nVal tt rfl (wNone rfl) rfl rfl rfl rfl rfl trivial ?_
        refine nVal tt rfl (wNone rfl) rfl rfl rfl rfl rfl hg3 ?_
        iterate 2 refine nVal tt rfl (wNone rfl) rfl rfl rfl rfl rfl trivial ?_
        refine nBuild tt (wNone rfl) rfl rfl rfl rfl rfl rfl rfl rfl rfl rfl rfl rfl ?_
        refine nNil ?_
        change VO _ _ _ _ _
        obtain ⟨hg10, h⟩ := grd_inv h
        refine oAppend tt rfl rfl rfl rfl rfl rfl rfl rfl rfl rfl rfl rfl rfl rfl rfl rfl (Nat.le_of_eq (Nat.zero_add _)) hg10 ?_
        refine oVal tt rfl rfl rfl rfl rfl trivial ?_
        refine oStore tt rfl rfl rfl rfl rfl rfl rfl rfl rfl rfl rfl ⟨trivial, trivial⟩ ?_
        refine vNil ?_
        change VC _ _ _ _
        refine vSeq ?_
        refine vRegion ?_
        iterate 3 refine oVal tt rfl rfl rfl rfl rfl trivial ?_
        refine oBuild tt rfl rfl rfl rfl rfl rfl rfl rfl rfl rfl rfl ?_
        obtain ⟨hg11, h⟩ := grd_inv h
        refine oAppend tt rfl rfl rfl rfl rfl rfl rfl rfl rfl rfl rfl rfl rfl rfl rfl rfl (Nat.le_of_eq (Nat.zero_add _)) hg11 ?_
        refine oVal tt rfl rfl rfl rfl rfl trivial ?_
        refine oStore tt rfl rfl rfl rfl rfl rfl rfl rfl rfl rfl rfl ⟨trivial, trivial⟩ ?_
        refine vNil ?_
        change VC _ _ _ _
        refine vSeq ?_
        refine vRegion ?_
        refine oVal tt rfl rfl rfl rfl rfl trivial ?_
        refine oStore tt rfl rfl rfl rfl rfl rfl rfl rfl rfl rfl rfl ⟨trivial, trivial, trivial, trivial⟩ ?_
        refine vNil ?_
        change VC _ _ _ _
        refine vRegion ?_
        refine oVal tt rfl rfl rfl rfl rfl trivial ?_
        obtain ⟨hg12, h⟩ := grd_inv h
        refine oVal tt rfl rfl rfl rfl rfl hg12 ?_
        refine oVal tt rfl rfl rfl rfl rfl trivial ?_
        refine vNil ?_
        change VC _ _ _ _
        refine vRegion ?_
        refine oVal tt rfl rfl rfl rfl rfl trivial ?_
        obtain ⟨hg13, h⟩ := grd_inv h
        refine oVal tt rfl rfl rfl rfl rfl hg13 ?_
        refine oVal tt rfl rfl rfl rfl rfl trivial ?_
        refine vNil ?_
        change ∃ _, _
        exact ⟨((v43.1.free.set (((g_0.bars.getD ((i40).toNat) (0, 0)).1).toNat) ((v43.1.free.getD (((g_0.bars.getD ((i40).toNat) (0, 0)).1).toNat) 0) - (1 : Int))), (v43.1.tails ++ ([(g_0.bars.getD ((i40).toNat) (0, 0)).1] : List Int)), (v43.1.placed ++ ([i40] : List Int)), (n39 + (1 : Int)), (i40 + (1 : Int)), v43.1.free.length), (En.ren [1130, 9507, 9508] [1380, 1381, 1382] rfl ⟨.inr rfl, .inr rfl, .inr rfl, .inr rfl, trivial⟩ ⟨.inr rfl, .inr rfl, .inr rfl, trivial⟩ ⟨.inr ⟨_, _, rfl, rfl, ⟨.inr rfl, .inr rfl, trivial⟩⟩, .inr ⟨_, _, rfl, rfl, ⟨.inr rfl, .inr rfl, .inr rfl, trivial⟩⟩, trivial⟩), h⟩
    · replace h := cnd_f hb2 h
      refine vExit ?_
      change ∃ _, _
      exact ⟨n39, (En.of ⟨rfl, trivial⟩ trivial trivial), h⟩
def S_PinnedRank (N : Nat) (p_0 : Pin) : Option (Int) :=
  (S_IsPinned N p_0).bind fun v1 =>
  cnd (!v1) (
    some (-1 : Int)) (
    (S_l20All N p_0).bind fun v2 =>
    (S_l6Rank N v2).bind fun v3 =>
    (S_l20Held N p_0).bind fun v4 =>
    (S_l6Rank N v4).bind fun v5 =>
    grd (Rg64 (v3 - v5)) <|
    some (v3 - v5))
set_option maxRecDepth 20000 in
set_option maxHeartbeats 1600000 in
theorem S_PinnedRank_w (N : Nat) (p_0 : Pin) (r : Int) (h : S_PinnedRank N p_0 = some r) : PCall Try.prog 59 [pD p_0] [] (.int r) := by
  unfold S_PinnedRank at h
  refine pcall_intro (TT := TT) tt Try.func59 rfl rfl Try.ntmps59 (congrArg Array.toList Try.results59) rfl rfl fun w0 => ?_
  refine vSeq ?_
  refine vRegion ?_
  refine oBox rfl rfl rfl rfl rfl rfl rfl rfl rfl ?_
  refine oVal tt rfl rfl rfl rfl rfl trivial ?_
  refine vNil ?_
  change VC _ _ _ _
  iterate 2 refine vSeq ?_
  refine vRegion ?_
  refine oVal tt rfl rfl rfl rfl rfl trivial ?_
  obtain ⟨v1, hc1, h⟩ := bind_inv h
  refine oCall (S_IsPinned_w N p_0 v1 hc1) rfl rfl rfl rfl rfl rfl rfl rfl ⟨⟨rfl, rfl, rfl, trivial⟩, trivial⟩ ?_
  refine oVal tt rfl rfl rfl rfl rfl trivial ?_
  refine vNil ?_
  change VC _ _ _ _
  refine vCond rfl (fun hb2 => ?_) (fun hb2 => ?_)
  · replace h := cnd_t hb2 h
    refine vSeq ?_
    refine vRegion ?_
    refine oVal tt rfl rfl rfl rfl rfl trivial ?_
    refine vNil ?_
    change VC _ _ _ _
    refine vRet ?_
    change ∃ _, _
    cases h
    exact ⟨[], _, rfl, trivial, rfl, (.eq rfl), rfl⟩
  · replace h := cnd_f hb2 h
    refine vSkip ?_
    change VC _ _ _ _
    refine vSeq ?_
    refine vRegionN 4 [1] [0, 1, 3, 0, 15, 31, 63, 127] (by kernel_rfl) (by kernel_rfl) (by kernel_rfl) (by kernel_rfl) (by kernel_rfl) rfl (by rfl) ?_
    refine nVal tt rfl (wNone rfl) rfl rfl rfl rfl rfl trivial ?_
    obtain ⟨v2, hc3, h⟩ := bind_inv h
    refine nCallR (S_l20All_w N p_0 v2 hc3) rfl (wNone rfl) rfl rfl rfl rfl rfl rfl (by first | rfl | kernel_rfl | (simp [nrL, nm, gdst, nmT, rowB]; done)) rfl (by first | rfl | kernel_rfl | (simp [chkE, nrL, nm, gdst, nmT, rowB, hid, ment, mentA, mentS]; done) | (simp [chkE, nrL, nm, gdst, nmT, rowB, hid, ment, mentA, mentS]; decide)) ⟨⟨rfl, rfl, rfl, trivial⟩, trivial⟩ ?_
    obtain ⟨v3, hc4, h⟩ := bind_inv h
    refine nCall (S_l6Rank_w N v2 v3 hc4) rfl (wNone rfl) rfl rfl rfl rfl rfl rfl rfl rfl ⟨⟨rfl, (.inl ⟨rfl, rfl⟩), trivial⟩, trivial⟩ ?_
    refine nVal tt rfl (wNone rfl) rfl rfl rfl rfl rfl trivial ?_
    refine nNil ?_
    change VO _ _ _ _ _
    obtain ⟨v4, hc5, h⟩ := bind_inv h
    refine oCall (S_l20Held_w N p_0 v4 hc5) rfl rfl rfl rfl rfl rfl rfl rfl ⟨⟨rfl, rfl, rfl, trivial⟩, trivial⟩ ?_
    obtain ⟨v5, hc6, h⟩ := bind_inv h
    refine oCall (S_l6Rank_w N v4 v5 hc6) rfl rfl rfl rfl rfl rfl rfl rfl ⟨⟨rfl, (.inl ⟨rfl, rfl⟩), trivial⟩, trivial⟩ ?_
    obtain ⟨hg7, h⟩ := grd_inv h
    refine oVal tt rfl rfl rfl rfl rfl hg7 ?_
    refine oVal tt rfl rfl rfl rfl rfl trivial ?_
    refine vNil ?_
    change VC _ _ _ _
    refine vRet ?_
    change ∃ _, _
    cases h
    exact ⟨[], _, rfl, trivial, rfl, (.eq rfl), rfl⟩
def I_PinnedRank (N : Nat) (p_0 : Pin) : Option (Int) :=
  (I_IsPinned N p_0).bind fun v1 =>
  cnd (!v1) (
    some (-1 : Int)) (
    (M_Pinned_held N p_0).bind fun v2 =>
    grd (v2.length + p_0.g.bars.length ≤ 4294967296) <|
    (I_planeRank N p_0.g.n (v2 ++ p_0.g.bars)).bind fun v3 =>
    (M_Pinned_held N p_0).bind fun v4 =>
    (I_planeRank N p_0.g.n v4).bind fun v5 =>
    grd (Rg64 (v3 - v5)) <|
    some (v3 - v5))
set_option maxRecDepth 20000 in
set_option maxHeartbeats 1600000 in
theorem I_PinnedRank_w (N : Nat) (p_0 : Pin) (r : Int) (h : I_PinnedRank N p_0 = some r) : PCall Try.prog 61 [pD p_0] [] (.int r) := by
  unfold I_PinnedRank at h
  refine pcall_intro (TT := TT) tt Try.func61 rfl rfl Try.ntmps61 (congrArg Array.toList Try.results61) rfl rfl fun w0 => ?_
  refine vSeq ?_
  refine vRegion ?_
  refine oBox rfl rfl rfl rfl rfl rfl rfl rfl rfl ?_
  refine oVal tt rfl rfl rfl rfl rfl trivial ?_
  refine vNil ?_
  change VC _ _ _ _
  iterate 2 refine vSeq ?_
  refine vRegion ?_
  refine oVal tt rfl rfl rfl rfl rfl trivial ?_
  obtain ⟨v1, hc1, h⟩ := bind_inv h
  refine oCall (I_IsPinned_w N p_0 v1 hc1) rfl rfl rfl rfl rfl rfl rfl rfl ⟨⟨rfl, rfl, rfl, trivial⟩, trivial⟩ ?_
  refine oVal tt rfl rfl rfl rfl rfl trivial ?_
  refine vNil ?_
  change VC _ _ _ _
  refine vCond rfl (fun hb2 => ?_) (fun hb2 => ?_)
  · replace h := cnd_t hb2 h
    refine vSeq ?_
    refine vRegion ?_
    refine oVal tt rfl rfl rfl rfl rfl trivial ?_
    refine vNil ?_
    change VC _ _ _ _
    refine vRet ?_
    change ∃ _, _
    cases h
    exact ⟨[], _, rfl, trivial, rfl, (.eq rfl), rfl⟩
  · replace h := cnd_f hb2 h
    refine vSkip ?_
    change VC _ _ _ _
    refine vSeq ?_
    refine vRegion ?_
    iterate 4 refine oVal tt rfl rfl rfl rfl rfl trivial ?_
    refine vNil ?_
    change VC _ _ _ _
    refine vSeq ?_
    refine vRegionN 11 [2, 6, 10, 1060001120] [0, 0, 2, 0, 8, 24, 62, 127, 0, 0, 767, 2047, 4095, 8191] (by kernel_rfl) (by kernel_rfl) (by kernel_rfl) (by kernel_rfl) (by kernel_rfl) rfl (by rfl) ?_
    iterate 2 refine nVal tt rfl (wNone rfl) rfl rfl rfl rfl rfl trivial ?_
    obtain ⟨v2, hc3, h⟩ := bind_inv h
    refine nCallR (M_Pinned_held_w N p_0 v2 hc3) rfl (wNone rfl) rfl rfl rfl rfl rfl rfl (by first | rfl | kernel_rfl | (simp [nrL, nm, gdst, nmT, rowB]; done)) rfl (by first | rfl | kernel_rfl | (simp [chkE, nrL, nm, gdst, nmT, rowB, hid, ment, mentA, mentS]; done) | (simp [chkE, nrL, nm, gdst, nmT, rowB, hid, ment, mentA, mentS]; decide)) ⟨⟨rfl, rfl, rfl, trivial⟩, trivial⟩ ?_
    iterate 3 refine nVal tt rfl (wNone rfl) rfl rfl rfl rfl rfl trivial ?_
    obtain ⟨hg4, h⟩ := grd_inv h
    refine nAppMove tt (wNone rfl) rfl rfl rfl rfl rfl rfl rfl rfl rfl rfl rfl rfl rfl rfl rfl rfl rfl rfl rfl rfl trivial hg4 ?_
    obtain ⟨v3, hc5, h⟩ := bind_inv h
    refine nCall (I_planeRank_w N p_0.g.n (v2 ++ p_0.g.bars) v3 hc5) rfl (wNone rfl) rfl rfl rfl rfl rfl rfl rfl rfl ⟨rfl, (.inl ⟨rfl, rfl⟩), trivial⟩ ?_
    iterate 2 refine nVal tt rfl (wNone rfl) rfl rfl rfl rfl rfl trivial ?_
    obtain ⟨v4, hc6, h⟩ := bind_inv h
    refine nCallR (M_Pinned_held_w N p_0 v4 hc6) rfl (wNone rfl) rfl rfl rfl rfl rfl rfl (by first | rfl | kernel_rfl | (simp [nrL, nm, gdst, nmT, rowB]; done)) rfl (by first | rfl | kernel_rfl | (simp [chkE, nrL, nm, gdst, nmT, rowB, hid, ment, mentA, mentS]; done) | (simp [chkE, nrL, nm, gdst, nmT, rowB, hid, ment, mentA, mentS]; decide)) ⟨⟨rfl, rfl, rfl, trivial⟩, trivial⟩ ?_
    refine nNil ?_
    change VO _ _ _ _ _
    obtain ⟨v5, hc7, h⟩ := bind_inv h
    refine oCall (I_planeRank_w N p_0.g.n v4 v5 hc7) rfl rfl rfl rfl rfl rfl rfl rfl ⟨rfl, (.inl ⟨rfl, rfl⟩), trivial⟩ ?_
    obtain ⟨hg8, h⟩ := grd_inv h
    refine oVal tt rfl rfl rfl rfl rfl hg8 ?_
    refine oVal tt rfl rfl rfl rfl rfl trivial ?_
    refine vNil ?_
    change VC _ _ _ _
    refine vRet ?_
    change ∃ _, _
    cases h
    exact ⟨[], _, rfl, trivial, rfl, (.eq rfl), rfl⟩
end Go.Proofs.Ytkpmijmlbpdknaa

namespace Go.Proofs.Ytkpmijmlbpdknaa
set_option linter.unusedVariables false
set_option linter.unusedSimpArgs false
variable {n : Nat} {f T : List Int} {a b : Int}
abbrev brI (bars : List (Int × Int)) (i : Int) : Int × Int := bars.getD i.toNat (0, 0)
/-- a state of the game on bars -/
structure PG (n : Nat) (bars : List (Int × Int)) (p : Pbl) : Prop where
  inv : PInv n (p.placed.map (brI bars)) p.free p.tails
  pl : ∀ i ∈ p.placed, 0 ≤ i ∧ i < (bars.length : Int)
theorem fsum_nn {n : Nat} {X : VS} {f : List Int} (nn : ∀ v : Nat, v < n → 0 ≤ f.getD v 0) : ∀ m, m ≤ n → 0 ≤ fsum X f m
  | 0, _ => by simp [fsum]
  | m + 1, hm => by
    have ih := fsum_nn (X := X) nn m (by omega)
    have := nn m (by omega)
    rw [fsum]; split <;> omega
theorem PInv.tlen {E : List (Int × Int)} (h : PInv n E f T) : T.length ≤ 2 * n := by
  have h1 := h.sum fun _ => true
  have h2 := fsum_nn (X := fun _ => true) h.nn n (Nat.le_refl _)
  have h3 : T.countP (fun _ => true) = T.length := by simp
  have h4 : vsz n (fun _ => true) = n := by simp [vsz]
  rw [h3, h4] at h1
  omega
theorem eAt {bars : List (Int × Int)} {pl : List Int} {i : Nat} (h : i < pl.length) : (pl.map (brI bars)).getD i (0, 0) = bars.getD (pl.getD i 0).toNat (0, 0) := by
  simp [List.getD_eq_getElem?_getD, List.getElem?_eq_getElem h]
section
variable {g : Grf} {p : Pbl} {N : Nat} (hN : 4000000 ≤ N) (hn : n ≤ 1000) (hg : g.n = n) (hp : PG n g.bars p)
include hp in
theorem PG.plAt {i : Nat} (h : i < p.placed.length) : 0 ≤ p.placed.getD i 0 ∧ p.placed.getD i 0 < (g.bars.length : Int) := hp.pl _ (getD_mem h)
include hp in
theorem PG.bok {i : Nat} (h : i < p.placed.length) : Bok n (g.bars.getD (p.placed.getD i 0).toNat (0, 0)) := by
  rw [← eAt h]; exact hp.inv.ok _ (getD_mem (by simpa using h))
theorem other_s {n : Nat} (hn : n ≤ 1000) {e : Int × Int} (he : Bok n e) {v : Int} (hv : 0 ≤ v ∧ v < n) : S_l4Other N e v = some (oth e v) := by
  obtain ⟨h1, h2, h3, h4, _⟩ := he
  unfold S_l4Other
  rw [grd_R (by omega) (by omega), grd_R (by omega) (by omega)]; rfl
include hn hp in
theorem shift_s {from' : List Int} {q : List Int} {u : Int} {v1 : Pbl} {kk : List Int → Option Pbl} (hfl : from'.length = n) (hb : BI n (p.placed.map (brI g.bars)) p.tails a q (fun v => from'.getD v.toNat 0)) (hv1 : v1.tails.length = p.tails.length) :
    ∀ (fuel j : Nat) (T' : List Int), j < q.length → j < fuel → Mv (p.placed.map (brI g.bars)) p.tails T' u (q.getD j 0) →
      (∀ j', 0 < j' → j' ≤ j → T'.getD (from'.getD (q.getD j' 0).toNat 0).toNat 0 = p.tails.getD (from'.getD (q.getD j' 0).toNat 0).toNat 0) →
      ∃ T'', Mv (p.placed.map (brI g.bars)) p.tails T'' u a ∧ S_l4Shift_l1 N g p from' a v1 kk fuel (T', q.getD j 0) = kk T'' := by
  intro fuel
  induction fuel with
  | zero => intro j T' _ h; omega
  | succ fuel ih =>
    intro j T' hj hf hm hun
    rw [S_l4Shift_l1]
    by_cases h0 : j = 0
    · subst h0
      refine ⟨T', by rw [hb.hd] at hm; exact hm, ?_⟩
      rw [cnd_nef hb.hd]
    · have hne : ¬ q.getD j 0 = a := by
        intro e
        rw [← hb.hd] at e
        have hp0 := hb.pos
        rw [List.getD_eq_getElem?_getD, List.getD_eq_getElem?_getD, List.getElem?_eq_getElem hj, List.getElem?_eq_getElem hp0] at e
        have := (List.getElem_inj hb.nd).1 e
        omega
      obtain ⟨j', i, g1, g2, g3, g4, g5, g6, g7⟩ := hb.back hp.inv (by omega) hj hm hun
      have hip : i < p.placed.length := by simpa using g2
      obtain ⟨T'', k1, k2⟩ := ih j' (T'.set i (q.getD j 0)) (by omega) (by omega) g6 g7
      refine ⟨T'', k1, ?_⟩
      have hr := hb.rg _ (getD_mem (d := 0) hj)
      have hpl := hp.plAt hip
      have htl := hp.inv.tl
      have hml := hm.len
      have eo := other_s (N := N) hn (hp.bok hip) hr
      rw [← eAt hip, g4] at eo
      rw [eAt hip] at eo
      simp only [List.length_map] at htl
      simp (disch := omega) only [Int.toNat_natCast, tk0, List.length_cons, List.length_nil, grd_pos, grd_T, grd_R, cnd_dt, cnd_df, cnd_true, cnd_false, Option.bind_some, cnd_net hne, g3, eo, hfl, hv1, hml, htl, k2]
include hN hn hp in
theorem shiftS_s {from' : List Int} {q : List Int} {j : Nat} (hfl : from'.length = n) (hb : BI n (p.placed.map (brI g.bars)) p.tails a q (fun v => from'.getD v.toNat 0)) (hj : j < q.length) (hj0 : 0 < j) (hbr : 0 ≤ b ∧ b < n) (hub : q.getD j 0 ≠ b) (hab : a ≠ b) (hf : 1 ≤ p.free.getD (q.getD j 0).toNat 0) :
    ∃ p' : Pbl, S_l4Shift N g p from' a (q.getD j 0) = some p' ∧ Won n (p.placed.map (brI g.bars)) p.free p'.free p'.tails a b ∧ p'.placed = p.placed := by
  have hu := hb.rg _ (getD_mem (d := 0) hj)
  have ha : 0 ≤ a ∧ a < n := by have := hb.rg _ (getD_mem (d := 0) hb.pos); rwa [hb.hd] at this
  have hua : q.getD j 0 ≠ a := by
    intro e
    rw [← hb.hd] at e
    have hp0 := hb.pos
    rw [List.getD_eq_getElem?_getD, List.getD_eq_getElem?_getD, List.getElem?_eq_getElem hj, List.getElem?_eq_getElem hp0] at e
    have := (List.getElem_inj hb.nd).1 e
    omega
  have hle := hb.len
  obtain ⟨T'', k1, k2⟩ := shift_s hn hp (N := N) (v1 := ⟨[] ++ p.free, [] ++ p.tails, [] ++ p.placed⟩) (u := q.getD j 0)
    (kk := fun l7 => grd (p.free.length = (fMove p.free (q.getD j 0) a).length) <| grd (p.tails.length = l7.length) <| some ⟨fMove p.free (q.getD j 0) a, l7, p.placed⟩) hfl hb (by simp) N j p.tails hj (by omega) (Mv.start hp.inv _) (fun _ _ _ => rfl)
  refine ⟨⟨fMove p.free (q.getD j 0) a, T'', p.placed⟩, ?_, k1.won hp.inv ha hu hbr hua hub hab hf, rfl⟩
  have f1 := hp.inv.fl
  have t1 := hp.inv.tl
  have t2 := hp.inv.tlen
  have t3 := k1.len
  simp only [List.length_map] at t1
  have b1 : p.free.getD (q.getD j 0).toNat 0 ≤ 2 := hp.inv.le2 (by omega)
  have b2 : 0 ≤ (p.free.set (q.getD j 0).toNat (p.free.getD (q.getD j 0).toNat 0 - 1)).getD a.toNat 0 ∧ (p.free.set (q.getD j 0).toNat (p.free.getD (q.getD j 0).toNat 0 - 1)).getD a.toNat 0 ≤ 2 := by
    rw [getD_set]
    have := hp.inv.le2 (v := a.toNat) (by omega)
    have := hp.inv.nn a.toNat (by omega)
    split <;> omega
  unfold S_l4Shift S_l4Copy
  simp (disch := omega) only [Int.toNat_natCast, tk0, List.length_cons, List.length_nil, grd_pos, grd_T, grd_R, cnd_dt, cnd_df, cnd_true, cnd_false, Option.bind_some, List.nil_append, List.length_set]
  simp only [List.nil_append] at k2
  simp only [fMove, List.length_set, grd_T] at k2 ⊢
  rw [k2]
  exact grd_pos t3.symm _
/-- what the search of the spec holds -/
structure FSt (n : Nat) (bars : List (Int × Int)) (p : Pbl) (a b : Int) (from' q : List Int) (seen : List Bool) : Prop where
  bi : BI n (p.placed.map (brI bars)) p.tails a q (fun v => from'.getD v.toNat 0)
  bz : BZ p.free a b q
  fl : from'.length = n
  sl : seen.length = n
  sq : ∀ v : Int, 0 ≤ v → v < n → seen.getD v.toNat false = decide (v ∈ q)
theorem oth_rg {e : Int × Int} (he : Bok n e) {v : Int} (h : v = e.1 ∨ v = e.2) : 0 ≤ oth e v ∧ oth e v < n := by
  obtain ⟨h1, h2, h3, h4, _⟩ := he
  unfold oth
  rcases h with rfl | rfl <;> omega
theorem FSt.pushB {bars : List (Int × Int)} {from' q : List Int} {seen : List Bool} (h : FSt n bars p a b from' q seen) {k i : Nat} {v : Int} (hk : k < q.length) (hi : i < p.placed.length) (ht : p.tails.getD i 0 = q.getD k 0) (hv : oth ((p.placed.map (brI bars)).getD i (0, 0)) (q.getD k 0) = v) (hr : 0 ≤ v ∧ v < n) (hn : v ∉ q) :
    BI n (p.placed.map (brI bars)) p.tails a (q ++ [v]) (fun w => (from'.set v.toNat (i : Int)).getD w.toNat 0) := by
  have hfl := h.fl
  refine h.bi.push (fr' := fun w => (from'.set v.toNat i).getD w.toNat 0) hk (by simpa using hi) ht hv hr hn ?_ fun w hw => ?_
  · show (from'.set v.toNat i).getD v.toNat 0 = i
    rw [getD_set, if_pos ⟨rfl, by omega⟩]
  · show (from'.set v.toNat i).getD w.toNat 0 = from'.getD w.toNat 0
    have := h.bi.rg w hw
    have hne : w ≠ v := fun e => hn (e ▸ hw)
    rw [getD_set, if_neg (by omega)]
theorem FSt.push {bars : List (Int × Int)} {from' q : List Int} {seen : List Bool} (h : FSt n bars p a b from' q seen) {k i : Nat} {v : Int} (hk : k < q.length) (hi : i < p.placed.length) (ht : p.tails.getD i 0 = q.getD k 0) (hv : oth ((p.placed.map (brI bars)).getD i (0, 0)) (q.getD k 0) = v) (hr : 0 ≤ v ∧ v < n) (hn : v ∉ q) (hz : v = b ∨ p.free.getD v.toNat 0 = 0) :
    FSt n bars p a b (from'.set v.toNat i) (q ++ [v]) (seen.set v.toNat true) := by
  have hfl := h.fl
  have hsl := h.sl
  refine ⟨h.pushB hk hi ht hv hr hn, h.bz.push hz, by simp [hfl], by simp [hsl], fun w h1 h2 => ?_⟩
  rw [getD_set]
  by_cases e : w = v
  · subst e
    rw [if_pos ⟨rfl, by omega⟩]; simp
  · rw [if_neg (by omega), h.sq w h1 h2]
    simp [e]
include hN hn hg hp in
theorem find2_s {l106 : List Int} {kk : (List Int × List Int × List Bool) → Option (Pbl × Bool)} {k : Nat} (hab : a ≠ b) (hbr : 0 ≤ b ∧ b < n) :
    ∀ (fuel m : Nat) (from' q : List Int) (seen : List Bool), m ≤ p.placed.length → p.placed.length < fuel + m → FSt n g.bars p a b from' q seen → Done (p.placed.map (brI g.bars)) p.tails q k m → k < q.length → q.getD k 0 = l106.getD k 0 →
      (∃ p' : Pbl, S_l4Find_l2 N g p a b l106 k kk fuel (from', q, seen, (m : Int)) = some (p', true) ∧ Won n (p.placed.map (brI g.bars)) p.free p'.free p'.tails a b ∧ p'.placed = p.placed) ∨
      ∃ from'' q' seen', S_l4Find_l2 N g p a b l106 k kk fuel (from', q, seen, (m : Int)) = kk (from'', q', seen') ∧ FSt n g.bars p a b from'' q' seen' ∧ Done (p.placed.map (brI g.bars)) p.tails q' (k + 1) 0 ∧ k < q'.length := by
  intro fuel
  induction fuel with
  | zero => intro m _ _ _ h1 h2; omega
  | succ fuel ih =>
    intro m from' q seen h1 h2 hF hD hk hq
    rw [S_l4Find_l2]
    have hlen : (p.placed.map (brI g.bars)).length = p.placed.length := by simp
    by_cases hm : m < p.placed.length
    · have htl := hp.inv.tl
      have hfr := hp.inv.fl
      have hfl := hF.fl
      have hsl := hF.sl
      rw [hlen] at htl
      have hpl := hp.plAt hm
      have ht2 := hp.inv.tlen
      by_cases ht : p.tails.getD m 0 = q.getD k 0
      · have hbk := hp.bok hm
        have hen := hp.inv.en m (by rw [hlen]; exact hm)
        rw [eAt hm] at hen
        rw [ht] at hen
        have hr0 := hF.bi.rg _ (getD_mem (d := 0) hk)
        have eo := other_s (N := N) hn hbk hr0
        have hvr := oth_rg hbk hen
        have ht' : p.tails.getD m 0 = l106.getD k 0 := ht.trans hq
        rw [hq] at eo
        generalize hv : oth (g.bars.getD (p.placed.getD m 0).toNat (0, 0)) (q.getD k 0) = v at hvr
        rw [← hq, hv] at eo
        rw [hq] at eo
        have hvo : oth ((p.placed.map (brI g.bars)).getD m (0, 0)) (q.getD k 0) = v := by rw [eAt hm, hv]
        have hsq := hF.sq v hvr.1 hvr.2
        by_cases hs : v ∈ q
        · have hsq : seen.getD v.toNat false = true := by rw [hsq]; exact decide_eq_true hs
          simp (disch := omega) only [Int.toNat_natCast, tk0, List.length_cons, List.length_nil, grd_pos, grd_T, grd_R, cnd_dt, cnd_df, cnd_true, cnd_false, Option.bind_some, cnd_nef ht', eo, hsq, hg, List.length_replicate, succ_cast]
          exact ih (m + 1) from' q seen (by omega) (by omega) hF (hD.step fun _ _ => by rw [hvo]; exact hs) hk hq
        · have hsq : seen.getD v.toNat false = false := by rw [hsq]; exact decide_eq_false hs
          have hD' : Done (p.placed.map (brI g.bars)) p.tails (q ++ [v]) k (m + 1) := (hD.push hk).step fun _ _ => by rw [getD_appl hk, hvo]; simp
          have hql := hF.bi.len
          by_cases hvb : v = b
          · have hF' := hF.push (i := m) hk hm ht hvo hvr hs (.inl hvb)
            simp (disch := omega) only [Int.toNat_natCast, tk0, List.length_cons, List.length_nil, grd_pos, grd_T, grd_R, cnd_dt, cnd_df, cnd_true, cnd_false, Option.bind_some, cnd_nef ht', eo, hsq, hg, List.length_replicate, succ_cast, cnd_nef hvb]
            exact ih (m + 1) _ _ _ (by omega) (by omega) hF' hD' (by simp; omega) (by rw [getD_appl hk]; exact hq)
          · by_cases hz : p.free.getD v.toNat 0 > 0
            · left
              have hb2 : BI n (p.placed.map (brI g.bars)) p.tails a (q ++ [v]) (fun w => (from'.set v.toNat (m : Int)).getD w.toNat 0) := hF.pushB hk hm ht hvo hvr hs
              have e1 : (q ++ [v]).getD q.length 0 = v := by rw [getD_app]; simp
              obtain ⟨p', s1, s2, s3⟩ := shiftS_s hN hn hp (from' := from'.set v.toNat (m : Int)) (q := q ++ [v]) (j := q.length) (a := a) (b := b) (by simp [hfl]) hb2 (by simp) (by have := hF.bi.pos; omega) hbr (by rw [e1]; exact hvb) hab (by rw [e1]; omega)
              rw [e1] at s1
              refine ⟨p', ?_, s2, s3⟩
              simp (disch := omega) only [Int.toNat_natCast, tk0, List.length_cons, List.length_nil, grd_pos, grd_T, grd_R, cnd_dt, cnd_df, cnd_true, cnd_false, Option.bind_some, cnd_nef ht', eo, hsq, hg, List.length_replicate, List.length_set, succ_cast, cnd_net hvb, s1]
            · have hz0 : p.free.getD v.toNat 0 = 0 := by have := hp.inv.nn v.toNat (by omega); omega
              have hF' := hF.push (i := m) hk hm ht hvo hvr hs (.inr hz0)
              simp (disch := omega) only [Int.toNat_natCast, tk0, List.length_cons, List.length_nil, grd_pos, grd_T, grd_R, cnd_dt, cnd_df, cnd_true, cnd_false, Option.bind_some, cnd_nef ht', eo, hsq, hg, List.length_replicate, succ_cast, cnd_net hvb]
              exact ih (m + 1) _ _ _ (by omega) (by omega) hF' hD' (by simp; omega) (by rw [getD_appl hk]; exact hq)
      · have ht' : ¬ p.tails.getD m 0 = l106.getD k 0 := by rw [← hq]; exact ht
        simp (disch := omega) only [Int.toNat_natCast, tk0, List.length_cons, List.length_nil, grd_pos, grd_T, grd_R, cnd_dt, cnd_df, cnd_true, cnd_false, Option.bind_some, cnd_net ht', succ_cast]
        exact ih (m + 1) from' q seen (by omega) (by omega) hF (hD.step fun _ e => absurd e ht) hk hq
    · right
      have e : m = (p.placed.map (brI g.bars)).length := by omega
      refine ⟨from', q, seen, ?_, hF, by subst e; exact hD.next, hk⟩
      simp (disch := omega) only [Int.toNat_natCast, tk0, List.length_cons, List.length_nil, grd_pos, grd_T, grd_R, cnd_dt, cnd_df, cnd_true, cnd_false, Option.bind_some]
include hN hn hg hp in
theorem find1_s {kk : Unit → Option (Pbl × Bool)} (hab : a ≠ b) (hbr : 0 ≤ b ∧ b < n) :
    ∀ (fuel k : Nat) (from' q : List Int) (seen : List Bool), n < fuel + k → FSt n g.bars p a b from' q seen → Done (p.placed.map (brI g.bars)) p.tails q k 0 → k ≤ q.length →
      (∃ p' : Pbl, S_l4Find_l1 N g p a b kk fuel (from', q, seen, (k : Int)) = some (p', true) ∧ Won n (p.placed.map (brI g.bars)) p.free p'.free p'.tails a b ∧ p'.placed = p.placed) ∨
      (S_l4Find_l1 N g p a b kk fuel (from', q, seen, (k : Int)) = kk () ∧ Shut n (p.placed.map (brI g.bars)) p.free p.tails a b) := by
  intro fuel
  induction fuel with
  | zero => intro k from' q seen h1 hF hD hk; have := hF.bi.len; omega
  | succ fuel ih =>
    intro k from' q seen h1 hF hD hk
    rw [S_l4Find_l1]
    have ht2 := hp.inv.tlen
    have htl := hp.inv.tl
    simp only [List.length_map] at htl
    by_cases hkq : k < q.length
    · have hql := hF.bi.len
      have key := find2_s (l106 := q) (kk := (fun (x : (List Int) × (List Int) × (List Bool)) =>
          match x with
          | (l143, l144, l145) =>
            grd (Rg64 ((k : Int) + (1 : Int))) <|
            S_l4Find_l1 N g p a b kk fuel (l143, l144, l145, ((k : Int) + (1 : Int))))) hN hn hg hp hab hbr N 0 from' q seen (by omega) (by omega) hF hD hkq rfl
      rw [show ((0 : Nat) : Int) = 0 from rfl] at key
      rcases key with ⟨p', g1, g2, g3⟩ | ⟨f2, q2, s2, g1, g2, g3, g4⟩
      · left
        refine ⟨p', ?_, g2, g3⟩
        rw [cnd_dt (by omega), grd_pos (by omega)]
        exact g1
      · have e : S_l4Find_l1 N g p a b kk (fuel + 1) (from', q, seen, (k : Int)) = S_l4Find_l1 N g p a b kk fuel (f2, q2, s2, ((k + 1 : Nat) : Int)) := by
          rw [S_l4Find_l1]
          rw [cnd_dt (by omega), grd_pos (by omega)]
          refine g1.trans ?_
          have := g2.bi.len
          simp (disch := omega) only [Int.toNat_natCast, tk0, List.length_cons, List.length_nil, grd_pos, grd_T, grd_R, cnd_dt, cnd_df, cnd_true, cnd_false, Option.bind_some, succ_cast]
        rw [S_l4Find_l1] at e
        rw [e]
        exact ih (k + 1) f2 q2 s2 (by omega) g2 g3 (by omega)
    · right
      refine ⟨?_, hF.bi.shut hF.bz hD (by omega)⟩
      simp (disch := omega) only [Int.toNat_natCast, tk0, List.length_cons, List.length_nil, grd_pos, grd_T, grd_R, cnd_dt, cnd_df, cnd_true, cnd_false, Option.bind_some]
theorem find3_s {kk : List Int → Option (Pbl × Bool)} (hN : 4000000 ≤ N) (hn : n ≤ 1000) (hg : g.n = n) : ∀ (fuel i : Nat) (l : List Int), n < fuel + i → i ≤ n → l.length = n → ∃ l' : List Int, l'.length = n ∧ S_l4Find_l3 N g kk fuel (l, (i : Int)) = kk l' := by
  intro fuel
  induction fuel with
  | zero => intro i l h1 h2 h3; omega
  | succ fuel ih =>
    intro i l h1 h2 h3
    rw [S_l4Find_l3]
    by_cases hi : i < n
    · obtain ⟨l', g1, g2⟩ := ih (i + 1) (l.set i (-1)) (by omega) (by omega) (by simp [h3])
      refine ⟨l', g1, ?_⟩
      simp (disch := omega) only [Int.toNat_natCast, tk0, List.length_cons, List.length_nil, grd_pos, grd_T, grd_R, cnd_dt, cnd_df, cnd_true, cnd_false, Option.bind_some, hg, List.length_replicate, succ_cast]
      exact g2
    · refine ⟨l, h3, ?_⟩
      simp (disch := omega) only [Int.toNat_natCast, tk0, List.length_cons, List.length_nil, grd_pos, grd_T, grd_R, cnd_dt, cnd_df, cnd_true, cnd_false, Option.bind_some, hg]
include hN hn hg hp in
theorem find_s (hb : Bok n (a, b)) :
    (∃ p' : Pbl, S_l4Find N g p a b = some (p', true) ∧ Won n (p.placed.map (brI g.bars)) p.free p'.free p'.tails a b ∧ p'.placed = p.placed) ∨
    (S_l4Find N g p a b = some (p, false) ∧ Shut n (p.placed.map (brI g.bars)) p.free p.tails a b) := by
  obtain ⟨h1, h2, h3, h4, h5⟩ := hb
  simp only at h1 h2 h3 h4 h5
  have e : ∃ l : List Int, l.length = n ∧ S_l4Find N g p a b = S_l4Find_l1 N g p a b (fun _ => some (p, false)) N (l, [a], (List.replicate n false).set a.toNat true, ((0 : Nat) : Int)) := by
    obtain ⟨l, g1, g2⟩ := find3_s (N := N) (kk := fun (l3 : List Int) =>
        grd (0 ≤ a ∧ a < ((List.replicate ((g.n).toNat) (false : Bool)).length : Int)) <|
        S_l4Find_l1 N g p a b (fun (_ : Unit) => some ((⟨p.free, p.tails, p.placed⟩ : Pbl), false)) N (l3, ([a] : List Int), ((List.replicate ((g.n).toNat) (false : Bool)).set ((a).toNat) true), (0 : Int))) hN hn hg N 0 (List.replicate n 0) (by omega) (by omega) (by simp)
    refine ⟨l, g1, ?_⟩
    unfold S_l4Find
    rw [grd_pos (by omega)]
    simp only [hg, Int.toNat_natCast] at g2 ⊢
    refine g2.trans ?_
    simp (disch := omega) only [Int.toNat_natCast, tk0, List.length_cons, List.length_nil, grd_pos, grd_T, grd_R, cnd_dt, cnd_df, cnd_true, cnd_false, Option.bind_some, List.length_replicate]
    rfl
  obtain ⟨l, hl, e⟩ := e
  rw [e]
  refine find1_s (kk := fun _ => some (p, false)) hN hn hg hp h5 ⟨h3, h4⟩ N 0 l [a] _ (by omega) ⟨BI.start ⟨h1, h2⟩, fun v hv h _ => absurd (by simpa using hv) h, hl, by simp, fun v g1 g2 => ?_⟩ Done.start (by simp)
  rw [getD_set]
  by_cases e : v = a
  · subst e
    rw [if_pos ⟨rfl, by simp; omega⟩]; simp
  · rw [if_neg (by omega)]
    simp [e, List.getD_eq_getElem?_getD, List.getElem?_replicate]
    split <;> rfl
end
section
variable {g : Grf} {N : Nat} (hN : 4000000 ≤ N) (hn : n ≤ 1000) (hg : g.n = n)
theorem Won.pg {bars : List (Int × Int)} {p p' : Pbl} (hp : PG n bars p) (h : Won n (p.placed.map (brI bars)) p.free p'.free p'.tails a b) (he : p'.placed = p.placed) : PG n bars p' := ⟨by rw [he]; exact h.inv, by rw [he]; exact hp.pl⟩
theorem Won.symm' {E : List (Int × Int)} {f f' T' : List Int} (h : Won n E f f' T' a b) : f'.getD a.toNat 0 + f'.getD b.toNat 0 = f.getD a.toNat 0 + f.getD b.toNat 0 + 1 := by rw [h.up, h.keep]; omega
theorem Bok.swap (h : Bok n (a, b)) : Bok n (b, a) := ⟨h.2.2.1, h.2.2.2.1, h.1, h.2.1, h.2.2.2.2.symm⟩
include hN hn hg in
theorem gather1_s (hb : Bok n (a, b)) {kk : (List Int × List Int × List Int) → Option (Pbl × Bool)} : ∀ (fuel : Nat) (p : Pbl), PG n g.bars p → 4 < fuel + (p.free.getD a.toNat 0 + p.free.getD b.toNat 0) →
    ∃ p' : Pbl, p'.placed = p.placed ∧ PG n g.bars p' ∧ ((S_l4Gather_l1 N g a b 4 kk fuel (p.free, p.tails, p.placed) = kk (p'.free, p'.tails, p'.placed) ∧ 4 ≤ p'.free.getD a.toNat 0 + p'.free.getD b.toNat 0) ∨
      (S_l4Gather_l1 N g a b 4 kk fuel (p.free, p.tails, p.placed) = some (p', false) ∧ ∃ X, Tgt n (p.placed.map (brI g.bars)) X ∧ inX X (a, b) = true)) := by
  obtain ⟨h1, h2, h3, h4, h5⟩ := id hb
  simp only at h1 h2 h3 h4 h5
  intro fuel
  induction fuel with
  | zero =>
    intro p hp hf
    have := hp.inv.le2 (v := a.toNat) (by omega)
    have := hp.inv.le2 (v := b.toNat) (by omega)
    omega
  | succ fuel ih =>
    intro p hp hf
    have fl := hp.inv.fl
    have l1 := hp.inv.le2 (v := a.toNat) (by omega)
    have l2 := hp.inv.le2 (v := b.toNat) (by omega)
    have n1 := hp.inv.nn a.toNat (by omega)
    have n2 := hp.inv.nn b.toNat (by omega)
    rw [S_l4Gather_l1]
    by_cases hs : p.free.getD a.toNat 0 + p.free.getD b.toNat 0 < 4
    · rcases find_s hN hn hg hp hb with ⟨p1, f1, f2, f3⟩ | ⟨f1, f2⟩
      · obtain ⟨p', g1, g2, g3⟩ := ih p1 (f2.pg hp f3) (by have := f2.symm'; omega)
        refine ⟨p', g1.trans f3, g2, ?_⟩
        rw [f3] at g3
        have e : (⟨p.free, p.tails, p.placed⟩ : Pbl) = p := rfl
        simp (disch := omega) only [Int.toNat_natCast, tk0, List.length_cons, List.length_nil, grd_pos, grd_T, grd_R, cnd_dt, cnd_df, cnd_true, cnd_false, Option.bind_some, e, f1]
        rw [f3]
        exact g3
      · rcases find_s hN hn hg hp hb.swap with ⟨p1, k1, k2, k3⟩ | ⟨k1, k2⟩
        · obtain ⟨p', g1, g2, g3⟩ := ih p1 (k2.pg hp k3) (by have := k2.symm'; omega)
          refine ⟨p', g1.trans k3, g2, ?_⟩
          rw [k3] at g3
          have e : (⟨p.free, p.tails, p.placed⟩ : Pbl) = p := rfl
          simp (disch := omega) only [Int.toNat_natCast, tk0, List.length_cons, List.length_nil, grd_pos, grd_T, grd_R, cnd_dt, cnd_df, cnd_true, cnd_false, Option.bind_some, e, f1, k1]
          rw [k3]
          exact g3
        · refine ⟨p, rfl, hp, .inr ⟨?_, Shut.tgt hp.inv hb f2 k2 (by omega)⟩⟩
          have e : (⟨p.free, p.tails, p.placed⟩ : Pbl) = p := rfl
          simp (disch := omega) only [Int.toNat_natCast, tk0, List.length_cons, List.length_nil, grd_pos, grd_T, grd_R, cnd_dt, cnd_df, cnd_true, cnd_false, Option.bind_some, e, f1, k1]
    · refine ⟨p, rfl, hp, .inl ⟨?_, by omega⟩⟩
      simp (disch := omega) only [Int.toNat_natCast, tk0, List.length_cons, List.length_nil, grd_pos, grd_T, grd_R, cnd_dt, cnd_df, cnd_true, cnd_false, Option.bind_some]
include hN hn hg in
theorem gather_s (hb : Bok n (a, b)) {p : Pbl} (hp : PG n g.bars p) : ∃ p' : Pbl, p'.placed = p.placed ∧ PG n g.bars p' ∧ ((S_l4Gather N g p a b 4 = some (p', true) ∧ 4 ≤ p'.free.getD a.toNat 0 + p'.free.getD b.toNat 0) ∨
      (S_l4Gather N g p a b 4 = some (p', false) ∧ ∃ X, Tgt n (p.placed.map (brI g.bars)) X ∧ inX X (a, b) = true)) := by
  obtain ⟨h1, h2, h3, h4, h5⟩ := id hb
  simp only at h1 h2 h3 h4 h5
  have n1 := hp.inv.nn a.toNat (by omega)
  have n2 := hp.inv.nn b.toNat (by omega)
  have fl := hp.inv.fl
  have tl := hp.inv.tl
  simp only [List.length_map] at tl
  have t2 := hp.inv.tlen
  obtain ⟨p', g1, g2, g3⟩ := gather1_s hN hn hg hb (kk := fun x => match x with | (l11, l12, l13) => some ((⟨l11, l12, l13⟩ : Pbl), true)) N p hp (by omega)
  refine ⟨p', g1, g2, ?_⟩
  unfold S_l4Gather S_l4Copy
  simp (disch := omega) only [Int.toNat_natCast, tk0, List.length_cons, List.length_nil, grd_pos, grd_T, grd_R, cnd_dt, cnd_df, cnd_true, cnd_false, Option.bind_some, List.nil_append]
  exact g3
end
end Go.Proofs.Ytkpmijmlbpdknaa

namespace Go.Proofs.Ytkpmijmlbpdknaa
set_option linter.unusedVariables false
set_option linter.unusedSimpArgs false
variable (N : Nat)
theorem l1In_s (x lo hi : Int) : S_l1In N x lo hi = some (inB x lo hi) := by
  unfold S_l1In inB
  rw [cnd_some]
  show some (cnd (decide (lo ≤ x)) _ _) = _
  cases decide (lo ≤ x) <;> rfl
theorem within_s (x lo hi : Int) : I_within N x lo hi = some (inB x lo hi) := by
  unfold I_within inB
  rw [cnd_some]
  show some (cnd (decide (lo ≤ x)) _ _) = _
  cases decide (lo ≤ x) <;> rfl
theorem l2Has_s (hN : 4000000 ≤ N) {l : List Int} (hl : l.length ≤ 3000000) (x : Int) : S_l2Has N l x = some (l.contains x) := by
  unfold S_l2Has
  refine (srch (len := l.length) (ok := fun i => !(l.getD i 0 == x)) (bad := some true) (fin := some false) (by omega) ?_ ?_).trans ?_
  · intro n i hi _
    rw [S_l2Has_l1]
    simp (disch := omega) only [Int.toNat_natCast, tk0, List.length_cons, List.length_nil, grd_pos, grd_T, grd_R, cnd_dt, cnd_df, cnd_true, cnd_false, Option.bind_some, cnd_not, succ_cast]
  · intro n _
    rw [S_l2Has_l1]
    simp (disch := omega) only [Int.toNat_natCast, tk0, List.length_cons, List.length_nil, grd_pos, grd_T, grd_R, cnd_dt, cnd_df, cnd_true, cnd_false, Option.bind_some]
  · rw [range_all_not_contains, cnd_some]; cases l.contains x <;> rfl
theorem indexInt_l (hN : 4000000 ≤ N) {l : List Int} (hl : l.length ≤ 3000000) (x : Int) : ∀ n i : Nat, i ≤ l.length → l.length < n + i → ∃ r : Int, G_Index_int_l1 N l x (fun _ => some (-1)) n (i : Int) = some r ∧ (decide (r ≥ 0) = (l.drop i).contains x) := by
  intro n
  induction n with
  | zero => intro i h1 h2; omega
  | succ n ih =>
    intro i h1 h2
    rw [G_Index_int_l1]
    by_cases hi : i < l.length
    · simp (disch := omega) only [Int.toNat_natCast, tk0, List.length_cons, List.length_nil, grd_pos, grd_T, grd_R, cnd_dt, cnd_df, cnd_true, cnd_false, Option.bind_some]
      rw [List.drop_eq_getElem_cons hi, List.contains_cons]
      have e : l.getD i 0 = l[i] := by simp [List.getD_eq_getElem?_getD, hi]
      rw [e]
      cases h : x == l[i] with
      | true => exact ⟨i, rfl, by simp⟩
      | false =>
        obtain ⟨r, h1, h2⟩ := ih (i + 1) (by omega) (by omega)
        exact ⟨r, h1, by rw [h2]; rfl⟩
    · simp (disch := omega) only [Int.toNat_natCast, tk0, List.length_cons, List.length_nil, grd_pos, grd_T, grd_R, cnd_dt, cnd_df, cnd_true, cnd_false, Option.bind_some]
      exact ⟨-1, rfl, by rw [List.drop_eq_nil_of_le (by omega)]; rfl⟩
theorem contains_s (hN : 4000000 ≤ N) {l : List Int} (hl : l.length ≤ 3000000) (x : Int) : G_Contains_int N l x = some (l.contains x) := by
  unfold G_Contains_int G_Index_int
  obtain ⟨r, h1, h2⟩ := indexInt_l N hN hl x N 0 (by omega) (by omega)
  rw [show (0 : Int) = ((0 : Nat) : Int) from rfl, h1]
  show some (decide (r ≥ 0)) = _
  rw [h2]; rfl
theorem l2After_s (a b : Int × Int) : S_l2After N a b = some (barLeB a b) := by
  unfold S_l2After barLeB
  simp only [cnd_some]
  cases decide (a.1 < b.1) <;> cases a.1 == b.1 <;> rfl
theorem compareInts_s (a b : Int) : I_compareInts N a b = some (cmpI a b) := by
  unfold I_compareInts cmpI
  by_cases h : a < b
  · simp (disch := omega) only [Int.toNat_natCast, tk0, List.length_cons, List.length_nil, grd_pos, grd_T, grd_R, cnd_dt, cnd_df, cnd_true, cnd_false, Option.bind_some, if_pos h]
  · by_cases h' : b < a
    · simp (disch := omega) only [Int.toNat_natCast, tk0, List.length_cons, List.length_nil, grd_pos, grd_T, grd_R, cnd_dt, cnd_df, cnd_true, cnd_false, Option.bind_some, if_neg h, if_pos h', gt_iff_lt]
    · simp (disch := omega) only [Int.toNat_natCast, tk0, List.length_cons, List.length_nil, grd_pos, grd_T, grd_R, cnd_dt, cnd_df, cnd_true, cnd_false, Option.bind_some, if_neg h, if_neg h', gt_iff_lt]
theorem compareBars_s (a b : Int × Int) : I_compareBars N a b = some (cmpBar a b) := by
  unfold I_compareBars cmpBar
  simp only [compareInts_s, Option.bind_some]
  by_cases h : cmpI a.1 b.1 = 0
  · rw [if_pos h, cnd_nef h]
  · rw [if_neg h, cnd_net h]
theorem cmpBar_gt (a b : Int × Int) : decide (cmpBar a b > 0) = !barLeB a b := by
  have := cmpBar_pos a b
  cases h : barLeB a b with
  | true => rw [h] at this; simp at this; simp; omega
  | false => rw [h] at this; simp at this; simp; omega
theorem isGraphS_s (hN : 4000000 ≤ N) {g : Grf} : S_IsGraph N g = some (isGraph g) := by
  unfold S_IsGraph isGraph
  rw [l1In_s, Option.bind_some, cnd_not]
  cases h1 : inB g.n 1 8 with
  | false => rfl
  | true =>
    by_cases h2 : g.bars.length ≤ 24
    · simp (disch := omega) only [Int.toNat_natCast, tk0, List.length_cons, List.length_nil, grd_pos, grd_T, grd_R, cnd_dt, cnd_df, cnd_true, cnd_false, Option.bind_some]
      refine (srch (len := g.bars.length) (ok := barAt g.n g.bars) (bad := some false) (fin := some true) (by omega) ?_ ?_).trans ?_
      · intro n i hi _
        rw [S_IsGraph_l1]
        by_cases h0 : i = 0
        · subst h0
          simp (disch := omega) only [Int.toNat_natCast, tk0, List.length_cons, List.length_nil, grd_pos, grd_T, grd_R, cnd_dt, cnd_df, cnd_true, cnd_false, Option.bind_some, l2After_s, cnd_or, cnd_and, succ_cast]
          refine cnd_congr' ?_ _ _
          simp only [barAt, barOkB]
          rw [Bool.eq_iff_iff]; simp; omega
        · simp (disch := omega) only [Int.toNat_natCast, tk0, List.length_cons, List.length_nil, grd_pos, grd_T, grd_R, cnd_dt, cnd_df, cnd_true, cnd_false, Option.bind_some, l2After_s, cnd_or, cnd_and, succ_cast, show ((i : Int) - 1).toNat = i - 1 from by omega]
          refine cnd_congr' ?_ _ _
          simp only [barAt, barOkB, decide_eq_false h0, Bool.false_or]
          cases barLeB (g.bars.getD (i - 1) (0, 0)) (g.bars.getD i (0, 0)) <;> (rw [Bool.eq_iff_iff]; simp; try omega)
      · intro n _
        rw [S_IsGraph_l1]
        simp (disch := omega) only [Int.toNat_natCast, tk0, List.length_cons, List.length_nil, grd_pos, grd_T, grd_R, cnd_dt, cnd_df, cnd_true, cnd_false, Option.bind_some]
      · rw [cnd_some, cnd_bool]; simp [h2]
    · simp (disch := omega) only [Int.toNat_natCast, tk0, List.length_cons, List.length_nil, grd_pos, grd_T, grd_R, cnd_dt, cnd_df, cnd_true, cnd_false, Option.bind_some]
      simp [h2]
theorem isGraphI_s (hN : 4000000 ≤ N) {g : Grf} : I_IsGraph N g = some (isGraph g) := by
  unfold I_IsGraph isGraph
  rw [within_s, Option.bind_some, cnd_not]
  cases h1 : inB g.n 1 8 with
  | false => rfl
  | true =>
    by_cases h2 : g.bars.length ≤ 24
    · simp (disch := omega) only [Int.toNat_natCast, tk0, List.length_cons, List.length_nil, grd_pos, grd_T, grd_R, cnd_dt, cnd_df, cnd_true, cnd_false, Option.bind_some]
      refine (srch (len := g.bars.length) (ok := barAt g.n g.bars) (bad := some false) (fin := some true) (by omega) ?_ ?_).trans ?_
      · intro n i hi _
        rw [I_IsGraph_l1]
        by_cases h0 : i = 0
        · subst h0
          simp (disch := omega) only [Int.toNat_natCast, tk0, List.length_cons, List.length_nil, grd_pos, grd_T, grd_R, cnd_dt, cnd_df, cnd_true, cnd_false, Option.bind_some, compareBars_s, cmpBar_gt, cnd_or, cnd_and, succ_cast]
          refine cnd_congr' ?_ _ _
          simp only [barAt, barOkB]
          rw [Bool.eq_iff_iff]; simp; omega
        · simp (disch := omega) only [Int.toNat_natCast, tk0, List.length_cons, List.length_nil, grd_pos, grd_T, grd_R, cnd_dt, cnd_df, cnd_true, cnd_false, Option.bind_some, compareBars_s, cmpBar_gt, cnd_or, cnd_and, succ_cast, show ((i : Int) - 1).toNat = i - 1 from by omega]
          refine cnd_congr' ?_ _ _
          simp only [barAt, barOkB, decide_eq_false h0, Bool.false_or]
          cases barLeB (g.bars.getD (i - 1) (0, 0)) (g.bars.getD i (0, 0)) <;> (rw [Bool.eq_iff_iff]; simp; try omega)
      · intro n _
        rw [I_IsGraph_l1]
        simp (disch := omega) only [Int.toNat_natCast, tk0, List.length_cons, List.length_nil, grd_pos, grd_T, grd_R, cnd_dt, cnd_df, cnd_true, cnd_false, Option.bind_some]
      · rw [cnd_some, cnd_bool]; simp [h2]
    · simp (disch := omega) only [Int.toNat_natCast, tk0, List.length_cons, List.length_nil, grd_pos, grd_T, grd_R, cnd_dt, cnd_df, cnd_true, cnd_false, Option.bind_some]
      simp [h2]
end Go.Proofs.Ytkpmijmlbpdknaa

namespace Go.Proofs.Ytkpmijmlbpdknaa
set_option linter.unusedVariables false
set_option linter.unusedSimpArgs false
variable {n : Nat} {N : Nat}
/-- three tight sets in a ring: a tight set with all corners -/
theorem tri {L : List (Int × Int)} (hL : Spr n L) (hok : ∀ e ∈ L, Bok n e) {A B C : VS} (hA : Tgt n L A) (hB : Tgt n L B) (hC : Tgt n L C) {x y z : Int} (hx : 0 ≤ x ∧ x < n) (hy : 0 ≤ y ∧ y < n) (hz : 0 ≤ z ∧ z < n) (hxy : x ≠ y) (hxz : x ≠ z) (hyz : y ≠ z)
    (ax : A x = true) (ay : A y = true) (bx : B x = true) (bz : B z = true) (cy : C y = true) (cz : C z = true) : ∃ W, Tgt n L W ∧ W x = true ∧ W y = true ∧ W z = true := by
  by_cases h1 : 2 ≤ vsz n (vI A B)
  · exact ⟨vU A B, hA.union hL hB h1, by simp [vU, ax], by simp [vU, ay], by simp [vU, bz]⟩
  by_cases h2 : 2 ≤ vsz n (vI A C)
  · exact ⟨vU A C, hA.union hL hC h2, by simp [vU, ax], by simp [vU, ay], by simp [vU, cz]⟩
  by_cases h3 : 2 ≤ vsz n (vI B C)
  · exact ⟨vU B C, hB.union hL hC h3, by simp [vU, bx], by simp [vU, cy], by simp [vU, bz]⟩
  have s1 : Small n A B := by unfold Small; omega
  have s2 : Small n A C := by unfold Small; omega
  have s3 : Small n B C := by unfold Small; omega
  have sums : ∀ L' : List (Int × Int), (∀ e ∈ L', Bok n e) → spn A L' + spn B L' + spn C L' ≤ spn (vU (vU A B) C) L' := by
    intro L'
    induction L' with
    | nil => intro _; simp [spn]
    | cons e L' ih =>
      intro h
      have ih := ih fun e he => h e (by simp [he])
      have b := h e (by simp)
      have t1 := spn_two s1 b
      have t2 := spn_two s2 b
      have t3 := spn_two s3 b
      rw [spn_cons, spn_cons, spn_cons, spn_cons]
      have up : (inX A e || inX B e || inX C e) = true → inX (vU (vU A B) C) e = true := by
        simp only [inX, vU, Bool.or_eq_true, Bool.and_eq_true]
        rintro ((⟨g1, g2⟩ | ⟨g1, g2⟩) | ⟨g1, g2⟩)
        · exact ⟨.inl (.inl g1), .inl (.inl g2)⟩
        · exact ⟨.inl (.inr g1), .inl (.inr g2)⟩
        · exact ⟨.inr g1, .inr g2⟩
      revert t1 t2 t3 up
      generalize inX A e = p
      generalize inX B e = q
      generalize inX C e = r
      generalize inX (vU (vU A B) C) e = w
      intro t1 t2 t3 up
      cases p <;> cases q <;> cases r <;> simp at t1 t2 t3 up ⊢ <;> first | omega | (subst up; simp; omega)
  have a1 := sums L hok
  have c1 := vsz_UI n A B
  have c2 := vsz_UI n (vU A B) C
  have d1 : 1 ≤ vsz n (vI A B) := by
    obtain ⟨x', rfl⟩ := Int.eq_ofNat_of_zero_le hx.1
    exact List.countP_pos_iff.2 ⟨x', by simp; omega, by simp [vI, ax, bx]⟩
  have d2 : 2 ≤ vsz n (vI (vU A B) C) := countP_two hy hz hyz (by simp [vI, vU, ay, cy]) (by simp [vI, vU, bz, cz])
  have e1 := hA.eq hL
  have e2 := hB.eq hL
  have e3 := hC.eq hL
  refine ⟨vU (vU A B) C, ⟨?_, by omega⟩, by simp [vU, ax], by simp [vU, ay], by simp [vU, bz]⟩
  exact countP_two hx hy hxy (by simp [vU, ax]) (by simp [vU, ay])

/-! ### the game's outcome -/
/-- a game after the first i bars -/
structure Gm (n : Nat) (bars : List (Int × Int)) (p : Pbl) (i : Nat) : Prop where
  pg : PG n bars p
  spr : Spr n (p.placed.map (brI bars))
  sp : ∀ j, j < i → ∃ X, Tgt n (p.placed.map (brI bars)) X ∧ inX X (bars.getD j (0, 0)) = true
theorem Gm.skip {bars : List (Int × Int)} {p : Pbl} {i : Nat} (h : Gm n bars p i) (hX : ∃ X, Tgt n (p.placed.map (brI bars)) X ∧ inX X (bars.getD i (0, 0)) = true) : Gm n bars p (i + 1) := ⟨h.pg, h.spr, fun j hj => by
  by_cases e : j = i
  · subst e; exact hX
  · exact h.sp j (by omega)⟩
theorem Gm.put {bars : List (Int × Int)} {p p' : Pbl} {i : Nat} (h : Gm n bars p i) (hi : i < bars.length) (hb : Bok n (bars.getD i (0, 0))) (hp : p'.placed = p.placed) (hg : PG n bars p') {t : Int} (ht : t = (bars.getD i (0, 0)).1 ∨ t = (bars.getD i (0, 0)).2) (hf : 1 ≤ p'.free.getD t.toNat 0) (h4 : 4 ≤ p'.free.getD (bars.getD i (0, 0)).1.toNat 0 + p'.free.getD (bars.getD i (0, 0)).2.toNat 0) :
    Gm n bars ⟨p'.free.set t.toNat (p'.free.getD t.toNat 0 - 1), p'.tails ++ [t], p'.placed ++ [(i : Int)]⟩ (i + 1) := by
  have hE : ((p'.placed ++ [(i : Int)]).map (brI bars)) = p.placed.map (brI bars) ++ [bars.getD i (0, 0)] := by rw [hp]; simp
  have hg' := hg.inv
  rw [hp] at hg'
  have hs : Spr n (p.placed.map (brI bars) ++ [bars.getD i (0, 0)]) := hg'.acc h.spr (a := (bars.getD i (0, 0)).1) (b := (bars.getD i (0, 0)).2) hb h4
  refine ⟨⟨?_, fun x hx => ?_⟩, ?_, fun j hj => ?_⟩
  · show PInv n ((p'.placed ++ [(i : Int)]).map (brI bars)) _ _
    rw [hE]
    exact hg'.put (a := (bars.getD i (0, 0)).1) (b := (bars.getD i (0, 0)).2) hb ht hf
  · rcases List.mem_append.1 hx with hx | hx
    · exact hg.pl x hx
    · simp at hx; subst hx; exact ⟨by omega, by omega⟩
  · show Spr n ((p'.placed ++ [(i : Int)]).map (brI bars))
    rw [hE]; exact hs
  · show ∃ X, Tgt n ((p'.placed ++ [(i : Int)]).map (brI bars)) X ∧ _
    rw [hE]
    by_cases e : j = i
    · subst e
      exact ⟨_, tgt_bar (by simp) hb, by simp [inX, v2]⟩
    · obtain ⟨X, g1, g2⟩ := h.sp j (by omega)
      exact ⟨X, g1.grow (by rw [spn_append]; omega), g2⟩
theorem Gm.bas {bars : List (Int × Int)} {p : Pbl} (h : Gm n bars p bars.length) : Bas n bars (p.placed.map (brI bars)) := by
  refine ⟨fun e he => ?_, h.spr, fun e he => ?_⟩
  · obtain ⟨i, hi, rfl⟩ := List.mem_map.1 he
    have := h.pg.pl i hi
    exact getD_mem (by omega)
  · obtain ⟨j, hj, e'⟩ := List.mem_iff_getElem.1 he
    have := h.sp j hj
    rwa [List.getD_eq_getElem?_getD, List.getElem?_eq_getElem hj, Option.getD_some, e'] at this
theorem Gm.start (bars : List (Int × Int)) : Gm n bars ⟨List.replicate n 2, [], []⟩ 0 := by
  refine ⟨⟨⟨by simp, by simp, by simp, by simp, fun v hv => ?_, fun v hv => ?_⟩, by simp⟩, fun X h => by simp [spn] at h, fun j h => by omega⟩
  · simp [List.getD_eq_getElem?_getD, List.getElem?_replicate, hv]
  · simp [List.getD_eq_getElem?_getD, List.getElem?_replicate, hv]
variable {g : Grf} (hN : 4000000 ≤ N) (hn : n ≤ 1000) (hg : g.n = n)
include hN hn hg in
theorem rank1_s {kk : Int → Option Int} (hb : ∀ e ∈ g.bars, Bok n e) (hl : g.bars.length ≤ 1000) : ∀ (fuel i : Nat) (p : Pbl), i ≤ g.bars.length → g.bars.length < fuel + i → Gm n g.bars p i →
    ∃ I, Bas n g.bars I ∧ S_l6Rank_l1 N g kk fuel (p.free, p.tails, p.placed, (p.placed.length : Int), (i : Int), p.free.length) = kk (I.length : Int) := by
  intro fuel
  induction fuel with
  | zero => intro i p h1 h2; omega
  | succ fuel ih =>
    intro i p h1 h2 h
    rw [S_l6Rank_l1]
    by_cases hi : i < g.bars.length
    · have hbi := hb _ (getD_mem (d := (0, 0)) hi)
      have r1 := hbi.1
      have r2 := hbi.2.1
      have r3 := hbi.2.2.1
      have r4 := hbi.2.2.2.1
      have e : (⟨p.free, p.tails, p.placed⟩ : Pbl) = p := rfl
      obtain ⟨p', g1, g2, ⟨g3, g4⟩ | ⟨g3, g4⟩⟩ := gather_s hN hn hg (a := (g.bars.getD i (0, 0)).1) (b := (g.bars.getD i (0, 0)).2) hbi h.pg
      · have le1 := g2.inv.le2 (v := (g.bars.getD i (0, 0)).2.toNat) (by omega)
        have le2 := g2.inv.le2 (v := (g.bars.getD i (0, 0)).1.toNat) (by omega)
        have hput := h.put hi hbi g1 g2 (.inl rfl) (by omega) g4
        obtain ⟨I, k1, k2⟩ := ih (i + 1) _ (by omega) (by omega) hput
        refine ⟨I, k1, ?_⟩
        have fl := g2.inv.fl
        have tl := g2.inv.tl
        simp only [List.length_map] at tl
        have t2 := g2.inv.tlen
        have pl : p.placed.length ≤ 2 * n := by rw [← g1, ← tl]; exact t2
        simp (disch := omega) only [Int.toNat_natCast, tk0, List.length_cons, List.length_nil, grd_pos, grd_T, grd_R, cnd_dt, cnd_df, cnd_true, cnd_false, Option.bind_some, e, g3, Bool.not_true, g1, succ_cast]
        simp only [List.length_set, List.length_append, List.length_cons, List.length_nil] at k2
        rw [g1] at k2
        exact k2
      · obtain ⟨I, k1, k2⟩ := ih (i + 1) p (by omega) (by omega) (h.skip g4)
        refine ⟨I, k1, ?_⟩
        simp (disch := omega) only [Int.toNat_natCast, tk0, List.length_cons, List.length_nil, grd_pos, grd_T, grd_R, cnd_dt, cnd_df, cnd_true, cnd_false, Option.bind_some, e, g3, Bool.not_false, succ_cast]
        exact k2
    · have e : i = g.bars.length := by omega
      subst e
      refine ⟨_, h.bas, ?_⟩
      simp (disch := omega) only [Int.toNat_natCast, tk0, List.length_cons, List.length_nil, grd_pos, grd_T, grd_R, cnd_dt, cnd_df, cnd_true, cnd_false, Option.bind_some, List.length_map]
theorem pebbles_s (hN : 4000000 ≤ N) (hn : 1 ≤ n ∧ n ≤ 8) : S_NewPebbles N ⟨(n : Int), []⟩ 2 = some (⟨List.replicate n 2, [], []⟩, true) := by
  unfold S_NewPebbles
  have h1 : isGraph ⟨(n : Int), []⟩ = true := isGraph_true (by simp [inB]; omega) (by simp) (fun i hi => by simp at hi)
  have h2 : inB (2 : Int) 1 3 = true := by decide
  simp (disch := omega) only [Int.toNat_natCast, tk0, List.length_cons, List.length_nil, grd_pos, grd_T, grd_R, cnd_dt, cnd_df, cnd_true, cnd_false, Option.bind_some, isGraphS_s N hN, h1, l1In_s N, h2, Bool.not_true]
  refine (fold (len := n) (st := fun i => List.replicate i (2 : Int)) (by omega) ?_ ?_)
  · intro m i hi
    rw [S_NewPebbles_l1]
    simp (disch := omega) only [Int.toNat_natCast, tk0, List.length_cons, List.length_nil, grd_pos, grd_T, grd_R, cnd_dt, cnd_df, cnd_true, cnd_false, Option.bind_some, List.length_replicate, succ_cast]
    rw [List.replicate_succ']
  · intro m
    rw [S_NewPebbles_l1]
    simp (disch := omega) only [Int.toNat_natCast, tk0, List.length_cons, List.length_nil, grd_pos, grd_T, grd_R, cnd_dt, cnd_df, cnd_true, cnd_false, Option.bind_some]
include hN hg in
theorem rank_s (hn : 1 ≤ n ∧ n ≤ 8) (hb : ∀ e ∈ g.bars, Bok n e) (hl : g.bars.length ≤ 1000) : ∃ I, Bas n g.bars I ∧ S_l6Rank N g = some (I.length : Int) := by
  obtain ⟨I, h1, h2⟩ := rank1_s hN (by omega) hg (kk := fun x => some x) hb hl N 0 ⟨List.replicate n 2, [], []⟩ (by omega) (by omega) (Gm.start g.bars)
  refine ⟨I, h1, ?_⟩
  unfold S_l6Rank
  rw [hg, pebbles_s hN hn]
  simp only [Option.bind_some]
  exact h2
end Go.Proofs.Ytkpmijmlbpdknaa

namespace Go.Proofs.Ytkpmijmlbpdknaa
set_option linter.unusedVariables false
set_option linter.unusedSimpArgs false
variable {n : Nat} {a b : Int} {N : Nat}
theorem mfind_app : ∀ (l : List (Int × Int)) (k v w : Int), mfind (l ++ [(k, v)]) w = match mfind l w with | some p => some p | none => if k = w then some (l.length, v) else none
  | [], k, v, w => by simp [mfind]
  | (x, y) :: l, k, v, w => by
    simp only [List.cons_append, mfind]
    by_cases h : x = w
    · simp [h]
    · rw [if_neg h, if_neg h, mfind_app l k v w]
      cases mfind l w with
      | some p => simp
      | none => simp only [Option.map_none]; split <;> simp
theorem mset_new {l : List (Int × Int)} {k v : Int} (h : mhas l k = false) : mset l k v = l ++ [(k, v)] := by
  unfold mhas at h
  unfold mset
  cases hm : mfind l k with
  | none => rfl
  | some p => rw [hm] at h; cases h
theorem mget_new {l : List (Int × Int)} {k v : Int} (h : mhas l k = false) : mget (mset l k v) k = v := by
  rw [mset_new h]
  unfold mget
  rw [mfind_app]
  unfold mhas at h
  cases hm : mfind l k with
  | none => simp
  | some p => rw [hm] at h; cases h
theorem mget_old {l : List (Int × Int)} {k v w : Int} (h : mhas l k = false) (hw : mhas l w = true) : mget (mset l k v) w = mget l w := by
  rw [mset_new h]
  unfold mget
  rw [mfind_app]
  unfold mhas at hw
  cases hm : mfind l w with
  | none => rw [hm] at hw; cases hw
  | some p => rfl
theorem mhas_set {l : List (Int × Int)} {k v w : Int} (h : mhas l k = false) : mhas (mset l k v) w = (mhas l w || k == w) := by
  rw [mset_new h]
  unfold mhas
  rw [mfind_app]
  cases hm : mfind l w with
  | none =>
    by_cases e : k = w
    · simp [e]
    · simp [e]
  | some p => simp
theorem otherI_s {e : Int × Int} {v : Int} (h : v = e.1 ∨ v = e.2) : M_Bar_other N e v = some (oth e v) := by
  unfold M_Bar_other oth
  by_cases h1 : e.1 = v
  · rw [cnd_eqt h1, ← h1]; congr 1; omega
  · rw [cnd_eqf h1]
    have := h.resolve_left (fun h => h1 h.symm)
    rw [this]; congr 1; omega
theorem copyIntsR {l : List Int} (hl : l.length ≤ 3000000) : I_copyInts N l = some l := by
  unfold I_copyInts
  rw [grd_pos (by first | omega | (simp; omega))]
  rfl
/-- what the search of the program holds -/
structure FI (n : Nat) (bars : List (Int × Int)) (p : Pbl) (a b : Int) (q : List Int) (mp : List (Int × Int)) : Prop where
  bi : BI n (p.placed.map (brI bars)) p.tails a q (mget mp)
  bz : BZ p.free a b q
  sq : ∀ v : Int, mhas mp v = decide (v ∈ q)
section
variable {bars : List (Int × Int)} {p : Pbl} (hN : 4000000 ≤ N) (hn : n ≤ 1000) (hp : PG n bars p)
include hp in
theorem PG.plAt' {i : Nat} (h : i < p.placed.length) : 0 ≤ p.placed.getD i 0 ∧ p.placed.getD i 0 < (bars.length : Int) := hp.pl _ (getD_mem h)
include hp in
theorem PG.bok' {i : Nat} (h : i < p.placed.length) : Bok n (bars.getD (p.placed.getD i 0).toNat (0, 0)) := by
  rw [← eAt h]; exact hp.inv.ok _ (getD_mem (by simpa using h))
include hp in
theorem turn_s {from' : List (Int × Int)} {q : List Int} {u x v : Int} {kk : List Int → Option (Bool × List Int × List Int × List Int)} (hb : BI n (p.placed.map (brI bars)) p.tails a q (mget (mset from' v x))) :
    ∀ (fuel j : Nat) (T' : List Int), j < q.length → j < fuel → Mv (p.placed.map (brI bars)) p.tails T' u (q.getD j 0) →
      (∀ j', 0 < j' → j' ≤ j → T'.getD (mget (mset from' v x) (q.getD j' 0)).toNat 0 = p.tails.getD (mget (mset from' v x) (q.getD j' 0)).toNat 0) →
      ∃ T'', Mv (p.placed.map (brI bars)) p.tails T'' u a ∧ I_moveTo_l3 N p a from' x v kk fuel (T', q.getD j 0) = kk T'' := by
  intro fuel
  induction fuel with
  | zero => intro j T' _ h; omega
  | succ fuel ih =>
    intro j T' hj hf hm hun
    rw [I_moveTo_l3]
    by_cases h0 : j = 0
    · subst h0
      refine ⟨T', by rw [hb.hd] at hm; exact hm, ?_⟩
      rw [cnd_nef hb.hd]
    · have hne : ¬ q.getD j 0 = a := by
        intro e
        rw [← hb.hd] at e
        have hp0 := hb.pos
        rw [List.getD_eq_getElem?_getD, List.getD_eq_getElem?_getD, List.getElem?_eq_getElem hj, List.getElem?_eq_getElem hp0] at e
        have := (List.getElem_inj hb.nd).1 e
        omega
      obtain ⟨j', i, g1, g2, g3, g4, g5, g6, g7⟩ := hb.back hp.inv (by omega) hj hm hun
      have hip : i < p.placed.length := by simpa using g2
      obtain ⟨T'', k1, k2⟩ := ih j' (T'.set i (q.getD j 0)) (by omega) (by omega) g6 g7
      refine ⟨T'', k1, ?_⟩
      have htl := hp.inv.tl
      have hml := hm.len
      simp only [List.length_map] at htl
      simp (disch := omega) only [Int.toNat_natCast, tk0, List.length_cons, List.length_nil, grd_pos, grd_T, grd_R, cnd_dt, cnd_df, cnd_true, cnd_false, Option.bind_some, cnd_net hne, g3, hml, htl, g5, k2]
theorem FI.pushB {q : List Int} {mp : List (Int × Int)} (h : FI n bars p a b q mp) {k i : Nat} {v : Int} (hk : k < q.length) (hi : i < p.placed.length) (ht : p.tails.getD i 0 = q.getD k 0) (hv : oth ((p.placed.map (brI bars)).getD i (0, 0)) (q.getD k 0) = v) (hr : 0 ≤ v ∧ v < n) (hn : v ∉ q) :
    BI n (p.placed.map (brI bars)) p.tails a (q ++ [v]) (mget (mset mp v (i : Int))) := by
  have hm : mhas mp v = false := by rw [h.sq v]; exact decide_eq_false hn
  exact h.bi.push hk (by simpa using hi) ht hv hr hn (mget_new hm) fun w hw => mget_old hm (by rw [h.sq w]; exact decide_eq_true hw)
theorem FI.push {q : List Int} {mp : List (Int × Int)} (h : FI n bars p a b q mp) {k i : Nat} {v : Int} (hk : k < q.length) (hi : i < p.placed.length) (ht : p.tails.getD i 0 = q.getD k 0) (hv : oth ((p.placed.map (brI bars)).getD i (0, 0)) (q.getD k 0) = v) (hr : 0 ≤ v ∧ v < n) (hn : v ∉ q) (hz : v = b ∨ p.free.getD v.toNat 0 = 0) :
    FI n bars p a b (q ++ [v]) (mset mp v (i : Int)) := by
  have hm : mhas mp v = false := by rw [h.sq v]; exact decide_eq_false hn
  refine ⟨h.pushB hk hi ht hv hr hn, h.bz.push hz, fun w => ?_⟩
  rw [mhas_set hm, h.sq w]
  by_cases e : v = w
  · subst e; simp
  · have e' : ¬ w = v := fun h => e h.symm
    simp [e, e']
include hN hn hp in
theorem move2_s {k : Nat} {kk : (List Int × List (Int × Int)) → Option (Bool × List Int × List Int × List Int)} (hab : a ≠ b) (hbr : 0 ≤ b ∧ b < n) :
    ∀ (fuel m : Nat) (q : List Int) (mp : List (Int × Int)), m ≤ p.placed.length → p.placed.length < fuel + m → FI n bars p a b q mp → Done (p.placed.map (brI bars)) p.tails q k m → k < q.length →
      (∃ p' : Pbl, I_moveTo_l2 N bars p a b k kk fuel (q, mp, (m : Int)) = some (true, p'.free, p'.tails, p'.placed) ∧ Won n (p.placed.map (brI bars)) p.free p'.free p'.tails a b ∧ p'.placed = p.placed) ∨
      ∃ q' mp', I_moveTo_l2 N bars p a b k kk fuel (q, mp, (m : Int)) = kk (q', mp') ∧ FI n bars p a b q' mp' ∧ Done (p.placed.map (brI bars)) p.tails q' (k + 1) 0 ∧ k < q'.length := by
  intro fuel
  induction fuel with
  | zero => intro m _ _ h1 h2; omega
  | succ fuel ih =>
    intro m q mp h1 h2 hF hD hk
    rw [I_moveTo_l2]
    have hlen : (p.placed.map (brI bars)).length = p.placed.length := by simp
    by_cases hm : m < p.placed.length
    · have htl := hp.inv.tl
      have hfr := hp.inv.fl
      rw [hlen] at htl
      have hpl := hp.plAt' hm
      have ht2 := hp.inv.tlen
      have hql := hF.bi.len
      by_cases ht : p.tails.getD m 0 = q.getD k 0
      · have hbk := hp.bok' hm
        have hen := hp.inv.en m (by rw [hlen]; exact hm)
        rw [eAt hm, ht] at hen
        have hr0 := hF.bi.rg _ (getD_mem (d := 0) hk)
        have eo := otherI_s (N := N) hen
        have hvr := oth_rg hbk hen
        generalize hv : oth (bars.getD (p.placed.getD m 0).toNat (0, 0)) (q.getD k 0) = v at hvr
        rw [hv] at eo
        have hvo : oth ((p.placed.map (brI bars)).getD m (0, 0)) (q.getD k 0) = v := by rw [eAt hm, hv]
        have hsq := hF.sq v
        by_cases hs : v ∈ q
        · have hsq : mhas mp v = true := by rw [hsq]; exact decide_eq_true hs
          simp (disch := omega) only [Int.toNat_natCast, tk0, List.length_cons, List.length_nil, grd_pos, grd_T, grd_R, cnd_dt, cnd_df, cnd_true, cnd_false, Option.bind_some, cnd_nef ht, eo, hsq, succ_cast]
          exact ih (m + 1) q mp (by omega) (by omega) hF (hD.step fun _ _ => by rw [hvo]; exact hs) hk
        · have hsq : mhas mp v = false := by rw [hsq]; exact decide_eq_false hs
          have hD' : Done (p.placed.map (brI bars)) p.tails (q ++ [v]) k (m + 1) := (hD.push hk).step fun _ _ => by rw [getD_appl hk, hvo]; simp
          by_cases hvb : v = b
          · have hF' := hF.push (i := m) hk hm ht hvo hvr hs (.inl hvb)
            simp (disch := omega) only [Int.toNat_natCast, tk0, List.length_cons, List.length_nil, grd_pos, grd_T, grd_R, cnd_dt, cnd_df, cnd_true, cnd_false, Option.bind_some, cnd_nef ht, eo, hsq, succ_cast, cnd_eqt hvb]
            exact ih (m + 1) _ _ (by omega) (by omega) hF' hD' (by simp; omega)
          · by_cases hz : p.free.getD v.toNat 0 = 0
            · have hF' := hF.push (i := m) hk hm ht hvo hvr hs (.inr hz)
              simp (disch := omega) only [Int.toNat_natCast, tk0, List.length_cons, List.length_nil, grd_pos, grd_T, grd_R, cnd_dt, cnd_df, cnd_true, cnd_false, Option.bind_some, cnd_nef ht, eo, hsq, succ_cast, cnd_eqf hvb, cnd_eqt hz]
              exact ih (m + 1) _ _ (by omega) (by omega) hF' hD' (by simp; omega)
            · left
              have n0 := hp.inv.nn v.toNat (by omega)
              have n2 := hp.inv.le2 (v := v.toNat) (by omega)
              have hb2 := hF.pushB hk hm ht hvo hvr hs
              have e1 : (q ++ [v]).getD q.length 0 = v := by rw [getD_app]; simp
              have ha : 0 ≤ a ∧ a < n := by have := hF.bi.rg _ (getD_mem (d := 0) hF.bi.pos); rwa [hF.bi.hd] at this
              have hva : v ≠ a := by
                rintro rfl
                have := getD_mem (d := (0 : Int)) hF.bi.pos
                rw [hF.bi.hd] at this
                exact hs this
              obtain ⟨T'', k1, k2⟩ := turn_s hp (N := N) (u := v)
                (kk := fun l310 => grd (p.free.length = (fMove p.free v a).length) <| grd (p.tails.length = l310.length) <| some (true, fMove p.free v a, l310, p.placed)) hb2 N q.length p.tails (by simp) (by omega) (by rw [e1]; exact Mv.start hp.inv _) (fun _ _ _ => rfl)
              rw [e1] at k2
              have b2 : 0 ≤ (p.free.set v.toNat (p.free.getD v.toNat 0 - 1)).getD a.toNat 0 ∧ (p.free.set v.toNat (p.free.getD v.toNat 0 - 1)).getD a.toNat 0 ≤ 2 := by
                rw [getD_set]
                have := hp.inv.le2 (v := a.toNat) (by omega)
                have := hp.inv.nn a.toNat (by omega)
                split <;> omega
              refine ⟨⟨fMove p.free v a, T'', p.placed⟩, ?_, k1.won hp.inv ha hvr hbr hva hvb hab (by omega), rfl⟩
              have t3 := k1.len
              simp only [fMove, List.length_set, grd_T] at k2 ⊢
              simp (disch := omega) only [Int.toNat_natCast, tk0, List.length_cons, List.length_nil, grd_pos, grd_T, grd_R, cnd_dt, cnd_df, cnd_true, cnd_false, Option.bind_some, cnd_nef ht, eo, hsq, succ_cast, cnd_eqf hvb, cnd_eqf hz, List.length_set]
              rw [k2]
              exact grd_pos t3.symm _
      · simp (disch := omega) only [Int.toNat_natCast, tk0, List.length_cons, List.length_nil, grd_pos, grd_T, grd_R, cnd_dt, cnd_df, cnd_true, cnd_false, Option.bind_some, cnd_net ht, succ_cast]
        exact ih (m + 1) q mp (by omega) (by omega) hF (hD.step fun _ e => absurd e ht) hk
    · right
      have e : m = (p.placed.map (brI bars)).length := by omega
      refine ⟨q, mp, ?_, hF, by subst e; exact hD.next, hk⟩
      simp (disch := omega) only [Int.toNat_natCast, tk0, List.length_cons, List.length_nil, grd_pos, grd_T, grd_R, cnd_dt, cnd_df, cnd_true, cnd_false, Option.bind_some]
include hN hn hp in
theorem move1_s {kk : Unit → Option (Bool × List Int × List Int × List Int)} (hab : a ≠ b) (hbr : 0 ≤ b ∧ b < n) :
    ∀ (fuel k : Nat) (q : List Int) (mp : List (Int × Int)), n < fuel + k → FI n bars p a b q mp → Done (p.placed.map (brI bars)) p.tails q k 0 → k ≤ q.length →
      (∃ p' : Pbl, I_moveTo_l1 N bars p a b kk fuel (q, mp, (k : Int)) = some (true, p'.free, p'.tails, p'.placed) ∧ Won n (p.placed.map (brI bars)) p.free p'.free p'.tails a b ∧ p'.placed = p.placed) ∨
      (I_moveTo_l1 N bars p a b kk fuel (q, mp, (k : Int)) = kk () ∧ Shut n (p.placed.map (brI bars)) p.free p.tails a b) := by
  intro fuel
  induction fuel with
  | zero => intro k q mp h1 hF hD hk; have := hF.bi.len; omega
  | succ fuel ih =>
    intro k q mp h1 hF hD hk
    have ht2 := hp.inv.tlen
    have htl := hp.inv.tl
    simp only [List.length_map] at htl
    by_cases hkq : k < q.length
    · have hql := hF.bi.len
      have key := move2_s (k := k) (kk := (fun (x : (List Int) × (List (Int × Int))) =>
          match x with
          | (l287, from288) =>
            grd (Rg64 ((k : Int) + (1 : Int))) <|
            I_moveTo_l1 N bars p a b kk fuel (l287, from288, ((k : Int) + (1 : Int))))) hN hn hp hab hbr N 0 q mp (by omega) (by omega) hF hD hkq
      rw [show ((0 : Nat) : Int) = 0 from rfl] at key
      rcases key with ⟨p', g1, g2, g3⟩ | ⟨q2, m2, g1, g2, g3, g4⟩
      · left
        refine ⟨p', ?_, g2, g3⟩
        rw [I_moveTo_l1, cnd_dt (by omega)]
        exact g1
      · have e : I_moveTo_l1 N bars p a b kk (fuel + 1) (q, mp, (k : Int)) = I_moveTo_l1 N bars p a b kk fuel (q2, m2, ((k + 1 : Nat) : Int)) := by
          rw [I_moveTo_l1, cnd_dt (by omega)]
          refine g1.trans ?_
          have := g2.bi.len
          simp (disch := omega) only [Int.toNat_natCast, tk0, List.length_cons, List.length_nil, grd_pos, grd_T, grd_R, cnd_dt, cnd_df, cnd_true, cnd_false, Option.bind_some, succ_cast]
        rw [e]
        exact ih (k + 1) q2 m2 (by omega) g2 g3 (by omega)
    · right
      refine ⟨?_, hF.bi.shut hF.bz hD (by omega)⟩
      rw [I_moveTo_l1]
      simp (disch := omega) only [Int.toNat_natCast, tk0, List.length_cons, List.length_nil, grd_pos, grd_T, grd_R, cnd_dt, cnd_df, cnd_true, cnd_false, Option.bind_some]
include hN hn hp in
theorem move_s (hb : Bok n (a, b)) :
    (∃ p' : Pbl, I_moveTo N bars p a b = some (true, p'.free, p'.tails, p'.placed) ∧ Won n (p.placed.map (brI bars)) p.free p'.free p'.tails a b ∧ p'.placed = p.placed) ∨
    (I_moveTo N bars p a b = some (false, p.free, p.tails, p.placed) ∧ Shut n (p.placed.map (brI bars)) p.free p.tails a b) := by
  obtain ⟨h1, h2, h3, h4, h5⟩ := hb
  simp only at h1 h2 h3 h4 h5
  have key := move1_s (kk := fun _ => some (false, p.free, p.tails, p.placed)) hN hn hp h5 ⟨h3, h4⟩ N 0 [a] (mset [] a (-1)) (by omega) ⟨BI.start ⟨h1, h2⟩, fun v hv h _ => absurd (by simpa using hv) h, fun v => by
    rw [mhas_set rfl]
    by_cases e : a = v
    · subst e; simp
    · have e' : ¬ v = a := fun h => e h.symm
      have : mhas [] v = false := rfl
      simp [e, e', this]⟩ Done.start (by simp)
  rw [show ((0 : Nat) : Int) = 0 from rfl] at key
  unfold I_moveTo
  exact key
end
section
variable {bars : List (Int × Int)} (hN : 4000000 ≤ N) (hn : n ≤ 1000)
include hN hn in
theorem gatherI1_s (hb : Bok n (a, b)) {kk : (List Int × List Int × List Int) → Option (Bool × List Int × List Int × List Int)} : ∀ (fuel : Nat) (p : Pbl), PG n bars p → 4 < fuel + (p.free.getD a.toNat 0 + p.free.getD b.toNat 0) →
    ∃ p' : Pbl, p'.placed = p.placed ∧ PG n bars p' ∧ ((I_gather_l1 N bars a b 4 kk fuel (p.free, p.tails, p.placed) = kk (p'.free, p'.tails, p'.placed) ∧ 4 ≤ p'.free.getD a.toNat 0 + p'.free.getD b.toNat 0) ∨
      (I_gather_l1 N bars a b 4 kk fuel (p.free, p.tails, p.placed) = some (false, p'.free, p'.tails, p'.placed) ∧ ∃ X, Tgt n (p.placed.map (brI bars)) X ∧ inX X (a, b) = true)) := by
  obtain ⟨h1, h2, h3, h4, h5⟩ := id hb
  simp only at h1 h2 h3 h4 h5
  intro fuel
  induction fuel with
  | zero =>
    intro p hp hf
    have := hp.inv.le2 (v := a.toNat) (by omega)
    have := hp.inv.le2 (v := b.toNat) (by omega)
    omega
  | succ fuel ih =>
    intro p hp hf
    have fl := hp.inv.fl
    have l1 := hp.inv.le2 (v := a.toNat) (by omega)
    have l2 := hp.inv.le2 (v := b.toNat) (by omega)
    have n1 := hp.inv.nn a.toNat (by omega)
    have n2 := hp.inv.nn b.toNat (by omega)
    rw [I_gather_l1]
    have e : (⟨p.free, p.tails, p.placed⟩ : Pbl) = p := rfl
    by_cases hs : p.free.getD a.toNat 0 + p.free.getD b.toNat 0 < 4
    · rcases move_s hN hn hp hb with ⟨p1, f1, f2, f3⟩ | ⟨f1, f2⟩
      · obtain ⟨p', g1, g2, g3⟩ := ih p1 (f2.pg hp f3) (by have := f2.symm'; omega)
        refine ⟨p', g1.trans f3, g2, ?_⟩
        rw [f3] at g3
        simp (disch := omega) only [Int.toNat_natCast, tk0, List.length_cons, List.length_nil, grd_pos, grd_T, grd_R, cnd_dt, cnd_df, cnd_true, cnd_false, Option.bind_some, e, f1, Bool.not_true]
        rw [f3]
        exact g3
      · rcases move_s hN hn hp hb.swap with ⟨p1, k1, k2, k3⟩ | ⟨k1, k2⟩
        · obtain ⟨p', g1, g2, g3⟩ := ih p1 (k2.pg hp k3) (by have := k2.symm'; omega)
          refine ⟨p', g1.trans k3, g2, ?_⟩
          rw [k3] at g3
          simp (disch := omega) only [Int.toNat_natCast, tk0, List.length_cons, List.length_nil, grd_pos, grd_T, grd_R, cnd_dt, cnd_df, cnd_true, cnd_false, Option.bind_some, e, f1, k1, Bool.not_true, Bool.not_false]
          rw [k3]
          exact g3
        · refine ⟨p, rfl, hp, .inr ⟨?_, Shut.tgt hp.inv hb f2 k2 (by omega)⟩⟩
          simp (disch := omega) only [Int.toNat_natCast, tk0, List.length_cons, List.length_nil, grd_pos, grd_T, grd_R, cnd_dt, cnd_df, cnd_true, cnd_false, Option.bind_some, e, f1, k1, Bool.not_false]
    · refine ⟨p, rfl, hp, .inl ⟨?_, by omega⟩⟩
      simp (disch := omega) only [Int.toNat_natCast, tk0, List.length_cons, List.length_nil, grd_pos, grd_T, grd_R, cnd_dt, cnd_df, cnd_true, cnd_false, Option.bind_some]
include hN hn in
theorem gatherI_s (hb : Bok n (a, b)) {p : Pbl} (hp : PG n bars p) : ∃ p' : Pbl, p'.placed = p.placed ∧ PG n bars p' ∧ ((I_gather N bars p a b 4 = some (true, p'.free, p'.tails, p'.placed) ∧ 4 ≤ p'.free.getD a.toNat 0 + p'.free.getD b.toNat 0) ∨
      (I_gather N bars p a b 4 = some (false, p'.free, p'.tails, p'.placed) ∧ ∃ X, Tgt n (p.placed.map (brI bars)) X ∧ inX X (a, b) = true)) := by
  obtain ⟨h1, h2, h3, h4, h5⟩ := id hb
  simp only at h1 h2 h3 h4 h5
  have n1 := hp.inv.nn a.toNat (by omega)
  have n2 := hp.inv.nn b.toNat (by omega)
  exact gatherI1_s hN hn hb (kk := fun x => match x with | (l11, l12, l13) => some (true, l11, l12, l13)) N p hp (by omega)
include hN hn in
theorem placeI_s {p : Pbl} {i : Nat} (hi : i < bars.length) (hbl : bars.length ≤ 1000) (hb : ∀ e ∈ bars, Bok n e) (h : Gm n bars p i) :
    (∃ p' : Pbl, I_place N bars 3 p i = some (true, p'.free, p'.tails, p'.placed) ∧ Gm n bars p' (i + 1)) ∨ ((∃ x, I_place N bars 3 p i = some (false, x)) ∧ Gm n bars p (i + 1)) := by
  have hbi := hb _ (getD_mem (d := (0, 0)) hi)
  have r1 := hbi.1
  have r2 := hbi.2.1
  have r3 := hbi.2.2.1
  have r4 := hbi.2.2.2.1
  have e : (⟨p.free, p.tails, p.placed⟩ : Pbl) = p := rfl
  have e4 : (3 : Int) + 1 = 4 := rfl
  obtain ⟨p', g1, g2, ⟨g3, g4⟩ | ⟨g3, g4⟩⟩ := gatherI_s hN hn (bars := bars) (a := (bars.getD i (0, 0)).1) (b := (bars.getD i (0, 0)).2) hbi h.pg
  · left
    have le1 := g2.inv.le2 (v := (bars.getD i (0, 0)).2.toNat) (by omega)
    have le2 := g2.inv.le2 (v := (bars.getD i (0, 0)).1.toNat) (by omega)
    have hput := h.put hi hbi g1 g2 (.inl rfl) (by omega) g4
    refine ⟨_, ?_, hput⟩
    have fl := g2.inv.fl
    have tl := g2.inv.tl
    simp only [List.length_map] at tl
    have t2 := g2.inv.tlen
    unfold I_place
    have hz : ¬ p'.free.getD (bars.getD i (0, 0)).1.toNat 0 = 0 := by omega
    simp (disch := omega) only [Int.toNat_natCast, tk0, List.length_cons, List.length_nil, grd_pos, grd_T, grd_R, cnd_dt, cnd_df, cnd_true, cnd_false, Option.bind_some, e, e4, g3, Bool.not_true, jn_def, cnd_eqf hz, List.length_set]
  · right
    refine ⟨⟨(p'.free, p'.tails, p'.placed), ?_⟩, h.skip g4⟩
    unfold I_place
    simp (disch := omega) only [Int.toNat_natCast, tk0, List.length_cons, List.length_nil, grd_pos, grd_T, grd_R, cnd_dt, cnd_df, cnd_true, cnd_false, Option.bind_some, e, e4, g3, Bool.not_false]
include hN hn in
theorem play1_s (hb : ∀ e ∈ bars, Bok n e) (hl : bars.length ≤ 1000) {kk : (List Int × List Int × List Int) → Option Pbl} : ∀ (fuel i : Nat) (p : Pbl), i ≤ bars.length → bars.length < fuel + i → Gm n bars p i →
    ∃ p' : Pbl, Gm n bars p' bars.length ∧ I_play_l1 N bars 3 kk fuel (p.free, p.tails, p.placed, (i : Int)) = kk (p'.free, p'.tails, p'.placed) := by
  intro fuel
  induction fuel with
  | zero => intro i p h1 h2; omega
  | succ fuel ih =>
    intro i p h1 h2 h
    rw [I_play_l1]
    by_cases hi : i < bars.length
    · have e : (⟨p.free, p.tails, p.placed⟩ : Pbl) = p := rfl
      have fl := h.pg.inv.fl
      have tl := h.pg.inv.tl
      simp only [List.length_map] at tl
      have t2 := h.pg.inv.tlen
      have ec : I_copyPebbles N p = some p := by
        unfold I_copyPebbles
        rw [copyIntsR (by omega), copyIntsR (by omega), copyIntsR (by omega)]
        rfl
      rcases placeI_s hN hn hi hl hb h with ⟨p', g1, g2⟩ | ⟨⟨x, g1⟩, g2⟩
      · obtain ⟨p2, k1, k2⟩ := ih (i + 1) p' (by omega) (by omega) g2
        refine ⟨p2, k1, ?_⟩
        simp (disch := omega) only [Int.toNat_natCast, tk0, List.length_cons, List.length_nil, grd_pos, grd_T, grd_R, cnd_dt, cnd_df, cnd_true, cnd_false, Option.bind_some, e, ec, g1, succ_cast]
        exact k2
      · obtain ⟨p2, k1, k2⟩ := ih (i + 1) p (by omega) (by omega) g2
        refine ⟨p2, k1, ?_⟩
        simp (disch := omega) only [Int.toNat_natCast, tk0, List.length_cons, List.length_nil, grd_pos, grd_T, grd_R, cnd_dt, cnd_df, cnd_true, cnd_false, Option.bind_some, e, ec, g1, succ_cast]
        exact k2
    · have e : i = bars.length := by omega
      subst e
      refine ⟨p, h, ?_⟩
      simp (disch := omega) only [Int.toNat_natCast, tk0, List.length_cons, List.length_nil, grd_pos, grd_T, grd_R, cnd_dt, cnd_df, cnd_true, cnd_false, Option.bind_some]
include hN hn in
theorem planeRank_s (hb : ∀ e ∈ bars, Bok n e) (hl : bars.length ≤ 1000) : ∃ I, Bas n bars I ∧ I_planeRank N n bars = some (I.length : Int) := by
  obtain ⟨p', g1, g2⟩ := play1_s hN hn hb hl (kk := fun x => match x with | (l24, l25, l26) => some (⟨l24, l25, l26⟩ : Pbl)) N 0 ⟨List.replicate n 2, [], []⟩ (by omega) (by omega) (Gm.start bars)
  refine ⟨_, g1.bas, ?_⟩
  have e : I_play N n bars 2 3 = some p' := by
    unfold I_play
    refine (fold (len := n) (st := fun i => List.replicate i (2 : Int)) (by omega) ?_ ?_)
    · intro m i hi
      rw [I_play_l2]
      simp (disch := omega) only [Int.toNat_natCast, tk0, List.length_cons, List.length_nil, grd_pos, grd_T, grd_R, cnd_dt, cnd_df, cnd_true, cnd_false, Option.bind_some, List.length_replicate, succ_cast]
      rw [List.replicate_succ']
    · intro m
      rw [I_play_l2]
      rw [cnd_df (by omega)]
      exact g2
  unfold I_planeRank
  simp (disch := omega) only [Int.toNat_natCast, tk0, List.length_cons, List.length_nil, grd_pos, grd_T, grd_R, cnd_dt, cnd_df, cnd_true, cnd_false, Option.bind_some, e, List.length_map]
end
end Go.Proofs.Ytkpmijmlbpdknaa

namespace Go.Proofs.Ytkpmijmlbpdknaa
set_option linter.unusedVariables false
set_option linter.unusedSimpArgs false
variable (N : Nat)
theorem all_not_dbl (l : List (Int × Int)) : ((List.range l.length).all fun i => !doubleAt l i) = !hasDbl l := by
  simp only [hasDbl, List.not_any_eq_all_not]
theorem pair_eq (a b : Int × Int) : ((a.1 == b.1) && (a.2 == b.2)) = (a == b) := by
  obtain ⟨x, y⟩ := a; obtain ⟨u, v⟩ := b; rfl
theorem hasDoubles_s (hN : 4000000 ≤ N) {g : Grf} (hb : g.bars.length ≤ 3000000) : I_hasDoubles N g = some (hasDbl g.bars) := by
  unfold I_hasDoubles
  refine (srch1 (len := g.bars.length) (ok := fun i => !doubleAt g.bars i) (bad := some true) (fin := some false) (by omega) rfl ?_ ?_).trans ?_
  · intro n i h0 hi
    rw [I_hasDoubles_l1]
    simp (disch := omega) only [Int.toNat_natCast, tk0, List.length_cons, List.length_nil, grd_pos, grd_T, grd_R, cnd_dt, cnd_df, cnd_true, cnd_false, Option.bind_some, succ_cast, pair_eq, show ((i : Int) - 1).toNat = i - 1 from by omega]
    refine cnd_congr' ?_ _ _
    simp [doubleAt, h0]
  · intro n i hi
    rw [I_hasDoubles_l1]
    simp (disch := omega) only [Int.toNat_natCast, tk0, List.length_cons, List.length_nil, grd_pos, grd_T, grd_R, cnd_dt, cnd_df, cnd_true, cnd_false, Option.bind_some]
  · rw [all_not_dbl, cnd_some]; cases hasDbl g.bars <;> rfl
theorem l17Simple_s (hN : 4000000 ≤ N) {g : Grf} (hb : g.bars.length ≤ 3000000) : S_l17Simple N g = some (isSimple g) := by
  unfold S_l17Simple isSimple
  refine (srch1 (len := g.bars.length) (ok := fun i => !doubleAt g.bars i) (bad := some false) (fin := some (isGraph g)) (by omega) rfl ?_ ?_).trans ?_
  · intro n i h0 hi
    rw [S_l17Simple_l1]
    simp (disch := omega) only [Int.toNat_natCast, tk0, List.length_cons, List.length_nil, grd_pos, grd_T, grd_R, cnd_dt, cnd_df, cnd_true, cnd_false, Option.bind_some, succ_cast, pair_eq, show ((i : Int) - 1).toNat = i - 1 from by omega]
    refine cnd_congr' ?_ _ _
    simp [doubleAt, h0]
  · intro n i hi
    rw [S_l17Simple_l1]
    simp (disch := omega) only [Int.toNat_natCast, tk0, List.length_cons, List.length_nil, grd_pos, grd_T, grd_R, cnd_dt, cnd_df, cnd_true, cnd_false, Option.bind_some, isGraphS_s N hN]
  · rw [all_not_dbl, cnd_some]; cases hasDbl g.bars <;> cases isGraph g <;> rfl
theorem ghas_s {g : Grf} (h : 0 ≤ g.n) (h' : g.n ≤ 1048576) (x : Int) : M_Graph_has N g x = some (inB x 0 (g.n - 1)) := by
  unfold M_Graph_has
  rw [w64_id (by omega) (by omega)]
  simp (disch := omega) only [Int.toNat_natCast, tk0, List.length_cons, List.length_nil, grd_pos, grd_T, grd_R, cnd_dt, cnd_df, cnd_true, cnd_false, Option.bind_some, within_s]
theorem range_all_none (gr : List Int) (l : List (Int × Int)) : ((List.range l.length).all fun i => !bothIn gr (l.getD i (0, 0))) = noneIn gr l := by
  rw [Bool.eq_iff_iff, noneIn, List.all_eq_true, List.all_eq_true]
  simp only [List.mem_range]
  constructor
  · intro h p hp
    obtain ⟨i, hi, rfl⟩ := List.getElem_of_mem hp
    simpa [List.getD_eq_getElem?_getD, hi] using h i hi
  · intro h i hi
    have := h l[i] (List.getElem_mem hi)
    simpa [List.getD_eq_getElem?_getD, hi] using this
theorem isPinned_n {p : Pin} (h : isGraph p.g = true) : 1 ≤ p.g.n ∧ p.g.n ≤ 8 ∧ p.g.bars.length ≤ 24 := by
  have := isGraph_parts h; omega
theorem isPinnedI_s (hN : 4000000 ≤ N) {p : Pin} (hb : p.g.bars.length ≤ 3000000) (hg : p.ground.length ≤ 3000000) : I_IsPinned N p = some (isPinned p) := by
  unfold I_IsPinned isPinned
  rw [isGraphI_s N hN, Option.bind_some, cnd_not]
  cases h1 : isGraph p.g with
  | false => rfl
  | true =>
    obtain ⟨hn1, hn2, hbl⟩ := isPinned_n h1
    rw [cnd_true, hasDoubles_s N hN hb, Option.bind_some]
    cases h2 : hasDbl p.g.bars with
    | true => rfl
    | false =>
      rw [cnd_false]
      by_cases h3 : 2 ≤ p.ground.length
      · by_cases h4 : p.g.bars.length ≤ 15
        · by_cases h5 : p.g.bars.length + 2 * p.ground.length ≤ 27
          · simp (disch := omega) only [Int.toNat_natCast, tk0, List.length_cons, List.length_nil, grd_pos, grd_T, grd_R, cnd_dt, cnd_df, cnd_true, cnd_false, Option.bind_some]
            refine (srch (len := p.ground.length) (ok := ascAt p.g.n p.ground) (bad := some false) (fin := some (noneIn p.ground p.g.bars)) (by omega) ?_ ?_).trans ?_
            · intro n i hi _
              rw [I_IsPinned_l2]
              by_cases h0 : i = 0
              · subst h0
                simp (disch := omega) only [Int.toNat_natCast, tk0, List.length_cons, List.length_nil, grd_pos, grd_T, grd_R, cnd_dt, cnd_df, cnd_true, cnd_false, Option.bind_some, ghas_s N (by omega : 0 ≤ p.g.n) (by omega), cnd_not, succ_cast]
                refine cnd_congr ?_ _ _
                simp [ascAt]
              · simp (disch := omega) only [Int.toNat_natCast, tk0, List.length_cons, List.length_nil, grd_pos, grd_T, grd_R, cnd_dt, cnd_df, cnd_true, cnd_false, Option.bind_some, ghas_s N (by omega : 0 ≤ p.g.n) (by omega), succ_cast, cnd_or, show ((i : Int) - 1).toNat = i - 1 from by omega]
                refine cnd_congr' ?_ _ _
                simp only [ascAt, decide_eq_false h0, Bool.false_or]
                cases inB (p.ground.getD i 0) 0 (p.g.n - 1) <;> (rw [Bool.eq_iff_iff]; simp)
            · intro n _
              rw [I_IsPinned_l2]
              simp (disch := omega) only [Int.toNat_natCast, tk0, List.length_cons, List.length_nil, grd_pos, grd_T, grd_R, cnd_dt, cnd_df, cnd_true, cnd_false, Option.bind_some]
              refine (srch (len := p.g.bars.length) (ok := fun i => !bothIn p.ground (p.g.bars.getD i (0, 0))) (bad := some false) (fin := some true) (by omega) ?_ ?_).trans ?_
              · intro n i hi _
                rw [I_IsPinned_l1]
                simp (disch := omega) only [Int.toNat_natCast, tk0, List.length_cons, List.length_nil, grd_pos, grd_T, grd_R, cnd_dt, cnd_df, cnd_true, cnd_false, Option.bind_some, contains_s N hN hg, succ_cast, cnd_and]
                refine cnd_congr' ?_ _ _
                simp [bothIn]
              · intro n _
                rw [I_IsPinned_l1]
                simp (disch := omega) only [Int.toNat_natCast, tk0, List.length_cons, List.length_nil, grd_pos, grd_T, grd_R, cnd_dt, cnd_df, cnd_true, cnd_false, Option.bind_some]
              · rw [range_all_none, cnd_some, cnd_bool]
            · rw [cnd_some, show (List.range p.ground.length).all (ascAt p.g.n p.ground) = asc p.g.n p.ground from rfl]
              simp only [decide_eq_true h3, decide_eq_true h4, decide_eq_true h5]
              cases asc p.g.n p.ground <;> cases noneIn p.ground p.g.bars <;> rfl
          · simp (disch := omega) only [Int.toNat_natCast, tk0, List.length_cons, List.length_nil, grd_pos, grd_T, grd_R, cnd_dt, cnd_df, cnd_true, cnd_false, Option.bind_some]
            simp [h5]
        · simp (disch := omega) only [Int.toNat_natCast, tk0, List.length_cons, List.length_nil, grd_pos, grd_T, grd_R, cnd_dt, cnd_df, cnd_true, cnd_false, Option.bind_some]
          simp [h4]
      · simp (disch := omega) only [Int.toNat_natCast, tk0, List.length_cons, List.length_nil, grd_pos, grd_T, grd_R, cnd_dt, cnd_df, cnd_true, cnd_false, Option.bind_some]
        simp [h3]
theorem isPinnedS_s (hN : 4000000 ≤ N) {p : Pin} (hb : p.g.bars.length ≤ 3000000) (hg : p.ground.length ≤ 3000000) : S_IsPinned N p = some (isPinned p) := by
  unfold S_IsPinned
  refine (srch (len := p.ground.length) (ok := ascAt p.g.n p.ground) (bad := some false) (fin := cnd (noneIn p.ground p.g.bars) (some (isSimple p.g && decide (2 ≤ p.ground.length) && decide (p.g.bars.length ≤ 15) && decide (p.g.bars.length + 2 * p.ground.length ≤ 27))) (some false)) (by omega) ?_ ?_).trans ?_
  · intro n i hi _
    rw [S_IsPinned_l2]
    by_cases h0 : i = 0
    · subst h0
      simp (disch := omega) only [Int.toNat_natCast, tk0, List.length_cons, List.length_nil, grd_pos, grd_T, grd_R, cnd_dt, cnd_df, cnd_true, cnd_false, Option.bind_some, cnd_or, succ_cast]
      refine cnd_congr' ?_ _ _
      simp only [ascAt, inB]
      rw [Bool.eq_iff_iff]; simp; omega
    · simp (disch := omega) only [Int.toNat_natCast, tk0, List.length_cons, List.length_nil, grd_pos, grd_T, grd_R, cnd_dt, cnd_df, cnd_true, cnd_false, Option.bind_some, succ_cast, cnd_or, show ((i : Int) - 1).toNat = i - 1 from by omega]
      refine cnd_congr' ?_ _ _
      simp only [ascAt, inB, decide_eq_false h0, Bool.false_or]
      rw [Bool.eq_iff_iff]; simp; omega
  · intro n _
    rw [S_IsPinned_l2]
    simp (disch := omega) only [Int.toNat_natCast, tk0, List.length_cons, List.length_nil, grd_pos, grd_T, grd_R, cnd_dt, cnd_df, cnd_true, cnd_false, Option.bind_some]
    refine (srch (len := p.g.bars.length) (ok := fun i => !bothIn p.ground (p.g.bars.getD i (0, 0))) (bad := some false) (fin := some (isSimple p.g && decide (2 ≤ p.ground.length) && decide (p.g.bars.length ≤ 15) && decide (p.g.bars.length + 2 * p.ground.length ≤ 27))) (by omega) ?_ ?_).trans ?_
    · intro n i hi _
      rw [S_IsPinned_l1]
      simp (disch := omega) only [Int.toNat_natCast, tk0, List.length_cons, List.length_nil, grd_pos, grd_T, grd_R, cnd_dt, cnd_df, cnd_true, cnd_false, Option.bind_some, l2Has_s N hN hg, succ_cast, cnd_and]
      refine cnd_congr' ?_ _ _
      simp [bothIn]
    · intro n _
      rw [S_IsPinned_l1]
      simp (disch := omega) only [Int.toNat_natCast, tk0, List.length_cons, List.length_nil, grd_pos, grd_T, grd_R, cnd_dt, cnd_df, cnd_true, cnd_false, Option.bind_some, l17Simple_s N hN hb]
      simp only [cnd_some]
      congr 1
      rw [show decide ((p.ground.length : Int) ≥ 2) = decide (2 ≤ p.ground.length) from by rw [Bool.eq_iff_iff]; simp; omega, show decide ((p.g.bars.length : Int) ≤ 15) = decide (p.g.bars.length ≤ 15) from by rw [Bool.eq_iff_iff]; simp; omega,
        show decide ((p.g.bars.length : Int) + 2 * (p.ground.length : Int) - 3 ≤ 24) = decide (p.g.bars.length + 2 * p.ground.length ≤ 27) from by rw [Bool.eq_iff_iff]; simp; omega]
      cases isSimple p.g <;> cases decide (2 ≤ p.ground.length) <;> cases decide (p.g.bars.length ≤ 15) <;> rfl
    · rw [range_all_none]
  · rw [show (List.range p.ground.length).all (ascAt p.g.n p.ground) = asc p.g.n p.ground from rfl]
    simp only [cnd_some]
    congr 1
    unfold isPinned isSimple
    cases asc p.g.n p.ground <;> cases noneIn p.ground p.g.bars <;> simp [cnd]
end Go.Proofs.Ytkpmijmlbpdknaa

namespace Go.Proofs.Ytkpmijmlbpdknaa
open Go.RowKit
set_option linter.unusedVariables false
set_option linter.unusedSimpArgs false
end Go.Proofs.Ytkpmijmlbpdknaa

namespace Go.Proofs.Ytkpmijmlbpdknaa
set_option linter.unusedVariables false
set_option linter.unusedSimpArgs false
variable (N : Nat)
theorem isPinned_bd {p : Pin} (h : isPinned p = true) : 1 ≤ p.g.n ∧ p.g.n ≤ 8 ∧ p.g.bars.length ≤ 15 ∧ p.ground.length ≤ 27 := by
  obtain ⟨h1, h2, h3, h4, h5, _⟩ := isPinned_parts h
  have := isPinned_n h1
  omega
end Go.Proofs.Ytkpmijmlbpdknaa

namespace Go.Proofs.Ytkpmijmlbpdknaa
set_option linter.unusedVariables false
set_option linter.unusedSimpArgs false
variable {n : Nat} {N : Nat}
/-- bars in order -/
def Srt (L : List (Int × Int)) : Prop := L.Pairwise fun a b => barLeB a b = true
theorem le_total {a b : Int × Int} (h : barLeB a b = false) : barLeB b a = true := by
  simp only [barLeB, Bool.or_eq_false_iff, Bool.and_eq_false_iff, decide_eq_false_iff_not, Bool.or_eq_true, Bool.and_eq_true, decide_eq_true_eq, beq_iff_eq, beq_eq_false_iff_ne] at h ⊢
  omega
theorem le_trans' {a b c : Int × Int} (h1 : barLeB a b = true) (h2 : barLeB b c = true) : barLeB a c = true := by
  simp only [barLeB, Bool.or_eq_true, Bool.and_eq_true, decide_eq_true_eq, beq_iff_eq] at h1 h2 ⊢
  omega
theorem srt_put {A B : List (Int × Int)} {x : Int × Int} (h : Srt (A ++ B)) (hA : ∀ e ∈ A, barLeB e x = true) (hB : ∀ b l, B = b :: l → barLeB b x = false) : Srt (A ++ x :: B) := by
  obtain ⟨h1, h2, h3⟩ := List.pairwise_append.1 h
  have hx : ∀ b ∈ B, barLeB x b = true := by
    cases B with
    | nil => intro b hb; simp at hb
    | cons b0 l =>
      have h0 := le_total (hB b0 l rfl)
      intro b hb
      rcases List.mem_cons.1 hb with rfl | hb
      · exact h0
      · exact le_trans' h0 ((List.pairwise_cons.1 h2).1 b hb)
  refine List.pairwise_append.2 ⟨h1, List.pairwise_cons.2 ⟨hx, h2⟩, fun a ha b hb => ?_⟩
  rcases List.mem_cons.1 hb with rfl | hb
  · exact hA a ha
  · exact h3 a ha b hb
theorem putX_s (hN : 4000000 ≤ N) {g : Grf} (hl : g.bars.length ≤ 1000) (x : Int × Int) (hs : Srt g.bars) : ∃ L, S_l2Put N g x = some ⟨g.n, L⟩ ∧ Srt L := by
  have keyT : ∀ {kk : (List (Int × Int) × Bool) → Option Grf} (fuel i : Nat) (l : List (Int × Int)), i ≤ g.bars.length → g.bars.length < fuel + i → l.length ≤ i + 1 →
      S_l2Put_l1 N g x kk fuel (l, true, (i : Int)) = kk (l ++ g.bars.drop i, true) := by
    intro kk fuel
    induction fuel with
    | zero => intro i l h1 h2; omega
    | succ fuel ih =>
      intro i l h1 h2 h3
      rw [S_l2Put_l1]
      by_cases hi : i < g.bars.length
      · have e : g.bars.drop i = g.bars.getD i (0, 0) :: g.bars.drop (i + 1) := by
          rw [List.drop_eq_getElem_cons hi]
          simp [List.getD_eq_getElem?_getD, List.getElem?_eq_getElem hi]
        have := ih (i + 1) (l ++ [g.bars.getD i (0, 0)]) (by omega) (by omega) (by simp; omega)
        rw [e]
        simp (disch := omega) only [Int.toNat_natCast, tk0, List.length_cons, List.length_nil, grd_pos, grd_T, grd_R, cnd_dt, cnd_df, cnd_true, cnd_false, Option.bind_some, Bool.not_true, succ_cast]
        refine this.trans ?_
        simp
      · have e : i = g.bars.length := by omega
        subst e
        simp (disch := omega) only [Int.toNat_natCast, tk0, List.length_cons, List.length_nil, grd_pos, grd_T, grd_R, cnd_dt, cnd_df, cnd_true, cnd_false, Option.bind_some]
        simp
  have keyF : ∀ {kk : (List (Int × Int) × Bool) → Option Grf} (fuel i : Nat), i ≤ g.bars.length → g.bars.length < fuel + i → (∀ e ∈ g.bars.take i, barLeB e x = true) →
      (∃ A B, g.bars = A ++ B ∧ (∀ e ∈ A, barLeB e x = true) ∧ (∀ b l, B = b :: l → barLeB b x = false) ∧ S_l2Put_l1 N g x kk fuel (g.bars.take i, false, (i : Int)) = kk (A ++ x :: B, true)) ∨
      ((∀ e ∈ g.bars, barLeB e x = true) ∧ S_l2Put_l1 N g x kk fuel (g.bars.take i, false, (i : Int)) = kk (g.bars, false)) := by
    intro kk fuel
    induction fuel with
    | zero => intro i h1 h2; omega
    | succ fuel ih =>
      intro i h1 h2 h3
      by_cases hi : i < g.bars.length
      · have hd : g.bars.getD i (0, 0) = g.bars[i] := by simp [List.getD_eq_getElem?_getD, List.getElem?_eq_getElem hi]
        have htl : (g.bars.take i).length = i := by simp; omega
        have etk : g.bars.take i ++ [g.bars.getD i (0, 0)] = g.bars.take (i + 1) := by
          rw [List.take_add_one, List.getElem?_eq_getElem hi, hd]; rfl
        cases hb : barLeB (g.bars.getD i (0, 0)) x with
        | false =>
          left
          refine ⟨g.bars.take i, g.bars.drop i, (List.take_append_drop i g.bars).symm, h3, fun b l e => ?_, ?_⟩
          · rw [List.drop_eq_getElem_cons hi] at e
            cases e
            rw [← hd]; exact hb
          · rw [S_l2Put_l1]
            have := keyT (kk := kk) fuel (i + 1) (g.bars.take i ++ [x] ++ [g.bars.getD i (0, 0)]) (by omega) (by omega) (by simp; omega)
            simp (disch := omega) only [Int.toNat_natCast, tk0, List.length_cons, List.length_nil, grd_pos, grd_T, grd_R, cnd_dt, cnd_df, cnd_true, cnd_false, Option.bind_some, Bool.not_false, l2After_s, hb, List.length_append, succ_cast, htl]
            refine this.trans ?_
            congr 2
            have : g.bars.drop i = g.bars.getD i (0, 0) :: g.bars.drop (i + 1) := by rw [List.drop_eq_getElem_cons hi, hd]
            rw [this]; simp
        | true =>
          have step : S_l2Put_l1 N g x kk (fuel + 1) (g.bars.take i, false, (i : Int)) = S_l2Put_l1 N g x kk fuel (g.bars.take (i + 1), false, ((i + 1 : Nat) : Int)) := by
            rw [S_l2Put_l1]
            simp (disch := omega) only [Int.toNat_natCast, tk0, List.length_cons, List.length_nil, grd_pos, grd_T, grd_R, cnd_dt, cnd_df, cnd_true, cnd_false, Option.bind_some, Bool.not_false, Bool.not_true, l2After_s, hb, succ_cast, htl]
            rw [show ((g.bars.getD i (0, 0)).1, (g.bars.getD i (0, 0)).2) = g.bars.getD i (0, 0) from rfl, etk]
          rw [step]
          refine ih (i + 1) (by omega) (by omega) fun e he => ?_
          rw [← etk] at he
          rcases List.mem_append.1 he with he | he
          · exact h3 e he
          · rw [List.mem_singleton] at he; subst he; exact hb
      · have e : i = g.bars.length := by omega
        subst e
        right
        rw [List.take_length] at h3 ⊢
        refine ⟨h3, ?_⟩
        rw [S_l2Put_l1]
        simp (disch := omega) only [Int.toNat_natCast, tk0, List.length_cons, List.length_nil, grd_pos, grd_T, grd_R, cnd_dt, cnd_df, cnd_true, cnd_false, Option.bind_some]
  have e0 : S_l2Put N g x = S_l2Put_l1 N g x (fun (x_ : (List (Int × Int)) × Bool) =>
      match x_ with
      | (l10, placed11) =>
        cnd (!placed11) (
          grd (l10.length + 1 ≤ 4294967296) <|
          some (⟨g.n, (l10 ++ ([(x.1, x.2)] : List (Int × Int)))⟩ : Grf)) (
          some (⟨g.n, l10⟩ : Grf))) N (g.bars.take 0, false, ((0 : Nat) : Int)) := rfl
  rcases keyF (kk := fun (x_ : (List (Int × Int)) × Bool) =>
      match x_ with
      | (l10, placed11) =>
        cnd (!placed11) (
          grd (l10.length + 1 ≤ 4294967296) <|
          some (⟨g.n, (l10 ++ ([(x.1, x.2)] : List (Int × Int)))⟩ : Grf)) (
          some (⟨g.n, l10⟩ : Grf))) N 0 (by omega) (by omega) (fun e he => by simp at he) with ⟨A, B, h1, h2, h3, h4⟩ | ⟨h1, h2⟩
  · refine ⟨A ++ x :: B, e0.trans (h4.trans rfl), srt_put (by rw [← h1]; exact hs) h2 h3⟩
  · refine ⟨g.bars ++ [x], e0.trans (h2.trans ?_), ?_⟩
    · simp (disch := omega) only [Int.toNat_natCast, tk0, List.length_cons, List.length_nil, grd_pos, grd_T, grd_R, cnd_dt, cnd_df, cnd_true, cnd_false, Option.bind_some, Bool.not_false]
    · have := srt_put (A := g.bars) (B := []) (x := x) (by simpa using hs) h1 (fun b l h => by cases h)
      exact this
end Go.Proofs.Ytkpmijmlbpdknaa

namespace Go.Proofs.Ytkpmijmlbpdknaa
set_option linter.unusedVariables false
set_option linter.unusedSimpArgs false
variable {n : Nat} {N : Nat}
theorem asc_lt {n : Int} {l : List Int} (h : asc n l = true) : ∀ j i : Nat, i < j → j < l.length → l.getD i 0 < l.getD j 0
  | 0, i, h1, _ => by omega
  | j + 1, i, h1, h2 => by
    have ha := asc_at h h2
    simp only [ascAt, Bool.and_eq_true, Bool.or_eq_true, decide_eq_true_eq, Nat.add_sub_cancel] at ha
    have hs : l.getD j 0 < l.getD (j + 1) 0 := ha.2.resolve_left (by omega)
    by_cases e : i = j
    · subst e; exact hs
    · have := asc_lt h j i (by omega) (by omega); omega
/-- the held bars of the spec: from the first two points of the ground -/
structure HeldS (G : List Int) (L : List (Int × Int)) (m : Nat) : Prop where
  mem : ∀ e ∈ L, ∃ i j : Nat, i < j ∧ j < m ∧ e = (G.getD i 0, G.getD j 0)
  h0 : ∀ i, 1 ≤ i → i < m → (G.getD 0 0, G.getD i 0) ∈ L
  h1 : ∀ i, 2 ≤ i → i < m → (G.getD 1 0, G.getD i 0) ∈ L
  srt : Srt L
theorem put0_s (hN : 4000000 ≤ N) {g : Grf} (hl : g.bars.length ≤ 1000) (x : Int × Int) : ∃ L, S_l2Put N g x = some ⟨g.n, L⟩ ∧ L.length = g.bars.length + 1 ∧ ∀ e, e ∈ L ↔ e = x ∨ e ∈ g.bars := by
  have key : ∀ {kk : (List (Int × Int) × Bool) → Option Grf} (fuel i : Nat) (l : List (Int × Int)) (pl : Bool), i ≤ g.bars.length → g.bars.length < fuel + i → l.length = i + (if pl = true then 1 else 0) → (pl = true → x ∈ l) → (∀ e, (e = x ∨ e ∈ l) ↔ (e = x ∨ e ∈ g.bars.take i)) →
      ∃ l' pl', S_l2Put_l1 N g x kk fuel (l, pl, (i : Int)) = kk (l', pl') ∧ l'.length = g.bars.length + (if pl' = true then 1 else 0) ∧ (pl' = true → x ∈ l') ∧ ∀ e, (e = x ∨ e ∈ l') ↔ (e = x ∨ e ∈ g.bars) := by
    intro kk fuel
    induction fuel with
    | zero => intro i l pl h1 h2; omega
    | succ fuel ih =>
      intro i l pl h1 h2 h3 h4 h5
      rw [S_l2Put_l1]
      have hlb : l.length ≤ 1001 := by rw [h3]; split <;> omega
      by_cases hi : i < g.bars.length
      · have htk : ∀ e, e ∈ g.bars.take (i + 1) ↔ e ∈ g.bars.take i ∨ e = g.bars.getD i (0, 0) := by
          intro e
          have hd : g.bars.getD i (0, 0) = g.bars[i] := by simp [List.getD_eq_getElem?_getD, List.getElem?_eq_getElem hi]
          rw [List.take_add_one, List.getElem?_eq_getElem hi, List.mem_append, hd]
          simp only [Option.toList_some, List.mem_singleton]
        have step : ∀ l2 : List (Int × Int), (∀ e, (e = x ∨ e ∈ l2) ↔ (e = x ∨ e ∈ l ∨ e = g.bars.getD i (0, 0))) → ∀ e, (e = x ∨ e ∈ l2) ↔ (e = x ∨ e ∈ g.bars.take (i + 1)) := by
          intro l2 h e
          rw [h e, htk e]
          have := h5 e
          constructor
          · rintro (h | h | h)
            · exact .inl h
            · rcases this.1 (.inr h) with h | h
              · exact .inl h
              · exact .inr (.inl h)
            · exact .inr (.inr h)
          · rintro (h | h | h)
            · exact .inl h
            · rcases this.2 (.inr h) with h | h
              · exact .inl h
              · exact .inr (.inl h)
            · exact .inr (.inr h)
        cases pl with
        | true =>
          simp only [if_true] at h3
          obtain ⟨l', pl', k1, k2⟩ := ih (i + 1) (l ++ [g.bars.getD i (0, 0)]) true (by omega) (by omega) (by simp; omega) (fun _ => by simp [h4 rfl]) (step _ fun e => by simp)
          refine ⟨l', pl', ?_, k2⟩
          simp (disch := omega) only [Int.toNat_natCast, tk0, List.length_cons, List.length_nil, grd_pos, grd_T, grd_R, cnd_dt, cnd_df, cnd_true, cnd_false, Option.bind_some, Bool.not_true, succ_cast]
          exact k1
        | false =>
          simp only [Bool.false_eq_true, if_false] at h3
          cases hb : barLeB (g.bars.getD i (0, 0)) x with
          | false =>
            obtain ⟨l', pl', k1, k2⟩ := ih (i + 1) (l ++ [x] ++ [g.bars.getD i (0, 0)]) true (by omega) (by omega) (by simp; omega) (fun _ => by simp) (step _ fun e => by simp; grind)
            refine ⟨l', pl', ?_, k2⟩
            simp (disch := omega) only [Int.toNat_natCast, tk0, List.length_cons, List.length_nil, grd_pos, grd_T, grd_R, cnd_dt, cnd_df, cnd_true, cnd_false, Option.bind_some, Bool.not_false, l2After_s, hb, List.length_append, succ_cast]
            exact k1
          | true =>
            obtain ⟨l', pl', k1, k2⟩ := ih (i + 1) (l ++ [g.bars.getD i (0, 0)]) false (by omega) (by omega) (by simp; omega) (fun h => by cases h) (step _ fun e => by simp)
            refine ⟨l', pl', ?_, k2⟩
            simp (disch := omega) only [Int.toNat_natCast, tk0, List.length_cons, List.length_nil, grd_pos, grd_T, grd_R, cnd_dt, cnd_df, cnd_true, cnd_false, Option.bind_some, Bool.not_false, Bool.not_true, l2After_s, hb, succ_cast]
            exact k1
      · have e : i = g.bars.length := by omega
        subst e
        refine ⟨l, pl, ?_, h3, h4, by simpa using h5⟩
        simp (disch := omega) only [Int.toNat_natCast, tk0, List.length_cons, List.length_nil, grd_pos, grd_T, grd_R, cnd_dt, cnd_df, cnd_true, cnd_false, Option.bind_some]
  obtain ⟨l', pl', k1, k2, k3, k4⟩ := key (kk := fun (x_ : (List (Int × Int)) × Bool) =>
      match x_ with
      | (l10, placed11) =>
        cnd (!placed11) (
          grd (l10.length + 1 ≤ 4294967296) <|
          some (⟨g.n, (l10 ++ ([(x.1, x.2)] : List (Int × Int)))⟩ : Grf)) (
          some (⟨g.n, l10⟩ : Grf))) N 0 [] false (by omega) (by omega) (by simp) (fun h => by cases h) (fun e => by simp)
  rw [show ((0 : Nat) : Int) = 0 from rfl] at k1
  cases pl' with
  | true =>
    refine ⟨l', k1, by simpa using k2, fun e => ?_⟩
    rw [← k4 e]
    constructor
    · exact .inr
    · rintro (rfl | h)
      · exact k3 rfl
      · exact h
  | false =>
    simp only [Bool.false_eq_true, if_false] at k2
    refine ⟨l' ++ [x], ?_, by simp; omega, fun e => ?_⟩
    · refine Eq.trans k1 ?_
      simp (disch := omega) only [Int.toNat_natCast, tk0, List.length_cons, List.length_nil, grd_pos, grd_T, grd_R, cnd_dt, cnd_df, cnd_true, cnd_false, Option.bind_some, Bool.not_false]
    · rw [← k4 e]; simp; grind
theorem put_s (hN : 4000000 ≤ N) {g : Grf} (hl : g.bars.length ≤ 1000) (x : Int × Int) : ∃ L, S_l2Put N g x = some ⟨g.n, L⟩ ∧ L.length = g.bars.length + 1 ∧ (∀ e, e ∈ L ↔ e = x ∨ e ∈ g.bars) ∧ (Srt g.bars → Srt L) := by
  obtain ⟨L, h1, h2, h3⟩ := put0_s (N := N) hN hl x
  refine ⟨L, h1, h2, h3, fun hs => ?_⟩
  obtain ⟨L', g1, g2⟩ := putX_s (N := N) hN hl x hs
  rw [h1] at g1
  cases g1
  exact g2
theorem heldS_s (hN : 4000000 ≤ N) {p : Pin} (hl : p.ground.length ≤ 27) : ∃ L, S_l20Held N p = some ⟨p.g.n, L⟩ ∧ L.length ≤ 2 * (p.ground.length - 1) - 1 ∧ HeldS p.ground L p.ground.length := by
  have key : ∀ {kk : (List (Int × Int) × Int) → Option Grf} (fuel i : Nat) (L : List (Int × Int)), 1 ≤ i → i ≤ p.ground.length + 1 → p.ground.length + 1 < fuel + i → L.length ≤ 2 * (i - 1) - 1 → HeldS p.ground L i → (i ≤ p.ground.length ∨ p.ground.length = 0) →
      ∃ L', S_l20Held_l1 N p kk fuel (L, (i : Int), p.g.n) = kk (L', p.g.n) ∧ L'.length ≤ 2 * (p.ground.length - 1) - 1 ∧ HeldS p.ground L' p.ground.length := by
    intro kk fuel
    induction fuel with
    | zero => intro i L h0 h1 h2 h3 h4 h5; omega
    | succ fuel ih =>
      intro i L h0 h1 h2 h3 h4 h5
      rw [S_l20Held_l1]
      by_cases hi : i < p.ground.length
      · obtain ⟨L1, a1, a2, a3, a4⟩ := put_s (N := N) hN (g := ⟨p.g.n, L⟩) (by simp only; omega) (p.ground.getD 0 0, p.ground.getD i 0)
        simp only at a1 a2 a3 a4
        by_cases h1' : 1 < i
        · obtain ⟨L2, b1, b2, b3, b4⟩ := put_s (N := N) hN (g := ⟨p.g.n, L1⟩) (by simp only; omega) (p.ground.getD 1 0, p.ground.getD i 0)
          simp only at b1 b2 b3 b4
          obtain ⟨L', k1, k2⟩ := ih (i + 1) L2 (by omega) (by omega) (by omega) (by omega) ⟨fun e he => by
            rcases (b3 e).1 he with h | h
            · exact ⟨1, i, h1', by omega, h⟩
            · rcases (a3 e).1 h with h | h
              · exact ⟨0, i, by omega, by omega, h⟩
              · obtain ⟨i', j', g1, g2, g3⟩ := h4.mem e h
                exact ⟨i', j', g1, by omega, g3⟩, fun i' g1 g2 => (b3 _).2 (.inr ((a3 _).2 (by
            by_cases e : i' = i
            · subst e; exact .inl rfl
            · exact .inr (h4.h0 i' g1 (by omega))))), fun i' g1 g2 => (b3 _).2 (by
            by_cases e : i' = i
            · subst e; exact .inl rfl
            · exact .inr ((a3 _).2 (.inr (h4.h1 i' g1 (by omega))))), b4 (a4 h4.srt)⟩ (.inl (by omega))
          refine ⟨L', ?_, k2⟩
          have z0 : (0 : Int).toNat = 0 := rfl
          have z1 : (1 : Int).toNat = 1 := rfl
          simp (disch := omega) only [Int.toNat_natCast, tk0, List.length_cons, List.length_nil, grd_pos, grd_T, grd_R, cnd_dt, cnd_df, cnd_true, cnd_false, Option.bind_some, z0, z1, a1, b1, succ_cast]
          exact k1
        · have e1 : i = 1 := by omega
          subst e1
          obtain ⟨L', k1, k2⟩ := ih 2 L1 (by omega) (by omega) (by omega) (by omega) ⟨fun e he => by
            rcases (a3 e).1 he with h | h
            · exact ⟨0, 1, by omega, by omega, h⟩
            · obtain ⟨i', j', g1, g2, g3⟩ := h4.mem e h
              exact ⟨i', j', g1, by omega, g3⟩, fun i' g1 g2 => (a3 _).2 (by
            by_cases e : i' = 1
            · subst e; exact .inl rfl
            · omega), fun i' g1 g2 => by omega, a4 h4.srt⟩ (.inl (by omega))
          refine ⟨L', ?_, k2⟩
          have z0 : (0 : Int).toNat = 0 := rfl
          simp (disch := omega) only [Int.toNat_natCast, tk0, List.length_cons, List.length_nil, grd_pos, grd_T, grd_R, cnd_dt, cnd_df, cnd_true, cnd_false, Option.bind_some, z0, a1, succ_cast]
          exact k1
      · refine ⟨L, ?_, by omega, ⟨fun e he => ?_, fun i' g1 g2 => h4.h0 i' g1 (by omega), fun i' g1 g2 => h4.h1 i' g1 (by omega), h4.srt⟩⟩
        · simp (disch := omega) only [Int.toNat_natCast, tk0, List.length_cons, List.length_nil, grd_pos, grd_T, grd_R, cnd_dt, cnd_df, cnd_true, cnd_false, Option.bind_some]
        · obtain ⟨i', j', g1, g2, g3⟩ := h4.mem e he
          exact ⟨i', j', g1, by omega, g3⟩
  by_cases h0 : p.ground.length = 0
  · obtain ⟨L, k1, k2⟩ := key (kk := fun x => match x with | (l14, c15) => some (⟨c15, l14⟩ : Grf)) N 1 [] (by omega) (by omega) (by omega) (by simp) ⟨fun e he => by simp at he, fun i g1 g2 => by omega, fun i g1 g2 => by omega, List.Pairwise.nil⟩ (.inr h0)
    exact ⟨L, k1, k2⟩
  · obtain ⟨L, k1, k2⟩ := key (kk := fun x => match x with | (l14, c15) => some (⟨c15, l14⟩ : Grf)) N 1 [] (by omega) (by omega) (by omega) (by simp) ⟨fun e he => by simp at he, fun i g1 g2 => by omega, fun i g1 g2 => by omega, List.Pairwise.nil⟩ (.inl (by omega))
    exact ⟨L, k1, k2⟩
theorem allS_s (hN : 4000000 ≤ N) {p : Pin} (hl : p.ground.length ≤ 27) (hb : p.g.bars.length ≤ 24) : ∃ LH L, S_l20Held N p = some ⟨p.g.n, LH⟩ ∧ LH.length ≤ 2 * (p.ground.length - 1) - 1 ∧ HeldS p.ground LH p.ground.length ∧ S_l20All N p = some ⟨p.g.n, L⟩ ∧ L.length = LH.length + p.g.bars.length ∧ (∀ e, e ∈ L ↔ e ∈ LH ∨ e ∈ p.g.bars) ∧ Srt L := by
  obtain ⟨LH, h1, h2, h3⟩ := heldS_s (N := N) hN hl
  have key : ∀ {kk : (List (Int × Int) × Int) → Option Grf} (fuel i : Nat) (L : List (Int × Int)), i ≤ p.g.bars.length → p.g.bars.length < fuel + i → L.length = LH.length + i → (∀ e, e ∈ L ↔ e ∈ LH ∨ e ∈ p.g.bars.take i) → Srt L →
      ∃ L', S_l20All_l1 N p kk fuel (L, (i : Int), p.g.n) = kk (L', p.g.n) ∧ L'.length = LH.length + p.g.bars.length ∧ (∀ e, e ∈ L' ↔ e ∈ LH ∨ e ∈ p.g.bars) ∧ Srt L' := by
    intro kk fuel
    induction fuel with
    | zero => intro i L g1 g2; omega
    | succ fuel ih =>
      intro i L g1 g2 g3 g4 g5
      rw [S_l20All_l1]
      by_cases hi : i < p.g.bars.length
      · obtain ⟨L1, a1, a2, a3, a4⟩ := put_s (N := N) hN (g := ⟨p.g.n, L⟩) (by simp only; omega) (p.g.bars.getD i (0, 0))
        simp only at a1 a2 a3 a4
        obtain ⟨L', k1, k2⟩ := ih (i + 1) L1 (by omega) (by omega) (by omega) (fun e => by
          have hd : p.g.bars.getD i (0, 0) = p.g.bars[i] := by simp [List.getD_eq_getElem?_getD, List.getElem?_eq_getElem hi]
          rw [a3 e, g4 e, List.take_add_one, List.getElem?_eq_getElem hi, List.mem_append, hd]
          simp only [Option.toList_some, List.mem_singleton]
          grind) (a4 g5)
        refine ⟨L', ?_, k2⟩
        simp (disch := omega) only [Int.toNat_natCast, tk0, List.length_cons, List.length_nil, grd_pos, grd_T, grd_R, cnd_dt, cnd_df, cnd_true, cnd_false, Option.bind_some, a1, succ_cast]
        exact k1
      · have e : i = p.g.bars.length := by omega
        subst e
        refine ⟨L, ?_, by omega, by simpa using g4, g5⟩
        simp (disch := omega) only [Int.toNat_natCast, tk0, List.length_cons, List.length_nil, grd_pos, grd_T, grd_R, cnd_dt, cnd_df, cnd_true, cnd_false, Option.bind_some]
  obtain ⟨L, k1, k2, k3⟩ := key (kk := fun x => match x with | (l8, c9) => some (⟨c9, l8⟩ : Grf)) N 0 LH (by omega) (by omega) (by omega) (by simp) h3.srt
  refine ⟨LH, L, h1, h2, h3, ?_, k2, k3⟩
  unfold S_l20All
  rw [h1, Option.bind_some]
  exact k1
end Go.Proofs.Ytkpmijmlbpdknaa

namespace Go.Proofs.Ytkpmijmlbpdknaa
open Go.RowKit
set_option linter.unusedVariables false
set_option linter.unusedSimpArgs false
end Go.Proofs.Ytkpmijmlbpdknaa
