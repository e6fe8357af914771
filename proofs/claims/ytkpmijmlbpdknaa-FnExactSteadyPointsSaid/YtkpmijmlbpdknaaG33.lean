/- Plain texts of functions, and that the program computes them (printed by gen.py). -/
import Derived.Test.YtkpmijmlbpdknaaShb
import Derived.Test.YtkpmijmlbpdknaaG7
import Derived.Test.YtkpmijmlbpdknaaG31
namespace Go.Proofs.Ytkpmijmlbpdknaa
open Go.RowKit
set_option linter.unusedVariables false
set_option linter.unusedSimpArgs false
def I_moveTo_l3 (N : Nat) (p_1 : Pbl) (a_2 : Int) (from298 : List (Int × Int)) (x299 : Int) (v307 : Int) (k : (List Int) → Option (Bool × (List Int) × (List Int) × (List Int))) : Nat → ((List Int) × Int) → Option (Bool × (List Int) × (List Int) × (List Int))
  | 0, _ => none
  | n + 1, (l312, at313) =>
    cnd (at313 != a_2) (
      grd (0 ≤ (mget (mset from298 v307 x299) at313) ∧ (mget (mset from298 v307 x299) at313) < (p_1.tails.length : Int)) <|
      grd (0 ≤ (mget (mset from298 v307 x299) at313) ∧ (mget (mset from298 v307 x299) at313) < (l312.length : Int)) <|
      I_moveTo_l3 N p_1 a_2 from298 x299 v307 k n ((l312.set (((mget (mset from298 v307 x299) at313)).toNat) at313), (l312.getD (((mget (mset from298 v307 x299) at313)).toNat) 0))) (
      k l312)
def I_moveTo_l2 (N : Nat) (bars_0 : List (Int × Int)) (p_1 : Pbl) (a_2 : Int) (b_3 : Int) (i211 : Int) (k : ((List Int) × (List (Int × Int))) → Option (Bool × (List Int) × (List Int) × (List Int))) : Nat → ((List Int) × (List (Int × Int)) × Int) → Option (Bool × (List Int) × (List Int) × (List Int))
  | 0, _ => none
  | n + 1, (l297, from298, x299) =>
    cnd (decide (x299 < (p_1.placed.length : Int))) (
      grd (0 ≤ x299 ∧ x299 < (p_1.placed.length : Int)) <|
      grd (0 ≤ x299 ∧ x299 < (p_1.tails.length : Int)) <|
      grd (0 ≤ i211 ∧ i211 < (l297.length : Int)) <|
      cnd ((p_1.tails.getD ((x299).toNat) 0) != (l297.getD ((i211).toNat) 0)) (
        grd (Rg64 (x299 + (1 : Int))) <|
        I_moveTo_l2 N bars_0 p_1 a_2 b_3 i211 k n (l297, from298, (x299 + (1 : Int)))) (
        grd (0 ≤ (p_1.placed.getD ((x299).toNat) 0) ∧ (p_1.placed.getD ((x299).toNat) 0) < (bars_0.length : Int)) <|
        (M_Bar_other N (bars_0.getD (((p_1.placed.getD ((x299).toNat) 0)).toNat) (0, 0)) (l297.getD ((i211).toNat) 0)).bind fun v307 =>
        cnd (mhas from298 v307) (
          grd (Rg64 (x299 + (1 : Int))) <|
          I_moveTo_l2 N bars_0 p_1 a_2 b_3 i211 k n (l297, from298, (x299 + (1 : Int)))) (
          cnd (v307 == b_3) (
            grd (l297.length + 1 ≤ 4294967296) <|
            grd (Rg64 (x299 + (1 : Int))) <|
            I_moveTo_l2 N bars_0 p_1 a_2 b_3 i211 k n ((l297 ++ ([v307] : List Int)), (mset from298 v307 x299), (x299 + (1 : Int)))) (
            grd (0 ≤ v307 ∧ v307 < (p_1.free.length : Int)) <|
            cnd ((p_1.free.getD ((v307).toNat) 0) == (0 : Int)) (
              grd (l297.length + 1 ≤ 4294967296) <|
              grd (Rg64 (x299 + (1 : Int))) <|
              I_moveTo_l2 N bars_0 p_1 a_2 b_3 i211 k n ((l297 ++ ([v307] : List Int)), (mset from298 v307 x299), (x299 + (1 : Int)))) (
              grd (Rg64 ((p_1.free.getD ((v307).toNat) 0) - (1 : Int))) <|
              grd (0 ≤ a_2 ∧ a_2 < (p_1.free.length : Int)) <|
              grd (0 ≤ a_2 ∧ a_2 < ((p_1.free.set ((v307).toNat) ((p_1.free.getD ((v307).toNat) 0) - (1 : Int))).length : Int)) <|
              grd (Rg64 (((p_1.free.set ((v307).toNat) ((p_1.free.getD ((v307).toNat) 0) - (1 : Int))).getD ((a_2).toNat) 0) + (1 : Int))) <|
              I_moveTo_l3 N p_1 a_2 from298 x299 v307 (fun (l310 : List Int) =>
                    grd (p_1.free.length = ((p_1.free.set ((v307).toNat) ((p_1.free.getD ((v307).toNat) 0) - (1 : Int))).set ((a_2).toNat) (((p_1.free.set ((v307).toNat) ((p_1.free.getD ((v307).toNat) 0) - (1 : Int))).getD ((a_2).toNat) 0) + (1 : Int))).length) <|
                    grd (p_1.tails.length = l310.length) <|
                    some (true, ((p_1.free.set ((v307).toNat) ((p_1.free.getD ((v307).toNat) 0) - (1 : Int))).set ((a_2).toNat) (((p_1.free.set ((v307).toNat) ((p_1.free.getD ((v307).toNat) 0) - (1 : Int))).getD ((a_2).toNat) 0) + (1 : Int))), l310, p_1.placed)) N (p_1.tails, v307)))))) (
      k (l297, from298))
def I_moveTo_l1 (N : Nat) (bars_0 : List (Int × Int)) (p_1 : Pbl) (a_2 : Int) (b_3 : Int) (k : Unit → Option (Bool × (List Int) × (List Int) × (List Int))) : Nat → ((List Int) × (List (Int × Int)) × Int) → Option (Bool × (List Int) × (List Int) × (List Int))
  | 0, _ => none
  | n + 1, (l209, from210, i211) =>
    cnd (decide (i211 < (l209.length : Int))) (
      I_moveTo_l2 N bars_0 p_1 a_2 b_3 i211 (fun (x : (List Int) × (List (Int × Int))) =>
          match x with
          | (l287, from288) =>
            grd (Rg64 (i211 + (1 : Int))) <|
            I_moveTo_l1 N bars_0 p_1 a_2 b_3 k n (l287, from288, (i211 + (1 : Int)))) N (l209, from210, (0 : Int))) (
      k ())
def I_moveTo (N : Nat) (bars_0 : List (Int × Int)) (p_1 : Pbl) (a_2 : Int) (b_3 : Int) : Option (Bool × (List Int) × (List Int) × (List Int)) :=
  I_moveTo_l1 N bars_0 p_1 a_2 b_3 (fun (_ : Unit) =>
        some (false, p_1.free, p_1.tails, p_1.placed)) N (([a_2] : List Int), (mset ([] : List (Int × Int)) a_2 (-1 : Int)), (0 : Int))
set_option maxRecDepth 20000 in
set_option maxHeartbeats 1600000 in
theorem I_moveTo_w (N : Nat) (bars_0 : List (Int × Int)) (p_1 : Pbl) (a_2 : Int) (b_3 : Int) (r : Bool × (List Int) × (List Int) × (List Int)) (h : I_moveTo N bars_0 p_1 a_2 b_3 = some r) : MCall Try.prog 130 [.ro false (.pairs bars_0), .ptr 1000001 0, .int a_2, .int b_3] [900010, 900011, 900012] [1000001] [(3, .ints p_1.free), (3, .ints p_1.tails), (3, .ints p_1.placed)] [(3, .ints r.2.1), (3, .ints r.2.2.1), (3, .ints r.2.2.2)] [[.row 900010 0 p_1.free.length, .row 900011 0 p_1.tails.length, .row 900012 0 p_1.placed.length]] [[.row 900010 0 r.2.1.length, .row 900011 0 r.2.2.1.length, .row 900012 0 r.2.2.2.length]] (.bool r.1) := by
  unfold I_moveTo at h
  refine mcall_intro (TT := TT) tt Try.func130 rfl rfl Try.ntmps130 (congrArg Array.toList Try.results130) rfl rfl rfl rfl rfl fun w0 O0 => ?_
  refine vSeq ?_
  refine vRegion ?_
  refine oVal tt rfl rfl rfl rfl rfl trivial ?_
  refine vNil ?_
  change VC _ _ _ _
  refine vSeq ?_
  refine vRegion ?_
  refine oMakeMap rfl rfl rfl rfl fun mk2 hmk2 => ?_
  refine oVal tt rfl rfl rfl rfl rfl trivial ?_
  refine oMapSet tt hmk2 rfl (by first | exact .inl rfl | exact .inr rfl) rfl rfl rfl rfl rfl rfl ?_
  repeat (first | refine mapC_nil ?_ | refine mapC_hit ?_ | refine mapC_same rfl ?_ | refine mapC_dead ?_)
  change VO _ _ _ _ _
  iterate 2 refine oVal tt rfl rfl rfl rfl rfl trivial ?_
  refine vNil ?_
  change VC _ _ _ _
  refine vSeq ?_
  refine vRegion ?_
  refine oVal tt rfl rfl rfl rfl rfl trivial ?_
  refine oBuild tt rfl rfl rfl rfl rfl rfl rfl rfl rfl rfl rfl ?_
  refine oVal tt rfl rfl rfl rfl rfl trivial ?_
  refine vNil ?_
  change VC _ _ _ _
  iterate 2 refine vSeq ?_
  refine vRegion ?_
  refine oVal tt rfl rfl rfl rfl rfl trivial ?_
  refine vNil ?_
  change VC _ _ _ _
  refine vJoin (F := fun k => I_moveTo_l1 N bars_0 p_1 a_2 b_3 k) h (α := Unit) (J := fun (_ : Unit) => (⟨[], [(900010, some (3, .ints p_1.free)), (900011, some (3, .ints p_1.tails)), (900012, some (3, .ints p_1.placed))], [(1000001, some [.row 900010 0 p_1.free.length, .row 900011 0 p_1.tails.length, .row 900012 0 p_1.placed.length])]⟩ : PS)) ?_ ?_
  · rintro ⟨⟩ h
    show VC _ _ _ (⟨[], [(900010, some (3, .ints p_1.free)), (900011, some (3, .ints p_1.tails)), (900012, some (3, .ints p_1.placed))], [(1000001, some [.row 900010 0 p_1.free.length, .row 900011 0 p_1.tails.length, .row 900012 0 p_1.placed.length])]⟩ : PS)
    refine vSeq ?_
    refine vRegion ?_
    refine oVal tt rfl rfl rfl rfl rfl trivial ?_
    refine vNil ?_
    change VC _ _ _ _
    refine vRet ?_
    change ∃ _, _
    cases h
    exact ⟨[900010, 900011, 900012], rfl, ⟨rfl, rfl, rfl, trivial⟩, ⟨rfl, trivial⟩, rfl⟩
  · intro k h
    refine vBlock ?_
    refine vLoopS (α := (List Int) × (List (Int × Int)) × Int) (fun | (l209, from210, i211) => (⟨[(0, .ro false (.pairs bars_0)), (1, .ptr 1000001 0), (2, .int a_2), (3, .int b_3), (9, .map mk2 from210), (10, .row 24 0 l209.length), (11, .int i211)], [(24, some (3, .ints l209)), (900010, some (3, .ints p_1.free)), (900011, some (3, .ints p_1.tails)), (900012, some (3, .ints p_1.placed))], [(1000001, some [.row 900010 0 p_1.free.length, .row 900011 0 p_1.tails.length, .row 900012 0 p_1.placed.length])]⟩ : PS)) (I_moveTo_l1 N bars_0 p_1 a_2 b_3 k) h (En.of ⟨rfl, rfl, rfl, rfl, rfl, rfl, rfl, trivial⟩ ⟨rfl, rfl, rfl, rfl, trivial⟩ ⟨rfl, trivial⟩) (fun _ => rfl) ?_
    rintro n ⟨l209, from210, i211⟩ h
    rw [I_moveTo_l1] at h
    show VC _ _ _ (⟨[(0, .ro false (.pairs bars_0)), (1, .ptr 1000001 0), (2, .int a_2), (3, .int b_3), (9, .map mk2 from210), (10, .row 24 0 l209.length), (11, .int i211)], [(24, some (3, .ints l209)), (900010, some (3, .ints p_1.free)), (900011, some (3, .ints p_1.tails)), (900012, some (3, .ints p_1.placed))], [(1000001, some [.row 900010 0 p_1.free.length, .row 900011 0 p_1.tails.length, .row 900012 0 p_1.placed.length])]⟩ : PS)
    iterate 2 refine vSeq ?_
    refine vRegion ?_
    iterate 4 refine oVal tt rfl rfl rfl rfl rfl trivial ?_
    refine vNil ?_
    change VC _ _ _ _
    refine vCond rfl (fun hb2 => ?_) (fun hb2 => ?_)
    · replace h := cnd_t hb2 h
      refine vSkip ?_
      change VC _ _ _ _
      refine vSeq ?_
      refine vBlock ?_
      refine vSeq ?_
      refine vRegion ?_
      iterate 6 refine oVal tt rfl rfl rfl rfl rfl trivial ?_
      refine vNil ?_
      change VC _ _ _ _
      refine vJoin (F := fun k => I_moveTo_l2 N bars_0 p_1 a_2 b_3 i211 k) h (α := (List Int) × (List (Int × Int))) (J := fun | (l287, from288) => (⟨[(0, .ro false (.pairs bars_0)), (1, .ptr 1000001 0), (2, .int a_2), (3, .int b_3), (9, .map mk2 from288), (10, .row 24 0 l287.length), (11, .int i211)], [(24, some (3, .ints l287)), (900010, some (3, .ints p_1.free)), (900011, some (3, .ints p_1.tails)), (900012, some (3, .ints p_1.placed))], [(1000001, some [.row 900010 0 p_1.free.length, .row 900011 0 p_1.tails.length, .row 900012 0 p_1.placed.length])]⟩ : PS)) ?_ ?_
      · rintro ⟨l287, from288⟩ h
        show VC _ _ _ (⟨[(0, .ro false (.pairs bars_0)), (1, .ptr 1000001 0), (2, .int a_2), (3, .int b_3), (9, .map mk2 from288), (10, .row 24 0 l287.length), (11, .int i211)], [(24, some (3, .ints l287)), (900010, some (3, .ints p_1.free)), (900011, some (3, .ints p_1.tails)), (900012, some (3, .ints p_1.placed))], [(1000001, some [.row 900010 0 p_1.free.length, .row 900011 0 p_1.tails.length, .row 900012 0 p_1.placed.length])]⟩ : PS)
        refine vRegion ?_
        refine oVal tt rfl rfl rfl rfl rfl trivial ?_
        obtain ⟨hg3, h⟩ := grd_inv h
        refine oVal tt rfl rfl rfl rfl rfl hg3 ?_
        refine oVal tt rfl rfl rfl rfl rfl trivial ?_
        refine vNil ?_
        change ∃ _, _
        exact ⟨(l287, from288, (i211 + (1 : Int))), (En.of ⟨rfl, rfl, rfl, rfl, rfl, rfl, rfl, trivial⟩ ⟨rfl, rfl, rfl, rfl, trivial⟩ ⟨rfl, trivial⟩), h⟩
      · intro k h
        refine vBlock ?_
        refine vLoopS (α := (List Int) × (List (Int × Int)) × Int) (fun | (l297, from298, x299) => (⟨[(0, .ro false (.pairs bars_0)), (1, .ptr 1000001 0), (2, .int a_2), (3, .int b_3), (9, .map mk2 from298), (10, .row 24 0 l297.length), (11, .int i211), (34, .row 900012 0 p_1.placed.length), (35, .int (p_1.placed.length : Int)), (36, .int x299)], [(24, some (3, .ints l297)), (900012, some (3, .ints p_1.placed)), (900010, some (3, .ints p_1.free)), (900011, some (3, .ints p_1.tails))], [(1000001, some [.row 900010 0 p_1.free.length, .row 900011 0 p_1.tails.length, .row 900012 0 p_1.placed.length])]⟩ : PS)) (I_moveTo_l2 N bars_0 p_1 a_2 b_3 i211 k) h (En.of ⟨rfl, rfl, rfl, rfl, rfl, rfl, rfl, rfl, rfl, rfl, trivial⟩ ⟨rfl, rfl, rfl, rfl, trivial⟩ ⟨rfl, trivial⟩) (fun _ => rfl) ?_
        rintro n ⟨l297, from298, x299⟩ h
        rw [I_moveTo_l2] at h
        show VC _ _ _ (⟨[(0, .ro false (.pairs bars_0)), (1, .ptr 1000001 0), (2, .int a_2), (3, .int b_3), (9, .map mk2 from298), (10, .row 24 0 l297.length), (11, .int i211), (34, .row 900012 0 p_1.placed.length), (35, .int (p_1.placed.length : Int)), (36, .int x299)], [(24, some (3, .ints l297)), (900012, some (3, .ints p_1.placed)), (900010, some (3, .ints p_1.free)), (900011, some (3, .ints p_1.tails))], [(1000001, some [.row 900010 0 p_1.free.length, .row 900011 0 p_1.tails.length, .row 900012 0 p_1.placed.length])]⟩ : PS)
        refine vSeq ?_
        refine vRegion ?_
        refine oVal tt rfl rfl rfl rfl rfl trivial ?_
        refine vNil ?_
        change VC _ _ _ _
        refine vSeq ?_
        refine vCond rfl (fun hb4 => ?_) (fun hb4 => ?_)
        · replace h := cnd_t hb4 h
          refine vSkip ?_
          change VC _ _ _ _
          refine vSeq ?_
          refine vBlock ?_
          refine vSeq ?_
          refine vRegion ?_
          refine oVal tt rfl rfl rfl rfl rfl trivial ?_
          obtain ⟨hg5, h⟩ := grd_inv h
          iterate 2 refine oVal tt rfl rfl rfl rfl rfl hg5 ?_
          iterate 2 refine oVal tt rfl rfl rfl rfl rfl trivial ?_
          refine vNil ?_
          change VC _ _ _ _
          iterate 2 refine vSeq ?_
          refine vRegionD (by kernel_rfl) (by kernel_rfl) ?_
          iterate 5 refine cVal tt rfl (wNone rfl) rfl rfl rfl trivial ?_
          obtain ⟨hg6, h⟩ := grd_inv h
          iterate 2 refine cVal tt rfl (wNone rfl) rfl rfl rfl hg6 ?_
          iterate 2 refine cVal tt rfl (wNone rfl) rfl rfl rfl trivial ?_
          obtain ⟨hg7, h⟩ := grd_inv h
          iterate 2 refine cVal tt rfl (wNone rfl) rfl rfl rfl hg7 ?_
          refine cVal tt rfl (wNone rfl) rfl rfl rfl trivial ?_
          refine cNil ?_
          change VC _ _ _ _
          refine vCond rfl (fun hb8 => ?_) (fun hb8 => ?_)
          · replace h := cnd_t hb8 h
            refine vExit ?_
            change VC _ _ _ _
            refine vRegion ?_
            obtain ⟨hg9, h⟩ := grd_inv h
            refine oVal tt rfl rfl rfl rfl rfl hg9 ?_
            refine oVal tt rfl rfl rfl rfl rfl trivial ?_
            refine vNil ?_
            change ∃ _, _
            exact ⟨(l297, from298, (x299 + (1 : Int))), (En.of ⟨rfl, rfl, rfl, rfl, rfl, rfl, rfl, rfl, rfl, rfl, trivial⟩ ⟨rfl, rfl, rfl, rfl, trivial⟩ ⟨rfl, trivial⟩), h⟩
          · replace h := cnd_f hb8 h
            refine vSkip ?_
            change VC _ _ _ _
            refine vSeq ?_
            refine vRegionD (by kernel_rfl) (by kernel_rfl) ?_
            iterate 2 refine cVal tt rfl (wNone rfl) rfl rfl rfl trivial ?_
            obtain ⟨hg10, h⟩ := grd_inv h
            refine cVal tt rfl (wNone rfl) rfl rfl rfl hg10 ?_
            iterate 3 refine cVal tt rfl (wNone rfl) rfl rfl rfl trivial ?_
            iterate 2 refine cVal tt rfl (wNone rfl) rfl rfl rfl hg7 ?_
            obtain ⟨v307, hc11, h⟩ := bind_inv h
            refine cCall (M_Bar_other_w N (bars_0.getD (((p_1.placed.getD ((x299).toNat) 0)).toNat) (0, 0)) (l297.getD ((i211).toNat) 0) v307 hc11) rfl (wNone rfl) rfl rfl rfl rfl rfl rfl ⟨⟨rfl, rfl, trivial⟩, rfl, trivial⟩ ?_
            refine cVal tt rfl (wNone rfl) rfl rfl rfl trivial ?_
            refine cNil ?_
            change VC _ _ _ _
            iterate 2 refine vSeq ?_
            refine vRegion ?_
            iterate 8 refine oVal tt rfl rfl rfl rfl rfl trivial ?_
            refine vNil ?_
            change VC _ _ _ _
            refine vSeq ?_
            refine vRegion ?_
            refine oVal tt rfl rfl rfl rfl rfl trivial ?_
            refine vNil ?_
            change VC _ _ _ _
            refine vCond rfl (fun hb12 => ?_) (fun hb12 => ?_)
            · replace h := cnd_t hb12 h
              refine vExit ?_
              change VC _ _ _ _
              refine vRegion ?_
              obtain ⟨hg13, h⟩ := grd_inv h
              refine oVal tt rfl rfl rfl rfl rfl hg13 ?_
              refine oVal tt rfl rfl rfl rfl rfl trivial ?_
              refine vNil ?_
              change ∃ _, _
              exact ⟨(l297, from298, (x299 + (1 : Int))), (En.of ⟨rfl, rfl, rfl, rfl, rfl, rfl, rfl, rfl, rfl, rfl, trivial⟩ ⟨rfl, rfl, rfl, rfl, trivial⟩ ⟨rfl, trivial⟩), h⟩
            · replace h := cnd_f hb12 h
              refine vSkip ?_
              change VC _ _ _ _
              refine vSeq ?_
              refine vRegion ?_
              iterate 3 refine oVal tt rfl rfl rfl rfl rfl trivial ?_
              refine oMapSet tt hmk2 rfl (by first | exact .inl rfl | exact .inr rfl) rfl rfl rfl rfl rfl rfl ?_
              repeat (first | refine mapC_nil ?_ | refine mapC_hit ?_ | refine mapC_same rfl ?_ | refine mapC_dead ?_)
              change VO _ _ _ _ _
              refine vNil ?_
              change VC _ _ _ _
              iterate 2 refine vSeq ?_
              refine vRegion ?_
              iterate 4 refine oVal tt rfl rfl rfl rfl rfl trivial ?_
              refine oSplit rfl rfl rfl (fun hb14 => ?_) (fun hb14 => ?_)
              · replace h := cnd_t hb14 h
                iterate 8 refine oNoF rfl rfl rfl rfl hb14 rfl rfl ?_
                refine oPick rfl rfl rfl rfl rfl hb14 rfl ?_
                refine vNil ?_
                change VC _ _ _ _
                refine vCondT rfl rfl ?_
                refine vSeq ?_
                refine vRegion ?_
                iterate 2 refine oVal tt rfl rfl rfl rfl rfl trivial ?_
                refine oBuild tt rfl rfl rfl rfl rfl rfl rfl rfl rfl rfl rfl ?_
                obtain ⟨hg15, h⟩ := grd_inv h
                refine oAppend tt rfl rfl rfl rfl rfl rfl rfl rfl rfl rfl rfl rfl rfl rfl rfl rfl (Nat.le_of_eq (Nat.zero_add _)) hg15 ?_
                refine oVal tt rfl rfl rfl rfl rfl trivial ?_
                refine vNil ?_
                change VC _ _ _ _
                refine vExit ?_
                change VC _ _ _ _
                refine vRegion ?_
                obtain ⟨hg16, h⟩ := grd_inv h
                refine oVal tt rfl rfl rfl rfl rfl hg16 ?_
                refine oVal tt rfl rfl rfl rfl rfl trivial ?_
                refine vNil ?_
                change ∃ _, _
                exact ⟨((l297 ++ ([v307] : List Int)), (mset from298 v307 x299), (x299 + (1 : Int))), (En.of ⟨rfl, rfl, rfl, rfl, rfl, rfl, rfl, rfl, rfl, rfl, trivial⟩ ⟨rfl, rfl, rfl, rfl, trivial⟩ ⟨rfl, trivial⟩), h⟩
              · replace h := cnd_f hb14 h
                iterate 5 refine oValG tt rfl rfl rfl rfl rfl hb14 rfl rfl rfl trivial ?_
                obtain ⟨hg17, h⟩ := grd_inv h
                iterate 2 refine oValG tt rfl rfl rfl rfl rfl hb14 rfl rfl rfl hg17 ?_
                refine oValG tt rfl rfl rfl rfl rfl hb14 rfl rfl rfl trivial ?_
                refine oPickF rfl rfl rfl rfl rfl hb14 rfl ?_
                refine vNil ?_
                change VC _ _ _ _
                refine vCond rfl (fun hb18 => ?_) (fun hb18 => ?_)
                · replace h := cnd_t hb18 h
                  refine vSeq ?_
                  refine vRegion ?_
                  iterate 2 refine oVal tt rfl rfl rfl rfl rfl trivial ?_
                  refine oBuild tt rfl rfl rfl rfl rfl rfl rfl rfl rfl rfl rfl ?_
                  obtain ⟨hg19, h⟩ := grd_inv h
                  refine oAppend tt rfl rfl rfl rfl rfl rfl rfl rfl rfl rfl rfl rfl rfl rfl rfl rfl (Nat.le_of_eq (Nat.zero_add _)) hg19 ?_
                  refine oVal tt rfl rfl rfl rfl rfl trivial ?_
                  refine vNil ?_
                  change VC _ _ _ _
                  refine vExit ?_
                  change VC _ _ _ _
                  refine vRegion ?_
                  obtain ⟨hg20, h⟩ := grd_inv h
                  refine oVal tt rfl rfl rfl rfl rfl hg20 ?_
                  refine oVal tt rfl rfl rfl rfl rfl trivial ?_
                  refine vNil ?_
                  change ∃ _, _
                  exact ⟨((l297 ++ ([v307] : List Int)), (mset from298 v307 x299), (x299 + (1 : Int))), (En.of ⟨rfl, rfl, rfl, rfl, rfl, rfl, rfl, rfl, rfl, rfl, trivial⟩ ⟨rfl, rfl, rfl, rfl, trivial⟩ ⟨rfl, trivial⟩), h⟩
                · replace h := cnd_f hb18 h
                  refine vSkip ?_
                  change VC _ _ _ _
                  refine vSeq ?_
                  refine vRegion ?_
                  iterate 5 refine oVal tt rfl rfl rfl rfl rfl trivial ?_
                  iterate 2 refine oVal tt rfl rfl rfl rfl rfl hg17 ?_
                  obtain ⟨hg21, h⟩ := grd_inv h
                  refine oVal tt rfl rfl rfl rfl rfl hg21 ?_
                  refine oVal tt rfl rfl rfl rfl rfl hg17 ?_
                  refine oStore tt rfl rfl rfl rfl rfl rfl rfl rfl rfl rfl ⟨_, _, rfl, hg17.1, hg17.2⟩ ⟨hg17, trivial⟩ ?_
                  refine vNil ?_
                  change VC _ _ _ _
                  refine vSeq ?_
                  refine vRegion ?_
                  iterate 5 refine oVal tt rfl rfl rfl rfl rfl trivial ?_
                  obtain ⟨hg22, h⟩ := grd_inv h
                  refine oVal tt rfl rfl rfl rfl rfl hg22 ?_
                  obtain ⟨hg23, h⟩ := grd_inv h
                  refine oVal tt rfl rfl rfl rfl rfl hg23 ?_
                  obtain ⟨hg24, h⟩ := grd_inv h
                  refine oVal tt rfl rfl rfl rfl rfl hg24 ?_
                  refine oVal tt rfl rfl rfl rfl rfl hg22 ?_
                  refine oStore tt rfl rfl rfl rfl rfl rfl rfl rfl rfl rfl ⟨_, _, rfl, hg23.1, hg23.2⟩ ⟨hg23, trivial⟩ ?_
                  refine vNil ?_
                  change VC _ _ _ _
                  iterate 2 refine vSeq ?_
                  refine vRegion ?_
                  iterate 2 refine oVal tt rfl rfl rfl rfl rfl trivial ?_
                  refine vNil ?_
                  change VC _ _ _ _
                  refine vJoin (F := fun k => I_moveTo_l3 N p_1 a_2 from298 x299 v307 k) h (α := List Int) (J := fun (l310 : List Int) => (⟨[], [(900010, some (3, .ints ((p_1.free.set ((v307).toNat) ((p_1.free.getD ((v307).toNat) 0) - (1 : Int))).set ((a_2).toNat) (((p_1.free.set ((v307).toNat) ((p_1.free.getD ((v307).toNat) 0) - (1 : Int))).getD ((a_2).toNat) 0) + (1 : Int))))), (900011, some (3, .ints l310)), (900012, some (3, .ints p_1.placed))], [(1000001, some [.row 900010 0 p_1.free.length, .row 900011 0 p_1.tails.length, .row 900012 0 p_1.placed.length])]⟩ : PS)) ?_ ?_
                  · rintro l310 h
                    show VC _ _ _ (⟨[], [(900010, some (3, .ints ((p_1.free.set ((v307).toNat) ((p_1.free.getD ((v307).toNat) 0) - (1 : Int))).set ((a_2).toNat) (((p_1.free.set ((v307).toNat) ((p_1.free.getD ((v307).toNat) 0) - (1 : Int))).getD ((a_2).toNat) 0) + (1 : Int))))), (900011, some (3, .ints l310)), (900012, some (3, .ints p_1.placed))], [(1000001, some [.row 900010 0 p_1.free.length, .row 900011 0 p_1.tails.length, .row 900012 0 p_1.placed.length])]⟩ : PS)
                    refine vSeq ?_
                    refine vRegion ?_
                    refine oVal tt rfl rfl rfl rfl rfl trivial ?_
                    refine vNil ?_
                    change VC _ _ _ _
                    obtain ⟨hg25, h⟩ := grd_inv h
                    refine vRowB 1000001 0 900010 rfl rfl hg25 rfl ?_
                    obtain ⟨hg26, h⟩ := grd_inv h
                    refine vRowB 1000001 1 900011 rfl rfl hg26 rfl ?_
                    refine vRet ?_
                    change ∃ _, _
                    cases h
                    exact ⟨[900010, 900011, 900012], rfl, ⟨rfl, rfl, rfl, trivial⟩, ⟨rfl, trivial⟩, rfl⟩
                  · intro k h
                    refine vBlock ?_
                    refine vLoopS (α := (List Int) × Int) (fun | (l312, at313) => (⟨[(1, .ptr 1000001 0), (2, .int a_2), (9, .map mk2 (mset from298 v307 x299)), (17, .int at313)], [(900010, some (3, .ints ((p_1.free.set ((v307).toNat) ((p_1.free.getD ((v307).toNat) 0) - (1 : Int))).set ((a_2).toNat) (((p_1.free.set ((v307).toNat) ((p_1.free.getD ((v307).toNat) 0) - (1 : Int))).getD ((a_2).toNat) 0) + (1 : Int))))), (900011, some (3, .ints l312)), (900012, some (3, .ints p_1.placed))], [(1000001, some [.row 900010 0 p_1.free.length, .row 900011 0 p_1.tails.length, .row 900012 0 p_1.placed.length])]⟩ : PS)) (I_moveTo_l3 N p_1 a_2 from298 x299 v307 k) h (En.of ⟨rfl, rfl, rfl, rfl, trivial⟩ ⟨rfl, rfl, rfl, trivial⟩ ⟨rfl, trivial⟩) (fun _ => rfl) ?_
                    rintro n ⟨l312, at313⟩ h
                    rw [I_moveTo_l3] at h
                    show VC _ _ _ (⟨[(1, .ptr 1000001 0), (2, .int a_2), (9, .map mk2 (mset from298 v307 x299)), (17, .int at313)], [(900010, some (3, .ints ((p_1.free.set ((v307).toNat) ((p_1.free.getD ((v307).toNat) 0) - (1 : Int))).set ((a_2).toNat) (((p_1.free.set ((v307).toNat) ((p_1.free.getD ((v307).toNat) 0) - (1 : Int))).getD ((a_2).toNat) 0) + (1 : Int))))), (900011, some (3, .ints l312)), (900012, some (3, .ints p_1.placed))], [(1000001, some [.row 900010 0 p_1.free.length, .row 900011 0 p_1.tails.length, .row 900012 0 p_1.placed.length])]⟩ : PS)
                    iterate 2 refine vSeq ?_
                    refine vRegion ?_
                    iterate 3 refine oVal tt rfl rfl rfl rfl rfl trivial ?_
                    refine vNil ?_
                    change VC _ _ _ _
                    refine vCond rfl (fun hb27 => ?_) (fun hb27 => ?_)
                    · replace h := cnd_t hb27 h
                      refine vSkip ?_
                      change VC _ _ _ _
                      refine vBlock ?_
                      refine vSeq ?_
                      refine vRegion ?_
                      iterate 4 refine oVal tt rfl rfl rfl rfl rfl trivial ?_
                      refine vNil ?_
                      change VC _ _ _ _
                      refine vSeq ?_
                      refine vRegion ?_
                      iterate 5 refine oVal tt rfl rfl rfl rfl rfl trivial ?_
                      obtain ⟨hg28, h⟩ := grd_inv h
                      refine oVal tt rfl rfl rfl rfl rfl hg28 ?_
                      obtain ⟨hg29, h⟩ := grd_inv h
                      refine oVal tt rfl rfl rfl rfl rfl hg29 ?_
                      refine oVal tt rfl rfl rfl rfl rfl trivial ?_
                      refine vNil ?_
                      change VC _ _ _ _
                      refine vSeq ?_
                      refine vRegion ?_
                      iterate 6 refine oVal tt rfl rfl rfl rfl rfl trivial ?_
                      refine oVal tt rfl rfl rfl rfl rfl hg28 ?_
                      refine oStore tt rfl rfl rfl rfl rfl rfl rfl rfl rfl rfl ⟨_, _, rfl, hg29.1, hg29.2⟩ ⟨hg29, trivial⟩ ?_
                      refine vNil ?_
                      change VC _ _ _ _
                      refine vRegion ?_
                      iterate 2 refine oVal tt rfl rfl rfl rfl rfl trivial ?_
                      refine vNil ?_
                      change ∃ _, _
                      exact ⟨((l312.set (((mget (mset from298 v307 x299) at313)).toNat) at313), (l312.getD (((mget (mset from298 v307 x299) at313)).toNat) 0)), (En.of ⟨rfl, rfl, rfl, rfl, trivial⟩ ⟨rfl, rfl, rfl, trivial⟩ ⟨rfl, trivial⟩), h⟩
                    · replace h := cnd_f hb27 h
                      refine vExit ?_
                      change ∃ _, _
                      exact ⟨l312, (En.of trivial ⟨rfl, rfl, rfl, trivial⟩ ⟨rfl, trivial⟩), h⟩
        · replace h := cnd_f hb4 h
          refine vExit ?_
          change ∃ _, _
          exact ⟨(l297, from298), (En.of ⟨rfl, rfl, rfl, rfl, rfl, rfl, rfl, trivial⟩ ⟨rfl, rfl, rfl, rfl, trivial⟩ ⟨rfl, trivial⟩), h⟩
    · replace h := cnd_f hb2 h
      refine vExit ?_
      change ∃ _, _
      exact ⟨(), (En.of trivial ⟨rfl, rfl, rfl, trivial⟩ ⟨rfl, trivial⟩), h⟩
def I_gather_l1 (N : Nat) (bars_0 : List (Int × Int)) (a_2 : Int) (b_3 : Int) (want_4 : Int) (k : ((List Int) × (List Int) × (List Int)) → Option (Bool × (List Int) × (List Int) × (List Int))) : Nat → ((List Int) × (List Int) × (List Int)) → Option (Bool × (List Int) × (List Int) × (List Int))
  | 0, _ => none
  | n + 1, (l16, l17, l18) =>
    grd (0 ≤ a_2 ∧ a_2 < (l16.length : Int)) <|
    grd (0 ≤ b_3 ∧ b_3 < (l16.length : Int)) <|
    grd (Rg64 ((l16.getD ((a_2).toNat) 0) + (l16.getD ((b_3).toNat) 0))) <|
    cnd (decide (((l16.getD ((a_2).toNat) 0) + (l16.getD ((b_3).toNat) 0)) < want_4)) (
      (I_moveTo N bars_0 (⟨l16, l17, l18⟩ : Pbl) a_2 b_3).bind fun v21 =>
      cnd (!v21.1) (
        (I_moveTo N bars_0 (⟨v21.2.1, v21.2.2.1, v21.2.2.2⟩ : Pbl) b_3 a_2).bind fun v22 =>
        cnd (!v22.1) (
          some (false, v22.2.1, v22.2.2.1, v22.2.2.2)) (
          I_gather_l1 N bars_0 a_2 b_3 want_4 k n (v22.2.1, v22.2.2.1, v22.2.2.2))) (
        I_gather_l1 N bars_0 a_2 b_3 want_4 k n (v21.2.1, v21.2.2.1, v21.2.2.2))) (
      k (l16, l17, l18))
def I_gather (N : Nat) (bars_0 : List (Int × Int)) (p_1 : Pbl) (a_2 : Int) (b_3 : Int) (want_4 : Int) : Option (Bool × (List Int) × (List Int) × (List Int)) :=
  I_gather_l1 N bars_0 a_2 b_3 want_4 (fun (x : (List Int) × (List Int) × (List Int)) =>
      match x with
      | (l10, l11, l12) =>
        some (true, l10, l11, l12)) N (p_1.free, p_1.tails, p_1.placed)
set_option maxRecDepth 20000 in
set_option maxHeartbeats 1600000 in
theorem I_gather_w (N : Nat) (bars_0 : List (Int × Int)) (p_1 : Pbl) (a_2 : Int) (b_3 : Int) (want_4 : Int) (r : Bool × (List Int) × (List Int) × (List Int)) (h : I_gather N bars_0 p_1 a_2 b_3 want_4 = some r) : MCall Try.prog 129 [.ro false (.pairs bars_0), .ptr 1000001 0, .int a_2, .int b_3, .int want_4] [900010, 900011, 900012] [1000001] [(3, .ints p_1.free), (3, .ints p_1.tails), (3, .ints p_1.placed)] [(3, .ints r.2.1), (3, .ints r.2.2.1), (3, .ints r.2.2.2)] [[.row 900010 0 p_1.free.length, .row 900011 0 p_1.tails.length, .row 900012 0 p_1.placed.length]] [[.row 900010 0 r.2.1.length, .row 900011 0 r.2.2.1.length, .row 900012 0 r.2.2.2.length]] (.bool r.1) := by
  unfold I_gather at h
  refine mcall_intro (TT := TT) tt Try.func129 rfl rfl Try.ntmps129 (congrArg Array.toList Try.results129) rfl rfl rfl rfl rfl fun w0 O0 => ?_
  refine vSeq ?_
  refine vRegion ?_
  refine oVal tt rfl rfl rfl rfl rfl trivial ?_
  refine vNil ?_
  change VC _ _ _ _
  refine vSeq ?_
  refine vJoin (F := fun k => I_gather_l1 N bars_0 a_2 b_3 want_4 k) h (α := (List Int) × (List Int) × (List Int)) (J := fun | (l10, l11, l12) => (⟨[], [(900010, some (3, .ints l10)), (900011, some (3, .ints l11)), (900012, some (3, .ints l12))], [(1000001, some [.row 900010 0 l10.length, .row 900011 0 l11.length, .row 900012 0 l12.length])]⟩ : PS)) ?_ ?_
  · rintro ⟨l10, l11, l12⟩ h
    show VC _ _ _ (⟨[], [(900010, some (3, .ints l10)), (900011, some (3, .ints l11)), (900012, some (3, .ints l12))], [(1000001, some [.row 900010 0 l10.length, .row 900011 0 l11.length, .row 900012 0 l12.length])]⟩ : PS)
    refine vSeq ?_
    refine vRegion ?_
    refine oVal tt rfl rfl rfl rfl rfl trivial ?_
    refine vNil ?_
    change VC _ _ _ _
    refine vRet ?_
    change ∃ _, _
    cases h
    exact ⟨[900010, 900011, 900012], rfl, ⟨rfl, rfl, rfl, trivial⟩, ⟨rfl, trivial⟩, rfl⟩
  · intro k h
    refine vBlock ?_
    refine vLoopS (α := (List Int) × (List Int) × (List Int)) (fun | (l16, l17, l18) => (⟨[(0, .ro false (.pairs bars_0)), (1, .ptr 1000001 0), (2, .int a_2), (3, .int b_3), (4, .int want_4)], [(900010, some (3, .ints l16)), (900011, some (3, .ints l17)), (900012, some (3, .ints l18))], [(1000001, some [.row 900010 0 l16.length, .row 900011 0 l17.length, .row 900012 0 l18.length])]⟩ : PS)) (I_gather_l1 N bars_0 a_2 b_3 want_4 k) h (En.of ⟨rfl, rfl, rfl, rfl, rfl, trivial⟩ ⟨rfl, rfl, rfl, trivial⟩ ⟨rfl, trivial⟩) (fun _ => rfl) ?_
    rintro n ⟨l16, l17, l18⟩ h
    rw [I_gather_l1] at h
    show VC _ _ _ (⟨[(0, .ro false (.pairs bars_0)), (1, .ptr 1000001 0), (2, .int a_2), (3, .int b_3), (4, .int want_4)], [(900010, some (3, .ints l16)), (900011, some (3, .ints l17)), (900012, some (3, .ints l18))], [(1000001, some [.row 900010 0 l16.length, .row 900011 0 l17.length, .row 900012 0 l18.length])]⟩ : PS)
    iterate 2 refine vSeq ?_
    refine vRegionD (by kernel_rfl) (by kernel_rfl) ?_
    iterate 5 refine cVal tt rfl (wNone rfl) rfl rfl rfl trivial ?_
    obtain ⟨hg1, h⟩ := grd_inv h
    iterate 2 refine cVal tt rfl (wNone rfl) rfl rfl rfl hg1 ?_
    iterate 5 refine cVal tt rfl (wNone rfl) rfl rfl rfl trivial ?_
    obtain ⟨hg2, h⟩ := grd_inv h
    iterate 2 refine cVal tt rfl (wNone rfl) rfl rfl rfl hg2 ?_
    obtain ⟨hg3, h⟩ := grd_inv h
    refine cVal tt rfl (wNone rfl) rfl rfl rfl hg3 ?_
    iterate 2 refine cVal tt rfl (wNone rfl) rfl rfl rfl trivial ?_
    refine cNil ?_
    change VC _ _ _ _
    refine vCond rfl (fun hb4 => ?_) (fun hb4 => ?_)
    · replace h := cnd_t hb4 h
      refine vSkip ?_
      change VC _ _ _ _
      refine vBlock ?_
      refine vSeq ?_
      refine vRegion ?_
      iterate 4 refine oVal tt rfl rfl rfl rfl rfl trivial ?_
      obtain ⟨v21, hc5, h⟩ := bind_inv h
      refine oMCall (I_moveTo_w N bars_0 (⟨l16, l17, l18⟩ : Pbl) a_2 b_3 v21 hc5) [900010, 900011, 900012] [1000001] [1320, 1321, 1322] rfl rfl rfl rfl rfl rfl ⟨rfl, rfl, rfl, trivial⟩ ⟨rfl, trivial⟩ ⟨.inl rfl, ⟨rfl, rfl⟩, ⟨rfl, rfl⟩, ⟨rfl, rfl⟩, trivial⟩ ?_
      iterate 2 refine oVal tt rfl rfl rfl rfl rfl trivial ?_
      refine oSplit rfl rfl rfl (fun hb6 => ?_) (fun hb6 => ?_)
      · replace h := cnd_t hb6 h
        iterate 4 refine oValG tt rfl rfl rfl rfl rfl hb6 rfl rfl rfl trivial ?_
        obtain ⟨v22, hc7, h⟩ := bind_inv h
        refine oMCallG (I_moveTo_w N bars_0 (⟨v21.2.1, v21.2.2.1, v21.2.2.2⟩ : Pbl) b_3 a_2 v22 hc7) [1320, 1321, 1322] [1000001] [1390, 1391, 1392] rfl rfl rfl rfl hb6 rfl rfl rfl rfl rfl ⟨rfl, rfl, rfl, trivial⟩ ⟨rfl, trivial⟩ ⟨.inl rfl, ⟨rfl, rfl⟩, ⟨rfl, rfl⟩, ⟨rfl, rfl⟩, trivial⟩ ?_
        refine oValG tt rfl rfl rfl rfl rfl hb6 rfl rfl rfl trivial ?_
        refine oPick rfl rfl rfl rfl rfl hb6 rfl ?_
        refine vNil ?_
        change VC _ _ _ _
        refine vCond rfl (fun hb8 => ?_) (fun hb8 => ?_)
        · replace h := cnd_t hb8 h
          refine vSeq ?_
          refine vRegion ?_
          refine oVal tt rfl rfl rfl rfl rfl trivial ?_
          refine vNil ?_
          change VC _ _ _ _
          refine vRet ?_
          change ∃ _, _
          cases h
          exact ⟨[1390, 1391, 1392], rfl, ⟨rfl, rfl, rfl, trivial⟩, ⟨rfl, trivial⟩, rfl⟩
        · replace h := cnd_f hb8 h
          refine vSkip ?_
          change ∃ _, _
          exact ⟨(v22.2.1, v22.2.2.1, v22.2.2.2), (En.ren [900010, 900011, 900012] [1390, 1391, 1392] rfl ⟨.inr rfl, .inr rfl, .inr rfl, .inr rfl, .inr rfl, trivial⟩ ⟨.inr rfl, .inr rfl, .inr rfl, trivial⟩ ⟨.inr ⟨_, _, rfl, rfl, ⟨.inr rfl, .inr rfl, .inr rfl, trivial⟩⟩, trivial⟩), h⟩
      · replace h := cnd_f hb6 h
        iterate 6 refine oNoT rfl rfl rfl rfl hb6 rfl rfl ?_
        refine oPickF rfl rfl rfl rfl rfl hb6 rfl ?_
        refine vNil ?_
        change VC _ _ _ _
        refine vCondF rfl rfl ?_
        refine vSkip ?_
        change ∃ _, _
        exact ⟨(v21.2.1, v21.2.2.1, v21.2.2.2), (En.ren [900010, 900011, 900012] [1320, 1321, 1322] rfl ⟨.inr rfl, .inr rfl, .inr rfl, .inr rfl, .inr rfl, trivial⟩ ⟨.inr rfl, .inr rfl, .inr rfl, trivial⟩ ⟨.inr ⟨_, _, rfl, rfl, ⟨.inr rfl, .inr rfl, .inr rfl, trivial⟩⟩, trivial⟩), h⟩
    · replace h := cnd_f hb4 h
      refine vExit ?_
      change ∃ _, _
      exact ⟨(l16, l17, l18), (En.of trivial ⟨rfl, rfl, rfl, trivial⟩ ⟨rfl, trivial⟩), h⟩
def I_place (N : Nat) (bars_0 : List (Int × Int)) (l_1 : Int) (p_2 : Pbl) (e_3 : Int) : Option (Bool × (List Int) × (List Int) × (List Int)) :=
  grd (0 ≤ e_3 ∧ e_3 < (bars_0.length : Int)) <|
  grd (Rg64 (l_1 + (1 : Int))) <|
  (I_gather N bars_0 (⟨p_2.free, p_2.tails, p_2.placed⟩ : Pbl) ((bars_0.getD ((e_3).toNat) (0, 0)).1) ((bars_0.getD ((e_3).toNat) (0, 0)).2) (l_1 + (1 : Int))).bind fun v1 =>
  cnd (!v1.1) (
    some (false, v1.2.1, v1.2.2.1, v1.2.2.2)) (
    grd (0 ≤ ((bars_0.getD ((e_3).toNat) (0, 0)).1) ∧ ((bars_0.getD ((e_3).toNat) (0, 0)).1) < (v1.2.1.length : Int)) <|
    jn (fun (tail2 : Int) =>
          grd (0 ≤ tail2 ∧ tail2 < (v1.2.1.length : Int)) <|
          grd (Rg64 ((v1.2.1.getD ((tail2).toNat) 0) - (1 : Int))) <|
          grd (v1.2.2.1.length + 1 ≤ 4294967296) <|
          grd (v1.2.2.2.length + 1 ≤ 4294967296) <|
          grd (v1.2.1.length = (v1.2.1.set ((tail2).toNat) ((v1.2.1.getD ((tail2).toNat) 0) - (1 : Int))).length) <|
          some (true, (v1.2.1.set ((tail2).toNat) ((v1.2.1.getD ((tail2).toNat) 0) - (1 : Int))), (v1.2.2.1 ++ ([tail2] : List Int)), (v1.2.2.2 ++ ([e_3] : List Int)))) fun k3 =>
      cnd ((v1.2.1.getD (((bars_0.getD ((e_3).toNat) (0, 0)).1).toNat) 0) == (0 : Int)) (
        k3 ((bars_0.getD ((e_3).toNat) (0, 0)).2)) (
        k3 ((bars_0.getD ((e_3).toNat) (0, 0)).1)))
set_option maxRecDepth 20000 in
set_option maxHeartbeats 1600000 in
theorem I_place_w (N : Nat) (bars_0 : List (Int × Int)) (l_1 : Int) (p_2 : Pbl) (e_3 : Int) (r : Bool × (List Int) × (List Int) × (List Int)) (h : I_place N bars_0 l_1 p_2 e_3 = some r) : MCall Try.prog 126 [.ro false (.pairs bars_0), .int l_1, .ptr 1000002 0, .int e_3] [900020, 900021, 900022] [1000002] [(3, .ints p_2.free), (3, .ints p_2.tails), (3, .ints p_2.placed)] [(3, .ints r.2.1), (3, .ints r.2.2.1), (3, .ints r.2.2.2)] [[.row 900020 0 p_2.free.length, .row 900021 0 p_2.tails.length, .row 900022 0 p_2.placed.length]] [[.row 900020 0 r.2.1.length, .row 900021 0 r.2.2.1.length, .row 900022 0 r.2.2.2.length]] (.bool r.1) := by
  unfold I_place at h
  refine mcall_intro (TT := TT) tt Try.func126 rfl rfl Try.ntmps126 (congrArg Array.toList Try.results126) rfl rfl rfl rfl rfl fun w0 O0 => ?_
  refine vSeq ?_
  refine vRegion ?_
  refine oVal tt rfl rfl rfl rfl rfl trivial ?_
  refine vNil ?_
  change VC _ _ _ _
  refine vSeq ?_
  refine vRegion ?_
  iterate 2 refine oVal tt rfl rfl rfl rfl rfl trivial ?_
  obtain ⟨hg1, h⟩ := grd_inv h
  refine oVal tt rfl rfl rfl rfl rfl hg1 ?_
  refine oVal tt rfl rfl rfl rfl rfl trivial ?_
  refine oAlloc tt rfl rfl rfl rfl rfl rfl rfl rfl rfl ?_
  refine oStore tt rfl rfl rfl rfl rfl rfl rfl rfl rfl rfl rfl ⟨trivial, trivial, trivial⟩ ?_
  refine vNil ?_
  change VC _ _ _ _
  iterate 2 refine vSeq ?_
  refine vRegion ?_
  iterate 7 refine oVal tt rfl rfl rfl rfl rfl trivial ?_
  obtain ⟨hg2, h⟩ := grd_inv h
  refine oVal tt rfl rfl rfl rfl rfl hg2 ?_
  obtain ⟨v1, hc3, h⟩ := bind_inv h
  refine oMCall (I_gather_w N bars_0 (⟨p_2.free, p_2.tails, p_2.placed⟩ : Pbl) ((bars_0.getD ((e_3).toNat) (0, 0)).1) ((bars_0.getD ((e_3).toNat) (0, 0)).2) (l_1 + (1 : Int)) v1 hc3) [900020, 900021, 900022] [1000002] [1230, 1231, 1232] rfl rfl rfl rfl rfl rfl ⟨rfl, rfl, rfl, trivial⟩ ⟨rfl, trivial⟩ ⟨.inl rfl, ⟨rfl, rfl⟩, ⟨rfl, rfl⟩, ⟨rfl, rfl⟩, ⟨rfl, rfl⟩, trivial⟩ ?_
  refine oVal tt rfl rfl rfl rfl rfl trivial ?_
  refine vNil ?_
  change VC _ _ _ _
  refine vCond rfl (fun hb4 => ?_) (fun hb4 => ?_)
  · replace h := cnd_t hb4 h
    refine vSeq ?_
    refine vRegion ?_
    refine oVal tt rfl rfl rfl rfl rfl trivial ?_
    refine vNil ?_
    change VC _ _ _ _
    refine vRet ?_
    change ∃ _, _
    cases h
    exact ⟨[1230, 1231, 1232], rfl, ⟨rfl, rfl, rfl, trivial⟩, ⟨rfl, trivial⟩, rfl⟩
  · replace h := cnd_f hb4 h
    refine vSkip ?_
    change VC _ _ _ _
    refine vSeq ?_
    refine vRegion ?_
    iterate 3 refine oVal tt rfl rfl rfl rfl rfl trivial ?_
    refine vNil ?_
    change VC _ _ _ _
    iterate 2 refine vSeq ?_
    refine vRegionD (by kernel_rfl) (by kernel_rfl) ?_
    iterate 6 refine cVal tt rfl (wNone rfl) rfl rfl rfl trivial ?_
    obtain ⟨hg5, h⟩ := grd_inv h
    iterate 2 refine cVal tt rfl (wNone rfl) rfl rfl rfl hg5 ?_
    refine cVal tt rfl (wNone rfl) rfl rfl rfl trivial ?_
    refine cNil ?_
    change VC _ _ _ _
    refine vJoinN h (α := Int) (J := fun (tail2 : Int) => (⟨[(2, .ptr 1000002 0), (3, .int e_3), (10, .int tail2)], [(1230, some (3, .ints v1.2.1)), (1231, some (3, .ints v1.2.2.1)), (1232, some (3, .ints v1.2.2.2))], [(1000002, some [.row 1230 0 v1.2.1.length, .row 1231 0 v1.2.2.1.length, .row 1232 0 v1.2.2.2.length])]⟩ : PS)) ?_ ?_
    · rintro tail2 h
      show VC _ _ _ (⟨[(2, .ptr 1000002 0), (3, .int e_3), (10, .int tail2)], [(1230, some (3, .ints v1.2.1)), (1231, some (3, .ints v1.2.2.1)), (1232, some (3, .ints v1.2.2.2))], [(1000002, some [.row 1230 0 v1.2.1.length, .row 1231 0 v1.2.2.1.length, .row 1232 0 v1.2.2.2.length])]⟩ : PS)
      refine vSeq ?_
      refine vRegion ?_
      iterate 5 refine oVal tt rfl rfl rfl rfl rfl trivial ?_
      obtain ⟨hg6, h⟩ := grd_inv h
      iterate 2 refine oVal tt rfl rfl rfl rfl rfl hg6 ?_
      obtain ⟨hg7, h⟩ := grd_inv h
      refine oVal tt rfl rfl rfl rfl rfl hg7 ?_
      refine oVal tt rfl rfl rfl rfl rfl hg6 ?_
      refine oStore tt rfl rfl rfl rfl rfl rfl rfl rfl rfl rfl ⟨_, _, rfl, hg6.1, hg6.2⟩ ⟨hg6, trivial⟩ ?_
      refine vNil ?_
      change VC _ _ _ _
      refine vSeq ?_
      refine vRegion ?_
      iterate 6 refine oVal tt rfl rfl rfl rfl rfl trivial ?_
      refine oBuild tt rfl rfl rfl rfl rfl rfl rfl rfl rfl rfl rfl ?_
      obtain ⟨hg8, h⟩ := grd_inv h
      refine oAppend tt rfl rfl rfl rfl rfl rfl rfl rfl rfl rfl rfl rfl rfl rfl rfl rfl (Nat.le_of_eq (Nat.zero_add _)) hg8 ?_
      iterate 2 refine oVal tt rfl rfl rfl rfl rfl trivial ?_
      refine oStore tt rfl rfl rfl rfl rfl rfl rfl rfl rfl rfl rfl ⟨trivial, trivial⟩ ?_
      refine vNil ?_
      change VC _ _ _ _
      refine vSeq ?_
      refine vRegion ?_
      iterate 6 refine oVal tt rfl rfl rfl rfl rfl trivial ?_
      refine oBuild tt rfl rfl rfl rfl rfl rfl rfl rfl rfl rfl rfl ?_
      obtain ⟨hg9, h⟩ := grd_inv h
      refine oAppend tt rfl rfl rfl rfl rfl rfl rfl rfl rfl rfl rfl rfl rfl rfl rfl rfl (Nat.le_of_eq (Nat.zero_add _)) hg9 ?_
      iterate 2 refine oVal tt rfl rfl rfl rfl rfl trivial ?_
      refine oStore tt rfl rfl rfl rfl rfl rfl rfl rfl rfl rfl rfl ⟨trivial, trivial⟩ ?_
      refine vNil ?_
      change VC _ _ _ _
      refine vSeq ?_
      refine vRegion ?_
      refine oVal tt rfl rfl rfl rfl rfl trivial ?_
      refine vNil ?_
      change VC _ _ _ _
      obtain ⟨hg10, h⟩ := grd_inv h
      refine vRowB 1000002 0 1230 rfl rfl hg10 rfl ?_
      refine vRet ?_
      change ∃ _, _
      cases h
      exact ⟨[1230, 1231, 1232], rfl, ⟨rfl, rfl, rfl, trivial⟩, ⟨rfl, trivial⟩, rfl⟩
    · intro k3 h
      refine vCond rfl (fun hb11 => ?_) (fun hb11 => ?_)
      · replace h := cnd_t hb11 h
        refine vRegion ?_
        iterate 3 refine oVal tt rfl rfl rfl rfl rfl trivial ?_
        refine vNil ?_
        change ∃ _, _
        exact ⟨(bars_0.getD ((e_3).toNat) (0, 0)).2, (En.of ⟨rfl, rfl, rfl, trivial⟩ ⟨rfl, rfl, rfl, trivial⟩ ⟨rfl, trivial⟩), h⟩
      · replace h := cnd_f hb11 h
        refine vSkip ?_
        change ∃ _, _
        exact ⟨(bars_0.getD ((e_3).toNat) (0, 0)).1, (En.of ⟨rfl, rfl, rfl, trivial⟩ ⟨rfl, rfl, rfl, trivial⟩ ⟨rfl, trivial⟩), h⟩
def I_play_l1 (N : Nat) (bars_1 : List (Int × Int)) (l_3 : Int) (k : ((List Int) × (List Int) × (List Int)) → Option (Pbl)) : Nat → ((List Int) × (List Int) × (List Int) × Int) → Option (Pbl)
  | 0, _ => none
  | n + 1, (l39, l40, l41, x42) =>
    cnd (decide (x42 < (bars_1.length : Int))) (
      (I_copyPebbles N (⟨l39, l40, l41⟩ : Pbl)).bind fun v45 =>
      (I_place N bars_1 l_3 (⟨v45.free, v45.tails, v45.placed⟩ : Pbl) x42).bind fun v46 =>
      cnd v46.1 (
        grd (Rg64 (x42 + (1 : Int))) <|
        I_play_l1 N bars_1 l_3 k n (v46.2.1, v46.2.2.1, v46.2.2.2, (x42 + (1 : Int)))) (
        grd (Rg64 (x42 + (1 : Int))) <|
        I_play_l1 N bars_1 l_3 k n (l39, l40, l41, (x42 + (1 : Int))))) (
      k (l39, l40, l41))
def I_play_l2 (N : Nat) (points_0 : Int) (k_2 : Int) (k : (List Int) → Option (Pbl)) : Nat → ((List Int) × Int) → Option (Pbl)
  | 0, _ => none
  | n + 1, (l49, x50) =>
    cnd (decide (x50 < points_0)) (
      grd (l49.length + 1 ≤ 4294967296) <|
      grd (Rg64 (x50 + (1 : Int))) <|
      I_play_l2 N points_0 k_2 k n ((l49 ++ ([k_2] : List Int)), (x50 + (1 : Int)))) (
      k l49)
def I_play (N : Nat) (points_0 : Int) (bars_1 : List (Int × Int)) (k_2 : Int) (l_3 : Int) : Option (Pbl) :=
  I_play_l2 N points_0 k_2 (fun (l4 : List Int) =>
        I_play_l1 N bars_1 l_3 (fun (x : (List Int) × (List Int) × (List Int)) =>
            match x with
            | (l24, l25, l26) =>
              some (⟨l24, l25, l26⟩ : Pbl)) N (l4, ([] : List Int), ([] : List Int), (0 : Int))) N (([] : List Int), (0 : Int))
set_option maxRecDepth 20000 in
set_option maxHeartbeats 1600000 in
theorem I_play_w (N : Nat) (points_0 : Int) (bars_1 : List (Int × Int)) (k_2 : Int) (l_3 : Int) (r : Pbl) (h : I_play N points_0 bars_1 k_2 l_3 = some r) : PCall Try.prog 116 [.int points_0, .ro false (.pairs bars_1), .int k_2, .int l_3] [(3, .ints r.free), (3, .ints r.tails), (3, .ints r.placed)] (.agg [.row 0 0 r.free.length, .row 1 0 r.tails.length, .row 2 0 r.placed.length]) := by
  unfold I_play at h
  refine pcall_intro (TT := TT) tt Try.func116 rfl rfl Try.ntmps116 (congrArg Array.toList Try.results116) rfl rfl fun w0 => ?_
  refine vSeq ?_
  refine vRegion ?_
  refine oAlloc tt rfl rfl rfl rfl rfl rfl rfl rfl rfl ?_
  refine vNil ?_
  change VC _ _ _ _
  refine vSeq ?_
  refine vRegion ?_
  refine oPure (wNone rfl) (pBuild bld_impl_Pebbles rfl rfl) rfl rfl ?_
  refine oAlloc tt rfl rfl rfl rfl rfl rfl rfl rfl rfl ?_
  refine oStore tt rfl rfl rfl rfl rfl rfl rfl rfl rfl rfl rfl ⟨trivial, trivial, trivial, trivial⟩ ?_
  refine vNil ?_
  change VC _ _ _ _
  iterate 2 refine vSeq ?_
  refine vRegion ?_
  iterate 2 refine oVal tt rfl rfl rfl rfl rfl trivial ?_
  refine vNil ?_
  change VC _ _ _ _
  refine vJoin (F := fun k => I_play_l2 N points_0 k_2 k) h (α := List Int) (J := fun (l4 : List Int) => (⟨[(1, .ro false (.pairs bars_1)), (3, .int l_3), (8, .ptr 8 0), (9, .ptr 9 0)], [(20, some (3, .ints l4))], [(8, some [.nil, .nil, .nil]), (9, some [.row 20 0 l4.length, .nil, .nil])]⟩ : PS)) ?_ ?_
  · rintro l4 h
    show VC _ _ _ (⟨[(1, .ro false (.pairs bars_1)), (3, .int l_3), (8, .ptr 8 0), (9, .ptr 9 0)], [(20, some (3, .ints l4))], [(8, some [.nil, .nil, .nil]), (9, some [.row 20 0 l4.length, .nil, .nil])]⟩ : PS)
    iterate 2 refine vSeq ?_
    refine vRegion ?_
    iterate 3 refine oVal tt rfl rfl rfl rfl rfl trivial ?_
    refine vNil ?_
    change VC _ _ _ _
    refine vJoin (F := fun k => I_play_l1 N bars_1 l_3 k) h (α := (List Int) × (List Int) × (List Int)) (J := fun | (l24, l25, l26) => (⟨[(8, .ptr 8 0), (9, .ptr 9 0)], [(20, some (3, .ints l24)), (9505, some (3, .ints l25)), (9506, some (3, .ints l26))], [(8, some [.nil, .nil, .nil]), (9, some [.row 20 0 l24.length, .row 9505 0 l25.length, .row 9506 0 l26.length])]⟩ : PS)) ?_ ?_
    · rintro ⟨l24, l25, l26⟩ h
      show VC _ _ _ (⟨[(8, .ptr 8 0), (9, .ptr 9 0)], [(20, some (3, .ints l24)), (9505, some (3, .ints l25)), (9506, some (3, .ints l26))], [(8, some [.nil, .nil, .nil]), (9, some [.row 20 0 l24.length, .row 9505 0 l25.length, .row 9506 0 l26.length])]⟩ : PS)
      refine vSeq ?_
      refine vRegion ?_
      refine oVal tt rfl rfl rfl rfl rfl trivial ?_
      refine oStore tt rfl rfl rfl rfl rfl rfl rfl rfl rfl rfl rfl ⟨trivial, trivial, trivial, trivial⟩ ?_
      refine vNil ?_
      change VC _ _ _ _
      refine vRet ?_
      change ∃ _, _
      cases h
      exact ⟨[20, 9505, 9506], _, rfl, ⟨rfl, rfl, rfl, trivial⟩, rfl, (.eq rfl), rfl⟩
    · intro k h
      refine vBlock ?_
      refine vNilB 9 1 9507 3 (.ints []) rfl rfl rfl rfl rfl ?_
      refine vNilB 9 2 9508 3 (.ints []) rfl rfl rfl rfl rfl ?_
      refine vLoopS (α := (List Int) × (List Int) × (List Int) × Int) (fun | (l39, l40, l41, x42) => (⟨[(1, .ro false (.pairs bars_1)), (3, .int l_3), (8, .ptr 8 0), (9, .ptr 9 0), (24, .int (bars_1.length : Int)), (25, .int x42)], [(20, some (3, .ints l39)), (9507, some (3, .ints l40)), (9508, some (3, .ints l41))], [(8, some [.nil, .nil, .nil]), (9, some [.row 20 0 l39.length, .row 9507 0 l40.length, .row 9508 0 l41.length])]⟩ : PS)) (I_play_l1 N bars_1 l_3 k) h (En.of ⟨rfl, rfl, rfl, rfl, rfl, rfl, trivial⟩ ⟨rfl, rfl, rfl, trivial⟩ ⟨rfl, rfl, trivial⟩) (fun _ => rfl) ?_
      rintro n ⟨l39, l40, l41, x42⟩ h
      rw [I_play_l1] at h
      show VC _ _ _ (⟨[(1, .ro false (.pairs bars_1)), (3, .int l_3), (8, .ptr 8 0), (9, .ptr 9 0), (24, .int (bars_1.length : Int)), (25, .int x42)], [(20, some (3, .ints l39)), (9507, some (3, .ints l40)), (9508, some (3, .ints l41))], [(8, some [.nil, .nil, .nil]), (9, some [.row 20 0 l39.length, .row 9507 0 l40.length, .row 9508 0 l41.length])]⟩ : PS)
      refine vSeq ?_
      refine vRegion ?_
      refine oVal tt rfl rfl rfl rfl rfl trivial ?_
      refine vNil ?_
      change VC _ _ _ _
      refine vSeq ?_
      refine vCond rfl (fun hb1 => ?_) (fun hb1 => ?_)
      · replace h := cnd_t hb1 h
        refine vSkip ?_
        change VC _ _ _ _
        refine vSeq ?_
        refine vBlock ?_
        refine vSeq ?_
        refine vRegion ?_
        iterate 2 refine oVal tt rfl rfl rfl rfl rfl trivial ?_
        refine vNil ?_
        change VC _ _ _ _
        refine vSeq ?_
        refine vRegion ?_
        refine oVal tt rfl rfl rfl rfl rfl trivial ?_
        obtain ⟨v45, hc2, h⟩ := bind_inv h
        refine oCall (I_copyPebbles_w N (⟨l39, l40, l41⟩ : Pbl) v45 hc2) rfl rfl rfl rfl rfl rfl rfl rfl ⟨⟨(.inl ⟨rfl, rfl⟩), (.inl ⟨rfl, rfl⟩), (.inl ⟨rfl, rfl⟩), trivial⟩, trivial⟩ ?_
        refine oAlloc tt rfl rfl rfl rfl rfl rfl rfl rfl rfl ?_
        refine oStore tt rfl rfl rfl rfl rfl rfl rfl rfl rfl rfl rfl ⟨trivial, trivial, trivial, trivial⟩ ?_
        refine vNil ?_
        change VC _ _ _ _
        refine vSeq ?_
        refine vRegion ?_
        iterate 3 refine oVal tt rfl rfl rfl rfl rfl trivial ?_
        obtain ⟨v46, hc3, h⟩ := bind_inv h
        refine oMCall (I_place_w N bars_1 l_3 (⟨v45.free, v45.tails, v45.placed⟩ : Pbl) x42 v46 hc3) [1290, 1291, 1292] [11] [1330, 1331, 1332] rfl rfl rfl rfl rfl rfl ⟨rfl, rfl, rfl, trivial⟩ ⟨rfl, trivial⟩ ⟨.inl rfl, ⟨rfl, rfl⟩, ⟨rfl, rfl⟩, ⟨rfl, rfl⟩, trivial⟩ ?_
        refine vNil ?_
        change VC _ _ _ _
        refine vCond rfl (fun hb4 => ?_) (fun hb4 => ?_)
        · replace h := cnd_t hb4 h
          refine vRegion ?_
          refine oVal tt rfl rfl rfl rfl rfl trivial ?_
          refine oStore tt rfl rfl rfl rfl rfl rfl rfl rfl rfl rfl rfl ⟨trivial, trivial, trivial, trivial⟩ ?_
          refine vNil ?_
          change VC _ _ _ _
          refine vRegion ?_
          obtain ⟨hg5, h⟩ := grd_inv h
          refine oVal tt rfl rfl rfl rfl rfl hg5 ?_
          refine oVal tt rfl rfl rfl rfl rfl trivial ?_
          refine vNil ?_
          change ∃ _, _
          exact ⟨(v46.2.1, v46.2.2.1, v46.2.2.2, (x42 + (1 : Int))), (En.ren [20, 9507, 9508] [1330, 1331, 1332] rfl ⟨.inr rfl, .inr rfl, .inr rfl, .inr rfl, .inr rfl, .inr rfl, trivial⟩ ⟨.inr rfl, .inr rfl, .inr rfl, trivial⟩ ⟨.inr ⟨_, _, rfl, rfl, ⟨.inr rfl, .inr rfl, .inr rfl, trivial⟩⟩, .inr ⟨_, _, rfl, rfl, ⟨.inr rfl, .inr rfl, .inr rfl, trivial⟩⟩, trivial⟩), h⟩
        · replace h := cnd_f hb4 h
          refine vSkip ?_
          change VC _ _ _ _
          refine vRegion ?_
          obtain ⟨hg6, h⟩ := grd_inv h
          refine oVal tt rfl rfl rfl rfl rfl hg6 ?_
          refine oVal tt rfl rfl rfl rfl rfl trivial ?_
          refine vNil ?_
          change ∃ _, _
          exact ⟨(l39, l40, l41, (x42 + (1 : Int))), (En.of ⟨rfl, rfl, rfl, rfl, rfl, rfl, trivial⟩ ⟨rfl, rfl, rfl, trivial⟩ ⟨rfl, rfl, trivial⟩), h⟩
      · replace h := cnd_f hb1 h
        refine vExit ?_
        change ∃ _, _
        exact ⟨(l39, l40, l41), (En.ren [9505, 9506] [9507, 9508] rfl ⟨.inr rfl, .inr rfl, trivial⟩ ⟨.inr rfl, .inr rfl, .inr rfl, trivial⟩ ⟨.inr ⟨_, _, rfl, rfl, ⟨.inr rfl, .inr rfl, .inr rfl, trivial⟩⟩, .inr ⟨_, _, rfl, rfl, ⟨.inr rfl, .inr rfl, .inr rfl, trivial⟩⟩, trivial⟩), h⟩
  · intro k h
    refine vBlock ?_
    refine vNilB 9 0 20 3 (.ints []) rfl rfl rfl rfl rfl ?_
    refine vLoopS (α := (List Int) × Int) (fun | (l49, x50) => (⟨[(1, .ro false (.pairs bars_1)), (2, .int k_2), (3, .int l_3), (8, .ptr 8 0), (9, .ptr 9 0), (13, .int points_0), (14, .int x50)], [(20, some (3, .ints l49))], [(8, some [.nil, .nil, .nil]), (9, some [.row 20 0 l49.length, .nil, .nil])]⟩ : PS)) (I_play_l2 N points_0 k_2 k) h (En.of ⟨rfl, rfl, rfl, rfl, rfl, rfl, rfl, trivial⟩ ⟨rfl, trivial⟩ ⟨rfl, rfl, trivial⟩) (fun _ => rfl) ?_
    rintro n ⟨l49, x50⟩ h
    rw [I_play_l2] at h
    show VC _ _ _ (⟨[(1, .ro false (.pairs bars_1)), (2, .int k_2), (3, .int l_3), (8, .ptr 8 0), (9, .ptr 9 0), (13, .int points_0), (14, .int x50)], [(20, some (3, .ints l49))], [(8, some [.nil, .nil, .nil]), (9, some [.row 20 0 l49.length, .nil, .nil])]⟩ : PS)
    refine vSeq ?_
    refine vRegion ?_
    refine oVal tt rfl rfl rfl rfl rfl trivial ?_
    refine vNil ?_
    change VC _ _ _ _
    refine vSeq ?_
    refine vCond rfl (fun hb7 => ?_) (fun hb7 => ?_)
    · replace h := cnd_t hb7 h
      refine vSkip ?_
      change VC _ _ _ _
      refine vSeq ?_
      refine vBlock ?_
      refine vRegion ?_
      iterate 3 refine oVal tt rfl rfl rfl rfl rfl trivial ?_
      refine oBuild tt rfl rfl rfl rfl rfl rfl rfl rfl rfl rfl rfl ?_
      obtain ⟨hg8, h⟩ := grd_inv h
      refine oAppend tt rfl rfl rfl rfl rfl rfl rfl rfl rfl rfl rfl rfl rfl rfl rfl rfl (Nat.le_of_eq (Nat.zero_add _)) hg8 ?_
      refine oVal tt rfl rfl rfl rfl rfl trivial ?_
      refine oStore tt rfl rfl rfl rfl rfl rfl rfl rfl rfl rfl rfl ⟨trivial, trivial⟩ ?_
      refine vNil ?_
      change VC _ _ _ _
      refine vRegion ?_
      obtain ⟨hg9, h⟩ := grd_inv h
      refine oVal tt rfl rfl rfl rfl rfl hg9 ?_
      refine oVal tt rfl rfl rfl rfl rfl trivial ?_
      refine vNil ?_
      change ∃ _, _
      exact ⟨((l49 ++ ([k_2] : List Int)), (x50 + (1 : Int))), (En.of ⟨rfl, rfl, rfl, rfl, rfl, rfl, rfl, trivial⟩ ⟨rfl, trivial⟩ ⟨rfl, rfl, trivial⟩), h⟩
    · replace h := cnd_f hb7 h
      refine vExit ?_
      change ∃ _, _
      exact ⟨l49, (En.of ⟨rfl, rfl, rfl, rfl, trivial⟩ ⟨rfl, trivial⟩ ⟨rfl, rfl, trivial⟩), h⟩
end Go.Proofs.Ytkpmijmlbpdknaa
