/- Texts that the proof needs, put together: G41 Px G43 G44 G46 G48 G51 Qa Ea G38 Eb M7 M8 M9 M10 M11 M12 M13 M14 M17 M18 M15 M19 M20 M21 G56 G24 G71 G72. -/
import Derived.Laws.Strings
import Derived.Laws.BytesArg
import Derived.Test.YtcljhpldfanhkaaBJc3
import Derived.Test.YtcljhpldfanhkaaBJc4
import Derived.Test.YtcljhpldfanhkaaBJc5
set_option linter.unusedVariables false
set_option linter.unusedSimpArgs false
namespace Go.Proofs.Ytcljhpldfanhkaa
open Go.RowKit
def I_SteadyPoints_l2 (N : Nat) (p_0 : Pin) (v2 : List (Int × Int)) (x116 : Int) (k : Bool → Option (List Int)) : Nat → (Bool × Int) → Option (List Int)
 | 0, _ => none
 | n + 1, (steady147, x148) =>
  cnd (decide (x148 < (p_0.ground.length : Int))) (
   grd (0 ≤ x148 ∧ x148 < (p_0.ground.length : Int)) <|
   cnd steady147 (
    cnd ((p_0.ground.getD ((x148).toNat) 0) == x116) (
     grd (Rg64 (x148 + (1 : Int))) <|
     I_SteadyPoints_l2 N p_0 v2 x116 k n (true, (x148 + (1 : Int)))) (
     (I_bar N (p_0.ground.getD ((x148).toNat) 0) x116).bind fun v151 =>
     (I_raises N p_0.g.n (v2 ++ p_0.g.bars) v151).bind fun v152 =>
     grd (Rg64 (x148 + (1 : Int))) <|
     I_SteadyPoints_l2 N p_0 v2 x116 k n ((!v152), (x148 + (1 : Int))))) (
    grd (Rg64 (x148 + (1 : Int))) <|
    I_SteadyPoints_l2 N p_0 v2 x116 k n (false, (x148 + (1 : Int))))) (
   k steady147)
def I_SteadyPoints_l1 (N : Nat) (p_0 : Pin) (v2 : List (Int × Int)) (k : (List Int) → Option (List Int)) : Nat → ((List Int) × Int) → Option (List Int)
 | 0, _ => none
 | n + 1, (l115, x116) =>
  cnd (decide (x116 < p_0.g.n)) (
   I_SteadyPoints_l2 N p_0 v2 x116 (fun (steady143 : Bool) =>
      cnd steady143 (
       grd (l115.length + 1 ≤ 4294967296) <|
       grd (Rg64 (x116 + (1 : Int))) <|
       I_SteadyPoints_l1 N p_0 v2 k n ((l115 ++ ([x116] : List Int)), (x116 + (1 : Int)))) (
       grd (Rg64 (x116 + (1 : Int))) <|
       I_SteadyPoints_l1 N p_0 v2 k n (l115, (x116 + (1 : Int))))) N (true, (0 : Int))) (
   k l115)
def I_SteadyPoints (N : Nat) (p_0 : Pin) : Option (List Int) :=
 (I_IsPinned N p_0).bind fun v1 =>
 cnd (!v1) (
  some ([] : List Int)) (
  (M_Pinned_held N p_0).bind fun v2 =>
  grd (v2.length + p_0.g.bars.length ≤ 4294967296) <|
  I_SteadyPoints_l1 N p_0 v2 (fun (l77 : List Int) =>
     some l77) N (([] : List Int), (0 : Int)))
set_option maxRecDepth 20000 in
set_option maxHeartbeats 1600000 in
theorem I_SteadyPoints_w (N : Nat) (p_0 : Pin) (r : List Int) (h : I_SteadyPoints N p_0 = some r) : PCall Try.prog 69 [pD p_0] [(3, .ints r)] (.row 0 0 r.length) := by
 unfold I_SteadyPoints at h
 refine pcall_intro (TT := TT) tt Try.func69 rfl rfl Try.ntmps69 (congrArg Array.toList Try.results69) rfl rfl fun w0 => ?_
 refine vSeq ?_
 refine vRegion ?_
 refine oBox rfl rfl rfl rfl rfl rfl rfl rfl rfl ?_
 refine oVal tt rfl rfl rfl rfl rfl trivial ?_
 refine vNil ?_
 change VC _ _ _ _
 refine vSeq ?_
 refine vRegion ?_
 refine oEmpty tt (wNone rfl) rfl rfl rfl rfl ?_
 refine oVal tt rfl rfl rfl rfl rfl trivial ?_
 refine vNil ?_
 change VC _ _ _ _
 iterate 2 refine vSeq ?_
 refine vRegion ?_
 refine oVal tt rfl rfl rfl rfl rfl trivial ?_
 obtain ⟨v1, hc1, h⟩ := bind_inv h
 refine oCall (I_IsPinned_w N p_0 v1 hc1) rfl rfl rfl rfl rfl rfl rfl rfl ⟨⟨rfl, rfl, rfl, trivial⟩, trivial⟩ ?_
 refine oVal tt rfl rfl rfl rfl rfl trivial ?_
 refine vNil ?_
 change VC _ _ _ _
 refine vCond rfl (fun hb2 => ?_) (fun hb2 => ?_)
 ·replace h := cnd_t hb2 h
  refine vSeq ?_
  refine vRegion ?_
  iterate 2 refine oVal tt rfl rfl rfl rfl rfl trivial ?_
  refine vNil ?_
  change VC _ _ _ _
  refine vNilT 2 9001 3 (.ints []) rfl rfl rfl rfl ?_
  refine vRet ?_
  change ∃ _, _
  cases h
  exact ⟨[9001], _, rfl, ⟨rfl, trivial⟩, rfl, (.eq rfl), rfl⟩
 ·replace h := cnd_f hb2 h
  refine vSkip ?_
  change VC _ _ _ _
  refine vSeq ?_
  refine vRegionN 5 [1] [0, 1, 0, 4, 12, 31, 63] (by kernel_rfl) (by kernel_rfl) (by kernel_rfl) (by kernel_rfl) (by kernel_rfl) rfl (by rfl) ?_
  refine nVal tt rfl (wNone rfl) rfl rfl rfl rfl rfl trivial ?_
  obtain ⟨v2, hc3, h⟩ := bind_inv h
  refine nCallR (M_Pinned_held_w N p_0 v2 hc3) rfl (wNone rfl) rfl rfl rfl rfl rfl rfl (by first | rfl | kernel_rfl | (simp [nrL, nm, gdst, nmT, rowB]; done)) rfl (by first | rfl | kernel_rfl | (simp [chkE, nrL, nm, gdst, nmT, rowB, hid, ment, mentA, mentS]; done) | (simp [chkE, nrL, nm, gdst, nmT, rowB, hid, ment, mentA, mentS]; decide)) ⟨⟨rfl, rfl, rfl, trivial⟩, trivial⟩ ?_
  iterate 3 refine nVal tt rfl (wNone rfl) rfl rfl rfl rfl rfl trivial ?_
  refine nNil ?_
  change VO _ _ _ _ _
  obtain ⟨hg4, h⟩ := grd_inv h
  refine oAppend tt rfl rfl rfl rfl rfl rfl rfl rfl rfl rfl rfl rfl rfl rfl rfl rfl trivial hg4 ?_
  refine oVal tt rfl rfl rfl rfl rfl trivial ?_
  refine vNil ?_
  change VC _ _ _ _
  iterate 2 refine vSeq ?_
  refine vRegion ?_
  iterate 4 refine oVal tt rfl rfl rfl rfl rfl trivial ?_
  refine vNil ?_
  change VC _ _ _ _
  refine vJoin (F := fun k => I_SteadyPoints_l1 N p_0 v2 k) h (α := List Int) (J := fun (l77 : List Int) => (⟨[(3, .row 55 0 l77.length)], [(55, some (3, .ints l77))], []⟩ : PS)) ?_ ?_
  ·rintro l77 h
   show VC _ _ _ (⟨[(3, .row 55 0 l77.length)], [(55, some (3, .ints l77))], []⟩ : PS)
   refine vSeq ?_
   refine vRegion ?_
   iterate 2 refine oVal tt rfl rfl rfl rfl rfl trivial ?_
   refine vNil ?_
   change VC _ _ _ _
   refine vRet ?_
   change ∃ _, _
   cases h
   exact ⟨[55], _, rfl, ⟨rfl, trivial⟩, rfl, (.eq rfl), rfl⟩
  ·intro k h
   refine vBlock ?_
   refine vNilT 3 55 3 (.ints []) rfl rfl rfl rfl ?_
   refine vLoopS (α := (List Int) × Int) (fun | (l115, x116) => (⟨[(1, .ptr 1 0), (3, .row 55 0 l115.length), (4, .row 1150 0 ((v2 ++ p_0.g.bars).length)), (22, .int p_0.g.n), (23, .int x116)], [(55, some (3, .ints l115)), (1150, some (111, .pairs (v2 ++ p_0.g.bars)))], [(1, some [.int p_0.g.n, .ro false (.pairs p_0.g.bars), .ro false (.ints p_0.ground)])]⟩ : PS)) (I_SteadyPoints_l1 N p_0 v2 k) h (En.of ⟨rfl, rfl, rfl, rfl, rfl, trivial⟩ ⟨rfl, rfl, trivial⟩ ⟨rfl, trivial⟩) (fun _ => rfl) ?_
   rintro n ⟨l115, x116⟩ h
   rw [I_SteadyPoints_l1] at h
   show VC _ _ _ (⟨[(1, .ptr 1 0), (3, .row 55 0 l115.length), (4, .row 1150 0 ((v2 ++ p_0.g.bars).length)), (22, .int p_0.g.n), (23, .int x116)], [(55, some (3, .ints l115)), (1150, some (111, .pairs (v2 ++ p_0.g.bars)))], [(1, some [.int p_0.g.n, .ro false (.pairs p_0.g.bars), .ro false (.ints p_0.ground)])]⟩ : PS)
   refine vSeq ?_
   refine vRegion ?_
   refine oVal tt rfl rfl rfl rfl rfl trivial ?_
   refine vNil ?_
   change VC _ _ _ _
   refine vSeq ?_
   refine vCond rfl (fun hb5 => ?_) (fun hb5 => ?_)
   ·replace h := cnd_t hb5 h
    refine vSkip ?_
    change VC _ _ _ _
    refine vSeq ?_
    refine vBlock ?_
    refine vSeq ?_
    refine vRegion ?_
    iterate 2 refine oVal tt rfl rfl rfl rfl rfl trivial ?_
    refine vNil ?_
    change VC _ _ _ _
    refine vSeq ?_
    refine vRegion ?_
    refine oVal tt rfl rfl rfl rfl rfl trivial ?_
    refine vNil ?_
    change VC _ _ _ _
    iterate 2 refine vSeq ?_
    refine vRegion ?_
    iterate 4 refine oVal tt rfl rfl rfl rfl rfl trivial ?_
    refine vNil ?_
    change VC _ _ _ _
    refine vJoin (F := fun k => I_SteadyPoints_l2 N p_0 v2 x116 k) h (α := Bool) (J := fun (steady143 : Bool) => (⟨[(1, .ptr 1 0), (3, .row 55 0 l115.length), (4, .row 1150 0 ((v2 ++ p_0.g.bars).length)), (5, .int x116), (6, .bool steady143), (22, .int p_0.g.n), (23, .int x116)], [(55, some (3, .ints l115)), (1150, some (111, .pairs (v2 ++ p_0.g.bars)))], [(1, some [.int p_0.g.n, .ro false (.pairs p_0.g.bars), .ro false (.ints p_0.ground)])]⟩ : PS)) ?_ ?_
    ·rintro steady143 h
     show VC _ _ _ (⟨[(1, .ptr 1 0), (3, .row 55 0 l115.length), (4, .row 1150 0 ((v2 ++ p_0.g.bars).length)), (5, .int x116), (6, .bool steady143), (22, .int p_0.g.n), (23, .int x116)], [(55, some (3, .ints l115)), (1150, some (111, .pairs (v2 ++ p_0.g.bars)))], [(1, some [.int p_0.g.n, .ro false (.pairs p_0.g.bars), .ro false (.ints p_0.ground)])]⟩ : PS)
     refine vSeq ?_
     refine vRegion ?_
     refine oVal tt rfl rfl rfl rfl rfl trivial ?_
     refine vNil ?_
     change VC _ _ _ _
     refine vCond rfl (fun hb6 => ?_) (fun hb6 => ?_)
     ·replace h := cnd_t hb6 h
      refine vRegion ?_
      iterate 2 refine oVal tt rfl rfl rfl rfl rfl trivial ?_
      refine oBuild tt rfl rfl rfl rfl rfl rfl rfl rfl rfl rfl rfl ?_
      obtain ⟨hg7, h⟩ := grd_inv h
      refine oAppend tt rfl rfl rfl rfl rfl rfl rfl rfl rfl rfl rfl rfl rfl rfl rfl rfl (Nat.le_of_eq (Nat.zero_add _)) hg7 ?_
      refine oVal tt rfl rfl rfl rfl rfl trivial ?_
      refine vNil ?_
      change VC _ _ _ _
      refine vRegion ?_
      obtain ⟨hg8, h⟩ := grd_inv h
      refine oVal tt rfl rfl rfl rfl rfl hg8 ?_
      refine oVal tt rfl rfl rfl rfl rfl trivial ?_
      refine vNil ?_
      change ∃ _, _
      exact ⟨((l115 ++ ([x116] : List Int)), (x116 + (1 : Int))), (En.of ⟨rfl, rfl, rfl, rfl, rfl, trivial⟩ ⟨rfl, rfl, trivial⟩ ⟨rfl, trivial⟩), h⟩
     ·replace h := cnd_f hb6 h
      refine vSkip ?_
      change VC _ _ _ _
      refine vRegion ?_
      obtain ⟨hg9, h⟩ := grd_inv h
      refine oVal tt rfl rfl rfl rfl rfl hg9 ?_
      refine oVal tt rfl rfl rfl rfl rfl trivial ?_
      refine vNil ?_
      change ∃ _, _
      exact ⟨(l115, (x116 + (1 : Int))), (En.of ⟨rfl, rfl, rfl, rfl, rfl, trivial⟩ ⟨rfl, rfl, trivial⟩ ⟨rfl, trivial⟩), h⟩
    ·intro k h
     refine vBlock ?_
     refine vLoopS (α := Bool × Int) (fun | (steady147, x148) => (⟨[(1, .ptr 1 0), (3, .row 55 0 l115.length), (4, .row 1150 0 ((v2 ++ p_0.g.bars).length)), (5, .int x116), (6, .bool steady147), (22, .int p_0.g.n), (23, .int x116), (27, .ro false (.ints p_0.ground)), (28, .int (p_0.ground.length : Int)), (29, .int x148)], [(55, some (3, .ints l115)), (1150, some (111, .pairs (v2 ++ p_0.g.bars)))], [(1, some [.int p_0.g.n, .ro false (.pairs p_0.g.bars), .ro false (.ints p_0.ground)])]⟩ : PS)) (I_SteadyPoints_l2 N p_0 v2 x116 k) h (En.of ⟨rfl, rfl, rfl, rfl, rfl, rfl, rfl, rfl, rfl, rfl, trivial⟩ ⟨rfl, rfl, trivial⟩ ⟨rfl, trivial⟩) (fun _ => rfl) ?_
     rintro n ⟨steady147, x148⟩ h
     rw [I_SteadyPoints_l2] at h
     show VC _ _ _ (⟨[(1, .ptr 1 0), (3, .row 55 0 l115.length), (4, .row 1150 0 ((v2 ++ p_0.g.bars).length)), (5, .int x116), (6, .bool steady147), (22, .int p_0.g.n), (23, .int x116), (27, .ro false (.ints p_0.ground)), (28, .int (p_0.ground.length : Int)), (29, .int x148)], [(55, some (3, .ints l115)), (1150, some (111, .pairs (v2 ++ p_0.g.bars)))], [(1, some [.int p_0.g.n, .ro false (.pairs p_0.g.bars), .ro false (.ints p_0.ground)])]⟩ : PS)
     refine vSeq ?_
     refine vRegion ?_
     refine oVal tt rfl rfl rfl rfl rfl trivial ?_
     refine vNil ?_
     change VC _ _ _ _
     refine vSeq ?_
     refine vCond rfl (fun hb10 => ?_) (fun hb10 => ?_)
     ·replace h := cnd_t hb10 h
      refine vSkip ?_
      change VC _ _ _ _
      refine vSeq ?_
      refine vBlock ?_
      refine vSeq ?_
      refine vRegion ?_
      obtain ⟨hg11, h⟩ := grd_inv h
      refine oVal tt rfl rfl rfl rfl rfl hg11 ?_
      iterate 2 refine oVal tt rfl rfl rfl rfl rfl trivial ?_
      refine vNil ?_
      change VC _ _ _ _
      refine vRegionD (by kernel_rfl) (by kernel_rfl) ?_
      iterate 2 refine cVal tt rfl (wNone rfl) rfl rfl rfl trivial ?_
      refine cSplit rfl rfl rfl (fun hb12 => ?_) (fun hb12 => ?_)
      ·replace h := cnd_t hb12 h
       iterate 4 refine cVal tt rfl (wSome rfl rfl rfl rfl hb12) rfl rfl rfl trivial ?_
       refine cSplit rfl rfl rfl (fun hb13 => ?_) (fun hb13 => ?_)
       ·replace h := cnd_t hb13 h
        iterate 9 refine cNoF rfl rfl rfl rfl hb13 rfl rfl ?_
        refine cPickT rfl (wSome rfl rfl rfl rfl hb12) rfl rfl rfl hb13 rfl ?_
        refine cPickT rfl (wNone rfl) rfl rfl rfl hb12 rfl ?_
        refine cVal tt rfl (wNone rfl) rfl rfl rfl trivial ?_
        refine cNil ?_
        change VC _ _ _ _
        refine vRegion ?_
        obtain ⟨hg14, h⟩ := grd_inv h
        refine oVal tt rfl rfl rfl rfl rfl hg14 ?_
        refine oVal tt rfl rfl rfl rfl rfl trivial ?_
        refine vNil ?_
        change ∃ _, _
        exact ⟨(true, (x148 + (1 : Int))), (En.of ⟨rfl, rfl, rfl, rfl, rfl, rfl, rfl, rfl, rfl, rfl, trivial⟩ ⟨rfl, rfl, trivial⟩ ⟨rfl, trivial⟩), h⟩
       ·replace h := cnd_f hb13 h
        iterate 6 refine cVal tt rfl (wSome rfl rfl rfl rfl hb13) rfl rfl rfl trivial ?_
        obtain ⟨v151, hc15, h⟩ := bind_inv h
        refine cCall (I_bar_w N (p_0.ground.getD ((x148).toNat) 0) x116 v151 hc15) rfl (wSome rfl rfl rfl rfl hb13) rfl rfl rfl rfl rfl rfl ⟨rfl, rfl, trivial⟩ ?_
        obtain ⟨v152, hc16, h⟩ := bind_inv h
        refine cCall (I_raises_w N p_0.g.n (v2 ++ p_0.g.bars) v151 v152 hc16) rfl (wSome rfl rfl rfl rfl hb13) rfl rfl rfl rfl rfl rfl ⟨rfl, (.inl ⟨rfl, rfl⟩), ⟨rfl, rfl, trivial⟩, trivial⟩ ?_
        refine cVal tt rfl (wSome rfl rfl rfl rfl hb13) rfl rfl rfl trivial ?_
        refine cPickF rfl (wSome rfl rfl rfl rfl hb12) rfl rfl rfl hb13 rfl ?_
        refine cPickT rfl (wNone rfl) rfl rfl rfl hb12 rfl ?_
        refine cVal tt rfl (wNone rfl) rfl rfl rfl trivial ?_
        refine cNil ?_
        change VC _ _ _ _
        refine vRegion ?_
        obtain ⟨hg17, h⟩ := grd_inv h
        refine oVal tt rfl rfl rfl rfl rfl hg17 ?_
        refine oVal tt rfl rfl rfl rfl rfl trivial ?_
        refine vNil ?_
        change ∃ _, _
        exact ⟨((!v152), (x148 + (1 : Int))), (En.of ⟨rfl, rfl, rfl, rfl, rfl, rfl, rfl, rfl, rfl, rfl, trivial⟩ ⟨rfl, rfl, trivial⟩ ⟨rfl, trivial⟩), h⟩
      ·replace h := cnd_f hb12 h
       iterate 4 refine cNoT rfl rfl rfl rfl hb12 rfl rfl ?_
       iterate 9 refine cNoU rfl rfl rfl rfl rfl ?_
       refine cNoT rfl rfl rfl rfl hb12 rfl rfl ?_
       refine cPickF rfl (wNone rfl) rfl rfl rfl hb12 rfl ?_
       refine cVal tt rfl (wNone rfl) rfl rfl rfl trivial ?_
       refine cNil ?_
       change VC _ _ _ _
       refine vRegion ?_
       obtain ⟨hg18, h⟩ := grd_inv h
       refine oVal tt rfl rfl rfl rfl rfl hg18 ?_
       refine oVal tt rfl rfl rfl rfl rfl trivial ?_
       refine vNil ?_
       change ∃ _, _
       exact ⟨(false, (x148 + (1 : Int))), (En.of ⟨rfl, rfl, rfl, rfl, rfl, rfl, rfl, rfl, rfl, rfl, trivial⟩ ⟨rfl, rfl, trivial⟩ ⟨rfl, trivial⟩), h⟩
     ·replace h := cnd_f hb10 h
      refine vExit ?_
      change ∃ _, _
      exact ⟨steady147, (En.of ⟨rfl, rfl, rfl, rfl, rfl, rfl, rfl, trivial⟩ ⟨rfl, rfl, trivial⟩ ⟨rfl, trivial⟩), h⟩
   ·replace h := cnd_f hb5 h
    refine vExit ?_
    change ∃ _, _
    exact ⟨l115, (En.of ⟨rfl, trivial⟩ ⟨rfl, trivial⟩ trivial), h⟩
end Go.Proofs.Ytcljhpldfanhkaa
namespace Go.Proofs.Ytcljhpldfanhkaa
variable {n : Nat} {N : Nat}
theorem srt_graph {g : Grf} (h1 : inB g.n 1 8 = true) (h2 : g.bars.length ≤ 24) (h3 : Srt g.bars) (h4 : ∀ e ∈ g.bars, barOkB g.n e = true) : isGraph g = true := by
 refine isGraph_true h1 h2 fun i hi => ?_
 unfold barAt
 rw [h4 _ (getD_mem hi)]
 by_cases h0 : i = 0
 ·simp [h0]
 ·have := List.pairwise_iff_getElem.1 h3 (i - 1) i (by omega) hi (by omega)
  have e1 : g.bars.getD (i - 1) (0, 0) = g.bars[i - 1] := by rw [List.getD_eq_getElem?_getD, List.getElem?_eq_getElem (by omega)]; rfl
  have e2 : g.bars.getD i (0, 0) = g.bars[i] := by rw [List.getD_eq_getElem?_getD, List.getElem?_eq_getElem hi]; rfl
  rw [e1, e2, this]; simp
theorem raises_s (hN : 4000000 ≤ N) (hn : n ≤ 1000) {bars : List (Int × Int)} (hb : ∀ e ∈ bars, Bok n e) (hl : bars.length ≤ 900) {e : Int × Int} (he : Bok n e) {I : List (Int × Int)} (hI : Bas n bars I) : ∃ b : Bool, I_raises N n bars e = some b ∧ (b = false ↔ Tied n I e) := by
 obtain ⟨I1, a1, a2⟩ := planeRank_s (N := N) hN hn hb (by omega)
 obtain ⟨J, c1, c2⟩ := planeRank_s (N := N) hN hn (bars := bars ++ [e]) (fun x hx => by
  rcases List.mem_append.1 hx with hx | hx
  ·exact hb x hx
  ·simp at hx; subst hx; exact he) (by simp; omega)
 have q := bas_len hb (fun _ => Iff.rfl) hI a1
 have hm : ∀ x, x ∈ bars ++ [e] ↔ x = e ∨ x ∈ bars := fun x => by simp; exact Or.comm
 have r := rank_iff hb he hm hI c1
 refine ⟨decide ((J.length : Int) > I1.length), ?_, ?_⟩
 ·unfold I_raises
  simp (disch := omega) only [Int.toNat_natCast, tk0, List.length_cons, List.length_nil, grd_pos, grd_T, grd_R, cnd_dt, cnd_df, cnd_true, cnd_false, Option.bind_some, List.nil_append]
  rw [show ((e.1, e.2) : Int × Int) = e from rfl, c2, a2]
  rfl
 ·constructor
  ·intro h
   have h' := of_decide_eq_false h
   by_cases ht : Tied n I e
   ·exact ht
   ·have := rank_free hb he hm hI c1 ht
    omega
  ·intro ht
   have := r.2 ht
   exact decide_eq_false (by omega)
theorem implied_s (hN : 4000000 ≤ N) {g : Grf} (hg : isGraph g = true) (hn : g.n = n) {a b : Int} (ha : 0 ≤ a ∧ a < n) (hb : 0 ≤ b ∧ b < n) {I : List (Int × Int)} (hI : Bas n g.bars I) : ∃ r : Bool, S_IsImplied N g a b = some r ∧ (r = true ↔ a = b ∨ Tied n I (min a b, max a b)) := by
 obtain ⟨⟨q1, q2⟩, q3, _⟩ := isGraph_parts hg
 have hbk : ∀ e ∈ g.bars, Bok n e := fun e he => by
  have := isGraph_bar hg he
  exact ⟨by omega, by omega, by omega, by omega, by omega⟩
 obtain ⟨L, p1, p2, p3, _⟩ := put_s (N := N) hN (g := g) (by omega) (min a b, max a b)
 by_cases e : a = b
 ·refine ⟨true, ?_, by simp [e]⟩
  unfold S_IsImplied
  simp (disch := omega) only [Int.toNat_natCast, tk0, List.length_cons, List.length_nil, grd_pos, grd_T, grd_R, cnd_dt, cnd_df, cnd_true, cnd_false, Option.bind_some, isGraphS_s N hN, hg, Bool.not_true, hn, p1, cnd_eqt e]
 ·have he : Bok n (min a b, max a b) := ⟨by simp only; omega, by simp only; omega, by simp only; omega, by simp only; omega, by simp only; omega⟩
  obtain ⟨J, c1, c2⟩ := rank_s (N := N) hN (g := ⟨g.n, L⟩) hn (by omega) (fun x hx => by
   rcases (p3 x).1 hx with rfl | hx
   ·exact he
   ·exact hbk x hx) (by simp only; omega)
  obtain ⟨I1, d1, d2⟩ := rank_s (N := N) hN (g := g) hn (by omega) hbk (by omega)
  have q := bas_len hbk (fun _ => Iff.rfl) hI d1
  have r := rank_iff hbk he p3 hI c1
  refine ⟨(J.length : Int) == (I1.length : Int), ?_, ?_⟩
  ·unfold S_IsImplied
   rw [isGraphS_s N hN, hg, Option.bind_some, Bool.not_true, cnd_false, cnd_df (by omega), cnd_df (by omega), cnd_df (by omega), cnd_df (by omega), p1, Option.bind_some, cnd_eqf e, c2, d2]
   rfl
  ·rw [beq_iff_eq]
   constructor
   ·intro h; exact .inr (r.1 (by omega))
   ·rintro (h | h)
    ·exact absurd h e
    ·have := r.2 h; omega
end Go.Proofs.Ytcljhpldfanhkaa
namespace Go.Proofs.Ytcljhpldfanhkaa
variable {n : Nat}
theorem Tied.mm {I : List (Int × Int)} {a b : Int} : Tied n I (min a b, max a b) ↔ Tied n I (a, b) := by
 by_cases h : a ≤ b
 ·rw [Int.min_eq_left h, Int.max_eq_right h]
 ·rw [Int.min_eq_right (by omega), Int.max_eq_left (by omega)]
  exact ⟨Tied.swap, Tied.swap⟩
theorem steady_iff {G : List Int} {LH I : List (Int × Int)} (hl : 2 ≤ G.length) (hG : ∀ i, i < G.length → 0 ≤ G.getD i 0 ∧ G.getD i 0 < n) (hlt : ∀ j i : Nat, i < j → j < G.length → G.getD i 0 < G.getD j 0) (hS : HeldS G LH G.length) (hI : Spr n I) (ok : ∀ e ∈ I, Bok n e) (hH : ∀ e ∈ LH, Tied n I e) {v : Int} (hv : 0 ≤ v ∧ v < n) :
  ((G.getD 0 0 = v ∨ Tied n I (G.getD 0 0, v)) ∧ (G.getD 1 0 = v ∨ Tied n I (G.getD 1 0, v))) ↔ ∀ i, i < G.length → G.getD i 0 ≠ v → Tied n I (G.getD i 0, v) := by
 constructor
 ·rintro ⟨h0, h1⟩ i hi hne
  by_cases e0 : i = 0
  ·subst e0; exact h0.resolve_left hne
  by_cases e1 : i = 1
  ·subst e1; exact h1.resolve_left hne
  have t0 := hH _ (hS.h0 i (by omega) hi)
  have t1 := hH _ (hS.h1 i (by omega) hi)
  have t := hH _ (hS.h0 1 (by omega) (by omega))
  have l0 := hlt i 0 (by omega) hi
  have l1 := hlt i 1 (by omega) hi
  have l := hlt 1 0 (by omega) (by omega)
  rcases h0 with h0 | h0
  ·rw [← h0]; exact t0.swap
  rcases h1 with h1 | h1
  ·rw [← h1]; exact t1.swap
  by_cases n0 : G.getD 0 0 = v
  ·rw [← n0]; exact t0.swap
  by_cases n1 : G.getD 1 0 = v
  ·rw [← n1]; exact t1.swap
  exact Tied.via hI ok (hG 0 (by omega)) (hG 1 (by omega)) (hG i hi) hv (by omega) (by omega) (by omega) n0 n1 t t0 t1 h0 h1
 ·intro h
  refine ⟨?_, ?_⟩
  ·by_cases e : G.getD 0 0 = v
   ·exact .inl e
   ·exact .inr (h 0 (by omega) e)
  ·by_cases e : G.getD 1 0 = v
   ·exact .inl e
   ·exact .inr (h 1 (by omega) e)
end Go.Proofs.Ytcljhpldfanhkaa
namespace Go.Proofs.Ytcljhpldfanhkaa
variable {n : Nat} {N : Nat}
theorem steadyI2_s (hN : 4000000 ≤ N) (hn : n ≤ 8) {p : Pin} {hd J : List (Int × Int)} (hpn : p.g.n = n) (hl : p.ground.length ≤ 27) (hG : ∀ i, i < p.ground.length → 0 ≤ p.ground.getD i 0 ∧ p.ground.getD i 0 < n) (hb : ∀ e ∈ hd ++ p.g.bars, Bok n e) (hlen : (hd ++ p.g.bars).length ≤ 900) (hJ : Bas n (hd ++ p.g.bars) J) {v : Int} (hv : 0 ≤ v ∧ v < n) {kk : Bool → Option (List Int)} :
  ∀ (fuel i : Nat) (s : Bool), i ≤ p.ground.length → p.ground.length < fuel + i → ∃ b : Bool, I_SteadyPoints_l2 N p hd v kk fuel (s, (i : Int)) = kk b ∧ (b = true ↔ s = true ∧ ∀ j, i ≤ j → j < p.ground.length → p.ground.getD j 0 ≠ v → Tied n J (p.ground.getD j 0, v)) := by
 intro fuel
 induction fuel with
 | zero => intro i s h1 h2; omega
 | succ fuel ih =>
  intro i s h1 h2
  rw [I_SteadyPoints_l2]
  by_cases hi : i < p.ground.length
  ·have split : ∀ P : Nat → Prop, (∀ j, i ≤ j → j < p.ground.length → P j) ↔ P i ∧ ∀ j, i + 1 ≤ j → j < p.ground.length → P j := fun P =>
    ⟨fun h => ⟨h i (by omega) hi, fun j a b => h j (by omega) b⟩, fun h j a b => by
     by_cases e : j = i
     ·subst e; exact h.1
     ·exact h.2 j (by omega) b⟩
   cases s with
   | false =>
    obtain ⟨b, k1, k2⟩ := ih (i + 1) false (by omega) (by omega)
    refine ⟨b, ?_, by rw [k2]; simp⟩
    simp (disch := omega) only [Int.toNat_natCast, tk0, List.length_cons, List.length_nil, grd_pos, grd_T, grd_R, cnd_dt, cnd_df, cnd_true, cnd_false, Option.bind_some, succ_cast]
    exact k1
   | true =>
    by_cases e : p.ground.getD i 0 = v
    ·obtain ⟨b, k1, k2⟩ := ih (i + 1) true (by omega) (by omega)
     refine ⟨b, ?_, ?_⟩
     ·simp (disch := omega) only [Int.toNat_natCast, tk0, List.length_cons, List.length_nil, grd_pos, grd_T, grd_R, cnd_dt, cnd_df, cnd_true, cnd_false, Option.bind_some, cnd_eqt e, succ_cast]
      exact k1
     ·rw [k2, split]
      exact ⟨fun h => ⟨rfl, fun hc => absurd e hc, h.2⟩, fun h => ⟨rfl, h.2.2⟩⟩
    ·have g := hG i hi
     have he : Bok n (min (p.ground.getD i 0) v, max (p.ground.getD i 0) v) := ⟨by simp only; omega, by simp only; omega, by simp only; omega, by simp only; omega, by simp only; omega⟩
     obtain ⟨b0, r1, r2⟩ := raises_s (N := N) hN (by omega) hb hlen he hJ
     obtain ⟨b, k1, k2⟩ := ih (i + 1) (!b0) (by omega) (by omega)
     refine ⟨b, ?_, ?_⟩
     ·have eb : I_bar N (p.ground.getD i 0) v = some (min (p.ground.getD i 0) v, max (p.ground.getD i 0) v) := rfl
      simp (disch := omega) only [Int.toNat_natCast, tk0, List.length_cons, List.length_nil, grd_pos, grd_T, grd_R, cnd_dt, cnd_df, cnd_true, cnd_false, Option.bind_some, cnd_eqf e, eb, hpn, r1, succ_cast]
      exact k1
     ·rw [k2, split]
      have ht : b0 = false ↔ Tied n J (p.ground.getD i 0, v) := r2.trans Tied.mm
      constructor
      ·rintro ⟨h1, h2⟩
       refine ⟨rfl, fun _ => ht.1 ?_, h2⟩
       cases b0 with
       | false => rfl
       | true => cases h1
      ·rintro ⟨_, h1, h2⟩
       have := ht.2 (h1 e)
       subst this
       exact ⟨rfl, h2⟩
  ·refine ⟨s, ?_, ?_⟩
   ·simp (disch := omega) only [Int.toNat_natCast, tk0, List.length_cons, List.length_nil, grd_pos, grd_T, grd_R, cnd_dt, cnd_df, cnd_true, cnd_false, Option.bind_some]
   ·exact ⟨fun h => ⟨h, fun j a b => by omega⟩, fun h => h.1⟩
end Go.Proofs.Ytcljhpldfanhkaa
namespace Go.Proofs.Ytcljhpldfanhkaa
variable {n : Nat} {N : Nat}
theorem steady1_s (hN : 4000000 ≤ N) (hn : n ≤ 8) {p : Pin} {hd : List (Int × Int)} {aS : Grf} (hp : isPinned p = true) (hbl : p.g.bars.length ≤ 3000000) (hgl : p.ground.length ≤ 3000000) (hpn : p.g.n = n) (hl : 2 ≤ p.ground.length) (hA : S_l20All N p = some aS)
  (step : ∀ v : Nat, v < n → ∃ b0 b1 b : Bool, S_IsImplied N aS (p.ground.getD 0 0) v = some b0 ∧ S_IsImplied N aS (p.ground.getD 1 0) v = some b1 ∧ (b0 && b1) = b ∧ ∀ kk, I_SteadyPoints_l2 N p hd v kk N (true, (0 : Int)) = kk b) :
  ∀ (fuel v : Nat) (l : List Int), v ≤ n → n < fuel + v → l.length ≤ v → ∃ l' : List Int, l'.length ≤ n ∧ S_SteadyPoints_l1 N p (fun x => some x) fuel (l, (v : Int)) = some l' ∧ I_SteadyPoints_l1 N p hd (fun x => some x) fuel (l, (v : Int)) = some l' := by
 intro fuel
 induction fuel with
 | zero => intro v l h1 h2; omega
 | succ fuel ih =>
  intro v l h1 h2 h3
  rw [S_SteadyPoints_l1, I_SteadyPoints_l1]
  by_cases hv : v < n
  ·obtain ⟨b0, b1, b, s0, s1, s2, s3⟩ := step v hv
   have z0 : (0 : Int).toNat = 0 := rfl
   have z1 : (1 : Int).toNat = 1 := rfl
   rw [cnd_dt (by omega), cnd_dt (by omega), s3]
   cases b with
   | true =>
    obtain ⟨e0, e1⟩ : b0 = true ∧ b1 = true := by simpa using s2
    subst e0 e1
    obtain ⟨l', k0, k1, k2⟩ := ih (v + 1) (l ++ [(v : Int)]) (by omega) (by omega) (by simp; omega)
    refine ⟨l', k0, ?_, ?_⟩
    ·simp (disch := omega) only [Int.toNat_natCast, tk0, List.length_cons, List.length_nil, grd_pos, grd_T, grd_R, cnd_dt, cnd_df, cnd_true, cnd_false, Option.bind_some, isPinnedS_s N hN hbl hgl, hp, hA, z0, z1, s0, s1, succ_cast]
     exact k1
    ·simp (disch := omega) only [Int.toNat_natCast, tk0, List.length_cons, List.length_nil, grd_pos, grd_T, grd_R, cnd_dt, cnd_df, cnd_true, cnd_false, Option.bind_some, succ_cast]
     exact k2
   | false =>
    obtain ⟨l', k0, k1, k2⟩ := ih (v + 1) l (by omega) (by omega) (by omega)
    refine ⟨l', k0, ?_, ?_⟩
    ·cases b0 with
     | false =>
      simp (disch := omega) only [Int.toNat_natCast, tk0, List.length_cons, List.length_nil, grd_pos, grd_T, grd_R, cnd_dt, cnd_df, cnd_true, cnd_false, Option.bind_some, isPinnedS_s N hN hbl hgl, hp, hA, z0, z1, s0, succ_cast]
      exact k1
     | true =>
      have e1 : b1 = false := by simpa using s2
      subst e1
      simp (disch := omega) only [Int.toNat_natCast, tk0, List.length_cons, List.length_nil, grd_pos, grd_T, grd_R, cnd_dt, cnd_df, cnd_true, cnd_false, Option.bind_some, isPinnedS_s N hN hbl hgl, hp, hA, z0, z1, s0, s1, succ_cast]
      exact k1
    ·simp (disch := omega) only [Int.toNat_natCast, tk0, List.length_cons, List.length_nil, grd_pos, grd_T, grd_R, cnd_dt, cnd_df, cnd_true, cnd_false, Option.bind_some, succ_cast]
     exact k2
  ·refine ⟨l, by omega, ?_, ?_⟩
   ·simp (disch := omega) only [Int.toNat_natCast, tk0, List.length_cons, List.length_nil, grd_pos, grd_T, grd_R, cnd_dt, cnd_df, cnd_true, cnd_false, Option.bind_some]
   ·simp (disch := omega) only [Int.toNat_natCast, tk0, List.length_cons, List.length_nil, grd_pos, grd_T, grd_R, cnd_dt, cnd_df, cnd_true, cnd_false, Option.bind_some]
end Go.Proofs.Ytcljhpldfanhkaa
namespace Go.Proofs.Ytcljhpldfanhkaa
variable {N : Nat}
theorem steady_x (hN : 4000000 ≤ N) {p : Pin} (hbl : p.g.bars.length ≤ 3000000) (hgl : p.ground.length ≤ 3000000) : ∃ l : List Int, l.length ≤ 8 ∧ S_SteadyPoints N p = some l ∧ I_SteadyPoints N p = some l := by
 cases hp : isPinned p with
 | false =>
  refine ⟨[], by simp, ?_, ?_⟩
  ·unfold S_SteadyPoints
   obtain ⟨m, rfl⟩ : ∃ m, N = m + 1 := ⟨N - 1, by omega⟩
   rw [S_SteadyPoints_l1]
   by_cases h : (0 : Int) < p.g.n
   ·simp (disch := omega) only [Int.toNat_natCast, tk0, List.length_cons, List.length_nil, grd_pos, grd_T, grd_R, cnd_dt, cnd_df, cnd_true, cnd_false, Option.bind_some, isPinnedS_s (m + 1) hN hbl hgl, hp]
   ·simp (disch := omega) only [Int.toNat_natCast, tk0, List.length_cons, List.length_nil, grd_pos, grd_T, grd_R, cnd_dt, cnd_df, cnd_true, cnd_false, Option.bind_some]
  ·unfold I_SteadyPoints
   simp (disch := omega) only [Int.toNat_natCast, tk0, List.length_cons, List.length_nil, grd_pos, grd_T, grd_R, cnd_dt, cnd_df, cnd_true, cnd_false, Option.bind_some, isPinnedI_s N hN hbl hgl, hp, Bool.not_false]
 | true =>
  obtain ⟨p1, p2, p3, p4, p5, p6, p7⟩ := isPinned_parts hp
  obtain ⟨hn1, hn2, hbl'⟩ := isPinned_n p1
  obtain ⟨n, hn⟩ := Int.eq_ofNat_of_zero_le (show 0 ≤ p.g.n by omega)
  obtain ⟨LH, LS, a1, a2, a3, a4, a5, a6, a7⟩ := allS_s (N := N) hN (p := p) (by omega) (by omega)
  obtain ⟨LI, b1, b2, b3⟩ := heldI_s (N := N) hN (p := p) (by omega) p6
  have hG : ∀ i, i < p.ground.length → 0 ≤ p.ground.getD i 0 ∧ p.ground.getD i 0 < n := fun i hi => by
   have := asc_in p6 (getD_mem (d := 0) hi)
   omega
  have hlt := asc_lt p6
  have hb : ∀ e ∈ p.g.bars, Bok n e := fun e he => by
   have := isGraph_bar p1 he
   exact ⟨by omega, by omega, by omega, by omega, by omega⟩
  have pok : ∀ i j : Nat, i < j → j < p.ground.length → Bok n (p.ground.getD i 0, p.ground.getD j 0) := fun i j g1 g2 => by
   have a := hG i (by omega)
   have b := hG j g2
   have c := hlt j i g1 g2
   exact ⟨a.1, a.2, b.1, b.2, by simp only; omega⟩
  have okLS : ∀ e ∈ LS, Bok n e := fun e he => by
   rcases (a6 e).1 he with h | h
   ·obtain ⟨i, j, g1, g2, rfl⟩ := a3.mem e h; exact pok i j g1 g2
   ·exact hb e h
  have okLI : ∀ e ∈ LI ++ p.g.bars, Bok n e := fun e he => by
   rcases List.mem_append.1 he with h | h
   ·obtain ⟨i, j, g1, g2, rfl⟩ := (b3 e).1 h; exact pok i j g1 g2
   ·exact hb e h
  have bok : ∀ e : Int × Int, e ∈ LS → barOkB p.g.n e = true := fun e he => by
   have hx : 0 ≤ e.1 ∧ e.1 < e.2 ∧ e.2 < p.g.n := by
    rcases (a6 e).1 he with h | h
    ·obtain ⟨i, j, g1, g2, rfl⟩ := a3.mem e h
     have a := hG i (by omega)
     have b := hG j g2
     have c := hlt j i g1 g2
     exact ⟨a.1, c, by simp only; omega⟩
    ·exact isGraph_bar p1 h
   simp [barOkB, hx.1, hx.2.1, hx.2.2]
  have hgr : isGraph ⟨p.g.n, LS⟩ = true := srt_graph (by simp [inB]; omega) (by simp only; omega) a7 bok
  obtain ⟨I, c1, c2⟩ := rank_s (N := N) hN (g := ⟨p.g.n, LS⟩) (n := n) hn (by omega) okLS (by simp only; omega)
  obtain ⟨J, e1, e2⟩ := planeRank_s (N := N) hN (n := n) (by omega) (bars := LI ++ p.g.bars) okLI (by simp; omega)
  have okI : ∀ e ∈ I, Bok n e := fun e he => okLS e (c1.mem e he)
  have okJ : ∀ e ∈ J, Bok n e := fun e he => okLI e (e1.mem e he)
  have hH : ∀ e ∈ LH, Tied n I e := fun e he => c1.spn e ((a6 e).2 (.inl he))
  have pairI : ∀ i j : Nat, i < j → j < p.ground.length → Tied n I (p.ground.getD i 0, p.ground.getD j 0) := fun i j g1 g2 => by
   refine (steady_iff p3 hG hlt a3 c1.spr okI hH (hG j g2)).1 ⟨.inr (hH _ (a3.h0 j (by omega) g2)), ?_⟩ i (by omega) (by have := hlt j i g1 g2; omega)
   by_cases e : j = 1
   ·subst e; exact .inl rfl
   ·exact .inr (hH _ (a3.h1 j (by omega) g2))
  have hJI : ∀ e ∈ J, Tied n I e := fun e he => by
   rcases List.mem_append.1 (e1.mem e he) with h | h
   ·obtain ⟨i, j, g1, g2, rfl⟩ := (b3 e).1 h; exact pairI i j g1 g2
   ·exact c1.spn e ((a6 e).2 (.inr h))
  have hIJ : ∀ e ∈ I, Tied n J e := fun e he => e1.spn e (by
   rcases (a6 e).1 (c1.mem e he) with h | h
   ·exact List.mem_append.2 (.inl ((b3 e).2 (a3.mem e h)))
   ·exact List.mem_append.2 (.inr h))
  have key := steady1_s (n := n) (hd := LI) (aS := ⟨p.g.n, LS⟩) hN (by omega) hp hbl hgl hn p3 a4 (fun v hv => by
   have hv' : (0 : Int) ≤ (v : Int) ∧ (v : Int) < n := by omega
   obtain ⟨r0, s0, t0⟩ := implied_s (N := N) hN (g := ⟨p.g.n, LS⟩) hgr hn (hG 0 (by omega)) hv' c1
   obtain ⟨r1, s1, t1⟩ := implied_s (N := N) hN (g := ⟨p.g.n, LS⟩) hgr hn (hG 1 (by omega)) hv' c1
   rw [Tied.mm] at t0 t1
   have si := steady_iff p3 hG hlt a3 c1.spr okI hH hv'
   refine ⟨r0, r1, r0 && r1, s0, s1, rfl, fun kk => ?_⟩
   obtain ⟨b, k1, k2⟩ := steadyI2_s (N := N) (hd := LI) hN (by omega) hn (by omega) hG okLI (by simp; omega) e1 hv' (kk := kk) N 0 true (by omega) (by omega)
   have eq : b = (r0 && r1) := by
    rw [Bool.eq_iff_iff, k2, Bool.and_eq_true, t0, t1, si]
    constructor
    ·rintro ⟨_, h⟩ j hj hne
     exact Tied.of e1.spr c1.spr okJ okI hJI hIJ (by have := hG j hj; exact ⟨by omega, by omega, by omega, by omega, hne⟩) (h j (by omega) hj hne)
    ·intro h
     refine ⟨rfl, fun j _ hj hne => Tied.of c1.spr e1.spr okI okJ hIJ hJI (by have := hG j hj; exact ⟨by omega, by omega, by omega, by omega, hne⟩) (h j hj hne)⟩
   rw [← eq]; exact k1) N 0 [] (by omega) (by omega) (by simp)
  obtain ⟨l, k0, k1, k2⟩ := key
  refine ⟨l, by omega, k1, ?_⟩
  unfold I_SteadyPoints
  simp (disch := omega) only [Int.toNat_natCast, tk0, List.length_cons, List.length_nil, grd_pos, grd_T, grd_R, cnd_dt, cnd_df, cnd_true, cnd_false, Option.bind_some, isPinnedI_s N hN hbl hgl, hp, Bool.not_true, b1]
  exact k2
end Go.Proofs.Ytcljhpldfanhkaa
namespace Go.Proofs.Ytcljhpldfanhkaa
open Go.RowKit
def S_SafeBars_l1 (N : Nat) (p_0 : Pin) (k : (List Int) → Option (List Int)) : Nat → ((List Int) × Int) → Option (List Int)
 | 0, _ => none
 | n + 1, (l11, i12) =>
  cnd (decide (i12 < (p_0.g.bars.length : Int))) (
   (S_SafeToRemove N p_0 i12).bind fun v14 =>
   cnd v14 (
    grd (l11.length + 1 ≤ 4294967296) <|
    grd (Rg64 (i12 + (1 : Int))) <|
    S_SafeBars_l1 N p_0 k n ((l11 ++ ([i12] : List Int)), (i12 + (1 : Int)))) (
    grd (Rg64 (i12 + (1 : Int))) <|
    S_SafeBars_l1 N p_0 k n (l11, (i12 + (1 : Int))))) (
   k l11)
def S_SafeBars (N : Nat) (p_0 : Pin) : Option (List Int) :=
 S_SafeBars_l1 N p_0 (fun (l7 : List Int) =>
    some l7) N (([] : List Int), (0 : Int))
set_option maxRecDepth 20000 in
set_option maxHeartbeats 1600000 in
theorem S_SafeBars_w (N : Nat) (p_0 : Pin) (r : List Int) (h : S_SafeBars N p_0 = some r) : PCall Try.prog 99 [pD p_0] [(3, .ints r)] (.row 0 0 r.length) := by
 unfold S_SafeBars at h
 refine pcall_intro (TT := TT) tt Try.func99 rfl rfl Try.ntmps99 (congrArg Array.toList Try.results99) rfl rfl fun w0 => ?_
 refine vSeq ?_
 refine vRegion ?_
 refine oBox rfl rfl rfl rfl rfl rfl rfl rfl rfl ?_
 refine oVal tt rfl rfl rfl rfl rfl trivial ?_
 refine vNil ?_
 change VC _ _ _ _
 refine vSeq ?_
 refine vRegion ?_
 refine oEmpty tt (wNone rfl) rfl rfl rfl rfl ?_
 refine oVal tt rfl rfl rfl rfl rfl trivial ?_
 refine vNil ?_
 change VC _ _ _ _
 iterate 2 refine vSeq ?_
 refine vRegion ?_
 refine oVal tt rfl rfl rfl rfl rfl trivial ?_
 refine vNil ?_
 change VC _ _ _ _
 refine vJoin (F := fun k => S_SafeBars_l1 N p_0 k) h (α := List Int) (J := fun (l7 : List Int) => (⟨[(3, .row 20 0 l7.length)], [(20, some (3, .ints l7))], []⟩ : PS)) ?_ ?_
 ·rintro l7 h
  show VC _ _ _ (⟨[(3, .row 20 0 l7.length)], [(20, some (3, .ints l7))], []⟩ : PS)
  refine vSeq ?_
  refine vRegion ?_
  iterate 2 refine oVal tt rfl rfl rfl rfl rfl trivial ?_
  refine vNil ?_
  change VC _ _ _ _
  refine vRet ?_
  change ∃ _, _
  cases h
  exact ⟨[20], _, rfl, ⟨rfl, trivial⟩, rfl, (.eq rfl), rfl⟩
 ·intro k h
  refine vBlock ?_
  refine vNilT 3 20 3 (.ints []) rfl rfl rfl rfl ?_
  refine vLoopS (α := (List Int) × Int) (fun | (l11, i12) => (⟨[(1, .ptr 1 0), (3, .row 20 0 l11.length), (4, .int i12)], [(20, some (3, .ints l11))], [(1, some [.int p_0.g.n, .ro false (.pairs p_0.g.bars), .ro false (.ints p_0.ground)])]⟩ : PS)) (S_SafeBars_l1 N p_0 k) h (En.of ⟨rfl, rfl, rfl, trivial⟩ ⟨rfl, trivial⟩ ⟨rfl, trivial⟩) (fun _ => rfl) ?_
  rintro n ⟨l11, i12⟩ h
  rw [S_SafeBars_l1] at h
  show VC _ _ _ (⟨[(1, .ptr 1 0), (3, .row 20 0 l11.length), (4, .int i12)], [(20, some (3, .ints l11))], [(1, some [.int p_0.g.n, .ro false (.pairs p_0.g.bars), .ro false (.ints p_0.ground)])]⟩ : PS)
  iterate 2 refine vSeq ?_
  refine vRegion ?_
  iterate 6 refine oVal tt rfl rfl rfl rfl rfl trivial ?_
  refine vNil ?_
  change VC _ _ _ _
  refine vCond rfl (fun hb1 => ?_) (fun hb1 => ?_)
  ·replace h := cnd_t hb1 h
   refine vSkip ?_
   change VC _ _ _ _
   refine vSeq ?_
   refine vBlock ?_
   refine vSeq ?_
   refine vRegion ?_
   iterate 2 refine oVal tt rfl rfl rfl rfl rfl trivial ?_
   obtain ⟨v14, hc2, h⟩ := bind_inv h
   refine oCall (S_SafeToRemove_w N p_0 i12 v14 hc2) rfl rfl rfl rfl rfl rfl rfl rfl ⟨⟨rfl, rfl, rfl, trivial⟩, rfl, trivial⟩ ?_
   refine vNil ?_
   change VC _ _ _ _
   refine vCond rfl (fun hb3 => ?_) (fun hb3 => ?_)
   ·replace h := cnd_t hb3 h
    refine vRegion ?_
    iterate 2 refine oVal tt rfl rfl rfl rfl rfl trivial ?_
    refine oBuild tt rfl rfl rfl rfl rfl rfl rfl rfl rfl rfl rfl ?_
    obtain ⟨hg4, h⟩ := grd_inv h
    refine oAppend tt rfl rfl rfl rfl rfl rfl rfl rfl rfl rfl rfl rfl rfl rfl rfl rfl (Nat.le_of_eq (Nat.zero_add _)) hg4 ?_
    refine oVal tt rfl rfl rfl rfl rfl trivial ?_
    refine vNil ?_
    change VC _ _ _ _
    refine vRegion ?_
    refine oVal tt rfl rfl rfl rfl rfl trivial ?_
    obtain ⟨hg5, h⟩ := grd_inv h
    refine oVal tt rfl rfl rfl rfl rfl hg5 ?_
    refine oVal tt rfl rfl rfl rfl rfl trivial ?_
    refine vNil ?_
    change ∃ _, _
    exact ⟨((l11 ++ ([i12] : List Int)), (i12 + (1 : Int))), (En.of ⟨rfl, rfl, rfl, trivial⟩ ⟨rfl, trivial⟩ ⟨rfl, trivial⟩), h⟩
   ·replace h := cnd_f hb3 h
    refine vSkip ?_
    change VC _ _ _ _
    refine vRegion ?_
    refine oVal tt rfl rfl rfl rfl rfl trivial ?_
    obtain ⟨hg6, h⟩ := grd_inv h
    refine oVal tt rfl rfl rfl rfl rfl hg6 ?_
    refine oVal tt rfl rfl rfl rfl rfl trivial ?_
    refine vNil ?_
    change ∃ _, _
    exact ⟨(l11, (i12 + (1 : Int))), (En.of ⟨rfl, rfl, rfl, trivial⟩ ⟨rfl, trivial⟩ ⟨rfl, trivial⟩), h⟩
  ·replace h := cnd_f hb1 h
   refine vExit ?_
   change ∃ _, _
   exact ⟨l11, (En.of ⟨rfl, trivial⟩ ⟨rfl, trivial⟩ trivial), h⟩
def S_FallsWith_l1 (N : Nat) (v2 : List Int) (v4 : List Int) (k : (List Int) → Option (List Int)) : Nat → ((List Int) × Int) → Option (List Int)
 | 0, _ => none
 | n + 1, (l15, i16) =>
  cnd (decide (i16 < (v2.length : Int))) (
   grd (0 ≤ i16 ∧ i16 < (v2.length : Int)) <|
   (S_l2Has N v4 (v2.getD ((i16).toNat) 0)).bind fun v18 =>
   cnd (!v18) (
    grd (l15.length + 1 ≤ 4294967296) <|
    grd (Rg64 (i16 + (1 : Int))) <|
    S_FallsWith_l1 N v2 v4 k n ((l15 ++ ([(v2.getD ((i16).toNat) 0)] : List Int)), (i16 + (1 : Int)))) (
    grd (Rg64 (i16 + (1 : Int))) <|
    S_FallsWith_l1 N v2 v4 k n (l15, (i16 + (1 : Int))))) (
   k l15)
def S_FallsWith (N : Nat) (p_0 : Pin) (bar_1 : Int) : Option (List Int) :=
 (S_IsPinned N p_0).bind fun v1 =>
 cnd (!v1) (
  some ([] : List Int)) (
  cnd (decide (bar_1 < (0 : Int))) (
   some ([] : List Int)) (
   cnd (decide (bar_1 ≥ (p_0.g.bars.length : Int))) (
    some ([] : List Int)) (
    (S_SteadyPoints N p_0).bind fun v2 =>
    (S_l27Less N p_0 bar_1).bind fun v3 =>
    (S_SteadyPoints N v3).bind fun v4 =>
    S_FallsWith_l1 N v2 v4 (fun (l11 : List Int) =>
       some l11) N (([] : List Int), (0 : Int)))))
set_option maxRecDepth 20000 in
set_option maxHeartbeats 1600000 in
theorem S_FallsWith_w (N : Nat) (p_0 : Pin) (bar_1 : Int) (r : List Int) (h : S_FallsWith N p_0 bar_1 = some r) : PCall Try.prog 108 [pD p_0, .int bar_1] [(3, .ints r)] (.row 0 0 r.length) := by
 unfold S_FallsWith at h
 refine pcall_intro (TT := TT) tt Try.func108 rfl rfl Try.ntmps108 (congrArg Array.toList Try.results108) rfl rfl fun w0 => ?_
 refine vSeq ?_
 refine vRegion ?_
 refine oBox rfl rfl rfl rfl rfl rfl rfl rfl rfl ?_
 refine oVal tt rfl rfl rfl rfl rfl trivial ?_
 refine vNil ?_
 change VC _ _ _ _
 refine vSeq ?_
 refine vRegion ?_
 refine oEmpty tt (wNone rfl) rfl rfl rfl rfl ?_
 refine oVal tt rfl rfl rfl rfl rfl trivial ?_
 refine vNil ?_
 change VC _ _ _ _
 iterate 2 refine vSeq ?_
 refine vRegion ?_
 refine oVal tt rfl rfl rfl rfl rfl trivial ?_
 obtain ⟨v1, hc1, h⟩ := bind_inv h
 refine oCall (S_IsPinned_w N p_0 v1 hc1) rfl rfl rfl rfl rfl rfl rfl rfl ⟨⟨rfl, rfl, rfl, trivial⟩, trivial⟩ ?_
 iterate 2 refine oVal tt rfl rfl rfl rfl rfl trivial ?_
 refine oSplit rfl rfl rfl (fun hb2 => ?_) (fun hb2 => ?_)
 ·replace h := cnd_t hb2 h
  iterate 2 refine oNoF rfl rfl rfl rfl hb2 rfl rfl ?_
  refine oPick rfl rfl rfl rfl rfl hb2 rfl ?_
  refine oVal tt rfl rfl rfl rfl rfl trivial ?_
  iterate 6 refine oNoF rfl rfl rfl rfl rfl rfl rfl ?_
  refine oPick rfl rfl rfl rfl rfl rfl rfl ?_
  refine vNil ?_
  change VC _ _ _ _
  refine vCondT rfl rfl ?_
  refine vSeq ?_
  refine vRegion ?_
  iterate 2 refine oVal tt rfl rfl rfl rfl rfl trivial ?_
  refine vNil ?_
  change VC _ _ _ _
  refine vNilT 4 9001 3 (.ints []) rfl rfl rfl rfl ?_
  refine vRet ?_
  change ∃ _, _
  cases h
  exact ⟨[9001], _, rfl, ⟨rfl, trivial⟩, rfl, (.eq rfl), rfl⟩
 ·replace h := cnd_f hb2 h
  iterate 2 refine oValG tt rfl rfl rfl rfl rfl hb2 rfl rfl rfl trivial ?_
  refine oPickF rfl rfl rfl rfl rfl hb2 rfl ?_
  refine oVal tt rfl rfl rfl rfl rfl trivial ?_
  refine oSplit rfl rfl rfl (fun hb3 => ?_) (fun hb3 => ?_)
  ·replace h := cnd_t hb3 h
   iterate 6 refine oNoF rfl rfl rfl rfl hb3 rfl rfl ?_
   refine oPick rfl rfl rfl rfl rfl hb3 rfl ?_
   refine vNil ?_
   change VC _ _ _ _
   refine vCondT rfl rfl ?_
   refine vSeq ?_
   refine vRegion ?_
   iterate 2 refine oVal tt rfl rfl rfl rfl rfl trivial ?_
   refine vNil ?_
   change VC _ _ _ _
   refine vNilT 4 9001 3 (.ints []) rfl rfl rfl rfl ?_
   refine vRet ?_
   change ∃ _, _
   cases h
   exact ⟨[9001], _, rfl, ⟨rfl, trivial⟩, rfl, (.eq rfl), rfl⟩
  ·replace h := cnd_f hb3 h
   iterate 6 refine oValG tt rfl rfl rfl rfl rfl hb3 rfl rfl rfl trivial ?_
   refine oPickF rfl rfl rfl rfl rfl hb3 rfl ?_
   refine vNil ?_
   change VC _ _ _ _
   refine vCond rfl (fun hb4 => ?_) (fun hb4 => ?_)
   ·replace h := cnd_t hb4 h
    refine vSeq ?_
    refine vRegion ?_
    iterate 2 refine oVal tt rfl rfl rfl rfl rfl trivial ?_
    refine vNil ?_
    change VC _ _ _ _
    refine vNilT 4 9001 3 (.ints []) rfl rfl rfl rfl ?_
    refine vRet ?_
    change ∃ _, _
    cases h
    exact ⟨[9001], _, rfl, ⟨rfl, trivial⟩, rfl, (.eq rfl), rfl⟩
   ·replace h := cnd_f hb4 h
    refine vSkip ?_
    change VC _ _ _ _
    refine vSeq ?_
    refine vRegion ?_
    refine oVal tt rfl rfl rfl rfl rfl trivial ?_
    obtain ⟨v2, hc5, h⟩ := bind_inv h
    refine oCall (S_SteadyPoints_w N p_0 v2 hc5) rfl rfl rfl rfl rfl rfl rfl rfl ⟨⟨rfl, rfl, rfl, trivial⟩, trivial⟩ ?_
    refine oVal tt rfl rfl rfl rfl rfl trivial ?_
    refine vNil ?_
    change VC _ _ _ _
    refine vSeq ?_
    refine vRegion ?_
    iterate 2 refine oVal tt rfl rfl rfl rfl rfl trivial ?_
    obtain ⟨v3, hc6, h⟩ := bind_inv h
    refine oCall (S_l27Less_w N p_0 bar_1 v3 hc6) rfl rfl rfl rfl rfl rfl rfl rfl ⟨⟨rfl, rfl, rfl, trivial⟩, rfl, trivial⟩ ?_
    obtain ⟨v4, hc7, h⟩ := bind_inv h
    refine oCall (S_SteadyPoints_w N v3 v4 hc7) rfl rfl rfl rfl rfl rfl rfl rfl ⟨⟨rfl, (.inl ⟨rfl, rfl⟩), (.inl ⟨rfl, rfl⟩), trivial⟩, trivial⟩ ?_
    refine oVal tt rfl rfl rfl rfl rfl trivial ?_
    refine vNil ?_
    change VC _ _ _ _
    iterate 2 refine vSeq ?_
    refine vRegion ?_
    refine oVal tt rfl rfl rfl rfl rfl trivial ?_
    refine vNil ?_
    change VC _ _ _ _
    refine vJoin (F := fun k => S_FallsWith_l1 N v2 v4 k) h (α := List Int) (J := fun (l11 : List Int) => (⟨[(5, .row 51 0 l11.length)], [(51, some (3, .ints l11))], []⟩ : PS)) ?_ ?_
    ·rintro l11 h
     show VC _ _ _ (⟨[(5, .row 51 0 l11.length)], [(51, some (3, .ints l11))], []⟩ : PS)
     refine vSeq ?_
     refine vRegion ?_
     iterate 2 refine oVal tt rfl rfl rfl rfl rfl trivial ?_
     refine vNil ?_
     change VC _ _ _ _
     refine vRet ?_
     change ∃ _, _
     cases h
     exact ⟨[51], _, rfl, ⟨rfl, trivial⟩, rfl, (.eq rfl), rfl⟩
    ·intro k h
     refine vBlock ?_
     refine vNilT 5 51 3 (.ints []) rfl rfl rfl rfl ?_
     refine vLoopS (α := (List Int) × Int) (fun | (l15, i16) => (⟨[(5, .row 51 0 l15.length), (6, .row 1270 0 v2.length), (7, .row 1310 0 v4.length), (8, .int i16)], [(51, some (3, .ints l15)), (1270, some (3, .ints v2)), (1310, some (3, .ints v4))], []⟩ : PS)) (S_FallsWith_l1 N v2 v4 k) h (En.of ⟨rfl, rfl, rfl, rfl, trivial⟩ ⟨rfl, rfl, rfl, trivial⟩ trivial) (fun _ => rfl) ?_
     rintro n ⟨l15, i16⟩ h
     rw [S_FallsWith_l1] at h
     show VC _ _ _ (⟨[(5, .row 51 0 l15.length), (6, .row 1270 0 v2.length), (7, .row 1310 0 v4.length), (8, .int i16)], [(51, some (3, .ints l15)), (1270, some (3, .ints v2)), (1310, some (3, .ints v4))], []⟩ : PS)
     iterate 2 refine vSeq ?_
     refine vRegion ?_
     iterate 4 refine oVal tt rfl rfl rfl rfl rfl trivial ?_
     refine vNil ?_
     change VC _ _ _ _
     refine vCond rfl (fun hb8 => ?_) (fun hb8 => ?_)
     ·replace h := cnd_t hb8 h
      refine vSkip ?_
      change VC _ _ _ _
      refine vSeq ?_
      refine vBlock ?_
      refine vSeq ?_
      refine vRegion ?_
      iterate 3 refine oVal tt rfl rfl rfl rfl rfl trivial ?_
      obtain ⟨hg9, h⟩ := grd_inv h
      iterate 2 refine oVal tt rfl rfl rfl rfl rfl hg9 ?_
      obtain ⟨v18, hc10, h⟩ := bind_inv h
      refine oCall (S_l2Has_w N v4 (v2.getD ((i16).toNat) 0) v18 hc10) rfl rfl rfl rfl rfl rfl rfl rfl ⟨(.inl ⟨rfl, rfl⟩), rfl, trivial⟩ ?_
      refine oVal tt rfl rfl rfl rfl rfl trivial ?_
      refine vNil ?_
      change VC _ _ _ _
      refine vCond rfl (fun hb11 => ?_) (fun hb11 => ?_)
      ·replace h := cnd_t hb11 h
       refine vRegion ?_
       iterate 3 refine oVal tt rfl rfl rfl rfl rfl trivial ?_
       iterate 2 refine oVal tt rfl rfl rfl rfl rfl hg9 ?_
       refine oBuild tt rfl rfl rfl rfl rfl rfl rfl rfl rfl rfl rfl ?_
       obtain ⟨hg12, h⟩ := grd_inv h
       refine oAppend tt rfl rfl rfl rfl rfl rfl rfl rfl rfl rfl rfl rfl rfl rfl rfl rfl (Nat.le_of_eq (Nat.zero_add _)) hg12 ?_
       refine oVal tt rfl rfl rfl rfl rfl trivial ?_
       refine vNil ?_
       change VC _ _ _ _
       refine vRegion ?_
       refine oVal tt rfl rfl rfl rfl rfl trivial ?_
       obtain ⟨hg13, h⟩ := grd_inv h
       refine oVal tt rfl rfl rfl rfl rfl hg13 ?_
       refine oVal tt rfl rfl rfl rfl rfl trivial ?_
       refine vNil ?_
       change ∃ _, _
       exact ⟨((l15 ++ ([(v2.getD ((i16).toNat) 0)] : List Int)), (i16 + (1 : Int))), (En.of ⟨rfl, rfl, rfl, rfl, trivial⟩ ⟨rfl, rfl, rfl, trivial⟩ trivial), h⟩
      ·replace h := cnd_f hb11 h
       refine vSkip ?_
       change VC _ _ _ _
       refine vRegion ?_
       refine oVal tt rfl rfl rfl rfl rfl trivial ?_
       obtain ⟨hg14, h⟩ := grd_inv h
       refine oVal tt rfl rfl rfl rfl rfl hg14 ?_
       refine oVal tt rfl rfl rfl rfl rfl trivial ?_
       refine vNil ?_
       change ∃ _, _
       exact ⟨(l15, (i16 + (1 : Int))), (En.of ⟨rfl, rfl, rfl, rfl, trivial⟩ ⟨rfl, rfl, rfl, trivial⟩ trivial), h⟩
     ·replace h := cnd_f hb8 h
      refine vExit ?_
      change ∃ _, _
      exact ⟨l15, (En.of ⟨rfl, trivial⟩ ⟨rfl, trivial⟩ trivial), h⟩
def S_WorstBar_l1 (N : Nat) (p_0 : Pin) (k : (Int × Int) → Option (Int × Int)) : Nat → (Int × Int × Int) → Option (Int × Int)
 | 0, _ => none
 | n + 1, (best11, most12, i13) =>
  cnd (decide (i13 < (p_0.g.bars.length : Int))) (
   (S_FallsWith N p_0 i13).bind fun v15 =>
   cnd (decide ((v15.length : Int) > most12)) (
    grd (Rg64 (i13 + (1 : Int))) <|
    S_WorstBar_l1 N p_0 k n (i13, (v15.length : Int), (i13 + (1 : Int)))) (
    grd (Rg64 (i13 + (1 : Int))) <|
    S_WorstBar_l1 N p_0 k n (best11, most12, (i13 + (1 : Int))))) (
   k (best11, most12))
def S_WorstBar (N : Nat) (p_0 : Pin) : Option (Int × Int) :=
 S_WorstBar_l1 N p_0 (fun (x : Int × Int) =>
   match x with
   | (best7, most8) =>
    some (best7, most8)) N ((-1 : Int), (0 : Int), (0 : Int))
set_option maxRecDepth 20000 in
set_option maxHeartbeats 1600000 in
theorem S_WorstBar_w (N : Nat) (p_0 : Pin) (r : Int × Int) (h : S_WorstBar N p_0 = some r) : PCall Try.prog 103 [pD p_0] [] (.tup [.int r.1, .int r.2]) := by
 unfold S_WorstBar at h
 refine pcall_intro (TT := TT) tt Try.func103 rfl rfl Try.ntmps103 (congrArg Array.toList Try.results103) rfl rfl fun w0 => ?_
 refine vSeq ?_
 refine vRegion ?_
 refine oBox rfl rfl rfl rfl rfl rfl rfl rfl rfl ?_
 iterate 2 refine oVal tt rfl rfl rfl rfl rfl trivial ?_
 refine vNil ?_
 change VC _ _ _ _
 refine vSeq ?_
 refine vRegion ?_
 refine oVal tt rfl rfl rfl rfl rfl trivial ?_
 refine vNil ?_
 change VC _ _ _ _
 refine vSeq ?_
 refine vRegion ?_
 refine oVal tt rfl rfl rfl rfl rfl trivial ?_
 refine vNil ?_
 change VC _ _ _ _
 iterate 2 refine vSeq ?_
 refine vRegion ?_
 refine oVal tt rfl rfl rfl rfl rfl trivial ?_
 refine vNil ?_
 change VC _ _ _ _
 refine vJoin (F := fun k => S_WorstBar_l1 N p_0 k) h (α := Int × Int) (J := fun | (best7, most8) => (⟨[(4, .int best7), (5, .int most8)], [], []⟩ : PS)) ?_ ?_
 ·rintro ⟨best7, most8⟩ h
  show VC _ _ _ (⟨[(4, .int best7), (5, .int most8)], [], []⟩ : PS)
  refine vSeq ?_
  refine vRegion ?_
  iterate 4 refine oVal tt rfl rfl rfl rfl rfl trivial ?_
  refine vNil ?_
  change VC _ _ _ _
  refine vRet ?_
  change ∃ _, _
  cases h
  exact ⟨[], _, rfl, trivial, rfl, (.eq rfl), rfl⟩
 ·intro k h
  refine vBlock ?_
  refine vLoopS (α := Int × Int × Int) (fun | (best11, most12, i13) => (⟨[(1, .ptr 1 0), (4, .int best11), (5, .int most12), (6, .int i13)], [], [(1, some [.int p_0.g.n, .ro false (.pairs p_0.g.bars), .ro false (.ints p_0.ground)])]⟩ : PS)) (S_WorstBar_l1 N p_0 k) h (En.of ⟨rfl, rfl, rfl, rfl, trivial⟩ trivial ⟨rfl, trivial⟩) (fun _ => rfl) ?_
  rintro n ⟨best11, most12, i13⟩ h
  rw [S_WorstBar_l1] at h
  show VC _ _ _ (⟨[(1, .ptr 1 0), (4, .int best11), (5, .int most12), (6, .int i13)], [], [(1, some [.int p_0.g.n, .ro false (.pairs p_0.g.bars), .ro false (.ints p_0.ground)])]⟩ : PS)
  iterate 2 refine vSeq ?_
  refine vRegion ?_
  iterate 6 refine oVal tt rfl rfl rfl rfl rfl trivial ?_
  refine vNil ?_
  change VC _ _ _ _
  refine vCond rfl (fun hb1 => ?_) (fun hb1 => ?_)
  ·replace h := cnd_t hb1 h
   refine vSkip ?_
   change VC _ _ _ _
   refine vSeq ?_
   refine vBlock ?_
   refine vSeq ?_
   refine vRegion ?_
   iterate 2 refine oVal tt rfl rfl rfl rfl rfl trivial ?_
   obtain ⟨v15, hc2, h⟩ := bind_inv h
   refine oCall (S_FallsWith_w N p_0 i13 v15 hc2) rfl rfl rfl rfl rfl rfl rfl rfl ⟨⟨rfl, rfl, rfl, trivial⟩, rfl, trivial⟩ ?_
   iterate 2 refine oVal tt rfl rfl rfl rfl rfl trivial ?_
   refine vNil ?_
   change VC _ _ _ _
   refine vSeq ?_
   refine vRegion ?_
   iterate 3 refine oVal tt rfl rfl rfl rfl rfl trivial ?_
   refine vNil ?_
   change VC _ _ _ _
   refine vCond rfl (fun hb3 => ?_) (fun hb3 => ?_)
   ·replace h := cnd_t hb3 h
    refine vSeq ?_
    refine vRegion ?_
    iterate 2 refine oVal tt rfl rfl rfl rfl rfl trivial ?_
    refine vNil ?_
    change VC _ _ _ _
    refine vRegion ?_
    iterate 2 refine oVal tt rfl rfl rfl rfl rfl trivial ?_
    refine vNil ?_
    change VC _ _ _ _
    refine vRegion ?_
    refine oVal tt rfl rfl rfl rfl rfl trivial ?_
    obtain ⟨hg4, h⟩ := grd_inv h
    refine oVal tt rfl rfl rfl rfl rfl hg4 ?_
    refine oVal tt rfl rfl rfl rfl rfl trivial ?_
    refine vNil ?_
    change ∃ _, _
    exact ⟨(i13, (v15.length : Int), (i13 + (1 : Int))), (En.of ⟨rfl, rfl, rfl, rfl, trivial⟩ trivial ⟨rfl, trivial⟩), h⟩
   ·replace h := cnd_f hb3 h
    refine vSkip ?_
    change VC _ _ _ _
    refine vRegion ?_
    refine oVal tt rfl rfl rfl rfl rfl trivial ?_
    obtain ⟨hg5, h⟩ := grd_inv h
    refine oVal tt rfl rfl rfl rfl rfl hg5 ?_
    refine oVal tt rfl rfl rfl rfl rfl trivial ?_
    refine vNil ?_
    change ∃ _, _
    exact ⟨(best11, most12, (i13 + (1 : Int))), (En.of ⟨rfl, rfl, rfl, rfl, trivial⟩ trivial ⟨rfl, trivial⟩), h⟩
  ·replace h := cnd_f hb1 h
   refine vExit ?_
   change ∃ _, _
   exact ⟨(best11, most12), (En.of ⟨rfl, rfl, trivial⟩ trivial trivial), h⟩
def S_RemoveAll_l1 (N : Nat) (k : ((List Int) × (List (Int × Int)) × (List Int) × Int) → Option ((List Int) × Pin)) : Nat → ((List Int) × (List (Int × Int)) × (List Int) × Int × Int) → Option ((List Int) × Pin)
 | 0, _ => none
 | n + 1, (l28, l29, l30, i31, c32) =>
  cnd (decide (i31 ≥ (0 : Int))) (
   (S_SafeToRemove N (⟨⟨c32, l29⟩, l30⟩ : Pin) i31).bind fun v35 =>
   cnd v35 (
    (S_l27Less N (⟨⟨c32, l29⟩, l30⟩ : Pin) i31).bind fun v36 =>
    grd (l28.length + 1 ≤ 4294967296) <|
    grd (Rg64 (i31 - (1 : Int))) <|
    S_RemoveAll_l1 N k n ((l28 ++ ([i31] : List Int)), v36.g.bars, v36.ground, (i31 - (1 : Int)), v36.g.n)) (
    grd (Rg64 (i31 - (1 : Int))) <|
    S_RemoveAll_l1 N k n (l28, l29, l30, (i31 - (1 : Int)), c32))) (
   k (l28, l29, l30, c32))
def S_RemoveAll (N : Nat) (p_0 : Pin) : Option ((List Int) × Pin) :=
 (S_l2Copy N p_0.g).bind fun v1 =>
 grd (p_0.ground.length ≤ 4294967296) <|
 grd (Rg64 ((p_0.g.bars.length : Int) - (1 : Int))) <|
 S_RemoveAll_l1 N (fun (x : (List Int) × (List (Int × Int)) × (List Int) × Int) =>
   match x with
   | (l17, l18, l19, c20) =>
    some (l17, (⟨⟨c20, l18⟩, l19⟩ : Pin))) N (([] : List Int), v1.bars, (([] : List Int) ++ p_0.ground), ((p_0.g.bars.length : Int) - (1 : Int)), v1.n)
set_option maxRecDepth 20000 in
set_option maxHeartbeats 1600000 in
theorem S_RemoveAll_w (N : Nat) (p_0 : Pin) (r : (List Int) × Pin) (h : S_RemoveAll N p_0 = some r) : PCall Try.prog 96 [pD p_0] [(3, .ints r.1), (111, .pairs r.2.g.bars), (3, .ints r.2.ground)] (.tup [.row 0 0 r.1.length, .agg [.int r.2.g.n, .row 1 0 r.2.g.bars.length, .row 2 0 r.2.ground.length]]) := by
 unfold S_RemoveAll at h
 refine pcall_intro (TT := TT) tt Try.func96 rfl rfl Try.ntmps96 (congrArg Array.toList Try.results96) rfl rfl fun w0 => ?_
 refine vSeq ?_
 refine vRegion ?_
 refine oBox rfl rfl rfl rfl rfl rfl rfl rfl rfl ?_
 refine oVal tt rfl rfl rfl rfl rfl trivial ?_
 refine oAlloc tt rfl rfl rfl rfl rfl rfl rfl rfl rfl ?_
 refine vNil ?_
 change VC _ _ _ _
 refine vSeq ?_
 refine vRegion ?_
 refine oEmpty tt (wNone rfl) rfl rfl rfl rfl ?_
 refine oVal tt rfl rfl rfl rfl rfl trivial ?_
 refine vNil ?_
 change VC _ _ _ _
 refine vSeq ?_
 refine vRegionN 9 [2, 6, 8] [0, 1, 3, 0, 0, 16, 63, 127, 0, 511] (by kernel_rfl) (by kernel_rfl) (by kernel_rfl) (by kernel_rfl) (by kernel_rfl) rfl (by rfl) ?_
 iterate 2 refine nVal tt rfl (wNone rfl) rfl rfl rfl rfl rfl trivial ?_
 obtain ⟨v1, hc1, h⟩ := bind_inv h
 refine nCallR (S_l2Copy_w N p_0.g v1 hc1) rfl (wNone rfl) rfl rfl rfl rfl rfl rfl (by first | rfl | kernel_rfl | (simp [nrL, nm, gdst, nmT, rowB]; done)) rfl (by first | rfl | kernel_rfl | (simp [chkE, nrL, nm, gdst, nmT, rowB, hid, ment, mentA, mentS]; done) | (simp [chkE, nrL, nm, gdst, nmT, rowB, hid, ment, mentA, mentS]; decide)) ⟨⟨rfl, rfl, trivial⟩, trivial⟩ ?_
 refine nEmpty tt (wNone rfl) rfl rfl rfl rfl rfl ?_
 iterate 2 refine nVal tt rfl (wNone rfl) rfl rfl rfl rfl rfl trivial ?_
 obtain ⟨hg2, h⟩ := grd_inv h
 refine nAppNil tt (wNone rfl) rfl rfl rfl rfl rfl rfl rfl rfl (fun _ => rfl) rfl rfl rfl rfl rfl rfl hg2 ?_
 refine nPure (wNone rfl) (pBuild bld_impl_Pinned rfl rfl) rfl rfl rfl rfl ?_
 refine nAlloc tt (wNone rfl) rfl rfl rfl rfl rfl rfl rfl rfl rfl rfl ?_
 refine nNil ?_
 change VO _ _ _ _ _
 refine oStore tt rfl rfl rfl rfl rfl rfl rfl rfl rfl rfl rfl ⟨trivial, trivial, trivial, trivial⟩ ?_
 refine vNil ?_
 change VC _ _ _ _
 iterate 2 refine vSeq ?_
 refine vRegion ?_
 iterate 4 refine oVal tt rfl rfl rfl rfl rfl trivial ?_
 obtain ⟨hg3, h⟩ := grd_inv h
 refine oVal tt rfl rfl rfl rfl rfl hg3 ?_
 refine oVal tt rfl rfl rfl rfl rfl trivial ?_
 refine vNil ?_
 change VC _ _ _ _
 refine vJoin (F := fun k => S_RemoveAll_l1 N k) h (α := (List Int) × (List (Int × Int)) × (List Int) × Int) (J := fun | (l17, l18, l19, c20) => (⟨[(3, .ptr 3 0), (4, .row 34 0 l17.length), (5, .ptr 5 0)], [(34, some (3, .ints l17)), (1100, some (111, .pairs l18)), (14, some (3, .ints l19))], [(3, some [.int (0 : Int), .nil, .nil]), (5, some [.int c20, .row 1100 0 l18.length, .row 14 0 l19.length])]⟩ : PS)) ?_ ?_
 ·rintro ⟨l17, l18, l19, c20⟩ h
  show VC _ _ _ (⟨[(3, .ptr 3 0), (4, .row 34 0 l17.length), (5, .ptr 5 0)], [(34, some (3, .ints l17)), (1100, some (111, .pairs l18)), (14, some (3, .ints l19))], [(3, some [.int (0 : Int), .nil, .nil]), (5, some [.int c20, .row 1100 0 l18.length, .row 14 0 l19.length])]⟩ : PS)
  refine vSeq ?_
  refine vRegionN 3 [] [0, 0, 1, 7] (by kernel_rfl) (by kernel_rfl) (by kernel_rfl) (by kernel_rfl) (by kernel_rfl) rfl (by rfl) ?_
  iterate 3 refine nVal tt rfl (wNone rfl) rfl rfl rfl rfl rfl trivial ?_
  refine nNil ?_
  change VO _ _ _ _ _
  refine oStore tt rfl rfl rfl rfl rfl rfl rfl rfl rfl rfl rfl ⟨trivial, trivial, trivial, trivial⟩ ?_
  refine vNil ?_
  change VC _ _ _ _
  refine vRet ?_
  change ∃ _, _
  cases h
  exact ⟨[34, 1100, 14], _, rfl, ⟨rfl, rfl, rfl, trivial⟩, rfl, (.eq rfl), rfl⟩
 ·intro k h
  refine vBlock ?_
  refine vNilT 4 34 3 (.ints []) rfl rfl rfl rfl ?_
  refine vLoopS (α := (List Int) × (List (Int × Int)) × (List Int) × Int × Int) (fun | (l28, l29, l30, i31, c32) => (⟨[(3, .ptr 3 0), (4, .row 34 0 l28.length), (5, .ptr 5 0), (6, .int i31)], [(34, some (3, .ints l28)), (1100, some (111, .pairs l29)), (14, some (3, .ints l30))], [(3, some [.int (0 : Int), .nil, .nil]), (5, some [.int c32, .row 1100 0 l29.length, .row 14 0 l30.length])]⟩ : PS)) (S_RemoveAll_l1 N k) h (En.of ⟨rfl, rfl, rfl, rfl, trivial⟩ ⟨rfl, rfl, rfl, trivial⟩ ⟨rfl, rfl, trivial⟩) (fun _ => rfl) ?_
  rintro n ⟨l28, l29, l30, i31, c32⟩ h
  rw [S_RemoveAll_l1] at h
  show VC _ _ _ (⟨[(3, .ptr 3 0), (4, .row 34 0 l28.length), (5, .ptr 5 0), (6, .int i31)], [(34, some (3, .ints l28)), (1100, some (111, .pairs l29)), (14, some (3, .ints l30))], [(3, some [.int (0 : Int), .nil, .nil]), (5, some [.int c32, .row 1100 0 l29.length, .row 14 0 l30.length])]⟩ : PS)
  iterate 2 refine vSeq ?_
  refine vRegion ?_
  iterate 2 refine oVal tt rfl rfl rfl rfl rfl trivial ?_
  refine vNil ?_
  change VC _ _ _ _
  refine vCond rfl (fun hb4 => ?_) (fun hb4 => ?_)
  ·replace h := cnd_t hb4 h
   refine vSkip ?_
   change VC _ _ _ _
   refine vSeq ?_
   refine vBlock ?_
   refine vSeq ?_
   refine vRegion ?_
   iterate 2 refine oVal tt rfl rfl rfl rfl rfl trivial ?_
   obtain ⟨v35, hc5, h⟩ := bind_inv h
   refine oCall (S_SafeToRemove_w N (⟨⟨c32, l29⟩, l30⟩ : Pin) i31 v35 hc5) rfl rfl rfl rfl rfl rfl rfl rfl ⟨⟨rfl, (.inl ⟨rfl, rfl⟩), (.inl ⟨rfl, rfl⟩), trivial⟩, rfl, trivial⟩ ?_
   refine vNil ?_
   change VC _ _ _ _
   refine vCond rfl (fun hb6 => ?_) (fun hb6 => ?_)
   ·replace h := cnd_t hb6 h
    refine vSeq ?_
    refine vRegion ?_
    iterate 2 refine oVal tt rfl rfl rfl rfl rfl trivial ?_
    obtain ⟨v36, hc7, h⟩ := bind_inv h
    refine oCall (S_l27Less_w N (⟨⟨c32, l29⟩, l30⟩ : Pin) i31 v36 hc7) rfl rfl rfl rfl rfl rfl rfl rfl ⟨⟨rfl, (.inl ⟨rfl, rfl⟩), (.inl ⟨rfl, rfl⟩), trivial⟩, rfl, trivial⟩ ?_
    refine oStore tt rfl rfl rfl rfl rfl rfl rfl rfl rfl rfl rfl ⟨trivial, trivial, trivial, trivial⟩ ?_
    refine vNil ?_
    change VC _ _ _ _
    refine vRegion ?_
    iterate 2 refine oVal tt rfl rfl rfl rfl rfl trivial ?_
    refine oBuild tt rfl rfl rfl rfl rfl rfl rfl rfl rfl rfl rfl ?_
    obtain ⟨hg8, h⟩ := grd_inv h
    refine oAppend tt rfl rfl rfl rfl rfl rfl rfl rfl rfl rfl rfl rfl rfl rfl rfl rfl (Nat.le_of_eq (Nat.zero_add _)) hg8 ?_
    refine oVal tt rfl rfl rfl rfl rfl trivial ?_
    refine vNil ?_
    change VC _ _ _ _
    refine vRegion ?_
    refine oVal tt rfl rfl rfl rfl rfl trivial ?_
    obtain ⟨hg9, h⟩ := grd_inv h
    refine oVal tt rfl rfl rfl rfl rfl hg9 ?_
    refine oVal tt rfl rfl rfl rfl rfl trivial ?_
    refine vNil ?_
    change ∃ _, _
    exact ⟨((l28 ++ ([i31] : List Int)), v36.g.bars, v36.ground, (i31 - (1 : Int)), v36.g.n), (En.ren [1100, 14] [1300, 1301] rfl ⟨.inr rfl, .inr rfl, .inr rfl, .inr rfl, trivial⟩ ⟨.inr rfl, .inr rfl, .inr rfl, trivial⟩ ⟨.inr ⟨_, _, rfl, rfl, ⟨.inr rfl, .inr rfl, .inr rfl, trivial⟩⟩, .inr ⟨_, _, rfl, rfl, ⟨.inr rfl, .inr rfl, .inr rfl, trivial⟩⟩, trivial⟩), h⟩
   ·replace h := cnd_f hb6 h
    refine vSkip ?_
    change VC _ _ _ _
    refine vRegion ?_
    refine oVal tt rfl rfl rfl rfl rfl trivial ?_
    obtain ⟨hg10, h⟩ := grd_inv h
    refine oVal tt rfl rfl rfl rfl rfl hg10 ?_
    refine oVal tt rfl rfl rfl rfl rfl trivial ?_
    refine vNil ?_
    change ∃ _, _
    exact ⟨(l28, l29, l30, (i31 - (1 : Int)), c32), (En.of ⟨rfl, rfl, rfl, rfl, trivial⟩ ⟨rfl, rfl, rfl, trivial⟩ ⟨rfl, rfl, trivial⟩), h⟩
  ·replace h := cnd_f hb4 h
   refine vExit ?_
   change ∃ _, _
   exact ⟨(l28, l29, l30, c32), (En.of ⟨rfl, rfl, rfl, trivial⟩ ⟨rfl, rfl, rfl, trivial⟩ ⟨rfl, rfl, trivial⟩), h⟩
def S_LeastKept_l1 (N : Nat) (p_0 : Pin) (v1 : (List Int) × Pin) (k : (List Int) → Option (List Int)) : Nat → ((List Int) × Int) → Option (List Int)
 | 0, _ => none
 | n + 1, (l18, i19) =>
  cnd (decide (i19 < (p_0.g.bars.length : Int))) (
   (S_IsPinned N p_0).bind fun v22 =>
   cnd v22 (
    (S_l2Has N v1.1 i19).bind fun v23 =>
    cnd (!v23) (
     grd (l18.length + 1 ≤ 4294967296) <|
     grd (Rg64 (i19 + (1 : Int))) <|
     S_LeastKept_l1 N p_0 v1 k n ((l18 ++ ([i19] : List Int)), (i19 + (1 : Int)))) (
     grd (Rg64 (i19 + (1 : Int))) <|
     S_LeastKept_l1 N p_0 v1 k n (l18, (i19 + (1 : Int))))) (
    k l18)) (
   k l18)
def S_LeastKept (N : Nat) (p_0 : Pin) : Option (List Int) :=
 (S_RemoveAll N p_0).bind fun v1 =>
 S_LeastKept_l1 N p_0 v1 (fun (l12 : List Int) =>
    some l12) N (([] : List Int), (0 : Int))
set_option maxRecDepth 20000 in
set_option maxHeartbeats 1600000 in
theorem S_LeastKept_w (N : Nat) (p_0 : Pin) (r : List Int) (h : S_LeastKept N p_0 = some r) : PCall Try.prog 101 [pD p_0] [(3, .ints r)] (.row 0 0 r.length) := by
 unfold S_LeastKept at h
 refine pcall_intro (TT := TT) tt Try.func101 rfl rfl Try.ntmps101 (congrArg Array.toList Try.results101) rfl rfl fun w0 => ?_
 refine vSeq ?_
 refine vRegion ?_
 refine oBox rfl rfl rfl rfl rfl rfl rfl rfl rfl ?_
 refine oVal tt rfl rfl rfl rfl rfl trivial ?_
 refine vNil ?_
 change VC _ _ _ _
 refine vSeq ?_
 refine vRegion ?_
 refine oEmpty tt (wNone rfl) rfl rfl rfl rfl ?_
 refine oVal tt rfl rfl rfl rfl rfl trivial ?_
 refine vNil ?_
 change VC _ _ _ _
 refine vSeq ?_
 refine vRegion ?_
 refine oVal tt rfl rfl rfl rfl rfl trivial ?_
 obtain ⟨v1, hc1, h⟩ := bind_inv h
 refine oCall (S_RemoveAll_w N p_0 v1 hc1) rfl rfl rfl rfl rfl rfl rfl rfl ⟨⟨rfl, rfl, rfl, trivial⟩, trivial⟩ ?_
 iterate 3 refine oVal tt rfl rfl rfl rfl rfl trivial ?_
 refine oAlloc tt rfl rfl rfl rfl rfl rfl rfl rfl rfl ?_
 refine oVal tt rfl rfl rfl rfl rfl trivial ?_
 refine oStore tt rfl rfl rfl rfl rfl rfl rfl rfl rfl rfl rfl ⟨trivial, trivial, trivial, trivial⟩ ?_
 refine vNil ?_
 change VC _ _ _ _
 iterate 2 refine vSeq ?_
 refine vRegion ?_
 refine oVal tt rfl rfl rfl rfl rfl trivial ?_
 refine vNil ?_
 change VC _ _ _ _
 refine vJoin (F := fun k => S_LeastKept_l1 N p_0 v1 k) h (α := List Int) (J := fun (l12 : List Int) => (⟨[(3, .row 32 0 l12.length)], [(32, some (3, .ints l12))], []⟩ : PS)) ?_ ?_
 ·rintro l12 h
  show VC _ _ _ (⟨[(3, .row 32 0 l12.length)], [(32, some (3, .ints l12))], []⟩ : PS)
  refine vSeq ?_
  refine vRegion ?_
  iterate 2 refine oVal tt rfl rfl rfl rfl rfl trivial ?_
  refine vNil ?_
  change VC _ _ _ _
  refine vRet ?_
  change ∃ _, _
  cases h
  exact ⟨[32], _, rfl, ⟨rfl, trivial⟩, rfl, (.eq rfl), rfl⟩
 ·intro k h
  refine vBlock ?_
  refine vNilT 3 32 3 (.ints []) rfl rfl rfl rfl ?_
  refine vLoopS (α := (List Int) × Int) (fun | (l18, i19) => (⟨[(1, .ptr 1 0), (3, .row 32 0 l18.length), (4, .row 1100 0 v1.1.length), (6, .int i19)], [(32, some (3, .ints l18)), (1100, some (3, .ints v1.1))], [(1, some [.int p_0.g.n, .ro false (.pairs p_0.g.bars), .ro false (.ints p_0.ground)])]⟩ : PS)) (S_LeastKept_l1 N p_0 v1 k) h (En.of ⟨rfl, rfl, rfl, rfl, trivial⟩ ⟨rfl, rfl, trivial⟩ ⟨rfl, trivial⟩) (fun _ => rfl) ?_
  rintro n ⟨l18, i19⟩ h
  rw [S_LeastKept_l1] at h
  show VC _ _ _ (⟨[(1, .ptr 1 0), (3, .row 32 0 l18.length), (4, .row 1100 0 v1.1.length), (6, .int i19)], [(32, some (3, .ints l18)), (1100, some (3, .ints v1.1))], [(1, some [.int p_0.g.n, .ro false (.pairs p_0.g.bars), .ro false (.ints p_0.ground)])]⟩ : PS)
  iterate 2 refine vSeq ?_
  refine vRegion ?_
  iterate 7 refine oVal tt rfl rfl rfl rfl rfl trivial ?_
  refine oSplit rfl rfl rfl (fun hb2 => ?_) (fun hb2 => ?_)
  ·replace h := cnd_t hb2 h
   refine oValG tt rfl rfl rfl rfl rfl hb2 rfl rfl rfl trivial ?_
   obtain ⟨v22, hc3, h⟩ := bind_inv h
   refine oCallG (S_IsPinned_w N p_0 v22 hc3) rfl rfl rfl rfl hb2 rfl rfl rfl rfl rfl rfl rfl ⟨⟨rfl, rfl, rfl, trivial⟩, trivial⟩ ?_
   refine oPick rfl rfl rfl rfl rfl hb2 rfl ?_
   refine vNil ?_
   change VC _ _ _ _
   refine vCond rfl (fun hb4 => ?_) (fun hb4 => ?_)
   ·replace h := cnd_t hb4 h
    refine vSkip ?_
    change VC _ _ _ _
    refine vSeq ?_
    refine vBlock ?_
    refine vSeq ?_
    refine vRegion ?_
    iterate 2 refine oVal tt rfl rfl rfl rfl rfl trivial ?_
    obtain ⟨v23, hc5, h⟩ := bind_inv h
    refine oCall (S_l2Has_w N v1.1 i19 v23 hc5) rfl rfl rfl rfl rfl rfl rfl rfl ⟨(.inl ⟨rfl, rfl⟩), rfl, trivial⟩ ?_
    refine oVal tt rfl rfl rfl rfl rfl trivial ?_
    refine vNil ?_
    change VC _ _ _ _
    refine vCond rfl (fun hb6 => ?_) (fun hb6 => ?_)
    ·replace h := cnd_t hb6 h
     refine vRegion ?_
     iterate 2 refine oVal tt rfl rfl rfl rfl rfl trivial ?_
     refine oBuild tt rfl rfl rfl rfl rfl rfl rfl rfl rfl rfl rfl ?_
     obtain ⟨hg7, h⟩ := grd_inv h
     refine oAppend tt rfl rfl rfl rfl rfl rfl rfl rfl rfl rfl rfl rfl rfl rfl rfl rfl (Nat.le_of_eq (Nat.zero_add _)) hg7 ?_
     refine oVal tt rfl rfl rfl rfl rfl trivial ?_
     refine vNil ?_
     change VC _ _ _ _
     refine vRegion ?_
     refine oVal tt rfl rfl rfl rfl rfl trivial ?_
     obtain ⟨hg8, h⟩ := grd_inv h
     refine oVal tt rfl rfl rfl rfl rfl hg8 ?_
     refine oVal tt rfl rfl rfl rfl rfl trivial ?_
     refine vNil ?_
     change ∃ _, _
     exact ⟨((l18 ++ ([i19] : List Int)), (i19 + (1 : Int))), (En.of ⟨rfl, rfl, rfl, rfl, trivial⟩ ⟨rfl, rfl, trivial⟩ ⟨rfl, trivial⟩), h⟩
    ·replace h := cnd_f hb6 h
     refine vSkip ?_
     change VC _ _ _ _
     refine vRegion ?_
     refine oVal tt rfl rfl rfl rfl rfl trivial ?_
     obtain ⟨hg9, h⟩ := grd_inv h
     refine oVal tt rfl rfl rfl rfl rfl hg9 ?_
     refine oVal tt rfl rfl rfl rfl rfl trivial ?_
     refine vNil ?_
     change ∃ _, _
     exact ⟨(l18, (i19 + (1 : Int))), (En.of ⟨rfl, rfl, rfl, rfl, trivial⟩ ⟨rfl, rfl, trivial⟩ ⟨rfl, trivial⟩), h⟩
   ·replace h := cnd_f hb4 h
    refine vExit ?_
    change ∃ _, _
    exact ⟨l18, (En.of ⟨rfl, trivial⟩ ⟨rfl, trivial⟩ trivial), h⟩
  ·replace h := cnd_f hb2 h
   iterate 2 refine oNoT rfl rfl rfl rfl hb2 rfl rfl ?_
   refine oPickF rfl rfl rfl rfl rfl hb2 rfl ?_
   refine vNil ?_
   change VC _ _ _ _
   refine vCondF rfl rfl ?_
   refine vExit ?_
   change ∃ _, _
   exact ⟨l18, (En.of ⟨rfl, trivial⟩ ⟨rfl, trivial⟩ trivial), h⟩
end Go.Proofs.Ytcljhpldfanhkaa
namespace Go.Proofs.Ytcljhpldfanhkaa
open Go.RowKit
def G_Delete_Bar (N : Nat) (s_0 : List (Int × Int)) (i_1 : Int) (j_2 : Int) : Option (List (Int × Int)) :=
 grd (0 ≤ i_1 ∧ i_1 ≤ j_2 ∧ j_2 ≤ (s_0.length : Int) ∧ (s_0.length : Int) ≤ (s_0.length : Int)) <|
 cnd (i_1 == j_2) (
  some s_0) (
  grd (0 ≤ i_1 ∧ i_1 ≤ (s_0.length : Int)) <|
  grd (0 ≤ j_2 ∧ j_2 ≤ (s_0.length : Int)) <|
  grd ((0 + ((j_2).toNat)) + (s_0.length - ((j_2).toNat)) ≤ s_0.length) <|
  grd (((i_1).toNat) + ((s_0.take ((0 + ((j_2).toNat)) + (s_0.length - ((j_2).toNat)))).drop (0 + ((j_2).toNat))).length ≤ s_0.length) <|
  grd (0 ≤ ((((i_1).toNat) + ((s_0.take ((0 + ((j_2).toNat)) + (s_0.length - ((j_2).toNat)))).drop (0 + ((j_2).toNat))).length) : Int) ∧ ((((i_1).toNat) + ((s_0.take ((0 + ((j_2).toNat)) + (s_0.length - ((j_2).toNat)))).drop (0 + ((j_2).toNat))).length) : Int) ≤ (s_0.length : Int) ∧ (s_0.length : Int) ≤ (((s_0.take ((i_1).toNat) ++ ((s_0.take ((0 + ((j_2).toNat)) + (s_0.length - ((j_2).toNat)))).drop (0 + ((j_2).toNat)))) ++ s_0.drop (((i_1).toNat) + ((s_0.take ((0 + ((j_2).toNat)) + (s_0.length - ((j_2).toNat)))).drop (0 + ((j_2).toNat))).length)).length : Int)) <|
  grd (((((((i_1).toNat) + ((s_0.take ((0 + ((j_2).toNat)) + (s_0.length - ((j_2).toNat)))).drop (0 + ((j_2).toNat))).length) : Int)).toNat) + ((((s_0.length : Int)).toNat) - ((((((i_1).toNat) + ((s_0.take ((0 + ((j_2).toNat)) + (s_0.length - ((j_2).toNat)))).drop (0 + ((j_2).toNat))).length) : Int)).toNat)) ≤ ((s_0.take ((i_1).toNat) ++ ((s_0.take ((0 + ((j_2).toNat)) + (s_0.length - ((j_2).toNat)))).drop (0 + ((j_2).toNat)))) ++ s_0.drop (((i_1).toNat) + ((s_0.take ((0 + ((j_2).toNat)) + (s_0.length - ((j_2).toNat)))).drop (0 + ((j_2).toNat))).length)).length) <|
  grd ((((i_1).toNat) + ((s_0.take ((0 + ((j_2).toNat)) + (s_0.length - ((j_2).toNat)))).drop (0 + ((j_2).toNat))).length) = (((((s_0.take ((i_1).toNat) ++ ((s_0.take ((0 + ((j_2).toNat)) + (s_0.length - ((j_2).toNat)))).drop (0 + ((j_2).toNat)))) ++ s_0.drop (((i_1).toNat) + ((s_0.take ((0 + ((j_2).toNat)) + (s_0.length - ((j_2).toNat)))).drop (0 + ((j_2).toNat))).length)).take ((((((i_1).toNat) + ((s_0.take ((0 + ((j_2).toNat)) + (s_0.length - ((j_2).toNat)))).drop (0 + ((j_2).toNat))).length) : Int)).toNat) ++ (List.replicate ((((s_0.length : Int)).toNat) - ((((((i_1).toNat) + ((s_0.take ((0 + ((j_2).toNat)) + (s_0.length - ((j_2).toNat)))).drop (0 + ((j_2).toNat))).length) : Int)).toNat)) ((0, 0) : Int × Int))) ++ ((s_0.take ((i_1).toNat) ++ ((s_0.take ((0 + ((j_2).toNat)) + (s_0.length - ((j_2).toNat)))).drop (0 + ((j_2).toNat)))) ++ s_0.drop (((i_1).toNat) + ((s_0.take ((0 + ((j_2).toNat)) + (s_0.length - ((j_2).toNat)))).drop (0 + ((j_2).toNat))).length)).drop (((((((i_1).toNat) + ((s_0.take ((0 + ((j_2).toNat)) + (s_0.length - ((j_2).toNat)))).drop (0 + ((j_2).toNat))).length) : Int)).toNat) + ((((s_0.length : Int)).toNat) - ((((((i_1).toNat) + ((s_0.take ((0 + ((j_2).toNat)) + (s_0.length - ((j_2).toNat)))).drop (0 + ((j_2).toNat))).length) : Int)).toNat)))).take (((i_1).toNat) + ((s_0.take ((0 + ((j_2).toNat)) + (s_0.length - ((j_2).toNat)))).drop (0 + ((j_2).toNat))).length)).length) <|
  some (((((s_0.take ((i_1).toNat) ++ ((s_0.take ((0 + ((j_2).toNat)) + (s_0.length - ((j_2).toNat)))).drop (0 + ((j_2).toNat)))) ++ s_0.drop (((i_1).toNat) + ((s_0.take ((0 + ((j_2).toNat)) + (s_0.length - ((j_2).toNat)))).drop (0 + ((j_2).toNat))).length)).take ((((((i_1).toNat) + ((s_0.take ((0 + ((j_2).toNat)) + (s_0.length - ((j_2).toNat)))).drop (0 + ((j_2).toNat))).length) : Int)).toNat) ++ (List.replicate ((((s_0.length : Int)).toNat) - ((((((i_1).toNat) + ((s_0.take ((0 + ((j_2).toNat)) + (s_0.length - ((j_2).toNat)))).drop (0 + ((j_2).toNat))).length) : Int)).toNat)) ((0, 0) : Int × Int))) ++ ((s_0.take ((i_1).toNat) ++ ((s_0.take ((0 + ((j_2).toNat)) + (s_0.length - ((j_2).toNat)))).drop (0 + ((j_2).toNat)))) ++ s_0.drop (((i_1).toNat) + ((s_0.take ((0 + ((j_2).toNat)) + (s_0.length - ((j_2).toNat)))).drop (0 + ((j_2).toNat))).length)).drop (((((((i_1).toNat) + ((s_0.take ((0 + ((j_2).toNat)) + (s_0.length - ((j_2).toNat)))).drop (0 + ((j_2).toNat))).length) : Int)).toNat) + ((((s_0.length : Int)).toNat) - ((((((i_1).toNat) + ((s_0.take ((0 + ((j_2).toNat)) + (s_0.length - ((j_2).toNat)))).drop (0 + ((j_2).toNat))).length) : Int)).toNat)))).take (((i_1).toNat) + ((s_0.take ((0 + ((j_2).toNat)) + (s_0.length - ((j_2).toNat)))).drop (0 + ((j_2).toNat))).length)))
set_option maxRecDepth 20000 in
set_option maxHeartbeats 1600000 in
theorem G_Delete_Bar_w (N : Nat) (s_0 : List (Int × Int)) (i_1 : Int) (j_2 : Int) (r : List (Int × Int)) (h : G_Delete_Bar N s_0 i_1 j_2 = some r) : MCall Try.prog 187 [.row 1000000 0 s_0.length, .int i_1, .int j_2] [1000000] [] [(111, .pairs s_0)] [(111, .pairs r)] [] [] (.row 1000000 0 r.length) := by
 unfold G_Delete_Bar at h
 refine mcall_intro (TT := TT) tt Try.func187 rfl rfl Try.ntmps187 (congrArg Array.toList Try.results187) rfl rfl rfl rfl rfl fun w0 O0 => ?_
 refine vSeq ?_
 refine vRegion ?_
 refine oVal tt rfl rfl rfl rfl rfl trivial ?_
 refine vNil ?_
 change VC _ _ _ _
 refine vSeq ?_
 refine vRegion ?_
 iterate 5 refine oVal tt rfl rfl rfl rfl rfl trivial ?_
 obtain ⟨hg1, h⟩ := grd_inv h
 refine oSlice3 tt rfl rfl rfl rfl rfl rfl rfl rfl rfl rfl hg1 ?_
 refine vNil ?_
 change VC _ _ _ _
 iterate 2 refine vSeq ?_
 refine vRegion ?_
 iterate 3 refine oVal tt rfl rfl rfl rfl rfl trivial ?_
 refine vNil ?_
 change VC _ _ _ _
 refine vCond rfl (fun hb2 => ?_) (fun hb2 => ?_)
 ·replace h := cnd_t hb2 h
  refine vSeq ?_
  refine vRegion ?_
  iterate 2 refine oVal tt rfl rfl rfl rfl rfl trivial ?_
  refine vNil ?_
  change VC _ _ _ _
  refine vRet ?_
  change ∃ _, _
  cases h
  exact ⟨[1000000], rfl, ⟨rfl, trivial⟩, trivial, rfl⟩
 ·replace h := cnd_f hb2 h
  refine vSkip ?_
  change VC _ _ _ _
  refine vSeq ?_
  refine vRegion ?_
  iterate 3 refine oVal tt rfl rfl rfl rfl rfl trivial ?_
  refine vNil ?_
  change VC _ _ _ _
  refine vSeq ?_
  refine vRegionN 6 [] [0, 0, 3, 0, 0, 24, 63, 127] (by kernel_rfl) (by kernel_rfl) (by kernel_rfl) (by kernel_rfl) (by kernel_rfl) rfl (by rfl) ?_
  iterate 2 refine nVal tt rfl (wNone rfl) rfl rfl rfl rfl rfl trivial ?_
  obtain ⟨hg3, h⟩ := grd_inv h
  refine nVal tt rfl (wNone rfl) rfl rfl rfl rfl rfl hg3 ?_
  iterate 2 refine nVal tt rfl (wNone rfl) rfl rfl rfl rfl rfl trivial ?_
  obtain ⟨hg4, h⟩ := grd_inv h
  refine nVal tt rfl (wNone rfl) rfl rfl rfl rfl rfl hg4 ?_
  refine nNil ?_
  change VO _ _ _ _ _
  obtain ⟨hg5, h⟩ := grd_inv h
  obtain ⟨hg6, h⟩ := grd_inv h
  refine oAppendIn tt rfl rfl rfl rfl rfl rfl rfl rfl rfl rfl rfl rfl rfl rfl hg5 hg6 ?_
  refine oVal tt rfl rfl rfl rfl rfl trivial ?_
  refine vNil ?_
  change VC _ _ _ _
  refine vSeq ?_
  refine vRegion ?_
  iterate 4 refine oVal tt rfl rfl rfl rfl rfl trivial ?_
  obtain ⟨hg7, h⟩ := grd_inv h
  refine oSliceC tt rfl rfl rfl rfl rfl rfl rfl rfl rfl rfl hg7 ?_
  obtain ⟨hg8, h⟩ := grd_inv h
  refine oClear tt rfl rfl rfl rfl rfl rfl rfl rfl rfl hg8 ?_
  refine vNil ?_
  change VC _ _ _ _
  refine vSeq ?_
  refine vRegion ?_
  iterate 2 refine oVal tt rfl rfl rfl rfl rfl trivial ?_
  refine vNil ?_
  change VC _ _ _ _
  obtain ⟨hg9, h⟩ := grd_inv h
  refine vTruncT 6 1000000 hg9 rfl rfl rfl rfl ?_
  refine vRet ?_
  change ∃ _, _
  cases h
  exact ⟨[1000000], rfl, ⟨rfl, trivial⟩, trivial, rfl⟩
def I_withoutBar (N : Nat) (p_0 : Pin) (e_1 : Int) : Option (Pin) :=
 (I_copyPinned N p_0).bind fun v1 =>
 grd (Rg64 (e_1 + (1 : Int))) <|
 (G_Delete_Bar N v1.g.bars e_1 (e_1 + (1 : Int))).bind fun v2 =>
 some (⟨⟨v1.g.n, v2⟩, v1.ground⟩ : Pin)
set_option maxRecDepth 20000 in
set_option maxHeartbeats 1600000 in
theorem I_withoutBar_w (N : Nat) (p_0 : Pin) (e_1 : Int) (r : Pin) (h : I_withoutBar N p_0 e_1 = some r) : PCall Try.prog 152 [pD p_0, .int e_1] [(111, .pairs r.g.bars), (3, .ints r.ground)] (.agg [.int r.g.n, .row 0 0 r.g.bars.length, .row 1 0 r.ground.length]) := by
 unfold I_withoutBar at h
 refine pcall_intro (TT := TT) tt Try.func152 rfl rfl Try.ntmps152 (congrArg Array.toList Try.results152) rfl rfl fun w0 => ?_
 refine vSeq ?_
 refine vRegion ?_
 refine oBox rfl rfl rfl rfl rfl rfl rfl rfl rfl ?_
 refine oAlloc tt rfl rfl rfl rfl rfl rfl rfl rfl rfl ?_
 refine vNil ?_
 change VC _ _ _ _
 refine vSeq ?_
 refine vRegion ?_
 refine oVal tt rfl rfl rfl rfl rfl trivial ?_
 obtain ⟨v1, hc1, h⟩ := bind_inv h
 refine oCall (I_copyPinned_w N p_0 v1 hc1) rfl rfl rfl rfl rfl rfl rfl rfl ⟨⟨rfl, rfl, rfl, trivial⟩, trivial⟩ ?_
 refine oAlloc tt rfl rfl rfl rfl rfl rfl rfl rfl rfl ?_
 refine oStore tt rfl rfl rfl rfl rfl rfl rfl rfl rfl rfl rfl ⟨trivial, trivial, trivial, trivial⟩ ?_
 refine vNil ?_
 change VC _ _ _ _
 refine vSeq ?_
 refine vRegion ?_
 iterate 5 refine oVal tt rfl rfl rfl rfl rfl trivial ?_
 obtain ⟨hg2, h⟩ := grd_inv h
 refine oVal tt rfl rfl rfl rfl rfl hg2 ?_
 obtain ⟨v2, hc3, h⟩ := bind_inv h
 refine oMCall (G_Delete_Bar_w N v1.g.bars e_1 (e_1 + (1 : Int)) v2 hc3) [1070] [] [1070] rfl rfl rfl rfl rfl rfl ⟨rfl, trivial⟩ trivial ⟨⟨rfl, rfl⟩, ⟨rfl, rfl⟩, ⟨rfl, rfl⟩, trivial⟩ ?_
 iterate 2 refine oVal tt rfl rfl rfl rfl rfl trivial ?_
 refine oStore tt rfl rfl rfl rfl rfl rfl rfl rfl rfl rfl rfl ⟨trivial, trivial⟩ ?_
 refine vNil ?_
 change VC _ _ _ _
 refine vSeq ?_
 refine vRegion ?_
 refine oVal tt rfl rfl rfl rfl rfl trivial ?_
 refine oStore tt rfl rfl rfl rfl rfl rfl rfl rfl rfl rfl rfl ⟨trivial, trivial, trivial, trivial⟩ ?_
 refine vNil ?_
 change VC _ _ _ _
 refine vRet ?_
 change ∃ _, _
 cases h
 exact ⟨[1070, 1071], _, rfl, ⟨rfl, rfl, trivial⟩, rfl, (.eq rfl), rfl⟩
def I_SafeToRemove (N : Nat) (p_0 : Pin) (bar_1 : Int) : Option (Bool) :=
 (I_IsPinned N p_0).bind fun v1 =>
 cnd v1 (
  grd (Rg64 ((p_0.g.bars.length : Int) - (1 : Int))) <|
  (I_within N bar_1 (0 : Int) ((p_0.g.bars.length : Int) - (1 : Int))).bind fun v2 =>
  cnd v2 (
   (I_withoutBar N p_0 bar_1).bind fun v3 =>
   (I_PinnedRank N v3).bind fun v4 =>
   (I_PinnedRank N p_0).bind fun v5 =>
   some (v4 == v5)) (
   some false)) (
  some false)
set_option maxRecDepth 20000 in
set_option maxHeartbeats 1600000 in
theorem I_SafeToRemove_w (N : Nat) (p_0 : Pin) (bar_1 : Int) (r : Bool) (h : I_SafeToRemove N p_0 bar_1 = some r) : PCall Try.prog 106 [pD p_0, .int bar_1] [] (.bool r) := by
 unfold I_SafeToRemove at h
 refine pcall_intro (TT := TT) tt Try.func106 rfl rfl Try.ntmps106 (congrArg Array.toList Try.results106) rfl rfl fun w0 => ?_
 refine vSeq ?_
 refine vRegion ?_
 refine oBox rfl rfl rfl rfl rfl rfl rfl rfl rfl ?_
 refine oVal tt rfl rfl rfl rfl rfl trivial ?_
 refine vNil ?_
 change VC _ _ _ _
 refine vSeq ?_
 refine vRegionN 17 [14] [0, 1, 3, 7, 7, 23, 55, 119, 247, 511, 1023, 2047, 4095, 4095, 16383, 32767, 4095, 131071, 262143, 524287, 1048575] (by kernel_rfl) (by kernel_rfl) (by kernel_rfl) (by kernel_rfl) (by kernel_rfl) rfl (by rfl) ?_
 refine nVal tt rfl (wNone rfl) rfl rfl rfl rfl rfl trivial ?_
 obtain ⟨v1, hc1, h⟩ := bind_inv h
 refine nCall (I_IsPinned_w N p_0 v1 hc1) rfl (wNone rfl) rfl rfl rfl rfl rfl rfl rfl rfl ⟨⟨rfl, rfl, rfl, trivial⟩, trivial⟩ ?_
 refine nVal tt rfl (wNone rfl) rfl rfl rfl rfl rfl trivial ?_
 refine nSplit rfl rfl rfl (fun hb2 => ?_) (fun hb2 => ?_)
 ·replace h := cnd_t hb2 h
  iterate 5 refine nVal tt rfl (wSome rfl rfl rfl rfl hb2) rfl rfl rfl rfl rfl trivial ?_
  obtain ⟨hg3, h⟩ := grd_inv h
  refine nVal tt rfl (wSome rfl rfl rfl rfl hb2) rfl rfl rfl rfl rfl hg3 ?_
  obtain ⟨v2, hc4, h⟩ := bind_inv h
  refine nCall (I_within_w N bar_1 (0 : Int) ((p_0.g.bars.length : Int) - (1 : Int)) v2 hc4) rfl (wSome rfl rfl rfl rfl hb2) rfl rfl rfl rfl rfl rfl rfl rfl ⟨rfl, rfl, rfl, trivial⟩ ?_
  refine nPickT rfl (wNone rfl) rfl rfl rfl hb2 rfl rfl ?_
  refine nVal tt rfl (wNone rfl) rfl rfl rfl rfl rfl trivial ?_
  refine nSplit rfl rfl rfl (fun hb5 => ?_) (fun hb5 => ?_)
  ·replace h := cnd_t hb5 h
   iterate 2 refine nVal tt rfl (wSome rfl rfl rfl rfl hb5) rfl rfl rfl rfl rfl trivial ?_
   obtain ⟨v3, hc6, h⟩ := bind_inv h
   refine nCallR (I_withoutBar_w N p_0 bar_1 v3 hc6) rfl (wSome rfl rfl rfl rfl hb5) rfl rfl rfl rfl rfl rfl (by first | rfl | kernel_rfl | (simp [nrL, nm, gdst, nmT, rowB]; done)) rfl (by first | rfl | kernel_rfl | (simp [chkE, nrL, nm, gdst, nmT, rowB, hid, ment, mentA, mentS]; done) | (simp [chkE, nrL, nm, gdst, nmT, rowB, hid, ment, mentA, mentS]; decide)) ⟨⟨rfl, rfl, rfl, trivial⟩, rfl, trivial⟩ ?_
   obtain ⟨v4, hc7, h⟩ := bind_inv h
   refine nCall (I_PinnedRank_w N v3 v4 hc7) rfl (wSome rfl rfl rfl rfl hb5) rfl rfl rfl rfl rfl rfl rfl rfl ⟨⟨rfl, (.inl ⟨rfl, rfl⟩), (.inl ⟨rfl, rfl⟩), trivial⟩, trivial⟩ ?_
   refine nVal tt rfl (wSome rfl rfl rfl rfl hb5) rfl rfl rfl rfl rfl trivial ?_
   refine nNil ?_
   change VO _ _ _ _ _
   obtain ⟨v5, hc8, h⟩ := bind_inv h
   refine oCallG (I_PinnedRank_w N p_0 v5 hc8) rfl rfl rfl rfl hb5 rfl rfl rfl rfl rfl rfl rfl ⟨⟨rfl, rfl, rfl, trivial⟩, trivial⟩ ?_
   refine oValG tt rfl rfl rfl rfl rfl hb5 rfl rfl rfl trivial ?_
   refine oPick rfl rfl rfl rfl rfl hb5 rfl ?_
   refine oVal tt rfl rfl rfl rfl rfl trivial ?_
   refine vNil ?_
   change VC _ _ _ _
   refine vRet ?_
   change ∃ _, _
   cases h
   exact ⟨[], _, rfl, trivial, rfl, (.eq rfl), rfl⟩
  ·replace h := cnd_f hb5 h
   iterate 5 refine nNoT rfl rfl rfl rfl hb5 rfl rfl ?_
   refine nNil ?_
   change VO _ _ _ _ _
   iterate 2 refine oNoT rfl rfl rfl rfl hb5 rfl rfl ?_
   refine oPickF rfl rfl rfl rfl rfl hb5 rfl ?_
   refine oVal tt rfl rfl rfl rfl rfl trivial ?_
   refine vNil ?_
   change VC _ _ _ _
   refine vRet ?_
   change ∃ _, _
   cases h
   exact ⟨[], _, rfl, trivial, rfl, (.eq rfl), rfl⟩
 ·replace h := cnd_f hb2 h
  iterate 7 refine nNoT rfl rfl rfl rfl hb2 rfl rfl ?_
  refine nPickF rfl (wNone rfl) rfl rfl rfl hb2 rfl rfl ?_
  refine nVal tt rfl (wNone rfl) rfl rfl rfl rfl rfl trivial ?_
  iterate 5 refine nNoT rfl rfl rfl rfl rfl rfl rfl ?_
  refine nNil ?_
  change VO _ _ _ _ _
  iterate 2 refine oNoT rfl rfl rfl rfl rfl rfl rfl ?_
  refine oPickF rfl rfl rfl rfl rfl rfl rfl ?_
  refine oVal tt rfl rfl rfl rfl rfl trivial ?_
  refine vNil ?_
  change VC _ _ _ _
  refine vRet ?_
  change ∃ _, _
  cases h
  exact ⟨[], _, rfl, trivial, rfl, (.eq rfl), rfl⟩
end Go.Proofs.Ytcljhpldfanhkaa
namespace Go.Proofs.Ytcljhpldfanhkaa
open Go.RowKit
def I_SafeBars_l1 (N : Nat) (p_0 : Pin) (k : (List Int) → Option (List Int)) : Nat → ((List Int) × Int) → Option (List Int)
 | 0, _ => none
 | n + 1, (l11, x12) =>
  cnd (decide (x12 < (p_0.g.bars.length : Int))) (
   (I_SafeToRemove N p_0 x12).bind fun v14 =>
   cnd v14 (
    grd (l11.length + 1 ≤ 4294967296) <|
    grd (Rg64 (x12 + (1 : Int))) <|
    I_SafeBars_l1 N p_0 k n ((l11 ++ ([x12] : List Int)), (x12 + (1 : Int)))) (
    grd (Rg64 (x12 + (1 : Int))) <|
    I_SafeBars_l1 N p_0 k n (l11, (x12 + (1 : Int))))) (
   k l11)
def I_SafeBars (N : Nat) (p_0 : Pin) : Option (List Int) :=
 I_SafeBars_l1 N p_0 (fun (l7 : List Int) =>
    some l7) N (([] : List Int), (0 : Int))
set_option maxRecDepth 20000 in
set_option maxHeartbeats 1600000 in
theorem I_SafeBars_w (N : Nat) (p_0 : Pin) (r : List Int) (h : I_SafeBars N p_0 = some r) : PCall Try.prog 97 [pD p_0] [(3, .ints r)] (.row 0 0 r.length) := by
 unfold I_SafeBars at h
 refine pcall_intro (TT := TT) tt Try.func97 rfl rfl Try.ntmps97 (congrArg Array.toList Try.results97) rfl rfl fun w0 => ?_
 refine vSeq ?_
 refine vRegion ?_
 refine oBox rfl rfl rfl rfl rfl rfl rfl rfl rfl ?_
 refine oVal tt rfl rfl rfl rfl rfl trivial ?_
 refine vNil ?_
 change VC _ _ _ _
 refine vSeq ?_
 refine vRegion ?_
 refine oEmpty tt (wNone rfl) rfl rfl rfl rfl ?_
 refine oVal tt rfl rfl rfl rfl rfl trivial ?_
 refine vNil ?_
 change VC _ _ _ _
 iterate 2 refine vSeq ?_
 refine vRegion ?_
 iterate 5 refine oVal tt rfl rfl rfl rfl rfl trivial ?_
 refine vNil ?_
 change VC _ _ _ _
 refine vJoin (F := fun k => I_SafeBars_l1 N p_0 k) h (α := List Int) (J := fun (l7 : List Int) => (⟨[(3, .row 19 0 l7.length)], [(19, some (3, .ints l7))], []⟩ : PS)) ?_ ?_
 ·rintro l7 h
  show VC _ _ _ (⟨[(3, .row 19 0 l7.length)], [(19, some (3, .ints l7))], []⟩ : PS)
  refine vSeq ?_
  refine vRegion ?_
  iterate 2 refine oVal tt rfl rfl rfl rfl rfl trivial ?_
  refine vNil ?_
  change VC _ _ _ _
  refine vRet ?_
  change ∃ _, _
  cases h
  exact ⟨[19], _, rfl, ⟨rfl, trivial⟩, rfl, (.eq rfl), rfl⟩
 ·intro k h
  refine vBlock ?_
  refine vNilT 3 19 3 (.ints []) rfl rfl rfl rfl ?_
  refine vLoopS (α := (List Int) × Int) (fun | (l11, x12) => (⟨[(1, .ptr 1 0), (3, .row 19 0 l11.length), (9, .int (p_0.g.bars.length : Int)), (10, .int x12)], [(19, some (3, .ints l11))], [(1, some [.int p_0.g.n, .ro false (.pairs p_0.g.bars), .ro false (.ints p_0.ground)])]⟩ : PS)) (I_SafeBars_l1 N p_0 k) h (En.of ⟨rfl, rfl, rfl, rfl, trivial⟩ ⟨rfl, trivial⟩ ⟨rfl, trivial⟩) (fun _ => rfl) ?_
  rintro n ⟨l11, x12⟩ h
  rw [I_SafeBars_l1] at h
  show VC _ _ _ (⟨[(1, .ptr 1 0), (3, .row 19 0 l11.length), (9, .int (p_0.g.bars.length : Int)), (10, .int x12)], [(19, some (3, .ints l11))], [(1, some [.int p_0.g.n, .ro false (.pairs p_0.g.bars), .ro false (.ints p_0.ground)])]⟩ : PS)
  refine vSeq ?_
  refine vRegion ?_
  refine oVal tt rfl rfl rfl rfl rfl trivial ?_
  refine vNil ?_
  change VC _ _ _ _
  refine vSeq ?_
  refine vCond rfl (fun hb1 => ?_) (fun hb1 => ?_)
  ·replace h := cnd_t hb1 h
   refine vSkip ?_
   change VC _ _ _ _
   refine vSeq ?_
   refine vBlock ?_
   refine vSeq ?_
   refine vRegion ?_
   iterate 2 refine oVal tt rfl rfl rfl rfl rfl trivial ?_
   refine vNil ?_
   change VC _ _ _ _
   refine vSeq ?_
   refine vRegion ?_
   iterate 2 refine oVal tt rfl rfl rfl rfl rfl trivial ?_
   obtain ⟨v14, hc2, h⟩ := bind_inv h
   refine oCall (I_SafeToRemove_w N p_0 x12 v14 hc2) rfl rfl rfl rfl rfl rfl rfl rfl ⟨⟨rfl, rfl, rfl, trivial⟩, rfl, trivial⟩ ?_
   refine vNil ?_
   change VC _ _ _ _
   refine vCond rfl (fun hb3 => ?_) (fun hb3 => ?_)
   ·replace h := cnd_t hb3 h
    refine vRegion ?_
    iterate 2 refine oVal tt rfl rfl rfl rfl rfl trivial ?_
    refine oBuild tt rfl rfl rfl rfl rfl rfl rfl rfl rfl rfl rfl ?_
    obtain ⟨hg4, h⟩ := grd_inv h
    refine oAppend tt rfl rfl rfl rfl rfl rfl rfl rfl rfl rfl rfl rfl rfl rfl rfl rfl (Nat.le_of_eq (Nat.zero_add _)) hg4 ?_
    refine oVal tt rfl rfl rfl rfl rfl trivial ?_
    refine vNil ?_
    change VC _ _ _ _
    refine vRegion ?_
    obtain ⟨hg5, h⟩ := grd_inv h
    refine oVal tt rfl rfl rfl rfl rfl hg5 ?_
    refine oVal tt rfl rfl rfl rfl rfl trivial ?_
    refine vNil ?_
    change ∃ _, _
    exact ⟨((l11 ++ ([x12] : List Int)), (x12 + (1 : Int))), (En.of ⟨rfl, rfl, rfl, rfl, trivial⟩ ⟨rfl, trivial⟩ ⟨rfl, trivial⟩), h⟩
   ·replace h := cnd_f hb3 h
    refine vSkip ?_
    change VC _ _ _ _
    refine vRegion ?_
    obtain ⟨hg6, h⟩ := grd_inv h
    refine oVal tt rfl rfl rfl rfl rfl hg6 ?_
    refine oVal tt rfl rfl rfl rfl rfl trivial ?_
    refine vNil ?_
    change ∃ _, _
    exact ⟨(l11, (x12 + (1 : Int))), (En.of ⟨rfl, rfl, rfl, rfl, trivial⟩ ⟨rfl, trivial⟩ ⟨rfl, trivial⟩), h⟩
  ·replace h := cnd_f hb1 h
   refine vExit ?_
   change ∃ _, _
   exact ⟨l11, (En.of ⟨rfl, trivial⟩ ⟨rfl, trivial⟩ trivial), h⟩
end Go.Proofs.Ytcljhpldfanhkaa
namespace Go.Proofs.Ytcljhpldfanhkaa
open Go.RowKit
def I_FallsWith_l1 (N : Nat) (v4 : List Int) (v5 : List Int) (k : (List Int) → Option (List Int)) : Nat → ((List Int) × Int) → Option (List Int)
 | 0, _ => none
 | n + 1, (l16, x17) =>
  cnd (decide (x17 < (v5.length : Int))) (
   grd (0 ≤ x17 ∧ x17 < (v5.length : Int)) <|
   (G_Contains_int N v4 (v5.getD ((x17).toNat) 0)).bind fun v19 =>
   cnd (!v19) (
    grd (l16.length + 1 ≤ 4294967296) <|
    grd (Rg64 (x17 + (1 : Int))) <|
    I_FallsWith_l1 N v4 v5 k n ((l16 ++ ([(v5.getD ((x17).toNat) 0)] : List Int)), (x17 + (1 : Int)))) (
    grd (Rg64 (x17 + (1 : Int))) <|
    I_FallsWith_l1 N v4 v5 k n (l16, (x17 + (1 : Int))))) (
   k l16)
def I_FallsWith (N : Nat) (p_0 : Pin) (bar_1 : Int) : Option (List Int) :=
 (I_IsPinned N p_0).bind fun v1 =>
 cnd (!v1) (
  some ([] : List Int)) (
  grd (Rg64 ((p_0.g.bars.length : Int) - (1 : Int))) <|
  (I_within N bar_1 (0 : Int) ((p_0.g.bars.length : Int) - (1 : Int))).bind fun v2 =>
  cnd (!v2) (
   some ([] : List Int)) (
   (I_withoutBar N p_0 bar_1).bind fun v3 =>
   (I_SteadyPoints N v3).bind fun v4 =>
   (I_SteadyPoints N p_0).bind fun v5 =>
   I_FallsWith_l1 N v4 v5 (fun (l12 : List Int) =>
      some l12) N (([] : List Int), (0 : Int))))
set_option maxRecDepth 20000 in
set_option maxHeartbeats 1600000 in
theorem I_FallsWith_w (N : Nat) (p_0 : Pin) (bar_1 : Int) (r : List Int) (h : I_FallsWith N p_0 bar_1 = some r) : PCall Try.prog 78 [pD p_0, .int bar_1] [(3, .ints r)] (.row 0 0 r.length) := by
 unfold I_FallsWith at h
 refine pcall_intro (TT := TT) tt Try.func78 rfl rfl Try.ntmps78 (congrArg Array.toList Try.results78) rfl rfl fun w0 => ?_
 refine vSeq ?_
 refine vRegion ?_
 refine oBox rfl rfl rfl rfl rfl rfl rfl rfl rfl ?_
 refine oVal tt rfl rfl rfl rfl rfl trivial ?_
 refine vNil ?_
 change VC _ _ _ _
 refine vSeq ?_
 refine vRegion ?_
 refine oEmpty tt (wNone rfl) rfl rfl rfl rfl ?_
 refine oVal tt rfl rfl rfl rfl rfl trivial ?_
 refine vNil ?_
 change VC _ _ _ _
 iterate 2 refine vSeq ?_
 refine vRegion ?_
 refine oVal tt rfl rfl rfl rfl rfl trivial ?_
 obtain ⟨v1, hc1, h⟩ := bind_inv h
 refine oCall (I_IsPinned_w N p_0 v1 hc1) rfl rfl rfl rfl rfl rfl rfl rfl ⟨⟨rfl, rfl, rfl, trivial⟩, trivial⟩ ?_
 iterate 2 refine oVal tt rfl rfl rfl rfl rfl trivial ?_
 refine oSplit rfl rfl rfl (fun hb2 => ?_) (fun hb2 => ?_)
 ·replace h := cnd_t hb2 h
  iterate 8 refine oNoF rfl rfl rfl rfl hb2 rfl rfl ?_
  refine oPick rfl rfl rfl rfl rfl hb2 rfl ?_
  refine vNil ?_
  change VC _ _ _ _
  refine vCondT rfl rfl ?_
  refine vSeq ?_
  refine vRegion ?_
  iterate 2 refine oVal tt rfl rfl rfl rfl rfl trivial ?_
  refine vNil ?_
  change VC _ _ _ _
  refine vNilT 4 9001 3 (.ints []) rfl rfl rfl rfl ?_
  refine vRet ?_
  change ∃ _, _
  cases h
  exact ⟨[9001], _, rfl, ⟨rfl, trivial⟩, rfl, (.eq rfl), rfl⟩
 ·replace h := cnd_f hb2 h
  iterate 5 refine oValG tt rfl rfl rfl rfl rfl hb2 rfl rfl rfl trivial ?_
  obtain ⟨hg3, h⟩ := grd_inv h
  refine oValG tt rfl rfl rfl rfl rfl hb2 rfl rfl rfl hg3 ?_
  obtain ⟨v2, hc4, h⟩ := bind_inv h
  refine oCallG (I_within_w N bar_1 (0 : Int) ((p_0.g.bars.length : Int) - (1 : Int)) v2 hc4) rfl rfl rfl rfl hb2 rfl rfl rfl rfl rfl rfl rfl ⟨rfl, rfl, rfl, trivial⟩ ?_
  refine oValG tt rfl rfl rfl rfl rfl hb2 rfl rfl rfl trivial ?_
  refine oPickF rfl rfl rfl rfl rfl hb2 rfl ?_
  refine vNil ?_
  change VC _ _ _ _
  refine vCond rfl (fun hb5 => ?_) (fun hb5 => ?_)
  ·replace h := cnd_t hb5 h
   refine vSeq ?_
   refine vRegion ?_
   iterate 2 refine oVal tt rfl rfl rfl rfl rfl trivial ?_
   refine vNil ?_
   change VC _ _ _ _
   refine vNilT 4 9001 3 (.ints []) rfl rfl rfl rfl ?_
   refine vRet ?_
   change ∃ _, _
   cases h
   exact ⟨[9001], _, rfl, ⟨rfl, trivial⟩, rfl, (.eq rfl), rfl⟩
  ·replace h := cnd_f hb5 h
   refine vSkip ?_
   change VC _ _ _ _
   refine vSeq ?_
   refine vRegion ?_
   iterate 2 refine oVal tt rfl rfl rfl rfl rfl trivial ?_
   obtain ⟨v3, hc6, h⟩ := bind_inv h
   refine oCall (I_withoutBar_w N p_0 bar_1 v3 hc6) rfl rfl rfl rfl rfl rfl rfl rfl ⟨⟨rfl, rfl, rfl, trivial⟩, rfl, trivial⟩ ?_
   obtain ⟨v4, hc7, h⟩ := bind_inv h
   refine oCall (I_SteadyPoints_w N v3 v4 hc7) rfl rfl rfl rfl rfl rfl rfl rfl ⟨⟨rfl, (.inl ⟨rfl, rfl⟩), (.inl ⟨rfl, rfl⟩), trivial⟩, trivial⟩ ?_
   refine oVal tt rfl rfl rfl rfl rfl trivial ?_
   refine vNil ?_
   change VC _ _ _ _
   iterate 2 refine vSeq ?_
   refine vRegion ?_
   refine oVal tt rfl rfl rfl rfl rfl trivial ?_
   obtain ⟨v5, hc8, h⟩ := bind_inv h
   refine oCall (I_SteadyPoints_w N p_0 v5 hc8) rfl rfl rfl rfl rfl rfl rfl rfl ⟨⟨rfl, rfl, rfl, trivial⟩, trivial⟩ ?_
   iterate 2 refine oVal tt rfl rfl rfl rfl rfl trivial ?_
   refine vNil ?_
   change VC _ _ _ _
   refine vJoin (F := fun k => I_FallsWith_l1 N v4 v5 k) h (α := List Int) (J := fun (l12 : List Int) => (⟨[(5, .row 42 0 l12.length)], [(42, some (3, .ints l12))], []⟩ : PS)) ?_ ?_
   ·rintro l12 h
    show VC _ _ _ (⟨[(5, .row 42 0 l12.length)], [(42, some (3, .ints l12))], []⟩ : PS)
    refine vSeq ?_
    refine vRegion ?_
    iterate 2 refine oVal tt rfl rfl rfl rfl rfl trivial ?_
    refine vNil ?_
    change VC _ _ _ _
    refine vRet ?_
    change ∃ _, _
    cases h
    exact ⟨[42], _, rfl, ⟨rfl, trivial⟩, rfl, (.eq rfl), rfl⟩
   ·intro k h
    refine vBlock ?_
    refine vNilT 5 42 3 (.ints []) rfl rfl rfl rfl ?_
    refine vLoopS (α := (List Int) × Int) (fun | (l16, x17) => (⟨[(5, .row 42 0 l16.length), (6, .row 1270 0 v4.length), (29, .row 1290 0 v5.length), (30, .int (v5.length : Int)), (31, .int x17)], [(42, some (3, .ints l16)), (1270, some (3, .ints v4)), (1290, some (3, .ints v5))], []⟩ : PS)) (I_FallsWith_l1 N v4 v5 k) h (En.of ⟨rfl, rfl, rfl, rfl, rfl, trivial⟩ ⟨rfl, rfl, rfl, trivial⟩ trivial) (fun _ => rfl) ?_
    rintro n ⟨l16, x17⟩ h
    rw [I_FallsWith_l1] at h
    show VC _ _ _ (⟨[(5, .row 42 0 l16.length), (6, .row 1270 0 v4.length), (29, .row 1290 0 v5.length), (30, .int (v5.length : Int)), (31, .int x17)], [(42, some (3, .ints l16)), (1270, some (3, .ints v4)), (1290, some (3, .ints v5))], []⟩ : PS)
    refine vSeq ?_
    refine vRegion ?_
    refine oVal tt rfl rfl rfl rfl rfl trivial ?_
    refine vNil ?_
    change VC _ _ _ _
    refine vSeq ?_
    refine vCond rfl (fun hb9 => ?_) (fun hb9 => ?_)
    ·replace h := cnd_t hb9 h
     refine vSkip ?_
     change VC _ _ _ _
     refine vSeq ?_
     refine vBlock ?_
     refine vSeq ?_
     refine vRegion ?_
     obtain ⟨hg10, h⟩ := grd_inv h
     iterate 2 refine oVal tt rfl rfl rfl rfl rfl hg10 ?_
     refine oVal tt rfl rfl rfl rfl rfl trivial ?_
     refine vNil ?_
     change VC _ _ _ _
     refine vSeq ?_
     refine vRegion ?_
     iterate 2 refine oVal tt rfl rfl rfl rfl rfl trivial ?_
     obtain ⟨v19, hc11, h⟩ := bind_inv h
     refine oCall (G_Contains_int_w N v4 (v5.getD ((x17).toNat) 0) v19 hc11) rfl rfl rfl rfl rfl rfl rfl rfl ⟨(.inl ⟨rfl, rfl⟩), rfl, trivial⟩ ?_
     refine oVal tt rfl rfl rfl rfl rfl trivial ?_
     refine vNil ?_
     change VC _ _ _ _
     refine vCond rfl (fun hb12 => ?_) (fun hb12 => ?_)
     ·replace h := cnd_t hb12 h
      refine vRegion ?_
      iterate 2 refine oVal tt rfl rfl rfl rfl rfl trivial ?_
      refine oBuild tt rfl rfl rfl rfl rfl rfl rfl rfl rfl rfl rfl ?_
      obtain ⟨hg13, h⟩ := grd_inv h
      refine oAppend tt rfl rfl rfl rfl rfl rfl rfl rfl rfl rfl rfl rfl rfl rfl rfl rfl (Nat.le_of_eq (Nat.zero_add _)) hg13 ?_
      refine oVal tt rfl rfl rfl rfl rfl trivial ?_
      refine vNil ?_
      change VC _ _ _ _
      refine vRegion ?_
      obtain ⟨hg14, h⟩ := grd_inv h
      refine oVal tt rfl rfl rfl rfl rfl hg14 ?_
      refine oVal tt rfl rfl rfl rfl rfl trivial ?_
      refine vNil ?_
      change ∃ _, _
      exact ⟨((l16 ++ ([(v5.getD ((x17).toNat) 0)] : List Int)), (x17 + (1 : Int))), (En.of ⟨rfl, rfl, rfl, rfl, rfl, trivial⟩ ⟨rfl, rfl, rfl, trivial⟩ trivial), h⟩
     ·replace h := cnd_f hb12 h
      refine vSkip ?_
      change VC _ _ _ _
      refine vRegion ?_
      obtain ⟨hg15, h⟩ := grd_inv h
      refine oVal tt rfl rfl rfl rfl rfl hg15 ?_
      refine oVal tt rfl rfl rfl rfl rfl trivial ?_
      refine vNil ?_
      change ∃ _, _
      exact ⟨(l16, (x17 + (1 : Int))), (En.of ⟨rfl, rfl, rfl, rfl, rfl, trivial⟩ ⟨rfl, rfl, rfl, trivial⟩ trivial), h⟩
    ·replace h := cnd_f hb9 h
     refine vExit ?_
     change ∃ _, _
     exact ⟨l16, (En.of ⟨rfl, trivial⟩ ⟨rfl, trivial⟩ trivial), h⟩
def I_WorstBar_l1 (N : Nat) (p_0 : Pin) (k : (Int × Int) → Option (Int × Int)) : Nat → (Int × Int × Int) → Option (Int × Int)
 | 0, _ => none
 | n + 1, (worst11, most12, x13) =>
  cnd (decide (x13 < (p_0.g.bars.length : Int))) (
   (I_FallsWith N p_0 x13).bind fun v15 =>
   cnd (decide ((v15.length : Int) > most12)) (
    grd (Rg64 (x13 + (1 : Int))) <|
    I_WorstBar_l1 N p_0 k n (x13, (v15.length : Int), (x13 + (1 : Int)))) (
    grd (Rg64 (x13 + (1 : Int))) <|
    I_WorstBar_l1 N p_0 k n (worst11, most12, (x13 + (1 : Int))))) (
   k (worst11, most12))
def I_WorstBar (N : Nat) (p_0 : Pin) : Option (Int × Int) :=
 I_WorstBar_l1 N p_0 (fun (x : Int × Int) =>
   match x with
   | (worst7, most8) =>
    some (worst7, most8)) N ((-1 : Int), (0 : Int), (0 : Int))
set_option maxRecDepth 20000 in
set_option maxHeartbeats 1600000 in
theorem I_WorstBar_w (N : Nat) (p_0 : Pin) (r : Int × Int) (h : I_WorstBar N p_0 = some r) : PCall Try.prog 102 [pD p_0] [] (.tup [.int r.1, .int r.2]) := by
 unfold I_WorstBar at h
 refine pcall_intro (TT := TT) tt Try.func102 rfl rfl Try.ntmps102 (congrArg Array.toList Try.results102) rfl rfl fun w0 => ?_
 refine vSeq ?_
 refine vRegion ?_
 refine oBox rfl rfl rfl rfl rfl rfl rfl rfl rfl ?_
 iterate 2 refine oVal tt rfl rfl rfl rfl rfl trivial ?_
 refine vNil ?_
 change VC _ _ _ _
 refine vSeq ?_
 refine vRegion ?_
 iterate 2 refine oVal tt rfl rfl rfl rfl rfl trivial ?_
 refine vNil ?_
 change VC _ _ _ _
 iterate 2 refine vSeq ?_
 refine vRegion ?_
 iterate 5 refine oVal tt rfl rfl rfl rfl rfl trivial ?_
 refine vNil ?_
 change VC _ _ _ _
 refine vJoin (F := fun k => I_WorstBar_l1 N p_0 k) h (α := Int × Int) (J := fun | (worst7, most8) => (⟨[(4, .int worst7), (5, .int most8)], [], []⟩ : PS)) ?_ ?_
 ·rintro ⟨worst7, most8⟩ h
  show VC _ _ _ (⟨[(4, .int worst7), (5, .int most8)], [], []⟩ : PS)
  refine vSeq ?_
  refine vRegion ?_
  iterate 4 refine oVal tt rfl rfl rfl rfl rfl trivial ?_
  refine vNil ?_
  change VC _ _ _ _
  refine vRet ?_
  change ∃ _, _
  cases h
  exact ⟨[], _, rfl, trivial, rfl, (.eq rfl), rfl⟩
 ·intro k h
  refine vBlock ?_
  refine vLoopS (α := Int × Int × Int) (fun | (worst11, most12, x13) => (⟨[(1, .ptr 1 0), (4, .int worst11), (5, .int most12), (11, .int (p_0.g.bars.length : Int)), (12, .int x13)], [], [(1, some [.int p_0.g.n, .ro false (.pairs p_0.g.bars), .ro false (.ints p_0.ground)])]⟩ : PS)) (I_WorstBar_l1 N p_0 k) h (En.of ⟨rfl, rfl, rfl, rfl, rfl, trivial⟩ trivial ⟨rfl, trivial⟩) (fun _ => rfl) ?_
  rintro n ⟨worst11, most12, x13⟩ h
  rw [I_WorstBar_l1] at h
  show VC _ _ _ (⟨[(1, .ptr 1 0), (4, .int worst11), (5, .int most12), (11, .int (p_0.g.bars.length : Int)), (12, .int x13)], [], [(1, some [.int p_0.g.n, .ro false (.pairs p_0.g.bars), .ro false (.ints p_0.ground)])]⟩ : PS)
  refine vSeq ?_
  refine vRegion ?_
  refine oVal tt rfl rfl rfl rfl rfl trivial ?_
  refine vNil ?_
  change VC _ _ _ _
  refine vSeq ?_
  refine vCond rfl (fun hb1 => ?_) (fun hb1 => ?_)
  ·replace h := cnd_t hb1 h
   refine vSkip ?_
   change VC _ _ _ _
   refine vSeq ?_
   refine vBlock ?_
   refine vSeq ?_
   refine vRegion ?_
   iterate 2 refine oVal tt rfl rfl rfl rfl rfl trivial ?_
   refine vNil ?_
   change VC _ _ _ _
   refine vSeq ?_
   refine vRegion ?_
   iterate 2 refine oVal tt rfl rfl rfl rfl rfl trivial ?_
   obtain ⟨v15, hc2, h⟩ := bind_inv h
   refine oCall (I_FallsWith_w N p_0 x13 v15 hc2) rfl rfl rfl rfl rfl rfl rfl rfl ⟨⟨rfl, rfl, rfl, trivial⟩, rfl, trivial⟩ ?_
   iterate 2 refine oVal tt rfl rfl rfl rfl rfl trivial ?_
   refine vNil ?_
   change VC _ _ _ _
   refine vSeq ?_
   refine vRegion ?_
   iterate 3 refine oVal tt rfl rfl rfl rfl rfl trivial ?_
   refine vNil ?_
   change VC _ _ _ _
   refine vCond rfl (fun hb3 => ?_) (fun hb3 => ?_)
   ·replace h := cnd_t hb3 h
    refine vRegion ?_
    iterate 4 refine oVal tt rfl rfl rfl rfl rfl trivial ?_
    refine vNil ?_
    change VC _ _ _ _
    refine vRegion ?_
    obtain ⟨hg4, h⟩ := grd_inv h
    refine oVal tt rfl rfl rfl rfl rfl hg4 ?_
    refine oVal tt rfl rfl rfl rfl rfl trivial ?_
    refine vNil ?_
    change ∃ _, _
    exact ⟨(x13, (v15.length : Int), (x13 + (1 : Int))), (En.of ⟨rfl, rfl, rfl, rfl, rfl, trivial⟩ trivial ⟨rfl, trivial⟩), h⟩
   ·replace h := cnd_f hb3 h
    refine vSkip ?_
    change VC _ _ _ _
    refine vRegion ?_
    obtain ⟨hg5, h⟩ := grd_inv h
    refine oVal tt rfl rfl rfl rfl rfl hg5 ?_
    refine oVal tt rfl rfl rfl rfl rfl trivial ?_
    refine vNil ?_
    change ∃ _, _
    exact ⟨(worst11, most12, (x13 + (1 : Int))), (En.of ⟨rfl, rfl, rfl, rfl, rfl, trivial⟩ trivial ⟨rfl, trivial⟩), h⟩
  ·replace h := cnd_f hb1 h
   refine vExit ?_
   change ∃ _, _
   exact ⟨(worst11, most12), (En.of ⟨rfl, rfl, trivial⟩ trivial trivial), h⟩
end Go.Proofs.Ytcljhpldfanhkaa
namespace Go.Proofs.Ytcljhpldfanhkaa
open Go.RowKit
def I_RemoveAll_l1 (N : Nat) (k : ((List Int) × (List (Int × Int)) × (List Int) × Int) → Option ((List Int) × Pin)) : Nat → ((List Int) × (List (Int × Int)) × (List Int) × Int × Int) → Option ((List Int) × Pin)
 | 0, _ => none
 | n + 1, (l28, l29, l30, e31, c32) =>
  cnd (decide (e31 ≥ (0 : Int))) (
   (I_SafeToRemove N (⟨⟨c32, l29⟩, l30⟩ : Pin) e31).bind fun v35 =>
   cnd v35 (
    (I_withoutBar N (⟨⟨c32, l29⟩, l30⟩ : Pin) e31).bind fun v36 =>
    grd (l28.length + 1 ≤ 4294967296) <|
    grd (Rg64 (e31 - (1 : Int))) <|
    I_RemoveAll_l1 N k n ((l28 ++ ([e31] : List Int)), v36.g.bars, v36.ground, (e31 - (1 : Int)), v36.g.n)) (
    grd (Rg64 (e31 - (1 : Int))) <|
    I_RemoveAll_l1 N k n (l28, l29, l30, (e31 - (1 : Int)), c32))) (
   k (l28, l29, l30, c32))
def I_RemoveAll (N : Nat) (p_0 : Pin) : Option ((List Int) × Pin) :=
 (I_copyPinned N p_0).bind fun v1 =>
 grd (Rg64 ((p_0.g.bars.length : Int) - (1 : Int))) <|
 I_RemoveAll_l1 N (fun (x : (List Int) × (List (Int × Int)) × (List Int) × Int) =>
   match x with
   | (l17, l18, l19, c20) =>
    some (l17, (⟨⟨c20, l18⟩, l19⟩ : Pin))) N (([] : List Int), v1.g.bars, v1.ground, ((p_0.g.bars.length : Int) - (1 : Int)), v1.g.n)
set_option maxRecDepth 20000 in
set_option maxHeartbeats 1600000 in
theorem I_RemoveAll_w (N : Nat) (p_0 : Pin) (r : (List Int) × Pin) (h : I_RemoveAll N p_0 = some r) : PCall Try.prog 95 [pD p_0] [(3, .ints r.1), (111, .pairs r.2.g.bars), (3, .ints r.2.ground)] (.tup [.row 0 0 r.1.length, .agg [.int r.2.g.n, .row 1 0 r.2.g.bars.length, .row 2 0 r.2.ground.length]]) := by
 unfold I_RemoveAll at h
 refine pcall_intro (TT := TT) tt Try.func95 rfl rfl Try.ntmps95 (congrArg Array.toList Try.results95) rfl rfl fun w0 => ?_
 refine vSeq ?_
 refine vRegion ?_
 refine oBox rfl rfl rfl rfl rfl rfl rfl rfl rfl ?_
 refine oVal tt rfl rfl rfl rfl rfl trivial ?_
 refine oAlloc tt rfl rfl rfl rfl rfl rfl rfl rfl rfl ?_
 refine vNil ?_
 change VC _ _ _ _
 refine vSeq ?_
 refine vRegion ?_
 refine oEmpty tt (wNone rfl) rfl rfl rfl rfl ?_
 refine oVal tt rfl rfl rfl rfl rfl trivial ?_
 refine vNil ?_
 change VC _ _ _ _
 refine vSeq ?_
 refine vRegion ?_
 refine oVal tt rfl rfl rfl rfl rfl trivial ?_
 obtain ⟨v1, hc1, h⟩ := bind_inv h
 refine oCall (I_copyPinned_w N p_0 v1 hc1) rfl rfl rfl rfl rfl rfl rfl rfl ⟨⟨rfl, rfl, rfl, trivial⟩, trivial⟩ ?_
 refine oAlloc tt rfl rfl rfl rfl rfl rfl rfl rfl rfl ?_
 refine oStore tt rfl rfl rfl rfl rfl rfl rfl rfl rfl rfl rfl ⟨trivial, trivial, trivial, trivial⟩ ?_
 refine vNil ?_
 change VC _ _ _ _
 iterate 2 refine vSeq ?_
 refine vRegion ?_
 iterate 4 refine oVal tt rfl rfl rfl rfl rfl trivial ?_
 obtain ⟨hg2, h⟩ := grd_inv h
 refine oVal tt rfl rfl rfl rfl rfl hg2 ?_
 refine oVal tt rfl rfl rfl rfl rfl trivial ?_
 refine vNil ?_
 change VC _ _ _ _
 refine vJoin (F := fun k => I_RemoveAll_l1 N k) h (α := (List Int) × (List (Int × Int)) × (List Int) × Int) (J := fun | (l17, l18, l19, c20) => (⟨[(3, .ptr 3 0), (4, .row 28 0 l17.length), (5, .ptr 5 0)], [(28, some (3, .ints l17)), (1090, some (111, .pairs l18)), (1091, some (3, .ints l19))], [(3, some [.int (0 : Int), .nil, .nil]), (5, some [.int c20, .row 1090 0 l18.length, .row 1091 0 l19.length])]⟩ : PS)) ?_ ?_
 ·rintro ⟨l17, l18, l19, c20⟩ h
  show VC _ _ _ (⟨[(3, .ptr 3 0), (4, .row 28 0 l17.length), (5, .ptr 5 0)], [(28, some (3, .ints l17)), (1090, some (111, .pairs l18)), (1091, some (3, .ints l19))], [(3, some [.int (0 : Int), .nil, .nil]), (5, some [.int c20, .row 1090 0 l18.length, .row 1091 0 l19.length])]⟩ : PS)
  refine vSeq ?_
  refine vRegionN 3 [] [0, 0, 1, 7] (by kernel_rfl) (by kernel_rfl) (by kernel_rfl) (by kernel_rfl) (by kernel_rfl) rfl (by rfl) ?_
  iterate 3 refine nVal tt rfl (wNone rfl) rfl rfl rfl rfl rfl trivial ?_
  refine nNil ?_
  change VO _ _ _ _ _
  refine oStore tt rfl rfl rfl rfl rfl rfl rfl rfl rfl rfl rfl ⟨trivial, trivial, trivial, trivial⟩ ?_
  refine vNil ?_
  change VC _ _ _ _
  refine vRet ?_
  change ∃ _, _
  cases h
  exact ⟨[28, 1090, 1091], _, rfl, ⟨rfl, rfl, rfl, trivial⟩, rfl, (.eq rfl), rfl⟩
 ·intro k h
  refine vBlock ?_
  refine vNilT 4 28 3 (.ints []) rfl rfl rfl rfl ?_
  refine vLoopS (α := (List Int) × (List (Int × Int)) × (List Int) × Int × Int) (fun | (l28, l29, l30, e31, c32) => (⟨[(3, .ptr 3 0), (4, .row 28 0 l28.length), (5, .ptr 5 0), (6, .int e31)], [(28, some (3, .ints l28)), (1090, some (111, .pairs l29)), (1091, some (3, .ints l30))], [(3, some [.int (0 : Int), .nil, .nil]), (5, some [.int c32, .row 1090 0 l29.length, .row 1091 0 l30.length])]⟩ : PS)) (I_RemoveAll_l1 N k) h (En.of ⟨rfl, rfl, rfl, rfl, trivial⟩ ⟨rfl, rfl, rfl, trivial⟩ ⟨rfl, rfl, trivial⟩) (fun _ => rfl) ?_
  rintro n ⟨l28, l29, l30, e31, c32⟩ h
  rw [I_RemoveAll_l1] at h
  show VC _ _ _ (⟨[(3, .ptr 3 0), (4, .row 28 0 l28.length), (5, .ptr 5 0), (6, .int e31)], [(28, some (3, .ints l28)), (1090, some (111, .pairs l29)), (1091, some (3, .ints l30))], [(3, some [.int (0 : Int), .nil, .nil]), (5, some [.int c32, .row 1090 0 l29.length, .row 1091 0 l30.length])]⟩ : PS)
  iterate 2 refine vSeq ?_
  refine vRegion ?_
  iterate 2 refine oVal tt rfl rfl rfl rfl rfl trivial ?_
  refine vNil ?_
  change VC _ _ _ _
  refine vCond rfl (fun hb3 => ?_) (fun hb3 => ?_)
  ·replace h := cnd_t hb3 h
   refine vSkip ?_
   change VC _ _ _ _
   refine vSeq ?_
   refine vBlock ?_
   refine vSeq ?_
   refine vRegion ?_
   iterate 2 refine oVal tt rfl rfl rfl rfl rfl trivial ?_
   obtain ⟨v35, hc4, h⟩ := bind_inv h
   refine oCall (I_SafeToRemove_w N (⟨⟨c32, l29⟩, l30⟩ : Pin) e31 v35 hc4) rfl rfl rfl rfl rfl rfl rfl rfl ⟨⟨rfl, (.inl ⟨rfl, rfl⟩), (.inl ⟨rfl, rfl⟩), trivial⟩, rfl, trivial⟩ ?_
   refine vNil ?_
   change VC _ _ _ _
   refine vCond rfl (fun hb5 => ?_) (fun hb5 => ?_)
   ·replace h := cnd_t hb5 h
    refine vSeq ?_
    refine vRegion ?_
    iterate 2 refine oVal tt rfl rfl rfl rfl rfl trivial ?_
    obtain ⟨v36, hc6, h⟩ := bind_inv h
    refine oCall (I_withoutBar_w N (⟨⟨c32, l29⟩, l30⟩ : Pin) e31 v36 hc6) rfl rfl rfl rfl rfl rfl rfl rfl ⟨⟨rfl, (.inl ⟨rfl, rfl⟩), (.inl ⟨rfl, rfl⟩), trivial⟩, rfl, trivial⟩ ?_
    refine oStore tt rfl rfl rfl rfl rfl rfl rfl rfl rfl rfl rfl ⟨trivial, trivial, trivial, trivial⟩ ?_
    refine vNil ?_
    change VC _ _ _ _
    refine vRegion ?_
    iterate 2 refine oVal tt rfl rfl rfl rfl rfl trivial ?_
    refine oBuild tt rfl rfl rfl rfl rfl rfl rfl rfl rfl rfl rfl ?_
    obtain ⟨hg7, h⟩ := grd_inv h
    refine oAppend tt rfl rfl rfl rfl rfl rfl rfl rfl rfl rfl rfl rfl rfl rfl rfl rfl (Nat.le_of_eq (Nat.zero_add _)) hg7 ?_
    refine oVal tt rfl rfl rfl rfl rfl trivial ?_
    refine vNil ?_
    change VC _ _ _ _
    refine vRegion ?_
    refine oVal tt rfl rfl rfl rfl rfl trivial ?_
    obtain ⟨hg8, h⟩ := grd_inv h
    refine oVal tt rfl rfl rfl rfl rfl hg8 ?_
    refine oVal tt rfl rfl rfl rfl rfl trivial ?_
    refine vNil ?_
    change ∃ _, _
    exact ⟨((l28 ++ ([e31] : List Int)), v36.g.bars, v36.ground, (e31 - (1 : Int)), v36.g.n), (En.ren [1090, 1091] [1240, 1241] rfl ⟨.inr rfl, .inr rfl, .inr rfl, .inr rfl, trivial⟩ ⟨.inr rfl, .inr rfl, .inr rfl, trivial⟩ ⟨.inr ⟨_, _, rfl, rfl, ⟨.inr rfl, .inr rfl, .inr rfl, trivial⟩⟩, .inr ⟨_, _, rfl, rfl, ⟨.inr rfl, .inr rfl, .inr rfl, trivial⟩⟩, trivial⟩), h⟩
   ·replace h := cnd_f hb5 h
    refine vSkip ?_
    change VC _ _ _ _
    refine vRegion ?_
    refine oVal tt rfl rfl rfl rfl rfl trivial ?_
    obtain ⟨hg9, h⟩ := grd_inv h
    refine oVal tt rfl rfl rfl rfl rfl hg9 ?_
    refine oVal tt rfl rfl rfl rfl rfl trivial ?_
    refine vNil ?_
    change ∃ _, _
    exact ⟨(l28, l29, l30, (e31 - (1 : Int)), c32), (En.of ⟨rfl, rfl, rfl, rfl, trivial⟩ ⟨rfl, rfl, rfl, trivial⟩ ⟨rfl, rfl, trivial⟩), h⟩
  ·replace h := cnd_f hb3 h
   refine vExit ?_
   change ∃ _, _
   exact ⟨(l28, l29, l30, c32), (En.of ⟨rfl, rfl, rfl, trivial⟩ ⟨rfl, rfl, rfl, trivial⟩ ⟨rfl, rfl, trivial⟩), h⟩
def I_LeastKept_l1 (N : Nat) (p_0 : Pin) (v2 : (List Int) × Pin) (k : (List Int) → Option (List Int)) : Nat → ((List Int) × Int) → Option (List Int)
 | 0, _ => none
 | n + 1, (l13, x14) =>
  cnd (decide (x14 < (p_0.g.bars.length : Int))) (
   (G_Contains_int N v2.1 x14).bind fun v16 =>
   cnd (!v16) (
    grd (l13.length + 1 ≤ 4294967296) <|
    grd (Rg64 (x14 + (1 : Int))) <|
    I_LeastKept_l1 N p_0 v2 k n ((l13 ++ ([x14] : List Int)), (x14 + (1 : Int)))) (
    grd (Rg64 (x14 + (1 : Int))) <|
    I_LeastKept_l1 N p_0 v2 k n (l13, (x14 + (1 : Int))))) (
   k l13)
def I_LeastKept (N : Nat) (p_0 : Pin) : Option (List Int) :=
 (I_IsPinned N p_0).bind fun v1 =>
 cnd (!v1) (
  some ([] : List Int)) (
  (I_RemoveAll N p_0).bind fun v2 =>
  I_LeastKept_l1 N p_0 v2 (fun (l9 : List Int) =>
     some l9) N (([] : List Int), (0 : Int)))
set_option maxRecDepth 20000 in
set_option maxHeartbeats 1600000 in
theorem I_LeastKept_w (N : Nat) (p_0 : Pin) (r : List Int) (h : I_LeastKept N p_0 = some r) : PCall Try.prog 100 [pD p_0] [(3, .ints r)] (.row 0 0 r.length) := by
 unfold I_LeastKept at h
 refine pcall_intro (TT := TT) tt Try.func100 rfl rfl Try.ntmps100 (congrArg Array.toList Try.results100) rfl rfl fun w0 => ?_
 refine vSeq ?_
 refine vRegion ?_
 refine oBox rfl rfl rfl rfl rfl rfl rfl rfl rfl ?_
 refine oVal tt rfl rfl rfl rfl rfl trivial ?_
 refine vNil ?_
 change VC _ _ _ _
 refine vSeq ?_
 refine vRegion ?_
 refine oEmpty tt (wNone rfl) rfl rfl rfl rfl ?_
 refine oVal tt rfl rfl rfl rfl rfl trivial ?_
 refine vNil ?_
 change VC _ _ _ _
 iterate 2 refine vSeq ?_
 refine vRegion ?_
 refine oVal tt rfl rfl rfl rfl rfl trivial ?_
 obtain ⟨v1, hc1, h⟩ := bind_inv h
 refine oCall (I_IsPinned_w N p_0 v1 hc1) rfl rfl rfl rfl rfl rfl rfl rfl ⟨⟨rfl, rfl, rfl, trivial⟩, trivial⟩ ?_
 refine oVal tt rfl rfl rfl rfl rfl trivial ?_
 refine vNil ?_
 change VC _ _ _ _
 refine vCond rfl (fun hb2 => ?_) (fun hb2 => ?_)
 ·replace h := cnd_t hb2 h
  refine vSeq ?_
  refine vRegion ?_
  iterate 2 refine oVal tt rfl rfl rfl rfl rfl trivial ?_
  refine vNil ?_
  change VC _ _ _ _
  refine vNilT 2 9001 3 (.ints []) rfl rfl rfl rfl ?_
  refine vRet ?_
  change ∃ _, _
  cases h
  exact ⟨[9001], _, rfl, ⟨rfl, trivial⟩, rfl, (.eq rfl), rfl⟩
 ·replace h := cnd_f hb2 h
  refine vSkip ?_
  change VC _ _ _ _
  refine vSeq ?_
  refine vRegion ?_
  refine oVal tt rfl rfl rfl rfl rfl trivial ?_
  obtain ⟨v2, hc3, h⟩ := bind_inv h
  refine oCall (I_RemoveAll_w N p_0 v2 hc3) rfl rfl rfl rfl rfl rfl rfl rfl ⟨⟨rfl, rfl, rfl, trivial⟩, trivial⟩ ?_
  iterate 3 refine oVal tt rfl rfl rfl rfl rfl trivial ?_
  refine oAlloc tt rfl rfl rfl rfl rfl rfl rfl rfl rfl ?_
  refine oVal tt rfl rfl rfl rfl rfl trivial ?_
  refine oStore tt rfl rfl rfl rfl rfl rfl rfl rfl rfl rfl rfl ⟨trivial, trivial, trivial, trivial⟩ ?_
  refine vNil ?_
  change VC _ _ _ _
  iterate 2 refine vSeq ?_
  refine vRegion ?_
  iterate 5 refine oVal tt rfl rfl rfl rfl rfl trivial ?_
  refine vNil ?_
  change VC _ _ _ _
  refine vJoin (F := fun k => I_LeastKept_l1 N p_0 v2 k) h (α := List Int) (J := fun (l9 : List Int) => (⟨[(3, .row 31 0 l9.length)], [(31, some (3, .ints l9))], []⟩ : PS)) ?_ ?_
  ·rintro l9 h
   show VC _ _ _ (⟨[(3, .row 31 0 l9.length)], [(31, some (3, .ints l9))], []⟩ : PS)
   refine vSeq ?_
   refine vRegion ?_
   iterate 2 refine oVal tt rfl rfl rfl rfl rfl trivial ?_
   refine vNil ?_
   change VC _ _ _ _
   refine vRet ?_
   change ∃ _, _
   cases h
   exact ⟨[31], _, rfl, ⟨rfl, trivial⟩, rfl, (.eq rfl), rfl⟩
  ·intro k h
   refine vBlock ?_
   refine vNilT 3 31 3 (.ints []) rfl rfl rfl rfl ?_
   refine vLoopS (α := (List Int) × Int) (fun | (l13, x14) => (⟨[(3, .row 31 0 l13.length), (4, .row 1140 0 v2.1.length), (20, .int (p_0.g.bars.length : Int)), (21, .int x14)], [(31, some (3, .ints l13)), (1140, some (3, .ints v2.1))], []⟩ : PS)) (I_LeastKept_l1 N p_0 v2 k) h (En.of ⟨rfl, rfl, rfl, rfl, trivial⟩ ⟨rfl, rfl, trivial⟩ trivial) (fun _ => rfl) ?_
   rintro n ⟨l13, x14⟩ h
   rw [I_LeastKept_l1] at h
   show VC _ _ _ (⟨[(3, .row 31 0 l13.length), (4, .row 1140 0 v2.1.length), (20, .int (p_0.g.bars.length : Int)), (21, .int x14)], [(31, some (3, .ints l13)), (1140, some (3, .ints v2.1))], []⟩ : PS)
   refine vSeq ?_
   refine vRegion ?_
   refine oVal tt rfl rfl rfl rfl rfl trivial ?_
   refine vNil ?_
   change VC _ _ _ _
   refine vSeq ?_
   refine vCond rfl (fun hb4 => ?_) (fun hb4 => ?_)
   ·replace h := cnd_t hb4 h
    refine vSkip ?_
    change VC _ _ _ _
    refine vSeq ?_
    refine vBlock ?_
    refine vSeq ?_
    refine vRegion ?_
    iterate 2 refine oVal tt rfl rfl rfl rfl rfl trivial ?_
    refine vNil ?_
    change VC _ _ _ _
    refine vSeq ?_
    refine vRegion ?_
    iterate 2 refine oVal tt rfl rfl rfl rfl rfl trivial ?_
    obtain ⟨v16, hc5, h⟩ := bind_inv h
    refine oCall (G_Contains_int_w N v2.1 x14 v16 hc5) rfl rfl rfl rfl rfl rfl rfl rfl ⟨(.inl ⟨rfl, rfl⟩), rfl, trivial⟩ ?_
    refine oVal tt rfl rfl rfl rfl rfl trivial ?_
    refine vNil ?_
    change VC _ _ _ _
    refine vCond rfl (fun hb6 => ?_) (fun hb6 => ?_)
    ·replace h := cnd_t hb6 h
     refine vRegion ?_
     iterate 2 refine oVal tt rfl rfl rfl rfl rfl trivial ?_
     refine oBuild tt rfl rfl rfl rfl rfl rfl rfl rfl rfl rfl rfl ?_
     obtain ⟨hg7, h⟩ := grd_inv h
     refine oAppend tt rfl rfl rfl rfl rfl rfl rfl rfl rfl rfl rfl rfl rfl rfl rfl rfl (Nat.le_of_eq (Nat.zero_add _)) hg7 ?_
     refine oVal tt rfl rfl rfl rfl rfl trivial ?_
     refine vNil ?_
     change VC _ _ _ _
     refine vRegion ?_
     obtain ⟨hg8, h⟩ := grd_inv h
     refine oVal tt rfl rfl rfl rfl rfl hg8 ?_
     refine oVal tt rfl rfl rfl rfl rfl trivial ?_
     refine vNil ?_
     change ∃ _, _
     exact ⟨((l13 ++ ([x14] : List Int)), (x14 + (1 : Int))), (En.of ⟨rfl, rfl, rfl, rfl, trivial⟩ ⟨rfl, rfl, trivial⟩ trivial), h⟩
    ·replace h := cnd_f hb6 h
     refine vSkip ?_
     change VC _ _ _ _
     refine vRegion ?_
     obtain ⟨hg9, h⟩ := grd_inv h
     refine oVal tt rfl rfl rfl rfl rfl hg9 ?_
     refine oVal tt rfl rfl rfl rfl rfl trivial ?_
     refine vNil ?_
     change ∃ _, _
     exact ⟨(l13, (x14 + (1 : Int))), (En.of ⟨rfl, rfl, rfl, rfl, trivial⟩ ⟨rfl, rfl, trivial⟩ trivial), h⟩
   ·replace h := cnd_f hb4 h
    refine vExit ?_
    change ∃ _, _
    exact ⟨l13, (En.of ⟨rfl, trivial⟩ ⟨rfl, trivial⟩ trivial), h⟩
end Go.Proofs.Ytcljhpldfanhkaa
namespace Go.Proofs.Ytcljhpldfanhkaa
variable {N : Nat}
def lessL {α : Type} (l : List α) (k : Nat) : List α := l.take k ++ l.drop (k + 1)
theorem lessL_len {α : Type} {l : List α} {k : Nat} (h : k < l.length) : (lessL l k).length + 1 = l.length := by
 simp only [lessL, List.length_append, List.length_take, List.length_drop]; omega
def lessP (p : Pin) (k : Nat) : Pin := ⟨⟨p.g.n, lessL p.g.bars k⟩, p.ground⟩
theorem delete_s {l : List (Int × Int)} (hl : l.length ≤ 3000000) {k : Nat} (hk : k < l.length) : G_Delete_Bar N l k ((k : Int) + 1) = some (lessL l k) := by
 unfold G_Delete_Bar
 have e1 : ((k : Int) + 1).toNat = k + 1 := by omega
 have e2 : ((k : Int)).toNat = k := by omega
 have e3 : ((k : Int) == (k : Int) + 1) = false := by simp; omega
 have e4 : (l.take (0 + (k + 1) + (l.length - (k + 1)))).drop (0 + (k + 1)) = l.drop (k + 1) := by
  rw [List.take_of_length_le (by omega), Nat.zero_add]
 have e5 : (l.drop (k + 1)).length = l.length - (k + 1) := List.length_drop
 have e6 : (l.take k).length = k := by rw [List.length_take]; omega
 simp only [e1, e2, e3, cnd_false]
 rw [e4]
 have hN : (((k : Int) + ((l.drop (k + 1)).length : Int))).toNat = k + (l.drop (k + 1)).length := by omega
 have hN2 : ((l.length : Int)).toNat = l.length := by omega
 simp only [hN, hN2]
 have key : (((l.take k ++ l.drop (k + 1)) ++ l.drop (k + (l.drop (k + 1)).length)).take (k + (l.drop (k + 1)).length)) = l.take k ++ l.drop (k + 1) := by
  rw [List.take_append_of_le_length (by rw [List.length_append, e6]; omega), List.take_of_length_le (by rw [List.length_append, e6]; omega)]
 rw [key]
 have key2 : ∀ X : List (Int × Int), ((l.take k ++ l.drop (k + 1)) ++ X).take (k + (l.drop (k + 1)).length) = l.take k ++ l.drop (k + 1) := fun X => by
  rw [List.take_append_of_le_length (by rw [List.length_append, e6]; omega), List.take_of_length_le (by rw [List.length_append, e6]; omega)]
 simp only [List.append_assoc] at key2 ⊢
 simp only [key2]
 rw [grd_pos (by omega), grd_pos (by omega), grd_pos (by omega), grd_pos (by omega), grd_pos (by omega), grd_pos, grd_pos, grd_pos]
 ·rfl
 ·rw [List.length_append, e6]
 ·simp only [List.length_append, List.length_take, List.length_drop]; omega
 ·simp only [List.length_append, List.length_take, List.length_drop]; omega
theorem l2Copy_s {g : Grf} (h : g.bars.length ≤ 3000000) : S_l2Copy N g = some g := by
 unfold S_l2Copy
 rw [grd_pos (by omega)]; rfl
theorem copyGraph_s {g : Grf} (h : g.bars.length ≤ 3000000) : I_copyGraph N g = some g := by
 unfold I_copyGraph
 rw [grd_pos (by omega)]; rfl
theorem copyInts_s {l : List Int} (h : l.length ≤ 3000000) : I_copyInts N l = some l := by
 unfold I_copyInts
 rw [grd_pos (by omega)]; rfl
theorem copyPinned_s {p : Pin} (h : p.g.bars.length ≤ 3000000) (h2 : p.ground.length ≤ 3000000) : I_copyPinned N p = some p := by
 unfold I_copyPinned
 rw [copyGraph_s h, Option.bind_some, copyInts_s h2]; rfl
theorem withoutBar_s {p : Pin} (h : p.g.bars.length ≤ 3000000) (h2 : p.ground.length ≤ 3000000) {k : Nat} (hk : k < p.g.bars.length) : I_withoutBar N p k = some (lessP p k) := by
 unfold I_withoutBar
 rw [copyPinned_s h h2, Option.bind_some, grd_R (by omega) (by omega), delete_s h hk]; rfl
theorem l27Less_s (hN : 4000000 ≤ N) {p : Pin} (hp : isPinned p = true) (h : p.g.bars.length ≤ 3000000) (h2 : p.ground.length ≤ 3000000) {k : Nat} (hk : k < p.g.bars.length) : S_l27Less N p k = some (lessP p k) := by
 unfold S_l27Less S_RemoveBar
 have e1 : ((k : Int) + 1).toNat = k + 1 := by omega
 have e2 : ((k : Int)).toNat = k := by omega
 have e3 : (p.g.bars.take k).length = k := by rw [List.length_take]; omega
 rw [isGraphS_s N hN, (isPinned_parts hp).1, Option.bind_some, Bool.not_true, cnd_false, cnd_df (by omega), cnd_df (by omega), e1, e2, grd_pos (by omega), grd_pos (by rw [List.drop_zero]; omega), grd_R (by omega) (by omega), grd_pos (by omega), grd_pos (by simp only [List.drop_zero, List.nil_append, List.length_drop, List.length_take]; omega), Option.bind_some, grd_pos (by omega)]
 simp only [List.drop_zero, List.nil_append, List.take_length]
 rfl
theorem lessP_bd {p : Pin} (h : p.g.bars.length ≤ 3000000) {k : Nat} : (lessP p k).g.bars.length ≤ 3000000 := by
 simp only [lessP, lessL, List.length_append, List.length_take, List.length_drop]; omega
theorem safe_x (hN : 4000000 ≤ N) {p : Pin} (hb : p.g.bars.length ≤ 3000000) (hg : p.ground.length ≤ 3000000) (e : Int) : ∃ b : Bool, S_SafeToRemove N p e = some b ∧ I_SafeToRemove N p e = some b ∧ (b = true → isPinned p = true ∧ 0 ≤ e ∧ e < (p.g.bars.length : Int)) := by
 unfold S_SafeToRemove I_SafeToRemove
 rw [isPinnedS_s N hN hb hg, isPinnedI_s N hN hb hg, Option.bind_some, Option.bind_some]
 cases hp : isPinned p with
 | false => exact ⟨false, rfl, rfl, fun h => by cases h⟩
 | true =>
  rw [cnd_true, cnd_true, grd_R (by omega) (by omega), within_s, Option.bind_some]
  by_cases h0 : 0 ≤ e
  ·by_cases h1 : e < (p.g.bars.length : Int)
   ·obtain ⟨k, rfl⟩ : ∃ k : Nat, e = (k : Int) := ⟨e.toNat, by omega⟩
    rw [cnd_dt (by omega), cnd_dt (by omega), inB_true.2 ⟨by omega, by omega⟩, cnd_true, l27Less_s hN hp hb hg (by omega), withoutBar_s hb hg (by omega), Option.bind_some, Option.bind_some]
    obtain ⟨r, g1, g2, _⟩ := pinnedRank_x (N := N) hN (p := lessP p k) (lessP_bd hb) hg
    obtain ⟨r', g3, g4, _⟩ := pinnedRank_x (N := N) hN hb hg
    rw [g1, g2, g3, g4]
    exact ⟨r == r', rfl, rfl, fun _ => ⟨rfl, h0, h1⟩⟩
   ·refine ⟨false, by rw [cnd_dt (by omega), cnd_df (by omega)], ?_, fun h => by cases h⟩
    have : inB e 0 ((p.g.bars.length : Int) - 1) = false := by
     cases hh : inB e 0 ((p.g.bars.length : Int) - 1) with
     | false => rfl
     | true => have := inB_true.1 hh; omega
    rw [this, cnd_false]
  ·refine ⟨false, by rw [cnd_df (by omega)], ?_, fun h => by cases h⟩
   have : inB e 0 ((p.g.bars.length : Int) - 1) = false := by
    cases hh : inB e 0 ((p.g.bars.length : Int) - 1) with
    | false => rfl
    | true => have := inB_true.1 hh; omega
   rw [this, cnd_false]
theorem safeBars1_s (hN : 4000000 ≤ N) {p : Pin} (hb : p.g.bars.length ≤ 3000000) (hg : p.ground.length ≤ 3000000) : ∀ (fuel i : Nat) (l : List Int), i ≤ p.g.bars.length → p.g.bars.length < fuel + i → l.length ≤ i →
  ∃ l' : List Int, l'.length ≤ p.g.bars.length ∧ S_SafeBars_l1 N p (fun x => some x) fuel (l, (i : Int)) = some l' ∧ I_SafeBars_l1 N p (fun x => some x) fuel (l, (i : Int)) = some l' := by
 intro fuel
 induction fuel with
 | zero => intro i l h1 h2; omega
 | succ fuel ih =>
  intro i l h1 h2 h3
  rw [S_SafeBars_l1, I_SafeBars_l1]
  by_cases hi : i < p.g.bars.length
  ·rw [cnd_dt (by omega), cnd_dt (by omega)]
   obtain ⟨b, g1, g2, _⟩ := safe_x (N := N) hN hb hg (i : Int)
   rw [g1, g2, Option.bind_some, Option.bind_some]
   cases b with
   | true =>
    rw [cnd_true, cnd_true, grd_pos (by omega), grd_R (by omega) (by omega), grd_pos (by omega), grd_R (by omega) (by omega), succ_cast]
    exact ih (i + 1) _ (by omega) (by omega) (by simp; omega)
   | false =>
    rw [cnd_false, cnd_false, grd_R (by omega) (by omega), grd_R (by omega) (by omega), succ_cast]
    exact ih (i + 1) _ (by omega) (by omega) (by omega)
  ·rw [cnd_df (by omega), cnd_df (by omega)]
   exact ⟨l, by omega, rfl, rfl⟩
theorem safeBars_x (hN : 4000000 ≤ N) {p : Pin} (hb : p.g.bars.length ≤ 3000000) (hg : p.ground.length ≤ 3000000) : ∃ l : List Int, l.length ≤ p.g.bars.length ∧ S_SafeBars N p = some l ∧ I_SafeBars N p = some l :=
 safeBars1_s hN hb hg N 0 [] (by omega) (by omega) (by simp)
theorem removeAll1_s (hN : 4000000 ≤ N) {k : ((List Int) × (List (Int × Int)) × (List Int) × Int) → Option ((List Int) × Pin)} : ∀ (fuel i : Nat) (l : List Int) (q : Pin), q.g.bars.length ≤ 3000000 → q.ground.length ≤ 3000000 → i < fuel → i ≤ 3000000 → l.length + i ≤ 3000000 →
  ∃ (l' : List Int) (q' : Pin), l'.length ≤ l.length + i ∧ q'.g.bars.length ≤ q.g.bars.length ∧ q'.ground = q.ground ∧ S_RemoveAll_l1 N k fuel (l, q.g.bars, q.ground, (i : Int) - 1, q.g.n) = k (l', q'.g.bars, q'.ground, q'.g.n) ∧ I_RemoveAll_l1 N k fuel (l, q.g.bars, q.ground, (i : Int) - 1, q.g.n) = k (l', q'.g.bars, q'.ground, q'.g.n) := by
 intro fuel
 induction fuel with
 | zero => intro i l q _ _ h; omega
 | succ fuel ih =>
  intro i l q hb hg h1 h2 h3
  rw [S_RemoveAll_l1, I_RemoveAll_l1]
  by_cases hi : 0 < i
  ·obtain ⟨j, rfl⟩ : ∃ j, i = j + 1 := ⟨i - 1, by omega⟩
   have ej : (((j + 1 : Nat) : Int) - 1) = (j : Int) := by omega
   rw [ej, cnd_dt (by omega), cnd_dt (by omega)]
   obtain ⟨b, g1, g2, g3⟩ := safe_x (N := N) hN (p := q) hb hg (j : Int)
   have eq0 : (⟨⟨q.g.n, q.g.bars⟩, q.ground⟩ : Pin) = q := rfl
   rw [eq0, g1, g2, Option.bind_some, Option.bind_some]
   cases b with
   | true =>
    obtain ⟨hp, h4, h5⟩ := g3 rfl
    rw [cnd_true, cnd_true, l27Less_s hN hp hb hg (by omega), withoutBar_s hb hg (by omega), Option.bind_some, Option.bind_some, grd_pos (by omega), grd_R (by omega) (by omega), grd_pos (by omega), grd_R (by omega) (by omega)]
    obtain ⟨l', q', k1, k2, k3, k4, k5⟩ := ih j (l ++ [(j : Int)]) (lessP q j) (lessP_bd hb) hg (by omega) (by omega) (by simp; omega)
    refine ⟨l', q', by simp at k1; omega, ?_, k3, k4, k5⟩
    have := lessL_len (l := q.g.bars) (k := j) (by omega)
    have e : (lessP q j).g.bars = lessL q.g.bars j := rfl
    rw [e] at k2; omega
   | false =>
    rw [cnd_false, cnd_false, grd_R (by omega) (by omega), grd_R (by omega) (by omega)]
    obtain ⟨l', q', k1, k2, k3, k4, k5⟩ := ih j l q hb hg (by omega) (by omega) (by omega)
    exact ⟨l', q', by omega, k2, k3, k4, k5⟩
  ·obtain rfl : i = 0 := by omega
   rw [cnd_df (by omega), cnd_df (by omega)]
   exact ⟨l, q, by omega, Nat.le_refl _, rfl, rfl, rfl⟩
theorem removeAll_x (hN : 4000000 ≤ N) {p : Pin} (hb : p.g.bars.length ≤ 1048576) (hg : p.ground.length ≤ 1048576) : ∃ (l : List Int) (q : Pin), l.length ≤ p.g.bars.length ∧ q.g.bars.length ≤ p.g.bars.length ∧ q.ground = p.ground ∧ S_RemoveAll N p = some (l, q) ∧ I_RemoveAll N p = some (l, q) := by
 obtain ⟨l, q, k1, k2, k3, k4, k5⟩ := removeAll1_s (N := N) hN (k := fun (x : (List Int) × (List (Int × Int)) × (List Int) × Int) => match x with | (l17, l18, l19, c20) => some (l17, (⟨⟨c20, l18⟩, l19⟩ : Pin))) N p.g.bars.length [] p (by omega) (by omega) (by omega) (by omega) (by simp; omega)
 refine ⟨l, q, by simpa using k1, k2, k3, ?_, ?_⟩
 ·unfold S_RemoveAll
  rw [l2Copy_s (by omega), Option.bind_some, grd_pos (by omega), grd_R (by omega) (by omega)]
  exact k4
 ·unfold I_RemoveAll
  rw [copyPinned_s (by omega) (by omega), Option.bind_some, grd_R (by omega) (by omega)]
  exact k5
theorem leastKept1_s (hN : 4000000 ≤ N) {p : Pin} (hp : isPinned p = true) {v : List Int × Pin} (hv : v.1.length ≤ 3000000) (hb : p.g.bars.length ≤ 3000000) (hg : p.ground.length ≤ 3000000) : ∀ (fuel i : Nat) (l : List Int), i ≤ p.g.bars.length → p.g.bars.length < fuel + i → l.length ≤ i →
  ∃ l' : List Int, l'.length ≤ p.g.bars.length ∧ S_LeastKept_l1 N p v (fun x => some x) fuel (l, (i : Int)) = some l' ∧ I_LeastKept_l1 N p v (fun x => some x) fuel (l, (i : Int)) = some l' := by
 intro fuel
 induction fuel with
 | zero => intro i l h1 h2; omega
 | succ fuel ih =>
  intro i l h1 h2 h3
  rw [S_LeastKept_l1, I_LeastKept_l1]
  by_cases hi : i < p.g.bars.length
  ·rw [cnd_dt (by omega), cnd_dt (by omega), isPinnedS_s N hN hb hg, hp, Option.bind_some, cnd_true, l2Has_s N hN hv, contains_s N hN hv, Option.bind_some, Option.bind_some]
   cases v.1.contains (i : Int) with
   | false =>
    rw [Bool.not_false, cnd_true, cnd_true, grd_pos (by omega), grd_R (by omega) (by omega), grd_pos (by omega), grd_R (by omega) (by omega), succ_cast]
    exact ih (i + 1) _ (by omega) (by omega) (by simp; omega)
   | true =>
    rw [Bool.not_true, cnd_false, cnd_false, grd_R (by omega) (by omega), grd_R (by omega) (by omega), succ_cast]
    exact ih (i + 1) _ (by omega) (by omega) (by omega)
  ·rw [cnd_df (by omega), cnd_df (by omega)]
   exact ⟨l, by omega, rfl, rfl⟩
theorem leastKept_x (hN : 4000000 ≤ N) {p : Pin} (hb : p.g.bars.length ≤ 1048576) (hg : p.ground.length ≤ 1048576) : ∃ l : List Int, l.length ≤ p.g.bars.length ∧ S_LeastKept N p = some l ∧ I_LeastKept N p = some l := by
 obtain ⟨l, q, k1, k2, k3, k4, k5⟩ := removeAll_x (N := N) hN hb hg
 unfold S_LeastKept I_LeastKept
 rw [isPinnedI_s N hN (by omega) (by omega), k4, k5, Option.bind_some, Option.bind_some]
 cases hp : isPinned p with
 | false =>
  rw [Bool.not_false, cnd_true]
  obtain ⟨m, rfl⟩ : ∃ m, N = m + 1 := ⟨N - 1, by omega⟩
  refine ⟨[], by simp, ?_, rfl⟩
  rw [S_LeastKept_l1]
  by_cases h0 : 0 < p.g.bars.length
  ·rw [cnd_dt (by omega), isPinnedS_s _ hN (by omega) (by omega), hp]; rfl
  ·rw [cnd_df (by omega)]
 | true =>
  rw [Bool.not_true, cnd_false, Option.bind_some]
  exact leastKept1_s hN hp (v := (l, q)) (show l.length ≤ 3000000 by omega) (by omega) (by omega) N 0 [] (by omega) (by omega) (by simp)
theorem falls1_s (hN : 4000000 ≤ N) {a b : List Int} (ha : a.length ≤ 8) (hb : b.length ≤ 8) : ∀ (fuel i : Nat) (l : List Int), i ≤ b.length → b.length < fuel + i → l.length ≤ i →
  ∃ l' : List Int, l'.length ≤ 8 ∧ S_FallsWith_l1 N b a (fun x => some x) fuel (l, (i : Int)) = some l' ∧ I_FallsWith_l1 N a b (fun x => some x) fuel (l, (i : Int)) = some l' := by
 intro fuel
 induction fuel with
 | zero => intro i l h1 h2; omega
 | succ fuel ih =>
  intro i l h1 h2 h3
  rw [S_FallsWith_l1, I_FallsWith_l1]
  by_cases hi : i < b.length
  ·have e2 : ((i : Int)).toNat = i := by omega
   have c1 := l2Has_s N hN (l := a) (by omega) (b.getD i 0)
   have c2 := contains_s N hN (l := a) (by omega) (b.getD i 0)
   simp (disch := omega) only [cnd_dt, grd_pos, grd_R, e2, c1, c2, Option.bind_some]
   cases a.contains (b.getD i 0) with
   | false =>
    rw [Bool.not_false, cnd_true, cnd_true, succ_cast]
    exact ih (i + 1) _ (by omega) (by omega) (by simp; omega)
   | true =>
    rw [Bool.not_true, cnd_false, cnd_false, succ_cast]
    exact ih (i + 1) _ (by omega) (by omega) (by omega)
  ·rw [cnd_df (by omega), cnd_df (by omega)]
   exact ⟨l, by omega, rfl, rfl⟩
theorem falls_x (hN : 4000000 ≤ N) {p : Pin} (hb : p.g.bars.length ≤ 3000000) (hg : p.ground.length ≤ 3000000) (e : Int) : ∃ l : List Int, l.length ≤ 8 ∧ S_FallsWith N p e = some l ∧ I_FallsWith N p e = some l := by
 unfold S_FallsWith I_FallsWith
 rw [isPinnedS_s N hN hb hg, isPinnedI_s N hN hb hg, Option.bind_some, Option.bind_some]
 cases hp : isPinned p with
 | false => exact ⟨[], by simp, rfl, rfl⟩
 | true =>
  rw [Bool.not_true, cnd_false, cnd_false, grd_R (by omega) (by omega), within_s, Option.bind_some]
  by_cases h0 : 0 ≤ e
  ·by_cases h1 : e < (p.g.bars.length : Int)
   ·obtain ⟨k, rfl⟩ : ∃ k : Nat, e = (k : Int) := ⟨e.toNat, by omega⟩
    rw [cnd_df (by omega), cnd_df (by omega), inB_true.2 ⟨by omega, by omega⟩, Bool.not_true, cnd_false, l27Less_s hN hp hb hg (by omega), withoutBar_s hb hg (by omega), Option.bind_some]
    obtain ⟨a, a1, a2, a3⟩ := steady_x (N := N) hN (p := lessP p k) (lessP_bd hb) hg
    obtain ⟨b, b1, b2, b3⟩ := steady_x (N := N) hN hb hg
    rw [a3, b3, b2, Option.bind_some, Option.bind_some, Option.bind_some, Option.bind_some, a2, Option.bind_some]
    exact falls1_s hN a1 b1 N 0 [] (by omega) (by omega) (by simp)
   ·refine ⟨[], by simp, by rw [cnd_df (by omega), cnd_dt (by omega)], ?_⟩
    have : inB e 0 ((p.g.bars.length : Int) - 1) = false := by
     cases hh : inB e 0 ((p.g.bars.length : Int) - 1) with
     | false => rfl
     | true => have := inB_true.1 hh; omega
    rw [this, Bool.not_false, cnd_true]
  ·refine ⟨[], by simp, by rw [cnd_dt (by omega)], ?_⟩
   have : inB e 0 ((p.g.bars.length : Int) - 1) = false := by
    cases hh : inB e 0 ((p.g.bars.length : Int) - 1) with
    | false => rfl
    | true => have := inB_true.1 hh; omega
   rw [this, Bool.not_false, cnd_true]
theorem worst1_s (hN : 4000000 ≤ N) {p : Pin} (hb : p.g.bars.length ≤ 3000000) (hg : p.ground.length ≤ 3000000) : ∀ (fuel i : Nat) (w m : Int), i ≤ p.g.bars.length → p.g.bars.length < fuel + i →
  ∃ r : Int × Int, S_WorstBar_l1 N p (fun (x : Int × Int) => match x with | (a, b) => some (a, b)) fuel (w, m, (i : Int)) = some r ∧ I_WorstBar_l1 N p (fun (x : Int × Int) => match x with | (a, b) => some (a, b)) fuel (w, m, (i : Int)) = some r := by
 intro fuel
 induction fuel with
 | zero => intro i w m h1 h2; omega
 | succ fuel ih =>
  intro i w m h1 h2
  rw [S_WorstBar_l1, I_WorstBar_l1]
  by_cases hi : i < p.g.bars.length
  ·rw [cnd_dt (by omega), cnd_dt (by omega)]
   obtain ⟨l, _, g1, g2⟩ := falls_x (N := N) hN hb hg (i : Int)
   rw [g1, g2, Option.bind_some, Option.bind_some]
   by_cases hm : (l.length : Int) > m
   ·rw [cnd_dt hm, cnd_dt hm, grd_R (by omega) (by omega), grd_R (by omega) (by omega), succ_cast]
    exact ih (i + 1) _ _ (by omega) (by omega)
   ·rw [cnd_df hm, cnd_df hm, grd_R (by omega) (by omega), grd_R (by omega) (by omega), succ_cast]
    exact ih (i + 1) _ _ (by omega) (by omega)
  ·rw [cnd_df (by omega), cnd_df (by omega)]
   exact ⟨(w, m), rfl, rfl⟩
theorem worst_x (hN : 4000000 ≤ N) {p : Pin} (hb : p.g.bars.length ≤ 3000000) (hg : p.ground.length ≤ 3000000) : ∃ r : Int × Int, S_WorstBar N p = some r ∧ I_WorstBar N p = some r :=
 worst1_s hN hb hg N 0 (-1) 0 (by omega) (by omega)
end Go.Proofs.Ytcljhpldfanhkaa
namespace Go.Proofs.Ytcljhpldfanhkaa
open Go.RowKit
variable {n : Nat} {N : Nat}
theorem nodup_sub_len {α : Type} [DecidableEq α] : ∀ {I L : List α}, I.Nodup → (∀ e ∈ I, e ∈ L) → I.length ≤ L.length
 | [], L, _, _ => by simp
 | e :: I, L, h, hm => by
  have h1 := List.nodup_cons.1 h
  have he := hm e (by simp)
  have h2 := nodup_sub_len (I := I) (L := L.erase e) h1.2 fun x hx => by
   have hne : x ≠ e := fun hc => h1.1 (by rw [← hc]; exact hx)
   exact (List.mem_erase_of_ne hne).2 (hm x (by simp [hx]))
  rw [List.length_erase_of_mem he] at h2
  have : 0 < L.length := List.length_pos_of_mem he
  simp only [List.length_cons]; omega
theorem Spr.sub {I J : List (Int × Int)} (h : Spr n I) (hs : J.Sublist I) : Spr n J := fun X hX => by
 have h1 : Ytcljhpldfanhkaa.spn X J ≤ Ytcljhpldfanhkaa.spn X I := hs.countP_le
 have := h X (by omega)
 omega
theorem Spr.nodup : ∀ {I : List (Int × Int)}, Spr n I → (∀ e ∈ I, Bok n e) → I.Nodup
 | [], _, _ => List.nodup_nil
 | e :: I, h, ok => by
  refine List.nodup_cons.2 ⟨fun hm => ?_, Spr.nodup (h.sub (List.sublist_cons_self _ _)) fun x hx => ok x (by simp [hx])⟩
  obtain ⟨b1, b2, b3, b4, b5⟩ := ok e (by simp)
  have h2 := vsz_v2 (n := n) ⟨b1, b2⟩ ⟨b3, b4⟩ b5
  have hin : inX (v2 e.1 e.2) e = true := by simp [inX, v2]
  have h3 : 2 ≤ Ytcljhpldfanhkaa.spn (v2 e.1 e.2) (e :: I) := by
   rw [spn_cons, if_pos hin]
   have : 0 < Ytcljhpldfanhkaa.spn (v2 e.1 e.2) I := List.countP_pos_iff.2 ⟨e, hm, hin⟩
   omega
  have := h (v2 e.1 e.2) (by omega)
  omega
theorem spn_le (X : VS) (I : List (Int × Int)) : spn X I ≤ I.length := List.countP_le_length
theorem grow_tight {I : List (Int × Int)} (hI : Spr n I) (ok : ∀ e ∈ I, Bok n e) {x y : Int} (hx : 0 ≤ x ∧ x < n) (hy : 0 ≤ y ∧ y < n) (hxy : x ≠ y) (ht : Tied n I (x, y)) : ∀ L : List Int, (∀ v ∈ L, (0 ≤ v ∧ v < n) ∧ (x = v ∨ Tied n I (x, v)) ∧ (y = v ∨ Tied n I (y, v))) →
  ∃ W, Tgt n I W ∧ W x = true ∧ W y = true ∧ ∀ v ∈ L, W v = true
 | [], _ => by
  obtain ⟨X, h1, h2⟩ := ht
  simp only [inX, Bool.and_eq_true] at h2
  exact ⟨X, h1, h2.1, h2.2, by simp⟩
 | v :: L, h => by
  obtain ⟨W, w1, w2, w3, w4⟩ := grow_tight hI ok hx hy hxy ht L fun u hu => h u (by simp [hu])
  obtain ⟨hv, h1, h2⟩ := h v (by simp)
  by_cases e1 : x = v
  ·exact ⟨W, w1, w2, w3, fun u hu => by
    rcases List.mem_cons.1 hu with rfl | hu
    ·rw [← e1]; exact w2
    ·exact w4 u hu⟩
  by_cases e2 : y = v
  ·exact ⟨W, w1, w2, w3, fun u hu => by
    rcases List.mem_cons.1 hu with rfl | hu
    ·rw [← e2]; exact w3
    ·exact w4 u hu⟩
  obtain ⟨V, v1, v2, v3, v4⟩ := Tied.tri hI ok hx hy hv hxy e1 e2 ht (h1.resolve_left e1) (h2.resolve_left e2)
  refine ⟨vU W V, w1.union hI v1 (countP_two hx hy hxy (by simp [vI, w2, v2]) (by simp [vI, w3, v3])), by simp [vU, w2], by simp [vU, w3], fun u hu => ?_⟩
  rcases List.mem_cons.1 hu with rfl | hu
  ·simp [vU, v4]
  ·simp [vU, w4 u hu]
theorem vsz_ge {W : VS} {G : List Int} (hd : G.Nodup) (h : ∀ v ∈ G, (0 ≤ v ∧ v < n) ∧ W v = true) : G.length ≤ vsz n W := by
 have e : vsz n W = (((List.range n).filter fun (i : Nat) => W (i : Int)).map fun (i : Nat) => (i : Int)).length := by
  rw [List.length_map, vsz, List.countP_eq_length_filter]
 rw [e]
 refine nodup_sub_len hd fun v hv => ?_
 obtain ⟨⟨h1, h2⟩, h3⟩ := h v hv
 refine List.mem_map.2 ⟨v.toNat, List.mem_filter.2 ⟨List.mem_range.2 (by omega), ?_⟩, by omega⟩
 rw [show ((v.toNat : Nat) : Int) = v by omega]; exact h3
theorem len_of_tied {I : List (Int × Int)} (hI : Spr n I) (ok : ∀ e ∈ I, Bok n e) {x y : Int} (hx : 0 ≤ x ∧ x < n) (hy : 0 ≤ y ∧ y < n) (hxy : x ≠ y) (ht : Tied n I (x, y)) {G : List Int} (hd : G.Nodup)
  (h : ∀ v ∈ G, (0 ≤ v ∧ v < n) ∧ (x = v ∨ Tied n I (x, v)) ∧ (y = v ∨ Tied n I (y, v))) : 2 * G.length ≤ I.length + 3 := by
 obtain ⟨W, w1, _, _, w4⟩ := grow_tight hI ok hx hy hxy ht G h
 have h1 := vsz_ge (W := W) hd fun v hv => ⟨(h v hv).1, w4 v hv⟩
 have h2 := w1.2
 have h3 := spn_le W I
 omega
theorem bas_split {L H B I J : List (Int × Int)} (okH : ∀ e ∈ H, Bok n e) (okB : ∀ e ∈ B, Bok n e) (hL : ∀ e ∈ L, e ∈ H ∨ e ∈ B) (hI : Bas n L I) (hJ : Bas n H J) : I.length ≤ J.length + B.length := by
 have okI : ∀ e ∈ I, Bok n e := fun e he => (hL e (hI.mem e he)).elim (okH e) (okB e)
 have hnd := hI.spr.nodup okI
 have e1 := List.length_eq_countP_add_countP (fun e => decide (e ∈ H)) (l := I)
 have a1 : (I.filter fun e => decide (e ∈ H)).length ≤ J.length := by
  refine spr_le hJ.spr (hI.spr.sub List.filter_sublist) (fun e he => okH e (hJ.mem e he)) fun e he => hJ.spn e ?_
  simpa using (List.mem_filter.1 he).2
 have a2 : (I.filter fun e => !decide (e ∈ H)).length ≤ B.length := by
  refine nodup_sub_len (hnd.sublist List.filter_sublist) fun e he => ?_
  obtain ⟨m1, m2⟩ := List.mem_filter.1 he
  exact (hL e (hI.mem e m1)).resolve_left (by simpa using m2)
 rw [List.countP_eq_length_filter, List.countP_eq_length_filter] at e1
 have e2 : (I.filter fun e => decide ¬(decide (e ∈ H) = true)) = I.filter fun e => !decide (e ∈ H) := by
  congr 1; funext e; simp
 rw [e2] at e1
 omega
theorem le_anti {a b : Int × Int} (h1 : barLeB a b = true) (h2 : barLeB b a = true) : a = b := by
 simp only [barLeB, Bool.or_eq_true, Bool.and_eq_true, decide_eq_true_eq, beq_iff_eq] at h1 h2
 exact Prod.ext (by omega) (by omega)
theorem graph_le {g : Grf} (h : isGraph g = true) : ∀ d i, i + d + 1 < g.bars.length → barLeB (g.bars.getD i (0, 0)) (g.bars.getD (i + d + 1) (0, 0)) = true := by
 have hp := (isGraph_parts h).2.2
 have ad : ∀ i, i + 1 < g.bars.length → barLeB (g.bars.getD i (0, 0)) (g.bars.getD (i + 1) (0, 0)) = true := by
  intro i hi
  have := hp (i + 1) hi
  simp only [barAt, Bool.and_eq_true, Bool.or_eq_true, decide_eq_true_eq, Nat.add_sub_cancel] at this
  rcases this.2 with h | h
  ·omega
  ·exact h
 intro d
 induction d with
 | zero => intro i hi; exact ad i hi
 | succ d ih => intro i hi; exact le_trans' (ih i (by omega)) (ad (i + d + 1) (by omega))
theorem graph_srtD {g : Grf} (h : isGraph g = true) : Srt g.bars := by
 refine List.pairwise_iff_getElem.2 fun i j hi hj hij => ?_
 have := graph_le h (j - i - 1) i (by omega)
 rw [show i + (j - i - 1) + 1 = j by omega] at this
 simpa [List.getD_eq_getElem?_getD, hi, hj] using this
theorem graph_nodup {g : Grf} (h : isGraph g = true) (hd : hasDbl g.bars = false) : g.bars.Nodup := by
 refine List.pairwise_iff_getElem.2 fun i j hi hj hij he => ?_
 have h1 := (List.pairwise_iff_getElem.1 (graph_srtD h))
 have hdj : doubleAt g.bars j = false := by
  simp only [hasDbl, List.any_eq_false, List.mem_range] at hd
  simpa using hd j hj
 have e1 : g.bars.getD (j - 1) (0, 0) = g.bars[j - 1] := by simp [List.getD_eq_getElem?_getD, show j - 1 < g.bars.length by omega]
 have e2 : g.bars.getD j (0, 0) = g.bars[j] := by simp [List.getD_eq_getElem?_getD, hj]
 have hle : barLeB g.bars[j - 1] g.bars[j] = true := h1 (j - 1) j (by omega) hj (by omega)
 have hge : barLeB g.bars[j] g.bars[j - 1] = true := by
  rw [← he]
  by_cases hc : i = j - 1
  ·subst hc; simp [barLeB]
  ·exact h1 i (j - 1) hi (by omega) (by omega)
 have := le_anti hle hge
 have h0 : (decide (0 < j) && (g.bars.getD (j - 1) (0, 0) == g.bars.getD j (0, 0))) = true := by
  rw [e1, e2, this]; simp; omega
 rw [doubleAt, h0] at hdj
 cases hdj
theorem pinned_sub {p : Pin} (hp : isPinned p = true) {B : List (Int × Int)} (hs : B.Sublist p.g.bars) : isPinned ⟨⟨p.g.n, B⟩, p.ground⟩ = true := by
 obtain ⟨p1, p2, p3, p4, p5, p6, p7⟩ := isPinned_parts hp
 have hl := hs.length_le
 have hm : ∀ e ∈ B, e ∈ p.g.bars := fun e he => hs.subset he
 obtain ⟨q1, q2, _⟩ := isGraph_parts p1
 have g1 : isGraph ⟨p.g.n, B⟩ = true := by
  refine srt_graph (inB_true.2 q1) (by simp only; omega) (List.Pairwise.sublist hs (graph_srtD p1)) fun e he => ?_
  have := isGraph_bar p1 (hm e he)
  simp [barOkB, this.1, this.2.1, this.2.2]
 have hnd : B.Nodup := (graph_nodup p1 p2).sublist hs
 have g2 : hasDbl B = false := by
  refine hasDbl_false fun i hi => ?_
  simp only [doubleAt, Bool.and_eq_false_iff, decide_eq_false_iff_not, beq_eq_false_iff_ne]
  by_cases h0 : 0 < i
  ·refine .inr fun he => ?_
   have := (List.pairwise_iff_getElem.1 hnd) (i - 1) i (by omega) hi (by omega)
   simp only [List.getD_eq_getElem?_getD, show i - 1 < B.length by omega, hi, List.getElem?_eq_getElem, Option.getD_some] at he
   exact this he
  ·exact .inl h0
 have g3 : noneIn p.ground B = true := by
  simp only [noneIn, List.all_eq_true] at p7 ⊢
  exact fun e he => p7 e (hm e he)
 simp only [isPinned, Bool.and_eq_true, decide_eq_true_eq, Bool.not_eq_true']
 exact ⟨⟨⟨⟨⟨⟨g1, g2⟩, p3⟩, by omega⟩, by omega⟩, p6⟩, g3⟩
theorem lessL_sub {α : Type} (l : List α) (k : Nat) : (lessL l k).Sublist l := by
 have h : (l.take k ++ l.drop (k + 1)).Sublist (l.take k ++ l.drop k) := (List.Sublist.refl _).append (by
  rw [show k + 1 = k + 1 from rfl, ← List.drop_drop]; exact List.drop_sublist _ _)
 rwa [List.take_append_drop] at h
end Go.Proofs.Ytcljhpldfanhkaa
namespace Go.Proofs.Ytcljhpldfanhkaa
open Go.RowKit
end Go.Proofs.Ytcljhpldfanhkaa
namespace Go.Proofs.Ytcljhpldfanhkaa
open Go.RowKit
variable {n : Nat} {N : Nat}
def stl (t : Nat → Bool) : Nat → Nat → List Int
 | 0, _ => []
 | k + 1, v => (if t v = true then [(v : Int)] else []) ++ stl t k (v + 1)
theorem stl_mem {t : Nat → Bool} {x : Int} : ∀ {k v : Nat}, x ∈ stl t k v ↔ ∃ i : Nat, v ≤ i ∧ i < v + k ∧ t i = true ∧ x = i
 | 0, v => by simp [stl]; intro i h1 h2; omega
 | k + 1, v => by
  simp only [stl, List.mem_append, stl_mem (k := k) (v := v + 1)]
  constructor
  ·rintro (h | ⟨i, h1, h2, h3, h4⟩)
   ·split at h
    ·rename_i ht; simp at h; exact ⟨v, Nat.le_refl _, by omega, ht, h⟩
    ·simp at h
   ·exact ⟨i, by omega, by omega, h3, h4⟩
  ·rintro ⟨i, h1, h2, h3, h4⟩
   by_cases e : i = v
   ·subst e; left; rw [if_pos h3]; simp [h4]
   ·exact .inr ⟨i, by omega, by omega, h3, h4⟩
theorem steadyS1_s (hN : 4000000 ≤ N) (hn : n ≤ 8) {p : Pin} {aS : Grf} {t : Nat → Bool} (hp : isPinned p = true) (hbl : p.g.bars.length ≤ 3000000) (hgl : p.ground.length ≤ 3000000) (hpn : p.g.n = n) (hl : 2 ≤ p.ground.length) (hA : S_l20All N p = some aS)
  (step : ∀ v : Nat, v < n → ∃ b0 b1 : Bool, S_IsImplied N aS (p.ground.getD 0 0) v = some b0 ∧ S_IsImplied N aS (p.ground.getD 1 0) v = some b1 ∧ (b0 && b1) = t v) :
  ∀ (fuel v : Nat) (l : List Int), v ≤ n → n < fuel + v → l.length ≤ v → S_SteadyPoints_l1 N p (fun x => some x) fuel (l, (v : Int)) = some (l ++ stl t (n - v) v) := by
 intro fuel
 induction fuel with
 | zero => intro v l h1 h2; omega
 | succ fuel ih =>
  intro v l h1 h2 h3
  rw [S_SteadyPoints_l1]
  by_cases hv : v < n
  ·obtain ⟨b0, b1, s0, s1, s2⟩ := step v hv
   have z0 : (0 : Int).toNat = 0 := rfl
   have z1 : (1 : Int).toNat = 1 := rfl
   rw [cnd_dt (by omega), show n - v = (n - (v + 1)) + 1 by omega, stl]
   cases ht : t v with
   | true =>
    rw [ht] at s2
    obtain ⟨e0, e1⟩ : b0 = true ∧ b1 = true := by simpa using s2
    subst e0 e1
    have k1 := ih (v + 1) (l ++ [(v : Int)]) (by omega) (by omega) (by simp; omega)
    simp (disch := omega) only [Int.toNat_natCast, tk0, List.length_cons, List.length_nil, grd_pos, grd_T, grd_R, cnd_dt, cnd_df, cnd_true, cnd_false, Option.bind_some, isPinnedS_s N hN hbl hgl, hp, hA, z0, z1, s0, s1, succ_cast]
    rw [k1, List.append_assoc]; rfl
   | false =>
    rw [ht] at s2
    have k1 := ih (v + 1) l (by omega) (by omega) (by omega)
    cases b0 with
    | false =>
     simp (disch := omega) only [Int.toNat_natCast, tk0, List.length_cons, List.length_nil, grd_pos, grd_T, grd_R, cnd_dt, cnd_df, cnd_true, cnd_false, Option.bind_some, isPinnedS_s N hN hbl hgl, hp, hA, z0, z1, s0, succ_cast]
     rw [k1]; rfl
    | true =>
     have e1 : b1 = false := by simpa using s2
     subst e1
     simp (disch := omega) only [Int.toNat_natCast, tk0, List.length_cons, List.length_nil, grd_pos, grd_T, grd_R, cnd_dt, cnd_df, cnd_true, cnd_false, Option.bind_some, isPinnedS_s N hN hbl hgl, hp, hA, z0, z1, s0, s1, succ_cast]
     rw [k1]; rfl
  ·rw [show n - v = 0 by omega]
   simp (disch := omega) only [Int.toNat_natCast, tk0, List.length_cons, List.length_nil, grd_pos, grd_T, grd_R, cnd_dt, cnd_df, cnd_true, cnd_false, Option.bind_some]
   simp [stl]
theorem ground_nodup {m : Int} {l : List Int} (h : asc m l = true) : l.Nodup := by
 refine List.pairwise_iff_getElem.2 fun i j hi hj hij he => ?_
 have := asc_lt h j i hij hj
 simp only [List.getD_eq_getElem?_getD, hi, hj, List.getElem?_eq_getElem, Option.getD_some] at this
 omega
theorem inner_len {p : Pin} (hp : isPinned p = true) : (innerPts p).length + p.ground.length = p.g.n.toNat := by
 obtain ⟨p1, p2, p3, p4, p5, p6, p7⟩ := isPinned_parts hp
 have hb := isPinned_bd hp
 have hnd := ground_nodup p6
 unfold innerPts
 rw [hp, cnd_true]
 unfold inner
 generalize hl : ((List.range p.g.n.toNat).map fun (i : Nat) => (i : Int)) = l
 have ln : l.Nodup := by
  rw [← hl]
  refine List.pairwise_map.2 (List.nodup_range.imp fun {a b} h e => h (by omega))
 have ll : l.length = p.g.n.toNat := by rw [← hl]; simp
 have lm : ∀ x, x ∈ l ↔ 0 ≤ x ∧ x < p.g.n := fun x => by
  rw [← hl]
  simp only [List.mem_map, List.mem_range]
  constructor
  ·rintro ⟨i, h1, rfl⟩; omega
  ·intro h; exact ⟨x.toNat, by omega, by omega⟩
 have e1 := List.length_eq_countP_add_countP (fun x => p.ground.contains x) (l := l)
 have a1 : (l.filter fun x => p.ground.contains x).length ≤ p.ground.length := nodup_sub_len (ln.sublist List.filter_sublist) fun e he => by simpa using (List.mem_filter.1 he).2
 have a2 : p.ground.length ≤ (l.filter fun x => p.ground.contains x).length := nodup_sub_len hnd fun e he => List.mem_filter.2 ⟨(lm e).2 (asc_in p6 he), by simpa using he⟩
 rw [List.countP_eq_length_filter, List.countP_eq_length_filter] at e1
 have e2 : (l.filter fun x => decide ¬(p.ground.contains x = true)) = l.filter fun x => !p.ground.contains x := by
  congr 1; funext x; cases p.ground.contains x <;> simp
 rw [e2] at e1
 omega
structure PF (N n : Nat) (p : Pin) (LH LS H I : List (Int × Int)) (t : Nat → Bool) : Prop where
 pn : p.g.n = n
 n8 : n ≤ 8
 n2 : 2 ≤ n
 g2 : 2 ≤ p.ground.length
 hG : ∀ i, i < p.ground.length → 0 ≤ p.ground.getD i 0 ∧ p.ground.getD i 0 < n
 hlt : ∀ j i : Nat, i < j → j < p.ground.length → p.ground.getD i 0 < p.ground.getD j 0
 hS : HeldS p.ground LH p.ground.length
 mem : ∀ e, e ∈ LS ↔ e ∈ LH ∨ e ∈ p.g.bars
 okH : ∀ e ∈ LH, Bok n e
 okB : ∀ e ∈ p.g.bars, Bok n e
 bH : Bas n LH H
 bI : Bas n LS I
 hl : H.length + 3 = 2 * p.ground.length
 rk : S_PinnedRank N p = some ((I.length : Int) - H.length)
 fr : S_PinnedFreedom N p = some (2 * ((innerPts p).length : Int) - ((I.length : Int) - H.length))
 inn : (innerPts p).length + p.ground.length = n
 st : S_SteadyPoints N p = some (stl t n 0)
 tt : ∀ v : Nat, v < n → (t v = true ↔ (p.ground.getD 0 0 = v ∨ Tied n I (p.ground.getD 0 0, v)) ∧ (p.ground.getD 1 0 = v ∨ Tied n I (p.ground.getD 1 0, v)))
theorem PF.okS {p : Pin} {LH LS H I : List (Int × Int)} {t : Nat → Bool} (h : PF N n p LH LS H I t) : ∀ e ∈ LS, Bok n e := fun e he => ((h.mem e).1 he).elim (h.okH e) (h.okB e)
theorem PF.okI {p : Pin} {LH LS H I : List (Int × Int)} {t : Nat → Bool} (h : PF N n p LH LS H I t) : ∀ e ∈ I, Bok n e := fun e he => h.okS e (h.bI.mem e he)
theorem held_len {n : Nat} {G : List Int} {LH H : List (Int × Int)} (hl : 2 ≤ G.length) (hnd : G.Nodup) (hG : ∀ i, i < G.length → 0 ≤ G.getD i 0 ∧ G.getD i 0 < n) (hlt : ∀ j i : Nat, i < j → j < G.length → G.getD i 0 < G.getD j 0) (hS : HeldS G LH G.length) (ok : ∀ e ∈ LH, Bok n e) (hb : Bas n LH H) (hle : LH.length ≤ 2 * (G.length - 1) - 1) : H.length + 3 = 2 * G.length := by
 have okH : ∀ e ∈ H, Bok n e := fun e he => ok e (hb.mem e he)
 have h1 : H.length ≤ LH.length := nodup_sub_len (hb.spr.nodup okH) hb.mem
 have tie : ∀ e ∈ LH, Tied n H e := hb.spn
 have := len_of_tied hb.spr okH (hG 0 (by omega)) (hG 1 (by omega)) (by have := hlt 1 0 (by omega) (by omega); omega) (tie _ (hS.h0 1 (by omega) (by omega))) hnd fun v hv => by
  obtain ⟨j, hj, rfl⟩ := List.getElem_of_mem hv
  have e : G[j] = G.getD j 0 := by simp [List.getD_eq_getElem?_getD, hj]
  rw [e]
  refine ⟨hG j hj, ?_, ?_⟩
  ·by_cases e0 : j = 0
   ·subst e0; exact .inl rfl
   ·exact .inr (tie _ (hS.h0 j (by omega) hj))
  ·by_cases e1 : j = 1
   ·subst e1; exact .inl rfl
   ·by_cases e0 : j = 0
    ·subst e0; exact .inr (Tied.swap (tie _ (hS.h0 1 (by omega) (by omega))))
    ·exact .inr (tie _ (hS.h1 j (by omega) hj))
 omega
theorem pin_full (hN : 4000000 ≤ N) {p : Pin} (hp : isPinned p = true) : ∃ (n : Nat) (LH LS H I : List (Int × Int)) (t : Nat → Bool), PF N n p LH LS H I t := by
 obtain ⟨p1, p2, p3, p4, p5, p6, p7⟩ := isPinned_parts hp
 obtain ⟨hn1, hn2, hbl'⟩ := isPinned_n p1
 obtain ⟨n, hn⟩ := Int.eq_ofNat_of_zero_le (show 0 ≤ p.g.n by omega)
 obtain ⟨LH, LS, a1, a2, a3, a4, a5, a6, a7⟩ := allS_s (N := N) hN (p := p) (by omega) (by omega)
 have hnd := ground_nodup p6
 have hG : ∀ i, i < p.ground.length → 0 ≤ p.ground.getD i 0 ∧ p.ground.getD i 0 < n := fun i hi => by
  have := asc_in p6 (getD_mem (d := 0) hi)
  omega
 have hlt := asc_lt p6
 have hb : ∀ e ∈ p.g.bars, Bok n e := fun e he => by
  have := isGraph_bar p1 he
  exact ⟨by omega, by omega, by omega, by omega, by omega⟩
 have pok : ∀ i j : Nat, i < j → j < p.ground.length → Bok n (p.ground.getD i 0, p.ground.getD j 0) := fun i j g1 g2 => by
  have a := hG i (by omega)
  have b := hG j g2
  have c := hlt j i g1 g2
  exact ⟨a.1, a.2, b.1, b.2, by simp only; omega⟩
 have okLH : ∀ e ∈ LH, Bok n e := fun e he => by
  obtain ⟨i, j, g1, g2, rfl⟩ := a3.mem e he; exact pok i j g1 g2
 have okLS : ∀ e ∈ LS, Bok n e := fun e he => ((a6 e).1 he).elim (okLH e) (hb e)
 have bok : ∀ e : Int × Int, e ∈ LS → barOkB p.g.n e = true := fun e he => by
  have hx : 0 ≤ e.1 ∧ e.1 < e.2 ∧ e.2 < p.g.n := by
   rcases (a6 e).1 he with h | h
   ·obtain ⟨i, j, g1, g2, rfl⟩ := a3.mem e h
    have a := hG i (by omega)
    have b := hG j g2
    have c := hlt j i g1 g2
    exact ⟨a.1, c, by simp only; omega⟩
   ·exact isGraph_bar p1 h
  simp [barOkB, hx.1, hx.2.1, hx.2.2]
 have hgr : isGraph ⟨p.g.n, LS⟩ = true := srt_graph (by simp [inB]; omega) (by simp only; omega) a7 bok
 obtain ⟨I, c1, c2⟩ := rank_s (N := N) hN (g := ⟨p.g.n, LS⟩) (n := n) hn (by omega) okLS (by simp only; omega)
 obtain ⟨H, d1, d2⟩ := rank_s (N := N) hN (g := ⟨p.g.n, LH⟩) (n := n) hn (by omega) okLH (by simp only; omega)
 have hil := inner_len hp
 rw [hn] at hil
 have hil' : (innerPts p).length + p.ground.length = n := by simpa using hil
 have rk : S_PinnedRank N p = some ((I.length : Int) - H.length) := by
  have := spr_len c1.spr
  have := spr_len d1.spr
  unfold S_PinnedRank
  simp (disch := omega) only [Int.toNat_natCast, tk0, List.length_cons, List.length_nil, grd_pos, grd_T, grd_R, cnd_dt, cnd_df, cnd_true, cnd_false, Option.bind_some, isPinnedS_s N hN (show p.g.bars.length ≤ 3000000 by omega) (show p.ground.length ≤ 3000000 by omega), hp, Bool.not_true, a4, c2, a1, d2]
 have key : ∀ v : Nat, v < n → ∃ b0 b1 : Bool, S_IsImplied N ⟨p.g.n, LS⟩ (p.ground.getD 0 0) v = some b0 ∧ S_IsImplied N ⟨p.g.n, LS⟩ (p.ground.getD 1 0) v = some b1 ∧ (((b0 && b1) = true) ↔ (p.ground.getD 0 0 = v ∨ Tied n I (p.ground.getD 0 0, v)) ∧ (p.ground.getD 1 0 = v ∨ Tied n I (p.ground.getD 1 0, v))) := fun v hv => by
  have hv' : (0 : Int) ≤ (v : Int) ∧ (v : Int) < n := by omega
  obtain ⟨r0, s0, t0⟩ := implied_s (N := N) hN (g := ⟨p.g.n, LS⟩) hgr hn (hG 0 (by omega)) hv' c1
  obtain ⟨r1, s1, t1⟩ := implied_s (N := N) hN (g := ⟨p.g.n, LS⟩) hgr hn (hG 1 (by omega)) hv' c1
  rw [Tied.mm] at t0 t1
  refine ⟨r0, r1, s0, s1, ?_⟩
  rw [Bool.and_eq_true, t0, t1]
 let t : Nat → Bool := fun v => match S_IsImplied N ⟨p.g.n, LS⟩ (p.ground.getD 0 0) v, S_IsImplied N ⟨p.g.n, LS⟩ (p.ground.getD 1 0) v with
  | some b0, some b1 => b0 && b1
  | _, _ => false
 refine ⟨n, LH, LS, H, I, t, hn, by omega, by omega, p3, hG, hlt, a3, a6, okLH, hb, d1, c1, held_len p3 hnd hG hlt a3 okLH d1 a2, rk, ?_, hil', ?_, fun v hv => ?_⟩
 ·have := spr_len c1.spr
  have := spr_len d1.spr
  unfold S_PinnedFreedom
  simp (disch := omega) only [Int.toNat_natCast, tk0, List.length_cons, List.length_nil, grd_pos, grd_T, grd_R, cnd_dt, cnd_df, cnd_true, cnd_false, Option.bind_some, isPinnedS_s N hN (show p.g.bars.length ≤ 3000000 by omega) (show p.ground.length ≤ 3000000 by omega), hp, Bool.not_true, innerS_s N hN (show p.g.bars.length ≤ 3000000 by omega) (show p.ground.length ≤ 3000000 by omega), rk]
 ·unfold S_SteadyPoints
  have := steadyS1_s (n := n) (aS := ⟨p.g.n, LS⟩) (t := t) hN (by omega) hp (by omega) (by omega) hn p3 a4 (fun v hv => by
   obtain ⟨b0, b1, s0, s1, _⟩ := key v hv
   exact ⟨b0, b1, s0, s1, by simp only [t, s0, s1]⟩) N 0 [] (by omega) (by omega) (by simp)
  exact this
 ·obtain ⟨b0, b1, s0, s1, s2⟩ := key v hv
  simp only [t, s0, s1]
  exact s2
theorem PF.le {p : Pin} {LH LS H I : List (Int × Int)} {t : Nat → Bool} (h : PF N n p LH LS H I t) : I.length ≤ H.length + p.g.bars.length :=
 bas_split h.okH h.okB (fun e he => (h.mem e).1 he) h.bI h.bH
end Go.Proofs.Ytcljhpldfanhkaa
namespace Go.Proofs.Ytcljhpldfanhkaa
open Go.RowKit Go.Deep
section
variable {C : Cx} {ops : Array Oper} {K : PS → Prop} {l : List Oper} {s s' : PS} {TT : List (Nat × Ty)} {tm : List (Nat × D)} {rw' : List (Nat × Option (TypeId × Sq))} {bx : List (Nat × Option (List D))}
theorem vEnO (hl : En C s s') (h : VO C ops K l s') : VO C ops K l s := ⟨fun M a w Q hr hk => by
 obtain ⟨M', h'⟩ := hl.out M a w hr
 exact h.out M' a w Q h' hk⟩
end
section
end
section
variable {C : Cx} {ops : Array Oper} {K : PS → Prop} {l : List Oper} {s s' : PS} {TT : List (Nat × Ty)} {tm : List (Nat × D)} {rw' : List (Nat × Option (TypeId × Sq))} {bx : List (Nat × Option (List D))}
variable {o : Oper} {rest : List Oper} {rk rids bk bids pids : List Nat}
end
section
end
section
variable {C : Cx} {ops : Array Oper} {K : PS → Prop} {o : Oper} {rest : List Oper} {s s' : PS} {TT : List (Nat × Ty)} {tm : List (Nat × D)} {rw' : List (Nat × Option (TypeId × Sq))} {bx : List (Nat × Option (List D))} {cr B : List Nat} {j : Nat}
end
end Go.Proofs.Ytcljhpldfanhkaa
namespace Go.Proofs.Ytcljhpldfanhkaa
open Go.RowKit Go.Deep
section
variable {M M' : Mp} {A A' : Bool → Nat → Prop} {w w' : World} {r : Nat} {s : PS}
end
def lone (s : PS) (R F : Nat) : Bool := s.row.all fun p => Nat.beq p.1 R || (match s.r p.1 with | some (_, q) => (match q.refF with | some G => !Nat.beq G F && Nat.blt G 4294967296 | none => true) | none => true)
section
variable {w0 : World} {O0 : Hd} {n : Nat} {M : Mp} {s : PS} {a : Act} {w : World}
end
end Go.Proofs.Ytcljhpldfanhkaa
namespace Go.Proofs.Ytcljhpldfanhkaa
open Go.RowKit Go.Deep
section
variable {w0 : World} {O0 : Hd} {n : Nat} {M : Mp} {s : PS} {a : Act} {w : World}
end
end Go.Proofs.Ytcljhpldfanhkaa
namespace Go.Proofs.Ytcljhpldfanhkaa
open Go.RowKit Go.Deep
section
variable {C : Cx} {tm : List (Nat × D)} {rw' : List (Nat × Option (TypeId × Sq))} {bx : List (Nat × Option (List D))} {s' : PS}
end
end Go.Proofs.Ytcljhpldfanhkaa
namespace Go.Proofs.Ytcljhpldfanhkaa
open Go.RowKit Go.Deep
section
variable {C : Cx} {tm : List (Nat × D)} {rw' : List (Nat × Option (TypeId × Sq))} {bx : List (Nat × Option (List D))} {s' : PS}
end
end Go.Proofs.Ytcljhpldfanhkaa
namespace Go.Proofs.Ytcljhpldfanhkaa
open Go.RowKit Go.Deep
section
variable {w0 : World} {O0 : Hd} {n : Nat} {M : Mp} {s : PS} {a : Act} {w : World}
end
section
variable {C : Cx} {ops : Array Oper} {K : PS → Prop} {o : Oper} {rest : List Oper} {s : PS} {TT : List (Nat × Ty)} {tm : List (Nat × D)} {rw' : List (Nat × Option (TypeId × Sq))} {bx : List (Nat × Option (List D))}
end
end Go.Proofs.Ytcljhpldfanhkaa
namespace Go.Proofs.Ytcljhpldfanhkaa
open Go.RowKit Go.Deep
section
variable {P : Program} {w0 : World} {O0 : Hd} {n : Nat} {M : Mp} {s : PS} {a : Act} {w w' : World}
end
section
variable {C : Cx} {ops : Array Oper} {K : PS → Prop} {o : Oper} {rest : List Oper} {s : PS} {TT : List (Nat × Ty)} {tm : List (Nat × D)} {rw' : List (Nat × Option (TypeId × Sq))} {bx : List (Nat × Option (List D))} {cr B : List Nat} {j : Nat}
end
end Go.Proofs.Ytcljhpldfanhkaa
namespace Go.Proofs.Ytcljhpldfanhkaa
open Go.RowKit Go.Deep
section
variable {C : Cx} {ops : Array Oper} {K : PS → Prop} {o : Oper} {rest : List Oper} {s : PS} {TT : List (Nat × Ty)} {tm : List (Nat × D)} {rw' : List (Nat × Option (TypeId × Sq))} {bx : List (Nat × Option (List D))}
end
end Go.Proofs.Ytcljhpldfanhkaa
namespace Go.Proofs.Ytcljhpldfanhkaa
open Go.RowKit Go.Deep
section
variable {C : Cx} {ops : Array Oper} {K : PS → Prop} {o : Oper} {rest : List Oper} {s s' : PS} {TT : List (Nat × Ty)} {tm : List (Nat × D)} {rw' : List (Nat × Option (TypeId × Sq))} {bx : List (Nat × Option (List D))}
end
end Go.Proofs.Ytcljhpldfanhkaa
namespace Go.Proofs.Ytcljhpldfanhkaa
open Go.RowKit Go.Deep
end Go.Proofs.Ytcljhpldfanhkaa
namespace Go.Proofs.Ytcljhpldfanhkaa
open Go.RowKit Go.Deep
section
variable {C : Cx} {ops : Array Oper} {K : PS → Prop} {o : Oper} {rest : List Oper} {s : PS} {TT : List (Nat × Ty)} {tm : List (Nat × D)} {rw' : List (Nat × Option (TypeId × Sq))} {bx : List (Nat × Option (List D))} {cr B : List Nat} {j : Nat}
end
end Go.Proofs.Ytcljhpldfanhkaa
namespace Go.Proofs.Ytcljhpldfanhkaa
open Go.RowKit Go.Deep
section
variable {C : Cx} {tm : List (Nat × D)} {rw' : List (Nat × Option (TypeId × Sq))} {bx : List (Nat × Option (List D))} {s' : PS}
end
section
variable {C : Cx} {ops : Array Oper} {K : PS → Prop} {o : Oper} {rest : List Oper} {s : PS} {TT : List (Nat × Ty)} {tm : List (Nat × D)} {rw' : List (Nat × Option (TypeId × Sq))} {bx : List (Nat × Option (List D))}
end
end Go.Proofs.Ytcljhpldfanhkaa
namespace Go.Proofs.Ytcljhpldfanhkaa
open Go.RowKit Go.Deep
section
variable {C : Cx} {ops : Array Oper} {K : PS → Prop} {o : Oper} {rest : List Oper} {TT : List (Nat × Ty)} {tm : List (Nat × D)} {rw' : List (Nat × Option (TypeId × Sq))} {bx : List (Nat × Option (List D))} {cr B : List Nat} {j : Nat}
end
end Go.Proofs.Ytcljhpldfanhkaa
namespace Go.Proofs.Ytcljhpldfanhkaa
open Go.RowKit Go.Deep
section
variable {C : Cx} {o : Oper} {s : PS}
end
end Go.Proofs.Ytcljhpldfanhkaa
namespace Go.Proofs.Ytcljhpldfanhkaa
open Go.RowKit Go.Deep
section
variable {C : Cx} {ops : Array Oper} {K : PS → Prop} {o : Oper} {rest : List Oper} {s : PS} {TT : List (Nat × Ty)} {tm : List (Nat × D)} {rw' : List (Nat × Option (TypeId × Sq))} {bx : List (Nat × Option (List D))} {cr B : List Nat} {j : Nat}
theorem pConvI {src dst : TypeId} {x : Operand} {n : Int} {dsrc : TypeDesc} (hs : C.P.underlying src = some dsrc) (hd : C.P.underlying dst = some (.int .i64)) (hop : o.op = .convert src dst x) (hx : s.ev x = .val (.int .u8 n)) (hn : 0 ≤ n ∧ n < 256) : Pur C o s (.int n) :=
 ⟨fun s1 hs1 M ac w hr' => by
  have h1 := hr'.ev x
  rw [hs1 x (by rw [hop]; simp [Op.operands]), hx] at h1
  have e1 : ac.eval x = .int .u8 n := by generalize ac.eval x = v at h1; cases h1; rfl
  have hw : IntKind.i64.wrap n = n := by
   have h2 : (2 : Int) ^ IntKind.i64.bits = 18446744073709551616 := by decide
   have h3 : (2 : Int) ^ (IntKind.i64.bits - 1) = 9223372036854775808 := by decide
   simp only [IntKind.wrap, h2, h3]
   have h4 : n % 18446744073709551616 = n := by omega
   rw [h4, if_neg]
   simp; intro; omega
  refine ⟨.int .i64 n, ?_, .int _⟩
  have hrun : (convert src dst (ac.eval x)).run C.P w = .ok (.int .i64 n) w := by
   rw [e1]
   cases dsrc <;> simp [convert, Go.run_underlying hs, Go.run_underlying hd, Conv.intToInt, go_sem, hw]
  unfold execOp
  rw [hop]
  show ((do pure (Next.value (← convert src dst (ac.eval x))) : Sem Next)).run C.P w = _
  rw [Sem.run_bind, hrun]; rfl⟩
end
end Go.Proofs.Ytcljhpldfanhkaa
namespace Go.Proofs.Ytcljhpldfanhkaa
open Go.RowKit Go.Deep
section
variable {C : Cx} {ops : Array Oper} {Q : Exit → PS → Prop} {s : PS} {fuel : Nat} {listed : Array Bool}
end
section
variable {C : Cx} {tm : List (Nat × D)} {rw' : List (Nat × Option (TypeId × Sq))} {bx : List (Nat × Option (List D))} {s' : PS}
end
end Go.Proofs.Ytcljhpldfanhkaa
namespace Go.Proofs.Ytcljhpldfanhkaa
open Go.RowKit Go.Deep
section
variable {C : Cx} {ops : Array Oper} {K : PS → Prop} {o : Oper} {rest : List Oper} {s s' : PS} {TT : List (Nat × Ty)} {tm : List (Nat × D)} {rw' : List (Nat × Option (TypeId × Sq))} {bx : List (Nat × Option (List D))} {cr B : List Nat} {j : Nat}
end
end Go.Proofs.Ytcljhpldfanhkaa
namespace Go.Proofs.Ytcljhpldfanhkaa
open Go.RowKit Go.Deep
structure PCallB (P : Program) (f : FuncId) (ds cs : List D) : Prop where
 enter : ∀ args w, (callFunc f args).run P w = .ok (.enter f args) w
 noc : (cs.all fun d => !mentS (fun _ => true) (fun _ => true) d) = true
 run : ∀ w args (A : Bool → Nat → Prop), (∀ k, A true k → A false k) → ArgsM A M0 w ds args → Calls P f args w fun e w' => ∃ k cur et, e = .returned (.pointer (some ⟨k, 0, none⟩)) ∧ w.heap.size ≤ k ∧ w'.heap[k]? = some (.cells cur et (0, 0)) ∧ cs.length = cur.size ∧
  (∀ j d, cs[j]? = some d → VR M0 (fun f b => (A f b ∨ w.heap.size ≤ b) ∧ b ≠ k) w' d (cur.getD j undef)) ∧ w'.os = w.os ∧ w'.tape = w.tape ∧ w'.output = w.output ∧ w.heap.size ≤ w'.heap.size ∧ ∀ i, i < w.heap.size → w'.heap[i]? = w.heap[i]?
section
variable {w0 : World} {O0 : Hd} {n : Nat} {M : Mp} {s : PS} {a : Act} {w w' : World}
theorem Rel.newBoxAt (h : Rel w0 O0 n M s a w) {b k0 : Nat} {cs : List D} {cur : Array Value} {e : TypeId} (hsz : w.heap.size ≤ w'.heap.size) (hblk : ∀ k, k < w.heap.size → w'.heap[k]? = w.heap[k]?) (hos : w'.os = w.os) (htp : w'.tape = w.tape) (hout : w'.output = w.output) (hk0 : w.heap.size ≤ k0) (hcell : w'.heap[k0]? = some (.cells cur e (0, 0)))
  (hf : Fresh s (fun x => Nat.beq x b) (fun _ => false)) (hl : cs.length = cur.size) (hc : ∀ j d, cs[j]? = some d → VR M0 (fun f k => (Ow (Fs w0 O0) M f k ∨ w.heap.size ≤ k) ∧ k ≠ k0) w' d (cur.getD j undef)) (hm : ∀ d ∈ cs, mentS (fun _ => true) (fun _ => true) d = false) (hlo : b < 1000000) :
  ∃ M', Rel w0 O0 n M' (s.addBox b cs) a w' ∧ M'.β b = some k0 := by
 let M' : Mp := ⟨fun x => if x = b then some k0 else M.β x, M.γ⟩
 have hown : ∀ k, M'.owned k → M.owned k ∨ k = k0 := by
  rintro k (⟨x, hx⟩ | ⟨r, c, z, hr⟩)
  ·simp only [M'] at hx
   split at hx
   ·cases hx; exact .inr rfl
   ·exact .inl (.inl ⟨x, hx⟩)
  ·exact .inl (.inr ⟨r, c, z, hr⟩)
 have hA : ∀ f k, k < w.heap.size → Ow (Fs w0 O0) M f k → Ow (Fs w0 O0) M' f k ∧ k < w'.heap.size ∧ w'.heap[k]? = w.heap[k]? := fun f k h1 h2 =>
  ⟨⟨fun h3 => by rcases hown k h3 with h4 | h4; exact h2.1 h4; omega, h2.2⟩, by omega, hblk k h1⟩
 have hA1 : ∀ f k, k < w'.heap.size → ((Ow (Fs w0 O0) M f k ∨ w.heap.size ≤ k) ∧ k ≠ k0) → Ow (Fs w0 O0) M' f k ∧ k < w'.heap.size ∧ w'.heap[k]? = w'.heap[k]? := fun f k h1 ⟨h2, h5⟩ => by
  refine ⟨⟨fun h3 => ?_, ?_⟩, h1, rfl⟩
  ·rcases hown k h3 with h4 | h4
   ·rcases h2 with h2 | h2
    ·exact h2.1 h4
    ·have := h.lt k h4; omega
   ·exact h5 h4
  ·rcases h2 with h2 | h2
   ·exact h2.2
   ·exact .inl (Nat.le_trans h.fr.size h2)
 have hβ : ∀ x k, Nat.beq x b = false → M'.β x = some k → M.β x = some k := fun x k h1 h2 => by
  simp only [M'] at h2
  rw [if_neg] at h2
  ·exact h2
  ·intro e; subst e; rw [Nat.beq_refl] at h1; cases h1
 have hγ : ∀ x y, (fun _ => false) x = false → M'.γ x = some y → M.γ x = some y := fun x y _ h => h
 refine ⟨M', ⟨?_, h.dfr, h.sz, fun t => ?_, fun x ds hx => ?_, fun x hx => ?_, fun r e q hr => ?_, fun r hr => h.rown r hr, fun k hk => ?_, fun x x' k h1 h2 => ?_, h.inj2, fun x r k c z h1 h2 => ?_, h.nle, fun x k k' h1 h2 => ?_, h.fxr⟩, by simp [M']⟩
 ·exact h.fr.step hos htp hout hsz fun k h1 _ => hblk k (Nat.lt_of_lt_of_le h1 h.fr.size)
 ·exact VR.new hA hγ hβ (hf.t t) (h.tmp t)
 ·by_cases hxb : b = x
  ·subst hxb
   simp [PS.addBox, PS.b, look_cons_self] at hx
   subst hx
   exact ⟨k0, cur, e, by simp [M'], hcell, hl, fun j d hd => VR.newS (b := fun _ => true) (r := fun _ => true) hA1 (fun x y hx => by cases hx) (fun x y hx => by cases hx) (hm d (List.mem_of_getElem? hd)) (hc j d hd)⟩
  ·have hx' : s.b x = some ds := by simpa [PS.addBox, PS.b, look_cons_ne hxb] using hx
   obtain ⟨k, cur', e', h1, h2, h3, h4⟩ := h.box x ds hx'
   have hlt := (Array.getElem?_eq_some_iff.1 h2).1
   exact ⟨k, cur', e', by simp [M', Ne.symm hxb, h1], (hblk k hlt).trans h2, h3, fun j d hd => VR.newS hA hγ hβ (hf.b _ _ hx' d (List.mem_of_getElem? hd)) (h4 j d hd)⟩
 ·by_cases hxb : b = x
  ·subst hxb; simp [PS.addBox, PS.b, look_cons_self] at hx
  ·have hx' : s.b x = none := by simpa [PS.addBox, PS.b, look_cons_ne hxb] using hx
   simp [M', Ne.symm hxb, h.boxn x hx']
 ·rcases h.row r e q hr with ⟨h1, h2⟩ | ⟨g, cap, cur', h1, h2, h3, h4, h5, h6⟩
  ·exact .inl ⟨h1, h2⟩
  ·have hlt := (Array.getElem?_eq_some_iff.1 h2).1
   exact .inr ⟨g, cap, cur', h1, (hblk g hlt).trans h2, h3, h4, h5, fun i j d hi hd => (h6 i j d hi hd).relem_any hd hA⟩
 ·rcases hown k hk with h1 | rfl
  ·exact h.low k h1
  ·exact .inl (Nat.le_trans h.fr.size hk0)
 ·have hno : ∀ y, M.β y ≠ some k0 := fun y hy => by have := h.lt _ (.inl ⟨y, hy⟩); omega
  simp only [M'] at h1 h2
  split at h1 <;> split at h2
  ·simp_all
  ·cases h1; exact absurd h2 (hno _)
  ·cases h2; exact absurd h1 (hno _)
  ·exact h.inj1 _ _ _ h1 h2
 ·simp only [M'] at h1
  split at h1
  ·cases h1; have := h.lt _ (.inr ⟨r, c, z, h2⟩); omega
  ·exact h.inj3 _ _ _ _ _ h1 h2
 ·have h3 := O0.lob x k h1
  simp only [M'] at h2
  rw [if_neg (by omega)] at h2
  exact h.fxb x k k' h1 h2
end
section
variable {C : Cx} {ops : Array Oper} {K : PS → Prop} {o : Oper} {rest : List Oper} {s s' : PS} {TT : List (Nat × Ty)} {tm : List (Nat × D)} {rw' : List (Nat × Option (TypeId × Sq))} {bx : List (Nat × Option (List D))}
def fitsB (s : PS) : List Operand → List D → Prop
 | [], [] => True
 | x :: xs, d :: ds => s.ev x = d ∧ noIds d = true ∧ fitsB s xs ds
 | _, _ => False
theorem fitsB_get {s : PS} : ∀ {xs : List Operand} {ds : List D}, fitsB s xs ds → xs.length = ds.length ∧ ∀ (i : Nat) (d : D), ds[i]? = some d → ∃ x : Operand, xs[i]? = some x ∧ s.ev x = d ∧ noIds d = true
 | [], [], _ => ⟨rfl, fun i d h => by simp at h⟩
 | x :: xs, d :: ds, h => by
  obtain ⟨h1, h2, h3⟩ := h
  obtain ⟨h4, h5⟩ := fitsB_get h3
  refine ⟨by simp [h4], fun i e hi => ?_⟩
  cases i with
  | zero => simp at hi; subst hi; exact ⟨x, rfl, h1, h2⟩
  | succ i => simp at hi ⊢; exact h5 i e hi
theorem oCallB {f : FuncId} {args : Array Operand} {ts : Array TypeId} {ds cs : List D} (hp : PCallB C.P f ds cs) (hg : o.guard = none) (hop : o.op = .call { callee := .value (.func f), args := args, argTypes := ts }) {b : Nat} (hd : o.dst = some b) (hn : Nat.blt b C.n = true) (hfr : frB ⟨tm, rw', bx⟩ (fun y => Nat.beq y b) noB = true)
  (hfit : fitsB ⟨tm, rw', bx⟩ args.toList ds) (h : VO C ops K rest ⟨(b, .ptr b 0) :: tm, rw', (b, some cs) :: bx⟩) : VO C ops K (o :: rest) ⟨tm, rw', bx⟩ := by
 refine vOp hg ⟨fun M a w Q K' hr hk => ?_⟩
 have hrun : (execOp a.eval o).run C.P w = .ok (.enter f (args.map a.eval)) w := by
  have := hp.enter (args.map a.eval) w
  unfold execOp
  rw [hop]
  show ((do let d ← resolve a.eval _ o.type; invoke d.target d.args : Sem Next)).run C.P w = _
  simp only [resolve]
  show ((callFunc f ((#[] ++ args.map a.eval) ++ #[])) : Sem Next).run C.P w = _
  rw [show (#[] ++ args.map a.eval) ++ #[] = args.map a.eval by simp]
  exact this
 obtain ⟨g1, g2⟩ := fitsB_get hfit
 have hargs : ArgsM (Ow (Fs C.w0 C.O0) M) M0 w ds (args.map a.eval) := by
  refine ⟨by simpa using g1, fun i d hi => ?_⟩
  obtain ⟨x, hx, hev, hno⟩ := g2 i d hi
  have h1 := hr.ev x
  rw [hev] at h1
  have h2 : (args.map a.eval).getD i undef = a.eval x := by
   have : args[i]? = some x := by simpa using hx
   simp [this]
  rw [h2]
  refine VR.new (b := fun _ => true) (r := fun _ => true) (fun f k h1 h2 => ⟨h2, h1, rfl⟩) (fun x y hx => by cases hx) (fun x y hx => by cases hx) ?_ h1
  simpa [noIds] using hno
 unfold Oper.wp
 rw [hrun]
 refine (hp.run w _ (Ow (Fs C.w0 C.O0) M) (fun k hk => ⟨hk.1, hk.2.imp_right (C.O0.mon k)⟩) hargs).mono ?_
 rintro e w' ⟨k, cur, et, rfl, k1, k2, k3, k4, k5, k6, k7, k8, k9⟩
 have hlo : b < 1000000 := by have h1000 := hr.nle; rw [Nat.blt_eq] at hn; omega
 obtain ⟨M', h2, h3⟩ := hr.newBoxAt (b := b) (k0 := k) (cs := cs) k8 k9 k5 k6 k7 k1 k2 (frB_ok hfr) k3 (fun j d hj => k4 j d hj) (fun d hd => by have := (List.all_eq_true.1 hp.noc) d hd; simpa using this) hlo
 refine hk M' _ _ _ h ?_
 rw [hd]
 exact h2.put (o := some b) hn (.ptr _ _ _ rfl fun k hk => by rw [h3] at hk; cases hk; rfl)
end
def RetB (TT : List (Nat × Ty)) (res : List ResultVar) (cs : List D) : Exit → PS → Prop := fun e s => match e with
 | .normal | .ret => ∃ b, retD TT s res = some (.ptr b 0) ∧ s.b b = some cs ∧ Nat.blt b 1000000 = true
 | _ => False
theorem pcallB_intro {P : Program} {f : FuncId} {fn : Func} {c : Code} {TT : List (Nat × Ty)} {ds cs : List D} {n : Nat} {res : List ResultVar} (hT : TTOK P TT) (hf : P.funcs[f]? = some fn) (hb : fn.body = some c)
  (hname : (fn.name == "runtime.NumGoroutine") = false) (hn : fn.ntmps = n) (hres : fn.results.toList = res) (hds : Nat.ble ds.length n = true) (hno : (ds.all noIds) = true) (hnoc : (cs.all fun d => !mentS (fun _ => true) (fun _ => true) d) = true)
  (h : ∀ w0 O0, VC ⟨P, w0, O0, n⟩ c (RetB TT res cs) ⟨entL 0 ds, [], []⟩) (hn1000 : Nat.ble n 1000 = true := by rfl) : PCallB P f ds cs := by
 subst hn hres
 refine ⟨callFunc_of hf hname (by simp [hb]), hnoc, fun w0 args A hmon ⟨hsz, hargs⟩ => ?_⟩
 have hle := Nat.le_of_ble_eq_true hds
 let O0 : Hd := ⟨fun _ => False, fun f k => A f k, fun _ _ h => h.elim, hmon, fun _ => none, fun _ => none, fun _ _ h => (by cases h), fun _ _ h => (by cases h)⟩
 have hM0 : ∀ k, ¬ M0.owned k := by rintro k (⟨x, hx⟩ | ⟨x, c, z, hx⟩) <;> simp at hx
 have hent : Rel w0 O0 fn.ntmps M0 ⟨entL 0 ds, [], []⟩ { tmps := args ++ Array.replicate (fn.ntmps - args.size) undef, defers := [] } w0 := by
  refine ⟨⟨rfl, rfl, rfl, Nat.le_refl _, fun _ _ _ => rfl⟩, rfl, by simp; omega, fun t => ?_, fun b cs hb => by simp [PS.b, look] at hb, fun _ _ => rfl, fun r e q hr => (by rw [r_ent] at hr; cases hr), fun _ _ => rfl, fun k hk => absurd hk (hM0 k), by simp, by simp, by simp, Nat.le_of_ble_eq_true hn1000, fun b k k' h => by simp [O0] at h, fun b k k' h => by simp [O0] at h⟩
  simp only [PS.t, look_entL, Nat.zero_le, if_true, Nat.sub_zero]
  cases hd : ds[t]? with
  | none => exact .dead _
  | some d0 =>
   have hlt : t < args.size := by rw [hsz]; exact (List.getElem?_eq_some_iff.1 hd).1
   have h1 := hargs t d0 hd
   have h2 : (args ++ Array.replicate (fn.ntmps - args.size) undef).getD t undef = args.getD t undef := by
    simp [Array.getElem?_append_left hlt]
   rw [h2]
   exact h1.mono (fun f b h1 h2 => ⟨⟨hM0 b, .inr h2⟩, h1, rfl⟩) (fun _ _ h => h) (fun _ _ h => h)
 refine calls_of_wp hf hb (Code.wp_mono ?_ ((h w0 O0).out M0 _ w0 hent))
 rintro e a' w' ⟨s', M', hq, hr⟩
 have fin : ∀ (hq : ∃ b, retD TT s' fn.results.toList = some (.ptr b 0) ∧ s'.b b = some cs ∧ Nat.blt b 1000000 = true),
   a'.defers = [] ∧ ∃ v, (results fn a'.tmps).run P w' = .ok v w' ∧ ∃ k cur et, Ending.returned v = .returned (.pointer (some ⟨k, 0, none⟩)) ∧ w0.heap.size ≤ k ∧ w'.heap[k]? = some (.cells cur et (0, 0)) ∧ cs.length = cur.size ∧
    (∀ j d, cs[j]? = some d → VR M0 (fun f b => (A f b ∨ w0.heap.size ≤ b) ∧ b ≠ k) w' d (cur.getD j undef)) ∧ w'.os = w0.os ∧ w'.tape = w0.tape ∧ w'.output = w0.output ∧ w0.heap.size ≤ w'.heap.size ∧ ∀ i, i < w0.heap.size → w'.heap[i]? = w0.heap[i]? := by
  rintro ⟨b, h1, h2, h3⟩
  obtain ⟨v, h6, h7⟩ := ret_ok hT hr h1
  obtain ⟨k, cur, et, g1, g2, g3, g4⟩ := hr.box b cs h2
  have hv : v = .pointer (some ⟨k, 0, none⟩) := by
   cases h7 with
   | ptr _ _ _ _ h8 => exact h8 k g1
  refine ⟨hr.dfr, v, h6, k, cur, et, by rw [hv], (hr.low k (.inl ⟨b, g1⟩)).resolve_right (fun h => h), g2, g3, fun j d hj => ?_, hr.fr.os, hr.fr.tape, hr.fr.output, hr.fr.size, fun i hi => hr.fr.block i hi (fun h => h)⟩
  have hmm := (List.all_eq_true.1 hnoc) d (List.mem_of_getElem? hj)
  refine VR.newS (b := fun _ => true) (r := fun _ => true) (fun f i h1 h2 => ⟨⟨?_, fun e => h2.1 (by rw [e]; exact .inl ⟨b, g1⟩)⟩, h1, rfl⟩) (fun x y hx => by cases hx) (fun x y hx => by cases hx) (by simpa using hmm) (g4 j d hj)
  rcases h2.2 with h3 | h3
  ·exact .inr h3
  ·exact .inl h3
 cases e <;> first | exact fin hq | exact hq.elim
end Go.Proofs.Ytcljhpldfanhkaa
namespace Go.Proofs.Ytcljhpldfanhkaa
open Go.RowKit Go.Deep
structure Cur where
 b : List Int
 i : Int
 h : Int
def xorI (a b : Int) : Int := IntKind.i64.wrap ((BitVec.ofInt 64 a ^^^ BitVec.ofInt 64 b).toNat : Int)
section
variable {C : Cx} {ops : Array Oper} {K : PS → Prop} {o : Oper} {rest : List Oper} {s : PS} {tm : List (Nat × D)} {rw' : List (Nat × Option (TypeId × Sq))} {bx : List (Nat × Option (List D))}
theorem pXor {t u : TypeId} {x y : Operand} {a b : Int} (hop : o.op = .binOp .xor t x y u) (hx : s.ev x = .int a) (hy : s.ev y = .int b) : Pur C o s (.int (xorI a b)) :=
 ⟨fun s1 hs M ac w hr' => by
  have h1 := hr'.ev x
  have h2 := hr'.ev y
  rw [hs x (by rw [hop]; simp [Op.operands]), hx] at h1
  rw [hs y (by rw [hop]; simp [Op.operands]), hy] at h2
  have e1 := h1.int_inv
  have e2 := h2.int_inv
  refine ⟨.int .i64 (xorI a b), ?_, .int _⟩
  simp only [execOp, hop, e1, e2]
  simp [eqGuard, binOp, Op.intBits, go_sem, IntKind.bits]
  rfl⟩
theorem pShrU {t u : TypeId} {x y : Operand} {a n : Int} (hop : o.op = .binOp .shr t x y u) (hx : s.ev x = .int a) (hy : s.ev y = .val (.int .u64 n)) (hn : 0 ≤ n) : Pur C o s (.int (shrI a n)) :=
 ⟨fun s1 hs M ac w hr' => by
  have h1 := hr'.ev x
  have h2 := hr'.ev y
  rw [hs x (by rw [hop]; simp [Op.operands]), hx] at h1
  rw [hs y (by rw [hop]; simp [Op.operands]), hy] at h2
  have e1 := h1.int_inv
  have e2 : ac.eval y = .int .u64 n := by generalize ac.eval y = v at h2; cases h2; rfl
  have h4 : ¬ n < 0 := by omega
  refine ⟨.int .i64 (shrI a n), ?_, .int _⟩
  simp only [execOp, hop, e1, e2]
  simp [eqGuard, binOp, Op.shift, go_sem, h4, IntKind.bits]
  rfl⟩
theorem En.zero (r : Nat) (e : TypeId) (q : Sq) (hq : q.len = 0) (hf : frB ⟨tm, rw', bx⟩ noB (isR r) = true) (hr : Nat.blt r 1000000 = true := by rfl) : En C ⟨tm, rw', bx⟩ ⟨tm, (r, some (e, q)) :: rw', bx⟩ := ⟨fun M a w h => by
 rw [Nat.blt_eq] at hr
 obtain ⟨M', h1, _⟩ := h.nilRow (r := r) (e := e) (q := q) hq (frB_ok hf) hr
 exact ⟨M', h1⟩⟩
end
end Go.Proofs.Ytcljhpldfanhkaa
namespace Go.Proofs.Ytcljhpldfanhkaa
open Go.RowKit
end Go.Proofs.Ytcljhpldfanhkaa
namespace Go.Proofs.Ytcljhpldfanhkaa
open Go.RowKit
end Go.Proofs.Ytcljhpldfanhkaa
namespace Go.Proofs.Ytcljhpldfanhkaa
open Go.RowKit Go.Deep
end Go.Proofs.Ytcljhpldfanhkaa
namespace Go.Proofs.Ytcljhpldfanhkaa
open Go.RowKit
def S_l3Set_l1 (N : Nat) (n_0 : Int) (mask_1 : Int) (k : (List Int) → Option (List Int)) : Nat → ((List Int) × Int) → Option (List Int)
 | 0, _ => none
 | n + 1, (l5, i6) =>
  cnd (decide (i6 < n_0)) (
   grd (0 ≤ i6) <|
   cnd ((andI (shrI mask_1 i6) (1 : Int)) == (1 : Int)) (
    grd (l5.length + 1 ≤ 4294967296) <|
    grd (Rg64 (i6 + (1 : Int))) <|
    S_l3Set_l1 N n_0 mask_1 k n ((l5 ++ ([i6] : List Int)), (i6 + (1 : Int)))) (
    grd (Rg64 (i6 + (1 : Int))) <|
    S_l3Set_l1 N n_0 mask_1 k n (l5, (i6 + (1 : Int))))) (
   k l5)
def S_l3Set (N : Nat) (n_0 : Int) (mask_1 : Int) : Option (List Int) :=
 S_l3Set_l1 N n_0 mask_1 (fun (l3 : List Int) =>
    some l3) N (([] : List Int), (0 : Int))
set_option maxRecDepth 20000 in
set_option maxHeartbeats 1600000 in
theorem S_l3Set_w (N : Nat) (n_0 : Int) (mask_1 : Int) (r : List Int) (h : S_l3Set N n_0 mask_1 = some r) : PCall Try.prog 197 [.int n_0, .int mask_1] [(3, .ints r)] (.row 0 0 r.length) := by
 unfold S_l3Set at h
 refine pcall_intro (TT := TT) tt Try.func197 rfl rfl Try.ntmps197 (congrArg Array.toList Try.results197) rfl rfl fun w0 => ?_
 refine vSeq ?_
 refine vRegion ?_
 refine oVal tt rfl rfl rfl rfl rfl trivial ?_
 refine vNil ?_
 change VC _ _ _ _
 refine vSeq ?_
 refine vRegion ?_
 refine oEmpty tt (wNone rfl) rfl rfl rfl rfl ?_
 refine oVal tt rfl rfl rfl rfl rfl trivial ?_
 refine vNil ?_
 change VC _ _ _ _
 iterate 2 refine vSeq ?_
 refine vRegion ?_
 refine oVal tt rfl rfl rfl rfl rfl trivial ?_
 refine vNil ?_
 change VC _ _ _ _
 refine vJoin (F := fun k => S_l3Set_l1 N n_0 mask_1 k) h (α := List Int) (J := fun (l3 : List Int) => (⟨[(5, .row 21 0 l3.length)], [(21, some (3, .ints l3))], []⟩ : PS)) ?_ ?_
 ·rintro l3 h
  show VC _ _ _ (⟨[(5, .row 21 0 l3.length)], [(21, some (3, .ints l3))], []⟩ : PS)
  refine vSeq ?_
  refine vRegion ?_
  iterate 2 refine oVal tt rfl rfl rfl rfl rfl trivial ?_
  refine vNil ?_
  change VC _ _ _ _
  refine vRet ?_
  change ∃ _, _
  cases h
  exact ⟨[21], _, rfl, ⟨rfl, trivial⟩, rfl, (.eq rfl), rfl⟩
 ·intro k h
  refine vBlock ?_
  refine vNilT 5 21 3 (.ints []) rfl rfl rfl rfl ?_
  refine vLoopS (α := (List Int) × Int) (fun | (l5, i6) => (⟨[(0, .int n_0), (1, .int mask_1), (5, .row 21 0 l5.length), (6, .int i6)], [(21, some (3, .ints l5))], []⟩ : PS)) (S_l3Set_l1 N n_0 mask_1 k) h (En.of ⟨rfl, rfl, rfl, rfl, trivial⟩ ⟨rfl, trivial⟩ trivial) (fun _ => rfl) ?_
  rintro n ⟨l5, i6⟩ h
  rw [S_l3Set_l1] at h
  show VC _ _ _ (⟨[(0, .int n_0), (1, .int mask_1), (5, .row 21 0 l5.length), (6, .int i6)], [(21, some (3, .ints l5))], []⟩ : PS)
  iterate 2 refine vSeq ?_
  refine vRegion ?_
  iterate 3 refine oVal tt rfl rfl rfl rfl rfl trivial ?_
  refine vNil ?_
  change VC _ _ _ _
  refine vCond rfl (fun hb1 => ?_) (fun hb1 => ?_)
  ·replace h := cnd_t hb1 h
   refine vSkip ?_
   change VC _ _ _ _
   refine vSeq ?_
   refine vBlock ?_
   refine vSeq ?_
   refine vRegion ?_
   iterate 2 refine oVal tt rfl rfl rfl rfl rfl trivial ?_
   obtain ⟨hg2, h⟩ := grd_inv h
   refine oVal tt rfl rfl rfl rfl rfl hg2 ?_
   iterate 2 refine oVal tt rfl rfl rfl rfl rfl trivial ?_
   refine vNil ?_
   change VC _ _ _ _
   refine vCond rfl (fun hb3 => ?_) (fun hb3 => ?_)
   ·replace h := cnd_t hb3 h
    refine vRegion ?_
    iterate 2 refine oVal tt rfl rfl rfl rfl rfl trivial ?_
    refine oBuild tt rfl rfl rfl rfl rfl rfl rfl rfl rfl rfl rfl ?_
    obtain ⟨hg4, h⟩ := grd_inv h
    refine oAppend tt rfl rfl rfl rfl rfl rfl rfl rfl rfl rfl rfl rfl rfl rfl rfl rfl (Nat.le_of_eq (Nat.zero_add _)) hg4 ?_
    refine oVal tt rfl rfl rfl rfl rfl trivial ?_
    refine vNil ?_
    change VC _ _ _ _
    refine vRegion ?_
    refine oVal tt rfl rfl rfl rfl rfl trivial ?_
    obtain ⟨hg5, h⟩ := grd_inv h
    refine oVal tt rfl rfl rfl rfl rfl hg5 ?_
    refine oVal tt rfl rfl rfl rfl rfl trivial ?_
    refine vNil ?_
    change ∃ _, _
    exact ⟨((l5 ++ ([i6] : List Int)), (i6 + (1 : Int))), (En.of ⟨rfl, rfl, rfl, rfl, trivial⟩ ⟨rfl, trivial⟩ trivial), h⟩
   ·replace h := cnd_f hb3 h
    refine vSkip ?_
    change VC _ _ _ _
    refine vRegion ?_
    refine oVal tt rfl rfl rfl rfl rfl trivial ?_
    obtain ⟨hg6, h⟩ := grd_inv h
    refine oVal tt rfl rfl rfl rfl rfl hg6 ?_
    refine oVal tt rfl rfl rfl rfl rfl trivial ?_
    refine vNil ?_
    change ∃ _, _
    exact ⟨(l5, (i6 + (1 : Int))), (En.of ⟨rfl, rfl, rfl, rfl, trivial⟩ ⟨rfl, trivial⟩ trivial), h⟩
  ·replace h := cnd_f hb1 h
   refine vExit ?_
   change ∃ _, _
   exact ⟨l5, (En.of ⟨rfl, trivial⟩ ⟨rfl, trivial⟩ trivial), h⟩
end Go.Proofs.Ytcljhpldfanhkaa
