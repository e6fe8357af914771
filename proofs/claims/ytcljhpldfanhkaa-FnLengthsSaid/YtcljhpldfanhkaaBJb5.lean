/- Texts that the proof needs, put together: G122 Ed Da Pm Pp Pq Pr Pw Ps Qs Db M22 G12 G22 G3 G64 G65 G123 G41 G44 G48 G124. -/
import Derived.Test.YtcljhpldfanhkaaBJb3
import Derived.Test.YtcljhpldfanhkaaBJb4
set_option linter.unusedVariables false
set_option linter.unusedSimpArgs false
namespace Go.Proofs.Ytcljhpldfanhkaa
open Go.RowKit
def S_l6Third (N : Nat) (c_0 : Cur) (n_1 : Int) (x_2 : Int × Int) (other_3 : Int) : Option (Int × Int × Int) :=
 (S_l1Below N c_0 n_1).bind fun v1 =>
 cnd (v1.1 == x_2.1) (
  some (other_3, v1.2.1, v1.2.2)) (
  cnd (v1.1 == x_2.2) (
   some (other_3, v1.2.1, v1.2.2)) (
   some (v1.1, v1.2.1, v1.2.2)))
set_option maxRecDepth 20000 in
set_option maxHeartbeats 1600000 in
theorem S_l6Third_w (N : Nat) (c_0 : Cur) (n_1 : Int) (x_2 : Int × Int) (other_3 : Int) (r : Int × Int × Int) (h : S_l6Third N c_0 n_1 x_2 other_3 = some r) : MCall Try.prog 209 [.ptr 1000000 0, .int n_1, .agg [.int x_2.1, .int x_2.2], .int other_3] [] [1000000] [] [] [[.ro false (.bytes c_0.b), .int c_0.i, .int c_0.h]] [[.ro false (.bytes c_0.b), .int r.2.1, .int r.2.2]] (.int r.1) := by
 unfold S_l6Third at h
 refine mcall_intro (TT := TT) tt Try.func209 rfl rfl Try.ntmps209 (congrArg Array.toList Try.results209) rfl rfl rfl rfl rfl fun w0 O0 => ?_
 refine vSeq ?_
 refine vRegion ?_
 refine oBox rfl rfl rfl rfl rfl rfl rfl rfl rfl ?_
 refine oVal tt rfl rfl rfl rfl rfl trivial ?_
 refine vNil ?_
 change VC _ _ _ _
 refine vSeq ?_
 refine vRegion ?_
 iterate 2 refine oVal tt rfl rfl rfl rfl rfl trivial ?_
 obtain ⟨v1, hc1, h⟩ := bind_inv h
 refine oMCall (S_l1Below_w N c_0 n_1 v1 hc1) [] [1000000] [] rfl rfl rfl rfl rfl rfl trivial ⟨rfl, trivial⟩ ⟨⟨rfl, rfl⟩, ⟨rfl, rfl⟩, trivial⟩ ?_
 refine oVal tt rfl rfl rfl rfl rfl trivial ?_
 refine vNil ?_
 change VC _ _ _ _
 iterate 2 refine vSeq ?_
 refine vRegion ?_
 iterate 5 refine oVal tt rfl rfl rfl rfl rfl trivial ?_
 refine oSplit rfl rfl rfl (fun hb2 => ?_) (fun hb2 => ?_)
 ·replace h := cnd_t hb2 h
  iterate 4 refine oNoF rfl rfl rfl rfl hb2 rfl rfl ?_
  refine oPick rfl rfl rfl rfl rfl hb2 rfl ?_
  refine vNil ?_
  change VC _ _ _ _
  refine vCondT rfl rfl ?_
  refine vSeq ?_
  refine vRegion ?_
  iterate 2 refine oVal tt rfl rfl rfl rfl rfl trivial ?_
  refine vNil ?_
  change VC _ _ _ _
  refine vRet ?_
  change ∃ _, _
  cases h
  exact ⟨[], rfl, trivial, ⟨rfl, trivial⟩, rfl⟩
 ·replace h := cnd_f hb2 h
  iterate 4 refine oValG tt rfl rfl rfl rfl rfl hb2 rfl rfl rfl trivial ?_
  refine oPickF rfl rfl rfl rfl rfl hb2 rfl ?_
  refine vNil ?_
  change VC _ _ _ _
  refine vCond rfl (fun hb3 => ?_) (fun hb3 => ?_)
  ·replace h := cnd_t hb3 h
   refine vSeq ?_
   refine vRegion ?_
   iterate 2 refine oVal tt rfl rfl rfl rfl rfl trivial ?_
   refine vNil ?_
   change VC _ _ _ _
   refine vRet ?_
   change ∃ _, _
   cases h
   exact ⟨[], rfl, trivial, ⟨rfl, trivial⟩, rfl⟩
  ·replace h := cnd_f hb3 h
   refine vSkip ?_
   change VC _ _ _ _
   refine vSeq ?_
   refine vRegion ?_
   iterate 2 refine oVal tt rfl rfl rfl rfl rfl trivial ?_
   refine vNil ?_
   change VC _ _ _ _
   refine vRet ?_
   change ∃ _, _
   cases h
   exact ⟨[], rfl, trivial, ⟨rfl, trivial⟩, rfl⟩
def S_l6Laman_l2 (N : Nat) (l80 : List (Int × Int)) (v105 : Int × Int × Int) (k : Int → Option (Grf × Int × Int)) : Nat → Int → Option (Grf × Int × Int)
 | 0, _ => none
 | n + 1, w114 =>
  cnd (w114 == ((l80.getD ((v105.1).toNat) (0, 0)).1)) (
   grd (Rg64 (w114 + (1 : Int))) <|
   S_l6Laman_l2 N l80 v105 k n (w114 + (1 : Int))) (
   cnd (w114 == ((l80.getD ((v105.1).toNat) (0, 0)).2)) (
    grd (Rg64 (w114 + (1 : Int))) <|
    S_l6Laman_l2 N l80 v105 k n (w114 + (1 : Int))) (
    k w114))
def S_l6Laman_l1 (N : Nat) (c_0 : Cur) (n_1 : Int) (k : ((List (Int × Int)) × Int × Int × Int) → Option (Grf × Int × Int)) : Nat → ((List (Int × Int)) × Int × Int × Int × Int) → Option (Grf × Int × Int)
 | 0, _ => none
 | n + 1, (l80, v81, c82, c83, c84) =>
  cnd (decide (v81 < n_1)) (
   (S_l1Below N (⟨c_0.b, c82, c83⟩ : Cur) v81).bind fun v102 =>
   grd (Rg64 (v102.1 + (1 : Int))) <|
   grd (Rg64 (v81 - (1 : Int))) <|
   (S_l1Below N (⟨c_0.b, v102.2.1, v102.2.2⟩ : Cur) (v81 - (1 : Int))).bind fun v103 =>
   grd (Rg64 ((v102.1 + (1 : Int)) + v103.1)) <|
   grd (v81 ≠ 0) <|
   (S_l1Once N (⟨c_0.b, v103.2.1, v103.2.2⟩ : Cur) (2 : Int)).bind fun v104 =>
   cnd v104.1 (
    cnd (decide (v81 > (2 : Int))) (
     (S_l1Below N (⟨c_0.b, v104.2.1, v104.2.2⟩ : Cur) (l80.length : Int)).bind fun v105 =>
     grd (0 ≤ v105.1 ∧ v105.1 < (l80.length : Int)) <|
     S_l6Laman_l2 N l80 v105 (fun (w107 : Int) =>
        (S_l6Third N (⟨c_0.b, v105.2.1, v105.2.2⟩ : Cur) v81 ((l80.getD ((v105.1).toNat) (0, 0)).1, (l80.getD ((v105.1).toNat) (0, 0)).2) w107).bind fun v108 =>
        (S_RemoveBar N (⟨c84, l80⟩ : Grf) v105.1).bind fun v109 =>
        (S_l2Put N v109.1 ((l80.getD ((v105.1).toNat) (0, 0)).1, v81)).bind fun v110 =>
        (S_l2Put N v110 ((l80.getD ((v105.1).toNat) (0, 0)).2, v81)).bind fun v111 =>
        (S_l2Put N v111 (v108.1, v81)).bind fun v112 =>
        grd (Rg64 (v81 + (1 : Int))) <|
        S_l6Laman_l1 N c_0 n_1 k n (v112.bars, (v81 + (1 : Int)), v108.2.1, v108.2.2, v112.n)) N (0 : Int)) (
     (S_l2Put N (⟨c84, l80⟩ : Grf) (v102.1, v81)).bind fun v115 =>
     (S_l2Put N v115 ((Int.tmod ((v102.1 + (1 : Int)) + v103.1) v81), v81)).bind fun v116 =>
     grd (Rg64 (v81 + (1 : Int))) <|
     S_l6Laman_l1 N c_0 n_1 k n (v116.bars, (v81 + (1 : Int)), v104.2.1, v104.2.2, v116.n))) (
    (S_l2Put N (⟨c84, l80⟩ : Grf) (v102.1, v81)).bind fun v117 =>
    (S_l2Put N v117 ((Int.tmod ((v102.1 + (1 : Int)) + v103.1) v81), v81)).bind fun v118 =>
    grd (Rg64 (v81 + (1 : Int))) <|
    S_l6Laman_l1 N c_0 n_1 k n (v118.bars, (v81 + (1 : Int)), v104.2.1, v104.2.2, v118.n))) (
   k (l80, c82, c83, c84))
def S_l6Laman (N : Nat) (c_0 : Cur) (n_1 : Int) : Option (Grf × Int × Int) :=
 cnd (decide (n_1 < (2 : Int))) (
  some ((⟨n_1, ([] : List (Int × Int))⟩ : Grf), c_0.i, c_0.h)) (
  (S_l2Put N (⟨n_1, ([] : List (Int × Int))⟩ : Grf) ((0 : Int), (1 : Int))).bind fun v1 =>
  S_l6Laman_l1 N c_0 n_1 (fun (x : (List (Int × Int)) × Int × Int × Int) =>
    match x with
    | (l58, c59, c60, c61) =>
     some ((⟨c61, l58⟩ : Grf), c59, c60)) N (v1.bars, (2 : Int), c_0.i, c_0.h, v1.n))
set_option maxRecDepth 20000 in
set_option maxHeartbeats 1600000 in
theorem S_l6Laman_w (N : Nat) (c_0 : Cur) (n_1 : Int) (r : Grf × Int × Int) (h : S_l6Laman N c_0 n_1 = some r) : MCall Try.prog 200 [.ptr 1000000 0, .int n_1] [900101] [1000000] [(111, .pairs [])] [(111, .pairs r.1.bars)] [[.ro false (.bytes c_0.b), .int c_0.i, .int c_0.h]] [[.ro false (.bytes c_0.b), .int r.2.1, .int r.2.2]] (.agg [.int r.1.n, .row 900101 0 r.1.bars.length]) := by
 unfold S_l6Laman at h
 refine mcall_intro (TT := TT) tt Try.func200 rfl rfl Try.ntmps200 (congrArg Array.toList Try.results200) rfl rfl rfl rfl rfl fun w0 O0 => ?_
 refine vSeq ?_
 refine vRegion ?_
 refine oAlloc tt rfl rfl rfl rfl rfl rfl rfl rfl rfl ?_
 refine vNil ?_
 change VC _ _ _ _
 refine vSeq ?_
 refine vRegion ?_
 refine oVal tt rfl rfl rfl rfl rfl trivial ?_
 refine oEmpty tt (wNone rfl) rfl rfl rfl rfl ?_
 refine oPure (wNone rfl) (pBuild bld_impl_Graph rfl rfl) rfl rfl ?_
 refine oAlloc tt rfl rfl rfl rfl rfl rfl rfl rfl rfl ?_
 refine oStore tt rfl rfl rfl rfl rfl rfl rfl rfl rfl rfl rfl ⟨trivial, trivial, trivial⟩ ?_
 refine vNil ?_
 change VC _ _ _ _
 iterate 2 refine vSeq ?_
 refine vRegion ?_
 iterate 2 refine oVal tt rfl rfl rfl rfl rfl trivial ?_
 refine vNil ?_
 change VC _ _ _ _
 refine vCond rfl (fun hb1 => ?_) (fun hb1 => ?_)
 ·replace h := cnd_t hb1 h
  refine vSeq ?_
  refine vRegion ?_
  refine oVal tt rfl rfl rfl rfl rfl trivial ?_
  refine oStore tt rfl rfl rfl rfl rfl rfl rfl rfl rfl rfl rfl ⟨trivial, trivial, trivial⟩ ?_
  refine vNil ?_
  change VC _ _ _ _
  refine vNilB 4 1 9001 111 (.pairs []) rfl rfl rfl rfl rfl ?_
  refine vRet ?_
  change ∃ _, _
  cases h
  exact ⟨[9001], rfl, ⟨rfl, trivial⟩, ⟨rfl, trivial⟩, rfl⟩
 ·replace h := cnd_f hb1 h
  refine vSkip ?_
  change VC _ _ _ _
  refine vSeq ?_
  refine vRegion ?_
  refine oVal tt rfl rfl rfl rfl rfl trivial ?_
  refine oPure (wNone rfl) (pBuild bld_impl_Bar rfl rfl) rfl rfl ?_
  obtain ⟨v1, hc2, h⟩ := bind_inv h
  refine oCall (S_l2Put_w N (⟨n_1, ([] : List (Int × Int))⟩ : Grf) ((0 : Int), (1 : Int)) v1 hc2) rfl rfl rfl rfl rfl rfl rfl rfl ⟨⟨rfl, rfl, trivial⟩, ⟨rfl, rfl, trivial⟩, trivial⟩ ?_
  refine oStore tt rfl rfl rfl rfl rfl rfl rfl rfl rfl rfl rfl ⟨trivial, trivial, trivial⟩ ?_
  refine vNil ?_
  change VC _ _ _ _
  iterate 2 refine vSeq ?_
  refine vRegion ?_
  refine oVal tt rfl rfl rfl rfl rfl trivial ?_
  refine vNil ?_
  change VC _ _ _ _
  refine vJoin (F := fun k => S_l6Laman_l1 N c_0 n_1 k) h (α := (List (Int × Int)) × Int × Int × Int) (J := fun | (l58, c59, c60, c61) => (⟨[(4, .ptr 4 0), (5, .ptr 5 0)], [(1200, some (111, .pairs l58))], [(1000000, some [.ro false (.bytes c_0.b), .int c59, .int c60]), (4, some [.int (0 : Int), .nil]), (5, some [.int c61, .row 1200 0 l58.length])]⟩ : PS)) ?_ ?_
  ·rintro ⟨l58, c59, c60, c61⟩ h
   show VC _ _ _ (⟨[(4, .ptr 4 0), (5, .ptr 5 0)], [(1200, some (111, .pairs l58))], [(1000000, some [.ro false (.bytes c_0.b), .int c59, .int c60]), (4, some [.int (0 : Int), .nil]), (5, some [.int c61, .row 1200 0 l58.length])]⟩ : PS)
   refine vSeq ?_
   refine vRegion ?_
   refine oVal tt rfl rfl rfl rfl rfl trivial ?_
   refine oStore tt rfl rfl rfl rfl rfl rfl rfl rfl rfl rfl rfl ⟨trivial, trivial, trivial⟩ ?_
   refine vNil ?_
   change VC _ _ _ _
   refine vRet ?_
   change ∃ _, _
   cases h
   exact ⟨[1200], rfl, ⟨rfl, trivial⟩, ⟨rfl, trivial⟩, rfl⟩
  ·intro k h
   refine vBlock ?_
   refine vLoopS (α := (List (Int × Int)) × Int × Int × Int × Int) (fun | (l80, v81, c82, c83, c84) => (⟨[(0, .ptr 1000000 0), (1, .int n_1), (4, .ptr 4 0), (5, .ptr 5 0), (6, .int v81)], [(1200, some (111, .pairs l80))], [(1000000, some [.ro false (.bytes c_0.b), .int c82, .int c83]), (4, some [.int (0 : Int), .nil]), (5, some [.int c84, .row 1200 0 l80.length])]⟩ : PS)) (S_l6Laman_l1 N c_0 n_1 k) h (En.of ⟨rfl, rfl, rfl, rfl, rfl, trivial⟩ ⟨rfl, trivial⟩ ⟨rfl, rfl, rfl, trivial⟩) (fun _ => rfl) ?_
   rintro n ⟨l80, v81, c82, c83, c84⟩ h
   rw [S_l6Laman_l1] at h
   show VC _ _ _ (⟨[(0, .ptr 1000000 0), (1, .int n_1), (4, .ptr 4 0), (5, .ptr 5 0), (6, .int v81)], [(1200, some (111, .pairs l80))], [(1000000, some [.ro false (.bytes c_0.b), .int c82, .int c83]), (4, some [.int (0 : Int), .nil]), (5, some [.int c84, .row 1200 0 l80.length])]⟩ : PS)
   iterate 2 refine vSeq ?_
   refine vRegion ?_
   iterate 3 refine oVal tt rfl rfl rfl rfl rfl trivial ?_
   refine vNil ?_
   change VC _ _ _ _
   refine vCond rfl (fun hb3 => ?_) (fun hb3 => ?_)
   ·replace h := cnd_t hb3 h
    refine vSkip ?_
    change VC _ _ _ _
    refine vSeq ?_
    refine vBlock ?_
    refine vSeq ?_
    refine vRegion ?_
    iterate 2 refine oVal tt rfl rfl rfl rfl rfl trivial ?_
    obtain ⟨v102, hc4, h⟩ := bind_inv h
    refine oMCall (S_l1Below_w N (⟨c_0.b, c82, c83⟩ : Cur) v81 v102 hc4) [] [1000000] [] rfl rfl rfl rfl rfl rfl trivial ⟨rfl, trivial⟩ ⟨⟨rfl, rfl⟩, ⟨rfl, rfl⟩, trivial⟩ ?_
    refine oVal tt rfl rfl rfl rfl rfl trivial ?_
    refine vNil ?_
    change VC _ _ _ _
    refine vSeq ?_
    refine vRegion ?_
    refine oVal tt rfl rfl rfl rfl rfl trivial ?_
    obtain ⟨hg5, h⟩ := grd_inv h
    refine oVal tt rfl rfl rfl rfl rfl hg5 ?_
    iterate 2 refine oVal tt rfl rfl rfl rfl rfl trivial ?_
    obtain ⟨hg6, h⟩ := grd_inv h
    refine oVal tt rfl rfl rfl rfl rfl hg6 ?_
    obtain ⟨v103, hc7, h⟩ := bind_inv h
    refine oMCall (S_l1Below_w N (⟨c_0.b, v102.2.1, v102.2.2⟩ : Cur) (v81 - (1 : Int)) v103 hc7) [] [1000000] [] rfl rfl rfl rfl rfl rfl trivial ⟨rfl, trivial⟩ ⟨⟨rfl, rfl⟩, ⟨rfl, rfl⟩, trivial⟩ ?_
    obtain ⟨hg8, h⟩ := grd_inv h
    refine oVal tt rfl rfl rfl rfl rfl hg8 ?_
    refine oVal tt rfl rfl rfl rfl rfl trivial ?_
    obtain ⟨hg9, h⟩ := grd_inv h
    refine oVal tt rfl rfl rfl rfl rfl hg9 ?_
    refine oVal tt rfl rfl rfl rfl rfl trivial ?_
    refine vNil ?_
    change VC _ _ _ _
    refine vSeq ?_
    refine vRegion ?_
    refine oVal tt rfl rfl rfl rfl rfl trivial ?_
    obtain ⟨v104, hc10, h⟩ := bind_inv h
    refine oMCall (S_l1Once_w N (⟨c_0.b, v103.2.1, v103.2.2⟩ : Cur) (2 : Int) v104 hc10) [] [1000000] [] rfl rfl rfl rfl rfl rfl trivial ⟨rfl, trivial⟩ ⟨⟨rfl, rfl⟩, ⟨rfl, rfl⟩, trivial⟩ ?_
    refine oVal tt rfl rfl rfl rfl rfl trivial ?_
    refine oSplit rfl rfl rfl (fun hb11 => ?_) (fun hb11 => ?_)
    ·replace h := cnd_t hb11 h
     iterate 2 refine oValG tt rfl rfl rfl rfl rfl hb11 rfl rfl rfl trivial ?_
     refine oPick rfl rfl rfl rfl rfl hb11 rfl ?_
     refine vNil ?_
     change VC _ _ _ _
     refine vCond rfl (fun hb12 => ?_) (fun hb12 => ?_)
     ·replace h := cnd_t hb12 h
      refine vSeq ?_
      refine vRegion ?_
      iterate 4 refine oVal tt rfl rfl rfl rfl rfl trivial ?_
      obtain ⟨v105, hc13, h⟩ := bind_inv h
      refine oMCall (S_l1Below_w N (⟨c_0.b, v104.2.1, v104.2.2⟩ : Cur) (l80.length : Int) v105 hc13) [] [1000000] [] rfl rfl rfl rfl rfl rfl trivial ⟨rfl, trivial⟩ ⟨⟨rfl, rfl⟩, ⟨rfl, rfl⟩, trivial⟩ ?_
      refine oVal tt rfl rfl rfl rfl rfl trivial ?_
      refine vNil ?_
      change VC _ _ _ _
      refine vSeq ?_
      refine vRegion ?_
      iterate 3 refine oVal tt rfl rfl rfl rfl rfl trivial ?_
      obtain ⟨hg14, h⟩ := grd_inv h
      iterate 2 refine oVal tt rfl rfl rfl rfl rfl hg14 ?_
      refine oAlloc tt rfl rfl rfl rfl rfl rfl rfl rfl rfl ?_
      refine oStore tt rfl rfl rfl rfl rfl rfl rfl rfl rfl rfl rfl ⟨trivial, trivial, trivial⟩ ?_
      refine vNil ?_
      change VC _ _ _ _
      refine vSeq ?_
      refine vRegion ?_
      refine oVal tt rfl rfl rfl rfl rfl trivial ?_
      refine vNil ?_
      change VC _ _ _ _
      refine vSeq ?_
      refine vJoin (F := fun k => S_l6Laman_l2 N l80 v105 k) h (α := Int) (J := fun (w107 : Int) => (⟨[(0, .ptr 1000000 0), (1, .int n_1), (4, .ptr 4 0), (5, .ptr 5 0), (6, .int v81), (9, .int v105.1), (10, .ptr 10 0), (11, .int w107)], [(1200, some (111, .pairs l80))], [(1000000, some [.ro false (.bytes c_0.b), .int v105.2.1, .int v105.2.2]), (4, some [.int (0 : Int), .nil]), (5, some [.int c84, .row 1200 0 l80.length]), (10, some [.int ((l80.getD ((v105.1).toNat) (0, 0)).1), .int ((l80.getD ((v105.1).toNat) (0, 0)).2)])]⟩ : PS)) ?_ ?_
      ·rintro w107 h
       show VC _ _ _ (⟨[(0, .ptr 1000000 0), (1, .int n_1), (4, .ptr 4 0), (5, .ptr 5 0), (6, .int v81), (9, .int v105.1), (10, .ptr 10 0), (11, .int w107)], [(1200, some (111, .pairs l80))], [(1000000, some [.ro false (.bytes c_0.b), .int v105.2.1, .int v105.2.2]), (4, some [.int (0 : Int), .nil]), (5, some [.int c84, .row 1200 0 l80.length]), (10, some [.int ((l80.getD ((v105.1).toNat) (0, 0)).1), .int ((l80.getD ((v105.1).toNat) (0, 0)).2)])]⟩ : PS)
       refine vSeq ?_
       refine vRegion ?_
       iterate 4 refine oVal tt rfl rfl rfl rfl rfl trivial ?_
       obtain ⟨v108, hc15, h⟩ := bind_inv h
       refine oMCall (S_l6Third_w N (⟨c_0.b, v105.2.1, v105.2.2⟩ : Cur) v81 ((l80.getD ((v105.1).toNat) (0, 0)).1, (l80.getD ((v105.1).toNat) (0, 0)).2) w107 v108 hc15) [] [1000000] [] rfl rfl rfl rfl rfl rfl trivial ⟨rfl, trivial⟩ ⟨⟨rfl, rfl⟩, ⟨rfl, rfl⟩, ⟨⟨rfl, rfl⟩, ⟨rfl, rfl⟩, trivial⟩, ⟨rfl, rfl⟩, trivial⟩ ?_
       refine oVal tt rfl rfl rfl rfl rfl trivial ?_
       refine vNil ?_
       change VC _ _ _ _
       refine vSeq ?_
       refine vRegion ?_
       iterate 2 refine oVal tt rfl rfl rfl rfl rfl trivial ?_
       obtain ⟨v109, hc16, h⟩ := bind_inv h
       refine oCall (S_RemoveBar_w N (⟨c84, l80⟩ : Grf) v105.1 v109 hc16) rfl rfl rfl rfl rfl rfl rfl rfl ⟨⟨rfl, (.inl ⟨rfl, rfl⟩), trivial⟩, rfl, trivial⟩ ?_
       iterate 3 refine oVal tt rfl rfl rfl rfl rfl trivial ?_
       refine oStore tt rfl rfl rfl rfl rfl rfl rfl rfl rfl rfl rfl ⟨trivial, trivial, trivial⟩ ?_
       refine vNil ?_
       change VC _ _ _ _
       refine vRegionN 14 [5, 10] [0, 0, 2, 0, 14, 31, 0, 64, 0, 448, 1023, 0, 0, 6144, 16383, 32767] (by kernel_rfl) (by kernel_rfl) (by kernel_rfl) (by kernel_rfl) (by kernel_rfl) rfl (by rfl) ?_
       iterate 4 refine nVal tt rfl (wNone rfl) rfl rfl rfl rfl rfl trivial ?_
       refine nPure (wNone rfl) (pBuild bld_impl_Bar rfl rfl) rfl rfl rfl rfl ?_
       obtain ⟨v110, hc17, h⟩ := bind_inv h
       refine nCallR (S_l2Put_w N v109.1 ((l80.getD ((v105.1).toNat) (0, 0)).1, v81) v110 hc17) rfl (wNone rfl) rfl rfl rfl rfl rfl rfl (by first | rfl | kernel_rfl | (simp [nrL, nm, gdst, nmT, rowB]; done)) rfl (by first | rfl | kernel_rfl | (simp [chkE, nrL, nm, gdst, nmT, rowB, hid, ment, mentA, mentS]; done) | (simp [chkE, nrL, nm, gdst, nmT, rowB, hid, ment, mentA, mentS]; decide)) ⟨⟨rfl, (.inl ⟨rfl, rfl⟩), trivial⟩, ⟨rfl, rfl, trivial⟩, trivial⟩ ?_
       iterate 3 refine nVal tt rfl (wNone rfl) rfl rfl rfl rfl rfl trivial ?_
       refine nPure (wNone rfl) (pBuild bld_impl_Bar rfl rfl) rfl rfl rfl rfl ?_
       obtain ⟨v111, hc18, h⟩ := bind_inv h
       refine nCallR (S_l2Put_w N v110 ((l80.getD ((v105.1).toNat) (0, 0)).2, v81) v111 hc18) rfl (wNone rfl) rfl rfl rfl rfl rfl rfl (by first | rfl | kernel_rfl | (simp [nrL, nm, gdst, nmT, rowB]; done)) rfl (by first | rfl | kernel_rfl | (simp [chkE, nrL, nm, gdst, nmT, rowB, hid, ment, mentA, mentS]; done) | (simp [chkE, nrL, nm, gdst, nmT, rowB, hid, ment, mentA, mentS]; decide)) ⟨⟨rfl, (.inl ⟨rfl, rfl⟩), trivial⟩, ⟨rfl, rfl, trivial⟩, trivial⟩ ?_
       iterate 2 refine nVal tt rfl (wNone rfl) rfl rfl rfl rfl rfl trivial ?_
       refine nPure (wNone rfl) (pBuild bld_impl_Bar rfl rfl) rfl rfl rfl rfl ?_
       refine nNil ?_
       change VO _ _ _ _ _
       obtain ⟨v112, hc19, h⟩ := bind_inv h
       refine oCall (S_l2Put_w N v111 (v108.1, v81) v112 hc19) rfl rfl rfl rfl rfl rfl rfl rfl ⟨⟨rfl, (.inl ⟨rfl, rfl⟩), trivial⟩, ⟨rfl, rfl, trivial⟩, trivial⟩ ?_
       refine oStore tt rfl rfl rfl rfl rfl rfl rfl rfl rfl rfl rfl ⟨trivial, trivial, trivial⟩ ?_
       refine vNil ?_
       change VC _ _ _ _
       refine vRegion ?_
       refine oVal tt rfl rfl rfl rfl rfl trivial ?_
       obtain ⟨hg20, h⟩ := grd_inv h
       refine oVal tt rfl rfl rfl rfl rfl hg20 ?_
       refine oVal tt rfl rfl rfl rfl rfl trivial ?_
       refine vNil ?_
       change ∃ _, _
       exact ⟨(v112.bars, (v81 + (1 : Int)), v108.2.1, v108.2.2, v112.n), (En.ren [1200] [1910] rfl ⟨.inr rfl, .inr rfl, .inr rfl, .inr rfl, .inr rfl, trivial⟩ ⟨.inr rfl, trivial⟩ ⟨.inr ⟨_, _, rfl, rfl, ⟨.inr rfl, .inr rfl, .inr rfl, trivial⟩⟩, .inr ⟨_, _, rfl, rfl, ⟨.inr rfl, .inr rfl, trivial⟩⟩, .inr ⟨_, _, rfl, rfl, ⟨.inr rfl, .inr rfl, trivial⟩⟩, trivial⟩), h⟩
      ·intro k h
       refine vBlock ?_
       refine vLoopS (α := Int) (fun (w114 : Int) => (⟨[(0, .ptr 1000000 0), (1, .int n_1), (4, .ptr 4 0), (5, .ptr 5 0), (6, .int v81), (9, .int v105.1), (10, .ptr 10 0), (11, .int w114)], [(1200, some (111, .pairs l80))], [(1000000, some [.ro false (.bytes c_0.b), .int v105.2.1, .int v105.2.2]), (4, some [.int (0 : Int), .nil]), (5, some [.int c84, .row 1200 0 l80.length]), (10, some [.int ((l80.getD ((v105.1).toNat) (0, 0)).1), .int ((l80.getD ((v105.1).toNat) (0, 0)).2)])]⟩ : PS)) (S_l6Laman_l2 N l80 v105 k) h (En.of ⟨rfl, rfl, rfl, rfl, rfl, rfl, rfl, rfl, trivial⟩ ⟨rfl, trivial⟩ ⟨rfl, rfl, rfl, rfl, trivial⟩) (fun _ => rfl) ?_
       rintro n w114 h
       rw [S_l6Laman_l2] at h
       show VC _ _ _ (⟨[(0, .ptr 1000000 0), (1, .int n_1), (4, .ptr 4 0), (5, .ptr 5 0), (6, .int v81), (9, .int v105.1), (10, .ptr 10 0), (11, .int w114)], [(1200, some (111, .pairs l80))], [(1000000, some [.ro false (.bytes c_0.b), .int v105.2.1, .int v105.2.2]), (4, some [.int (0 : Int), .nil]), (5, some [.int c84, .row 1200 0 l80.length]), (10, some [.int ((l80.getD ((v105.1).toNat) (0, 0)).1), .int ((l80.getD ((v105.1).toNat) (0, 0)).2)])]⟩ : PS)
       iterate 2 refine vSeq ?_
       refine vRegion ?_
       iterate 5 refine oVal tt rfl rfl rfl rfl rfl trivial ?_
       refine oSplit rfl rfl rfl (fun hb21 => ?_) (fun hb21 => ?_)
       ·replace h := cnd_t hb21 h
        iterate 4 refine oNoF rfl rfl rfl rfl hb21 rfl rfl ?_
        refine oPick rfl rfl rfl rfl rfl hb21 rfl ?_
        refine vNil ?_
        change VC _ _ _ _
        refine vCondT rfl rfl ?_
        refine vSkip ?_
        change VC _ _ _ _
        refine vBlock ?_
        refine vRegion ?_
        refine oVal tt rfl rfl rfl rfl rfl trivial ?_
        obtain ⟨hg22, h⟩ := grd_inv h
        refine oVal tt rfl rfl rfl rfl rfl hg22 ?_
        refine oVal tt rfl rfl rfl rfl rfl trivial ?_
        refine vNil ?_
        change ∃ _, _
        exact ⟨(w114 + (1 : Int)), (En.of ⟨rfl, rfl, rfl, rfl, rfl, rfl, rfl, rfl, trivial⟩ ⟨rfl, trivial⟩ ⟨rfl, rfl, rfl, rfl, trivial⟩), h⟩
       ·replace h := cnd_f hb21 h
        iterate 4 refine oValG tt rfl rfl rfl rfl rfl hb21 rfl rfl rfl trivial ?_
        refine oPickF rfl rfl rfl rfl rfl hb21 rfl ?_
        refine vNil ?_
        change VC _ _ _ _
        refine vCond rfl (fun hb23 => ?_) (fun hb23 => ?_)
        ·replace h := cnd_t hb23 h
         refine vSkip ?_
         change VC _ _ _ _
         refine vBlock ?_
         refine vRegion ?_
         refine oVal tt rfl rfl rfl rfl rfl trivial ?_
         obtain ⟨hg24, h⟩ := grd_inv h
         refine oVal tt rfl rfl rfl rfl rfl hg24 ?_
         refine oVal tt rfl rfl rfl rfl rfl trivial ?_
         refine vNil ?_
         change ∃ _, _
         exact ⟨(w114 + (1 : Int)), (En.of ⟨rfl, rfl, rfl, rfl, rfl, rfl, rfl, rfl, trivial⟩ ⟨rfl, trivial⟩ ⟨rfl, rfl, rfl, rfl, trivial⟩), h⟩
        ·replace h := cnd_f hb23 h
         refine vExit ?_
         change ∃ _, _
         exact ⟨w114, (En.of ⟨rfl, rfl, rfl, rfl, rfl, rfl, rfl, rfl, trivial⟩ ⟨rfl, trivial⟩ ⟨rfl, rfl, rfl, rfl, trivial⟩), h⟩
     ·replace h := cnd_f hb12 h
      refine vRegion ?_
      iterate 3 refine oVal tt rfl rfl rfl rfl rfl trivial ?_
      refine oPure (wNone rfl) (pBuild bld_impl_Bar rfl rfl) rfl rfl ?_
      obtain ⟨v115, hc25, h⟩ := bind_inv h
      refine oCall (S_l2Put_w N (⟨c84, l80⟩ : Grf) (v102.1, v81) v115 hc25) rfl rfl rfl rfl rfl rfl rfl rfl ⟨⟨rfl, (.inl ⟨rfl, rfl⟩), trivial⟩, ⟨rfl, rfl, trivial⟩, trivial⟩ ?_
      iterate 2 refine oVal tt rfl rfl rfl rfl rfl trivial ?_
      refine oPure (wNone rfl) (pBuild bld_impl_Bar rfl rfl) rfl rfl ?_
      obtain ⟨v116, hc26, h⟩ := bind_inv h
      refine oCall (S_l2Put_w N v115 ((Int.tmod ((v102.1 + (1 : Int)) + v103.1) v81), v81) v116 hc26) rfl rfl rfl rfl rfl rfl rfl rfl ⟨⟨rfl, (.inl ⟨rfl, rfl⟩), trivial⟩, ⟨rfl, rfl, trivial⟩, trivial⟩ ?_
      refine oStore tt rfl rfl rfl rfl rfl rfl rfl rfl rfl rfl rfl ⟨trivial, trivial, trivial⟩ ?_
      refine vNil ?_
      change VC _ _ _ _
      refine vRegion ?_
      refine oVal tt rfl rfl rfl rfl rfl trivial ?_
      obtain ⟨hg27, h⟩ := grd_inv h
      refine oVal tt rfl rfl rfl rfl rfl hg27 ?_
      refine oVal tt rfl rfl rfl rfl rfl trivial ?_
      refine vNil ?_
      change ∃ _, _
      exact ⟨(v116.bars, (v81 + (1 : Int)), v104.2.1, v104.2.2, v116.n), (En.ren [1200] [2000] rfl ⟨.inr rfl, .inr rfl, .inr rfl, .inr rfl, .inr rfl, trivial⟩ ⟨.inr rfl, trivial⟩ ⟨.inr ⟨_, _, rfl, rfl, ⟨.inr rfl, .inr rfl, .inr rfl, trivial⟩⟩, .inr ⟨_, _, rfl, rfl, ⟨.inr rfl, .inr rfl, trivial⟩⟩, .inr ⟨_, _, rfl, rfl, ⟨.inr rfl, .inr rfl, trivial⟩⟩, trivial⟩), h⟩
    ·replace h := cnd_f hb11 h
     iterate 2 refine oNoT rfl rfl rfl rfl hb11 rfl rfl ?_
     refine oPickF rfl rfl rfl rfl rfl hb11 rfl ?_
     refine vNil ?_
     change VC _ _ _ _
     refine vCondF rfl rfl ?_
     refine vRegion ?_
     iterate 3 refine oVal tt rfl rfl rfl rfl rfl trivial ?_
     refine oPure (wNone rfl) (pBuild bld_impl_Bar rfl rfl) rfl rfl ?_
     obtain ⟨v117, hc28, h⟩ := bind_inv h
     refine oCall (S_l2Put_w N (⟨c84, l80⟩ : Grf) (v102.1, v81) v117 hc28) rfl rfl rfl rfl rfl rfl rfl rfl ⟨⟨rfl, (.inl ⟨rfl, rfl⟩), trivial⟩, ⟨rfl, rfl, trivial⟩, trivial⟩ ?_
     iterate 2 refine oVal tt rfl rfl rfl rfl rfl trivial ?_
     refine oPure (wNone rfl) (pBuild bld_impl_Bar rfl rfl) rfl rfl ?_
     obtain ⟨v118, hc29, h⟩ := bind_inv h
     refine oCall (S_l2Put_w N v117 ((Int.tmod ((v102.1 + (1 : Int)) + v103.1) v81), v81) v118 hc29) rfl rfl rfl rfl rfl rfl rfl rfl ⟨⟨rfl, (.inl ⟨rfl, rfl⟩), trivial⟩, ⟨rfl, rfl, trivial⟩, trivial⟩ ?_
     refine oStore tt rfl rfl rfl rfl rfl rfl rfl rfl rfl rfl rfl ⟨trivial, trivial, trivial⟩ ?_
     refine vNil ?_
     change VC _ _ _ _
     refine vRegion ?_
     refine oVal tt rfl rfl rfl rfl rfl trivial ?_
     obtain ⟨hg30, h⟩ := grd_inv h
     refine oVal tt rfl rfl rfl rfl rfl hg30 ?_
     refine oVal tt rfl rfl rfl rfl rfl trivial ?_
     refine vNil ?_
     change ∃ _, _
     exact ⟨(v118.bars, (v81 + (1 : Int)), v104.2.1, v104.2.2, v118.n), (En.ren [1200] [2000] rfl ⟨.inr rfl, .inr rfl, .inr rfl, .inr rfl, .inr rfl, trivial⟩ ⟨.inr rfl, trivial⟩ ⟨.inr ⟨_, _, rfl, rfl, ⟨.inr rfl, .inr rfl, .inr rfl, trivial⟩⟩, .inr ⟨_, _, rfl, rfl, ⟨.inr rfl, .inr rfl, trivial⟩⟩, .inr ⟨_, _, rfl, rfl, ⟨.inr rfl, .inr rfl, trivial⟩⟩, trivial⟩), h⟩
   ·replace h := cnd_f hb3 h
    refine vExit ?_
    change ∃ _, _
    exact ⟨(l80, c82, c83, c84), (En.of ⟨rfl, rfl, trivial⟩ ⟨rfl, trivial⟩ ⟨rfl, rfl, rfl, trivial⟩), h⟩
def S_l10Framework (N : Nat) (c_0 : Cur) : Option (Frm × Int × Int) :=
 (S_l1Below N c_0 (3 : Int)).bind fun v1 =>
 cnd (v1.1 == (0 : Int)) (
  (S_l1Below N (⟨c_0.b, v1.2.1, v1.2.2⟩ : Cur) (5 : Int)).bind fun v2 =>
  grd (Rg64 ((2 : Int) + v2.1)) <|
  (S_l2Simple N (⟨c_0.b, v2.2.1, v2.2.2⟩ : Cur) ((2 : Int) + v2.1) (7 : Int)).bind fun v3 =>
  (S_l10Of N (⟨c_0.b, v3.2.1, v3.2.2⟩ : Cur) (⟨v3.1.n, v3.1.bars⟩ : Grf)).bind fun v4 =>
  some ((⟨⟨v4.1.g.n, v4.1.g.bars⟩, v4.1.places⟩ : Frm), v4.2.1, v4.2.2)) (
  cnd (v1.1 == (1 : Int)) (
   (S_l1Below N (⟨c_0.b, v1.2.1, v1.2.2⟩ : Cur) (4 : Int)).bind fun v5 =>
   grd (Rg64 ((2 : Int) + v5.1)) <|
   (S_l6Laman N (⟨c_0.b, v5.2.1, v5.2.2⟩ : Cur) ((2 : Int) + v5.1)).bind fun v6 =>
   (S_l1Below N (⟨c_0.b, v6.2.1, v6.2.2⟩ : Cur) ((2 : Int) + v5.1)).bind fun v7 =>
   (S_l1Below N (⟨c_0.b, v7.2.1, v7.2.2⟩ : Cur) ((2 : Int) + v5.1)).bind fun v8 =>
   (S_AddBar N v6.1 v7.1 v8.1).bind fun v9 =>
   (S_l10Of N (⟨c_0.b, v8.2.1, v8.2.2⟩ : Cur) (⟨v9.1.n, v9.1.bars⟩ : Grf)).bind fun v10 =>
   some ((⟨⟨v10.1.g.n, v10.1.g.bars⟩, v10.1.places⟩ : Frm), v10.2.1, v10.2.2)) (
   (S_l1Below N (⟨c_0.b, v1.2.1, v1.2.2⟩ : Cur) (5 : Int)).bind fun v11 =>
   grd (Rg64 ((2 : Int) + v11.1)) <|
   (S_l6Laman N (⟨c_0.b, v11.2.1, v11.2.2⟩ : Cur) ((2 : Int) + v11.1)).bind fun v12 =>
   (S_l10Of N (⟨c_0.b, v12.2.1, v12.2.2⟩ : Cur) (⟨v12.1.n, v12.1.bars⟩ : Grf)).bind fun v13 =>
   some ((⟨⟨v13.1.g.n, v13.1.g.bars⟩, v13.1.places⟩ : Frm), v13.2.1, v13.2.2)))
set_option maxRecDepth 20000 in
set_option maxHeartbeats 1600000 in
theorem S_l10Framework_w (N : Nat) (c_0 : Cur) (r : Frm × Int × Int) (h : S_l10Framework N c_0 = some r) : MCall Try.prog 180 [.ptr 1000000 0] [900101, 900102] [1000000] [(111, .pairs []), (71, .pairs [])] [(111, .pairs r.1.g.bars), (71, .pairs r.1.places)] [[.ro false (.bytes c_0.b), .int c_0.i, .int c_0.h]] [[.ro false (.bytes c_0.b), .int r.2.1, .int r.2.2]] (.agg [.int r.1.g.n, .row 900101 0 r.1.g.bars.length, .row 900102 0 r.1.places.length]) := by
 unfold S_l10Framework at h
 refine mcall_intro (TT := TT) tt Try.func180 rfl rfl Try.ntmps180 (congrArg Array.toList Try.results180) rfl rfl rfl rfl rfl fun w0 O0 => ?_
 refine vSeq ?_
 refine vRegion ?_
 refine oAlloc tt rfl rfl rfl rfl rfl rfl rfl rfl rfl ?_
 refine vNil ?_
 change VC _ _ _ _
 iterate 2 refine vSeq ?_
 refine vRegion ?_
 refine oVal tt rfl rfl rfl rfl rfl trivial ?_
 obtain ⟨v1, hc1, h⟩ := bind_inv h
 refine oMCall (S_l1Below_w N c_0 (3 : Int) v1 hc1) [] [1000000] [] rfl rfl rfl rfl rfl rfl trivial ⟨rfl, trivial⟩ ⟨⟨rfl, rfl⟩, ⟨rfl, rfl⟩, trivial⟩ ?_
 refine vNil ?_
 change VC _ _ _ _
 refine vBlock ?_
 refine vSeq ?_
 refine vRegion ?_
 iterate 2 refine oVal tt rfl rfl rfl rfl rfl trivial ?_
 refine vNil ?_
 change VC _ _ _ _
 refine vCond rfl (fun hb2 => ?_) (fun hb2 => ?_)
 ·replace h := cnd_t hb2 h
  refine vSeq ?_
  refine vRegion ?_
  refine oVal tt rfl rfl rfl rfl rfl trivial ?_
  obtain ⟨v2, hc3, h⟩ := bind_inv h
  refine oMCall (S_l1Below_w N (⟨c_0.b, v1.2.1, v1.2.2⟩ : Cur) (5 : Int) v2 hc3) [] [1000000] [] rfl rfl rfl rfl rfl rfl trivial ⟨rfl, trivial⟩ ⟨⟨rfl, rfl⟩, ⟨rfl, rfl⟩, trivial⟩ ?_
  obtain ⟨hg4, h⟩ := grd_inv h
  refine oVal tt rfl rfl rfl rfl rfl hg4 ?_
  refine oVal tt rfl rfl rfl rfl rfl trivial ?_
  refine vNil ?_
  change VC _ _ _ _
  refine vSeq ?_
  refine vRegion ?_
  iterate 2 refine oVal tt rfl rfl rfl rfl rfl trivial ?_
  refine vEnO (En.zero 9510 111 (.pairs []) rfl rfl) ?_
  obtain ⟨v3, hc5, h⟩ := bind_inv h
  refine oMCall (S_l2Simple_w N (⟨c_0.b, v2.2.1, v2.2.2⟩ : Cur) ((2 : Int) + v2.1) (7 : Int) v3 hc5) [9510] [1000000] [1200] rfl rfl rfl rfl rfl rfl ⟨rfl, trivial⟩ ⟨rfl, trivial⟩ ⟨⟨rfl, rfl⟩, ⟨rfl, rfl⟩, ⟨rfl, rfl⟩, trivial⟩ ?_
  refine oAlloc tt rfl rfl rfl rfl rfl rfl rfl rfl rfl ?_
  refine oStore tt rfl rfl rfl rfl rfl rfl rfl rfl rfl rfl rfl ⟨trivial, trivial, trivial⟩ ?_
  refine vNil ?_
  change VC _ _ _ _
  refine vSeq ?_
  refine vRegion ?_
  iterate 2 refine oVal tt rfl rfl rfl rfl rfl trivial ?_
  refine oFreezeA 22 1 rfl rfl rfl rfl rfl ?_
  refine vEnO (En.zero 9511 111 (.pairs []) rfl rfl) ?_
  refine vEnO (En.zero 9512 71 (.pairs []) rfl rfl) ?_
  obtain ⟨v4, hc6, h⟩ := bind_inv h
  refine oMCall (S_l10Of_w N (⟨c_0.b, v3.2.1, v3.2.2⟩ : Cur) (⟨v3.1.n, v3.1.bars⟩ : Grf) v4 hc6) [9511, 9512] [1000000] [1230, 1231] rfl rfl rfl rfl rfl rfl ⟨rfl, rfl, trivial⟩ ⟨rfl, trivial⟩ ⟨⟨rfl, rfl⟩, ⟨⟨rfl, rfl⟩, (.inr (.inl ⟨rfl, rfl⟩)), trivial⟩, trivial⟩ ?_
  refine oStore tt rfl rfl rfl rfl rfl rfl rfl rfl rfl rfl rfl ⟨trivial, trivial, trivial, trivial⟩ ?_
  refine vNil ?_
  change VC _ _ _ _
  refine vRet ?_
  change ∃ _, _
  cases h
  exact ⟨[1230, 1231], rfl, ⟨rfl, rfl, trivial⟩, ⟨rfl, trivial⟩, rfl⟩
 ·replace h := cnd_f hb2 h
  refine vSeq ?_
  refine vRegion ?_
  iterate 2 refine oVal tt rfl rfl rfl rfl rfl trivial ?_
  refine vNil ?_
  change VC _ _ _ _
  refine vCond rfl (fun hb7 => ?_) (fun hb7 => ?_)
  ·replace h := cnd_t hb7 h
   refine vSeq ?_
   refine vRegion ?_
   refine oVal tt rfl rfl rfl rfl rfl trivial ?_
   obtain ⟨v5, hc8, h⟩ := bind_inv h
   refine oMCall (S_l1Below_w N (⟨c_0.b, v1.2.1, v1.2.2⟩ : Cur) (4 : Int) v5 hc8) [] [1000000] [] rfl rfl rfl rfl rfl rfl trivial ⟨rfl, trivial⟩ ⟨⟨rfl, rfl⟩, ⟨rfl, rfl⟩, trivial⟩ ?_
   obtain ⟨hg9, h⟩ := grd_inv h
   refine oVal tt rfl rfl rfl rfl rfl hg9 ?_
   refine oVal tt rfl rfl rfl rfl rfl trivial ?_
   refine vNil ?_
   change VC _ _ _ _
   refine vSeq ?_
   refine vRegion ?_
   iterate 2 refine oVal tt rfl rfl rfl rfl rfl trivial ?_
   refine vEnO (En.zero 9513 111 (.pairs []) rfl rfl) ?_
   obtain ⟨v6, hc10, h⟩ := bind_inv h
   refine oMCall (S_l6Laman_w N (⟨c_0.b, v5.2.1, v5.2.2⟩ : Cur) ((2 : Int) + v5.1) v6 hc10) [9513] [1000000] [1310] rfl rfl rfl rfl rfl rfl ⟨rfl, trivial⟩ ⟨rfl, trivial⟩ ⟨⟨rfl, rfl⟩, ⟨rfl, rfl⟩, trivial⟩ ?_
   refine oAlloc tt rfl rfl rfl rfl rfl rfl rfl rfl rfl ?_
   refine oStore tt rfl rfl rfl rfl rfl rfl rfl rfl rfl rfl rfl ⟨trivial, trivial, trivial⟩ ?_
   refine vNil ?_
   change VC _ _ _ _
   refine vSeq ?_
   refine vRegion ?_
   iterate 2 refine oVal tt rfl rfl rfl rfl rfl trivial ?_
   obtain ⟨v7, hc11, h⟩ := bind_inv h
   refine oMCall (S_l1Below_w N (⟨c_0.b, v6.2.1, v6.2.2⟩ : Cur) ((2 : Int) + v5.1) v7 hc11) [] [1000000] [] rfl rfl rfl rfl rfl rfl trivial ⟨rfl, trivial⟩ ⟨⟨rfl, rfl⟩, ⟨rfl, rfl⟩, trivial⟩ ?_
   refine oVal tt rfl rfl rfl rfl rfl trivial ?_
   refine vNil ?_
   change VC _ _ _ _
   refine vSeq ?_
   refine vRegion ?_
   iterate 2 refine oVal tt rfl rfl rfl rfl rfl trivial ?_
   obtain ⟨v8, hc12, h⟩ := bind_inv h
   refine oMCall (S_l1Below_w N (⟨c_0.b, v7.2.1, v7.2.2⟩ : Cur) ((2 : Int) + v5.1) v8 hc12) [] [1000000] [] rfl rfl rfl rfl rfl rfl trivial ⟨rfl, trivial⟩ ⟨⟨rfl, rfl⟩, ⟨rfl, rfl⟩, trivial⟩ ?_
   refine oVal tt rfl rfl rfl rfl rfl trivial ?_
   refine vNil ?_
   change VC _ _ _ _
   refine vSeq ?_
   refine vRegion ?_
   iterate 3 refine oVal tt rfl rfl rfl rfl rfl trivial ?_
   obtain ⟨v9, hc13, h⟩ := bind_inv h
   refine oCall (S_AddBar_w N v6.1 v7.1 v8.1 v9 hc13) rfl rfl rfl rfl rfl rfl rfl rfl ⟨⟨rfl, (.inl ⟨rfl, rfl⟩), trivial⟩, rfl, rfl, trivial⟩ ?_
   iterate 3 refine oVal tt rfl rfl rfl rfl rfl trivial ?_
   refine oStore tt rfl rfl rfl rfl rfl rfl rfl rfl rfl rfl rfl ⟨trivial, trivial, trivial⟩ ?_
   refine vNil ?_
   change VC _ _ _ _
   refine vSeq ?_
   refine vRegion ?_
   iterate 2 refine oVal tt rfl rfl rfl rfl rfl trivial ?_
   refine oFreezeA 46 1 rfl rfl rfl rfl rfl ?_
   refine vEnO (En.zero 9514 111 (.pairs []) rfl rfl) ?_
   refine vEnO (En.zero 9515 71 (.pairs []) rfl rfl) ?_
   obtain ⟨v10, hc14, h⟩ := bind_inv h
   refine oMCall (S_l10Of_w N (⟨c_0.b, v8.2.1, v8.2.2⟩ : Cur) (⟨v9.1.n, v9.1.bars⟩ : Grf) v10 hc14) [9514, 9515] [1000000] [1470, 1471] rfl rfl rfl rfl rfl rfl ⟨rfl, rfl, trivial⟩ ⟨rfl, trivial⟩ ⟨⟨rfl, rfl⟩, ⟨⟨rfl, rfl⟩, (.inr (.inl ⟨rfl, rfl⟩)), trivial⟩, trivial⟩ ?_
   refine oStore tt rfl rfl rfl rfl rfl rfl rfl rfl rfl rfl rfl ⟨trivial, trivial, trivial, trivial⟩ ?_
   refine vNil ?_
   change VC _ _ _ _
   refine vRet ?_
   change ∃ _, _
   cases h
   exact ⟨[1470, 1471], rfl, ⟨rfl, rfl, trivial⟩, ⟨rfl, trivial⟩, rfl⟩
  ·replace h := cnd_f hb7 h
   refine vSkip ?_
   change VC _ _ _ _
   refine vSeq ?_
   refine vRegion ?_
   refine oVal tt rfl rfl rfl rfl rfl trivial ?_
   obtain ⟨v11, hc15, h⟩ := bind_inv h
   refine oMCall (S_l1Below_w N (⟨c_0.b, v1.2.1, v1.2.2⟩ : Cur) (5 : Int) v11 hc15) [] [1000000] [] rfl rfl rfl rfl rfl rfl trivial ⟨rfl, trivial⟩ ⟨⟨rfl, rfl⟩, ⟨rfl, rfl⟩, trivial⟩ ?_
   obtain ⟨hg16, h⟩ := grd_inv h
   refine oVal tt rfl rfl rfl rfl rfl hg16 ?_
   refine oVal tt rfl rfl rfl rfl rfl trivial ?_
   refine vNil ?_
   change VC _ _ _ _
   refine vSeq ?_
   refine vRegion ?_
   iterate 2 refine oVal tt rfl rfl rfl rfl rfl trivial ?_
   refine vEnO (En.zero 9516 111 (.pairs []) rfl rfl) ?_
   obtain ⟨v12, hc17, h⟩ := bind_inv h
   refine oMCall (S_l6Laman_w N (⟨c_0.b, v11.2.1, v11.2.2⟩ : Cur) ((2 : Int) + v11.1) v12 hc17) [9516] [1000000] [1530] rfl rfl rfl rfl rfl rfl ⟨rfl, trivial⟩ ⟨rfl, trivial⟩ ⟨⟨rfl, rfl⟩, ⟨rfl, rfl⟩, trivial⟩ ?_
   refine oAlloc tt rfl rfl rfl rfl rfl rfl rfl rfl rfl ?_
   refine oStore tt rfl rfl rfl rfl rfl rfl rfl rfl rfl rfl rfl ⟨trivial, trivial, trivial⟩ ?_
   refine vNil ?_
   change VC _ _ _ _
   refine vSeq ?_
   refine vRegion ?_
   iterate 2 refine oVal tt rfl rfl rfl rfl rfl trivial ?_
   refine oFreezeA 55 1 rfl rfl rfl rfl rfl ?_
   refine vEnO (En.zero 9517 111 (.pairs []) rfl rfl) ?_
   refine vEnO (En.zero 9518 71 (.pairs []) rfl rfl) ?_
   obtain ⟨v13, hc18, h⟩ := bind_inv h
   refine oMCall (S_l10Of_w N (⟨c_0.b, v12.2.1, v12.2.2⟩ : Cur) (⟨v12.1.n, v12.1.bars⟩ : Grf) v13 hc18) [9517, 9518] [1000000] [1560, 1561] rfl rfl rfl rfl rfl rfl ⟨rfl, rfl, trivial⟩ ⟨rfl, trivial⟩ ⟨⟨rfl, rfl⟩, ⟨⟨rfl, rfl⟩, (.inr (.inl ⟨rfl, rfl⟩)), trivial⟩, trivial⟩ ?_
   refine oStore tt rfl rfl rfl rfl rfl rfl rfl rfl rfl rfl rfl ⟨trivial, trivial, trivial, trivial⟩ ?_
   refine vNil ?_
   change VC _ _ _ _
   refine vRet ?_
   change ∃ _, _
   cases h
   exact ⟨[1560, 1561], rfl, ⟨rfl, rfl, trivial⟩, ⟨rfl, trivial⟩, rfl⟩
def S_l1PickInt (N : Nat) (c_0 : Cur) (list_1 : List Int) : Option (Int × (List Int) × Int × Int) :=
 (S_l1Below N c_0 (list_1.length : Int)).bind fun v1 =>
 grd (0 ≤ v1.1 ∧ v1.1 < (list_1.length : Int)) <|
 some ((list_1.getD ((v1.1).toNat) 0), list_1, v1.2.1, v1.2.2)
set_option maxRecDepth 20000 in
set_option maxHeartbeats 1600000 in
theorem S_l1PickInt_w (N : Nat) (c_0 : Cur) (list_1 : List Int) (r : Int × (List Int) × Int × Int) (h : S_l1PickInt N c_0 list_1 = some r) : MCall Try.prog 181 [.ptr 1000000 0, .row 1000010 0 list_1.length] [1000010] [1000000] [(3, .ints list_1)] [(3, .ints r.2.1)] [[.ro false (.bytes c_0.b), .int c_0.i, .int c_0.h]] [[.ro false (.bytes c_0.b), .int r.2.2.1, .int r.2.2.2]] (.int r.1) := by
 unfold S_l1PickInt at h
 refine mcall_intro (TT := TT) tt Try.func181 rfl rfl Try.ntmps181 (congrArg Array.toList Try.results181) rfl rfl rfl rfl rfl fun w0 O0 => ?_
 refine vSeq ?_
 refine vRegion ?_
 refine oVal tt rfl rfl rfl rfl rfl trivial ?_
 refine vNil ?_
 change VC _ _ _ _
 refine vSeq ?_
 refine vRegion ?_
 iterate 4 refine oVal tt rfl rfl rfl rfl rfl trivial ?_
 obtain ⟨v1, hc1, h⟩ := bind_inv h
 refine oMCall (S_l1Below_w N c_0 (list_1.length : Int) v1 hc1) [] [1000000] [] rfl rfl rfl rfl rfl rfl trivial ⟨rfl, trivial⟩ ⟨⟨rfl, rfl⟩, ⟨rfl, rfl⟩, trivial⟩ ?_
 obtain ⟨hg2, h⟩ := grd_inv h
 iterate 2 refine oVal tt rfl rfl rfl rfl rfl hg2 ?_
 refine oVal tt rfl rfl rfl rfl rfl trivial ?_
 refine vNil ?_
 change VC _ _ _ _
 refine vRet ?_
 change ∃ _, _
 cases h
 exact ⟨[1000010], rfl, ⟨rfl, trivial⟩, ⟨rfl, trivial⟩, rfl⟩
def I_SquaresOf_l2 (N : Nat) (l_0 : List (Int × Int)) (x86 : Int) (k : (List Int) → Option (List Int)) : Nat → ((List Int) × Int) → Option (List Int)
 | 0, _ => none
 | n + 1, (l107, b108) =>
  cnd (decide (b108 < (l_0.length : Int))) (
   (M_Framework_square N (⟨⟨(0 : Int), ([] : List (Int × Int))⟩, l_0⟩ : Frm) x86 b108).bind fun v110 =>
   grd (l107.length + 1 ≤ 4294967296) <|
   grd (Rg64 (b108 + (1 : Int))) <|
   I_SquaresOf_l2 N l_0 x86 k n ((l107 ++ ([v110] : List Int)), (b108 + (1 : Int)))) (
   k l107)
def I_SquaresOf_l1 (N : Nat) (l_0 : List (Int × Int)) (k : (List Int) → Option (List Int)) : Nat → ((List Int) × Int) → Option (List Int)
 | 0, _ => none
 | n + 1, (l85, x86) =>
  cnd (decide (x86 < (l_0.length : Int))) (
   grd (Rg64 (x86 + (1 : Int))) <|
   I_SquaresOf_l2 N l_0 x86 (fun (l104 : List Int) =>
      I_SquaresOf_l1 N l_0 k n (l104, (x86 + (1 : Int)))) N (l85, (x86 + (1 : Int)))) (
   k l85)
def I_SquaresOf_l3 (N : Nat) (l_0 : List (Int × Int)) (k : Unit → Option (List Int)) : Nat → Int → Option (List Int)
 | 0, _ => none
 | n + 1, x113 =>
  cnd (decide (x113 < (l_0.length : Int))) (
   grd (0 ≤ x113 ∧ x113 < (l_0.length : Int)) <|
   (I_isPlace N (l_0.getD ((x113).toNat) (0, 0))).bind fun v115 =>
   cnd (!v115) (
    some ([] : List Int)) (
    grd (Rg64 (x113 + (1 : Int))) <|
    I_SquaresOf_l3 N l_0 k n (x113 + (1 : Int)))) (
   k ())
def I_SquaresOf (N : Nat) (l_0 : List (Int × Int)) : Option (List Int) :=
 cnd (decide ((l_0.length : Int) > (6 : Int))) (
  some ([] : List Int)) (
  I_SquaresOf_l3 N l_0 (fun (_ : Unit) =>
     I_SquaresOf_l1 N l_0 (fun (l57 : List Int) =>
        some l57) N (([] : List Int), (0 : Int))) N (0 : Int))
set_option maxRecDepth 20000 in
set_option maxHeartbeats 1600000 in
theorem I_SquaresOf_w (N : Nat) (l_0 : List (Int × Int)) (r : List Int) (h : I_SquaresOf N l_0 = some r) : PCall Try.prog 50 [.ro false (.pairs l_0)] [(3, .ints r)] (.row 0 0 r.length) := by
 unfold I_SquaresOf at h
 refine pcall_intro (TT := TT) tt Try.func50 rfl rfl Try.ntmps50 (congrArg Array.toList Try.results50) rfl rfl fun w0 => ?_
 refine vSeq ?_
 refine vRegion ?_
 refine oVal tt rfl rfl rfl rfl rfl trivial ?_
 refine vNil ?_
 change VC _ _ _ _
 refine vSeq ?_
 refine vRegion ?_
 refine oEmpty tt (wNone rfl) rfl rfl rfl rfl ?_
 refine oVal tt rfl rfl rfl rfl rfl trivial ?_
 refine vNil ?_
 change VC _ _ _ _
 iterate 2 refine vSeq ?_
 refine vRegion ?_
 iterate 3 refine oVal tt rfl rfl rfl rfl rfl trivial ?_
 refine vNil ?_
 change VC _ _ _ _
 refine vCond rfl (fun hb1 => ?_) (fun hb1 => ?_)
 ·replace h := cnd_t hb1 h
  refine vSeq ?_
  refine vRegion ?_
  iterate 2 refine oVal tt rfl rfl rfl rfl rfl trivial ?_
  refine vNil ?_
  change VC _ _ _ _
  refine vNilT 2 9001 3 (.ints []) rfl rfl rfl rfl ?_
  refine vRet ?_
  change ∃ _, _
  cases h
  exact ⟨[9001], _, rfl, ⟨rfl, trivial⟩, rfl, (.eq rfl), rfl⟩
 ·replace h := cnd_f hb1 h
  refine vSkip ?_
  change VC _ _ _ _
  iterate 2 refine vSeq ?_
  refine vRegion ?_
  iterate 3 refine oVal tt rfl rfl rfl rfl rfl trivial ?_
  refine vNil ?_
  change VC _ _ _ _
  refine vJoin (F := fun k => I_SquaresOf_l3 N l_0 k) h (α := Unit) (J := fun (_ : Unit) => (⟨[(0, .ro false (.pairs l_0)), (3, .nil)], [], []⟩ : PS)) ?_ ?_
  ·rintro ⟨⟩ h
   show VC _ _ _ (⟨[(0, .ro false (.pairs l_0)), (3, .nil)], [], []⟩ : PS)
   refine vSeq ?_
   refine vRegion ?_
   refine oVal tt rfl rfl rfl rfl rfl trivial ?_
   refine oPure (wNone rfl) (pBuild bld_impl_Framework rfl rfl) rfl rfl ?_
   refine oAlloc tt rfl rfl rfl rfl rfl rfl rfl rfl rfl ?_
   refine oStore tt rfl rfl rfl rfl rfl rfl rfl rfl rfl rfl rfl ⟨trivial, trivial, trivial, trivial⟩ ?_
   refine vNil ?_
   change VC _ _ _ _
   iterate 2 refine vSeq ?_
   refine vRegion ?_
   iterate 3 refine oVal tt rfl rfl rfl rfl rfl trivial ?_
   refine vNil ?_
   change VC _ _ _ _
   refine vJoin (F := fun k => I_SquaresOf_l1 N l_0 k) h (α := List Int) (J := fun (l57 : List Int) => (⟨[(3, .row 46 0 l57.length)], [(46, some (3, .ints l57))], []⟩ : PS)) ?_ ?_
   ·rintro l57 h
    show VC _ _ _ (⟨[(3, .row 46 0 l57.length)], [(46, some (3, .ints l57))], []⟩ : PS)
    refine vSeq ?_
    refine vRegion ?_
    iterate 2 refine oVal tt rfl rfl rfl rfl rfl trivial ?_
    refine vNil ?_
    change VC _ _ _ _
    refine vRet ?_
    change ∃ _, _
    cases h
    exact ⟨[46], _, rfl, ⟨rfl, trivial⟩, rfl, (.eq rfl), rfl⟩
   ·intro k h
    refine vBlock ?_
    refine vNilT 3 46 3 (.ints []) rfl rfl rfl rfl ?_
    refine vLoopS (α := (List Int) × Int) (fun | (l85, x86) => (⟨[(0, .ro false (.pairs l_0)), (3, .row 46 0 l85.length), (6, .ptr 6 0), (28, .int (l_0.length : Int)), (29, .int x86)], [(46, some (3, .ints l85))], [(6, some [.int (0 : Int), .nil, .ro false (.pairs l_0)])]⟩ : PS)) (I_SquaresOf_l1 N l_0 k) h (En.of ⟨rfl, rfl, rfl, rfl, rfl, trivial⟩ ⟨rfl, trivial⟩ ⟨rfl, trivial⟩) (fun _ => rfl) ?_
    rintro n ⟨l85, x86⟩ h
    rw [I_SquaresOf_l1] at h
    show VC _ _ _ (⟨[(0, .ro false (.pairs l_0)), (3, .row 46 0 l85.length), (6, .ptr 6 0), (28, .int (l_0.length : Int)), (29, .int x86)], [(46, some (3, .ints l85))], [(6, some [.int (0 : Int), .nil, .ro false (.pairs l_0)])]⟩ : PS)
    refine vSeq ?_
    refine vRegion ?_
    refine oVal tt rfl rfl rfl rfl rfl trivial ?_
    refine vNil ?_
    change VC _ _ _ _
    refine vSeq ?_
    refine vCond rfl (fun hb2 => ?_) (fun hb2 => ?_)
    ·replace h := cnd_t hb2 h
     refine vSkip ?_
     change VC _ _ _ _
     refine vSeq ?_
     refine vBlock ?_
     refine vSeq ?_
     refine vRegion ?_
     iterate 2 refine oVal tt rfl rfl rfl rfl rfl trivial ?_
     refine vNil ?_
     change VC _ _ _ _
     refine vSeq ?_
     refine vRegion ?_
     refine oVal tt rfl rfl rfl rfl rfl trivial ?_
     obtain ⟨hg3, h⟩ := grd_inv h
     refine oVal tt rfl rfl rfl rfl rfl hg3 ?_
     refine oVal tt rfl rfl rfl rfl rfl trivial ?_
     refine vNil ?_
     change VC _ _ _ _
     refine vJoin (F := fun k => I_SquaresOf_l2 N l_0 x86 k) h (α := List Int) (J := fun (l104 : List Int) => (⟨[(0, .ro false (.pairs l_0)), (3, .row 46 0 l104.length), (6, .ptr 6 0), (28, .int (l_0.length : Int)), (29, .int x86)], [(46, some (3, .ints l104))], [(6, some [.int (0 : Int), .nil, .ro false (.pairs l_0)])]⟩ : PS)) ?_ ?_
     ·rintro l104 h
      show VC _ _ _ (⟨[(0, .ro false (.pairs l_0)), (3, .row 46 0 l104.length), (6, .ptr 6 0), (28, .int (l_0.length : Int)), (29, .int x86)], [(46, some (3, .ints l104))], [(6, some [.int (0 : Int), .nil, .ro false (.pairs l_0)])]⟩ : PS)
      refine vRegion ?_
      refine oVal tt rfl rfl rfl rfl rfl hg3 ?_
      refine oVal tt rfl rfl rfl rfl rfl trivial ?_
      refine vNil ?_
      change ∃ _, _
      exact ⟨(l104, (x86 + (1 : Int))), (En.of ⟨rfl, rfl, rfl, rfl, rfl, trivial⟩ ⟨rfl, trivial⟩ ⟨rfl, trivial⟩), h⟩
     ·intro k h
      refine vBlock ?_
      refine vLoopS (α := (List Int) × Int) (fun | (l107, b108) => (⟨[(0, .ro false (.pairs l_0)), (3, .row 46 0 l107.length), (6, .ptr 6 0), (7, .int x86), (8, .int b108), (28, .int (l_0.length : Int)), (29, .int x86)], [(46, some (3, .ints l107))], [(6, some [.int (0 : Int), .nil, .ro false (.pairs l_0)])]⟩ : PS)) (I_SquaresOf_l2 N l_0 x86 k) h (En.of ⟨rfl, rfl, rfl, rfl, rfl, rfl, rfl, trivial⟩ ⟨rfl, trivial⟩ ⟨rfl, trivial⟩) (fun _ => rfl) ?_
      rintro n ⟨l107, b108⟩ h
      rw [I_SquaresOf_l2] at h
      show VC _ _ _ (⟨[(0, .ro false (.pairs l_0)), (3, .row 46 0 l107.length), (6, .ptr 6 0), (7, .int x86), (8, .int b108), (28, .int (l_0.length : Int)), (29, .int x86)], [(46, some (3, .ints l107))], [(6, some [.int (0 : Int), .nil, .ro false (.pairs l_0)])]⟩ : PS)
      iterate 2 refine vSeq ?_
      refine vRegion ?_
      iterate 4 refine oVal tt rfl rfl rfl rfl rfl trivial ?_
      refine vNil ?_
      change VC _ _ _ _
      refine vCond rfl (fun hb4 => ?_) (fun hb4 => ?_)
      ·replace h := cnd_t hb4 h
       refine vSkip ?_
       change VC _ _ _ _
       refine vSeq ?_
       refine vBlock ?_
       refine vRegion ?_
       iterate 4 refine oVal tt rfl rfl rfl rfl rfl trivial ?_
       obtain ⟨v110, hc5, h⟩ := bind_inv h
       refine oCall (M_Framework_square_w N (⟨⟨(0 : Int), ([] : List (Int × Int))⟩, l_0⟩ : Frm) x86 b108 v110 hc5) rfl rfl rfl rfl rfl rfl rfl rfl ⟨⟨rfl, rfl, rfl, trivial⟩, rfl, rfl, trivial⟩ ?_
       refine oBuild tt rfl rfl rfl rfl rfl rfl rfl rfl rfl rfl rfl ?_
       obtain ⟨hg6, h⟩ := grd_inv h
       refine oAppend tt rfl rfl rfl rfl rfl rfl rfl rfl rfl rfl rfl rfl rfl rfl rfl rfl (Nat.le_of_eq (Nat.zero_add _)) hg6 ?_
       refine oVal tt rfl rfl rfl rfl rfl trivial ?_
       refine vNil ?_
       change VC _ _ _ _
       refine vRegion ?_
       refine oVal tt rfl rfl rfl rfl rfl trivial ?_
       obtain ⟨hg7, h⟩ := grd_inv h
       refine oVal tt rfl rfl rfl rfl rfl hg7 ?_
       refine oVal tt rfl rfl rfl rfl rfl trivial ?_
       refine vNil ?_
       change ∃ _, _
       exact ⟨((l107 ++ ([v110] : List Int)), (b108 + (1 : Int))), (En.of ⟨rfl, rfl, rfl, rfl, rfl, rfl, rfl, trivial⟩ ⟨rfl, trivial⟩ ⟨rfl, trivial⟩), h⟩
      ·replace h := cnd_f hb4 h
       refine vExit ?_
       change ∃ _, _
       exact ⟨l107, (En.of ⟨rfl, rfl, rfl, rfl, rfl, trivial⟩ ⟨rfl, trivial⟩ ⟨rfl, trivial⟩), h⟩
    ·replace h := cnd_f hb2 h
     refine vExit ?_
     change ∃ _, _
     exact ⟨l85, (En.of ⟨rfl, trivial⟩ ⟨rfl, trivial⟩ trivial), h⟩
  ·intro k h
   refine vBlock ?_
   refine vLoopS (α := Int) (fun (x113 : Int) => (⟨[(0, .ro false (.pairs l_0)), (3, .nil), (14, .ro false (.pairs l_0)), (15, .int (l_0.length : Int)), (16, .int x113)], [], []⟩ : PS)) (I_SquaresOf_l3 N l_0 k) h (En.of ⟨rfl, rfl, rfl, rfl, rfl, trivial⟩ trivial trivial) (fun _ => rfl) ?_
   rintro n x113 h
   rw [I_SquaresOf_l3] at h
   show VC _ _ _ (⟨[(0, .ro false (.pairs l_0)), (3, .nil), (14, .ro false (.pairs l_0)), (15, .int (l_0.length : Int)), (16, .int x113)], [], []⟩ : PS)
   refine vSeq ?_
   refine vRegion ?_
   refine oVal tt rfl rfl rfl rfl rfl trivial ?_
   refine vNil ?_
   change VC _ _ _ _
   refine vSeq ?_
   refine vCond rfl (fun hb8 => ?_) (fun hb8 => ?_)
   ·replace h := cnd_t hb8 h
    refine vSkip ?_
    change VC _ _ _ _
    refine vSeq ?_
    refine vBlock ?_
    refine vSeq ?_
    refine vRegion ?_
    obtain ⟨hg9, h⟩ := grd_inv h
    refine oVal tt rfl rfl rfl rfl rfl hg9 ?_
    refine oVal tt rfl rfl rfl rfl rfl trivial ?_
    refine oAlloc tt rfl rfl rfl rfl rfl rfl rfl rfl rfl ?_
    refine oStore tt rfl rfl rfl rfl rfl rfl rfl rfl rfl rfl rfl ⟨trivial, trivial, trivial⟩ ?_
    refine vNil ?_
    change VC _ _ _ _
    refine vSeq ?_
    refine vRegion ?_
    refine oVal tt rfl rfl rfl rfl rfl trivial ?_
    obtain ⟨v115, hc10, h⟩ := bind_inv h
    refine oCall (I_isPlace_w N (l_0.getD ((x113).toNat) (0, 0)) v115 hc10) rfl rfl rfl rfl rfl rfl rfl rfl ⟨⟨rfl, rfl, trivial⟩, trivial⟩ ?_
    refine oVal tt rfl rfl rfl rfl rfl trivial ?_
    refine vNil ?_
    change VC _ _ _ _
    refine vCond rfl (fun hb11 => ?_) (fun hb11 => ?_)
    ·replace h := cnd_t hb11 h
     refine vSeq ?_
     refine vRegion ?_
     iterate 2 refine oVal tt rfl rfl rfl rfl rfl trivial ?_
     refine vNil ?_
     change VC _ _ _ _
     refine vNilT 2 9001 3 (.ints []) rfl rfl rfl rfl ?_
     refine vRet ?_
     change ∃ _, _
     cases h
     exact ⟨[9001], _, rfl, ⟨rfl, trivial⟩, rfl, (.eq rfl), rfl⟩
    ·replace h := cnd_f hb11 h
     refine vSkip ?_
     change VC _ _ _ _
     refine vRegion ?_
     obtain ⟨hg12, h⟩ := grd_inv h
     refine oVal tt rfl rfl rfl rfl rfl hg12 ?_
     refine oVal tt rfl rfl rfl rfl rfl trivial ?_
     refine vNil ?_
     change ∃ _, _
     exact ⟨(x113 + (1 : Int)), (En.of ⟨rfl, rfl, rfl, rfl, rfl, trivial⟩ trivial trivial), h⟩
   ·replace h := cnd_f hb8 h
    refine vExit ?_
    change ∃ _, _
    exact ⟨(), (En.of ⟨rfl, rfl, trivial⟩ trivial trivial), h⟩
def S_SquaresOf_l2 (N : Nat) (l_0 : List (Int × Int)) (a122 : Int) (k : (List Int) → Option (List Int)) : Nat → ((List Int) × Int) → Option (List Int)
 | 0, _ => none
 | n + 1, (l153, b154) =>
  cnd (decide (b154 < (l_0.length : Int))) (
   grd (0 ≤ a122 ∧ a122 < (l_0.length : Int)) <|
   (S_l10On N (l_0.getD ((a122).toNat) (0, 0))).bind fun v157 =>
   cnd (!v157) (
    some ([] : List Int)) (
    grd (0 ≤ b154 ∧ b154 < (l_0.length : Int)) <|
    (S_l10On N (l_0.getD ((b154).toNat) (0, 0))).bind fun v158 =>
    cnd (!v158) (
     some ([] : List Int)) (
     cnd (decide ((l_0.length : Int) > (6 : Int))) (
      some ([] : List Int)) (
      grd (Rg64 (((l_0.getD ((a122).toNat) (0, 0)).1) - ((l_0.getD ((b154).toNat) (0, 0)).1))) <|
      grd (Rg64 ((((l_0.getD ((a122).toNat) (0, 0)).1) - ((l_0.getD ((b154).toNat) (0, 0)).1)) * (((l_0.getD ((a122).toNat) (0, 0)).1) - ((l_0.getD ((b154).toNat) (0, 0)).1)))) <|
      grd (Rg64 (((l_0.getD ((a122).toNat) (0, 0)).2) - ((l_0.getD ((b154).toNat) (0, 0)).2))) <|
      grd (Rg64 ((((l_0.getD ((a122).toNat) (0, 0)).2) - ((l_0.getD ((b154).toNat) (0, 0)).2)) * (((l_0.getD ((a122).toNat) (0, 0)).2) - ((l_0.getD ((b154).toNat) (0, 0)).2)))) <|
      grd (Rg64 (((((l_0.getD ((a122).toNat) (0, 0)).1) - ((l_0.getD ((b154).toNat) (0, 0)).1)) * (((l_0.getD ((a122).toNat) (0, 0)).1) - ((l_0.getD ((b154).toNat) (0, 0)).1))) + ((((l_0.getD ((a122).toNat) (0, 0)).2) - ((l_0.getD ((b154).toNat) (0, 0)).2)) * (((l_0.getD ((a122).toNat) (0, 0)).2) - ((l_0.getD ((b154).toNat) (0, 0)).2))))) <|
      grd (l153.length + 1 ≤ 4294967296) <|
      grd (Rg64 (b154 + (1 : Int))) <|
      S_SquaresOf_l2 N l_0 a122 k n ((l153 ++ ([(((((l_0.getD ((a122).toNat) (0, 0)).1) - ((l_0.getD ((b154).toNat) (0, 0)).1)) * (((l_0.getD ((a122).toNat) (0, 0)).1) - ((l_0.getD ((b154).toNat) (0, 0)).1))) + ((((l_0.getD ((a122).toNat) (0, 0)).2) - ((l_0.getD ((b154).toNat) (0, 0)).2)) * (((l_0.getD ((a122).toNat) (0, 0)).2) - ((l_0.getD ((b154).toNat) (0, 0)).2))))] : List Int)), (b154 + (1 : Int))))))) (
   k l153)
def S_SquaresOf_l1 (N : Nat) (l_0 : List (Int × Int)) (k : (List Int) → Option (List Int)) : Nat → ((List Int) × Int) → Option (List Int)
 | 0, _ => none
 | n + 1, (l121, a122) =>
  cnd (decide (a122 < (l_0.length : Int))) (
   grd (Rg64 (a122 + (1 : Int))) <|
   S_SquaresOf_l2 N l_0 a122 (fun (l149 : List Int) =>
      S_SquaresOf_l1 N l_0 k n (l149, (a122 + (1 : Int)))) N (l121, (a122 + (1 : Int)))) (
   k l121)
def S_SquaresOf (N : Nat) (l_0 : List (Int × Int)) : Option (List Int) :=
 S_SquaresOf_l1 N l_0 (fun (l79 : List Int) =>
    some l79) N (([] : List Int), (0 : Int))
set_option maxRecDepth 20000 in
set_option maxHeartbeats 1600000 in
theorem S_SquaresOf_w (N : Nat) (l_0 : List (Int × Int)) (r : List Int) (h : S_SquaresOf N l_0 = some r) : PCall Try.prog 51 [.ro false (.pairs l_0)] [(3, .ints r)] (.row 0 0 r.length) := by
 unfold S_SquaresOf at h
 refine pcall_intro (TT := TT) tt Try.func51 rfl rfl Try.ntmps51 (congrArg Array.toList Try.results51) rfl rfl fun w0 => ?_
 refine vSeq ?_
 refine vRegion ?_
 refine oVal tt rfl rfl rfl rfl rfl trivial ?_
 refine vNil ?_
 change VC _ _ _ _
 refine vSeq ?_
 refine vRegion ?_
 refine oEmpty tt (wNone rfl) rfl rfl rfl rfl ?_
 refine oVal tt rfl rfl rfl rfl rfl trivial ?_
 refine vNil ?_
 change VC _ _ _ _
 iterate 2 refine vSeq ?_
 refine vRegion ?_
 refine oVal tt rfl rfl rfl rfl rfl trivial ?_
 refine vNil ?_
 change VC _ _ _ _
 refine vJoin (F := fun k => S_SquaresOf_l1 N l_0 k) h (α := List Int) (J := fun (l79 : List Int) => (⟨[(3, .row 90 0 l79.length)], [(90, some (3, .ints l79))], []⟩ : PS)) ?_ ?_
 ·rintro l79 h
  show VC _ _ _ (⟨[(3, .row 90 0 l79.length)], [(90, some (3, .ints l79))], []⟩ : PS)
  refine vSeq ?_
  refine vRegion ?_
  iterate 2 refine oVal tt rfl rfl rfl rfl rfl trivial ?_
  refine vNil ?_
  change VC _ _ _ _
  refine vRet ?_
  change ∃ _, _
  cases h
  exact ⟨[90], _, rfl, ⟨rfl, trivial⟩, rfl, (.eq rfl), rfl⟩
 ·intro k h
  refine vBlock ?_
  refine vNilT 3 90 3 (.ints []) rfl rfl rfl rfl ?_
  refine vLoopS (α := (List Int) × Int) (fun | (l121, a122) => (⟨[(0, .ro false (.pairs l_0)), (3, .row 90 0 l121.length), (4, .int a122)], [(90, some (3, .ints l121))], []⟩ : PS)) (S_SquaresOf_l1 N l_0 k) h (En.of ⟨rfl, rfl, rfl, trivial⟩ ⟨rfl, trivial⟩ trivial) (fun _ => rfl) ?_
  rintro n ⟨l121, a122⟩ h
  rw [S_SquaresOf_l1] at h
  show VC _ _ _ (⟨[(0, .ro false (.pairs l_0)), (3, .row 90 0 l121.length), (4, .int a122)], [(90, some (3, .ints l121))], []⟩ : PS)
  iterate 2 refine vSeq ?_
  refine vRegion ?_
  iterate 4 refine oVal tt rfl rfl rfl rfl rfl trivial ?_
  refine vNil ?_
  change VC _ _ _ _
  refine vCond rfl (fun hb1 => ?_) (fun hb1 => ?_)
  ·replace h := cnd_t hb1 h
   refine vSkip ?_
   change VC _ _ _ _
   refine vSeq ?_
   refine vBlock ?_
   refine vSeq ?_
   refine vRegion ?_
   refine oVal tt rfl rfl rfl rfl rfl trivial ?_
   obtain ⟨hg2, h⟩ := grd_inv h
   refine oVal tt rfl rfl rfl rfl rfl hg2 ?_
   refine oVal tt rfl rfl rfl rfl rfl trivial ?_
   refine vNil ?_
   change VC _ _ _ _
   refine vJoin (F := fun k => S_SquaresOf_l2 N l_0 a122 k) h (α := List Int) (J := fun (l149 : List Int) => (⟨[(0, .ro false (.pairs l_0)), (3, .row 90 0 l149.length), (4, .int a122)], [(90, some (3, .ints l149))], []⟩ : PS)) ?_ ?_
   ·rintro l149 h
    show VC _ _ _ (⟨[(0, .ro false (.pairs l_0)), (3, .row 90 0 l149.length), (4, .int a122)], [(90, some (3, .ints l149))], []⟩ : PS)
    refine vRegion ?_
    refine oVal tt rfl rfl rfl rfl rfl trivial ?_
    refine oVal tt rfl rfl rfl rfl rfl hg2 ?_
    refine oVal tt rfl rfl rfl rfl rfl trivial ?_
    refine vNil ?_
    change ∃ _, _
    exact ⟨(l149, (a122 + (1 : Int))), (En.of ⟨rfl, rfl, rfl, trivial⟩ ⟨rfl, trivial⟩ trivial), h⟩
   ·intro k h
    refine vBlock ?_
    refine vLoopS (α := (List Int) × Int) (fun | (l153, b154) => (⟨[(0, .ro false (.pairs l_0)), (3, .row 90 0 l153.length), (4, .int a122), (5, .int b154)], [(90, some (3, .ints l153))], []⟩ : PS)) (S_SquaresOf_l2 N l_0 a122 k) h (En.of ⟨rfl, rfl, rfl, rfl, trivial⟩ ⟨rfl, trivial⟩ trivial) (fun _ => rfl) ?_
    rintro n ⟨l153, b154⟩ h
    rw [S_SquaresOf_l2] at h
    show VC _ _ _ (⟨[(0, .ro false (.pairs l_0)), (3, .row 90 0 l153.length), (4, .int a122), (5, .int b154)], [(90, some (3, .ints l153))], []⟩ : PS)
    iterate 2 refine vSeq ?_
    refine vRegion ?_
    iterate 4 refine oVal tt rfl rfl rfl rfl rfl trivial ?_
    refine vNil ?_
    change VC _ _ _ _
    refine vCond rfl (fun hb3 => ?_) (fun hb3 => ?_)
    ·replace h := cnd_t hb3 h
     refine vSkip ?_
     change VC _ _ _ _
     refine vSeq ?_
     refine vBlock ?_
     iterate 2 refine vSeq ?_
     refine vRegion ?_
     iterate 2 refine oVal tt rfl rfl rfl rfl rfl trivial ?_
     obtain ⟨hg4, h⟩ := grd_inv h
     refine oVal tt rfl rfl rfl rfl rfl hg4 ?_
     refine oVal tt rfl rfl rfl rfl rfl trivial ?_
     obtain ⟨v157, hc5, h⟩ := bind_inv h
     refine oCall (S_l10On_w N (l_0.getD ((a122).toNat) (0, 0)) v157 hc5) rfl rfl rfl rfl rfl rfl rfl rfl ⟨⟨rfl, rfl, trivial⟩, trivial⟩ ?_
     iterate 2 refine oVal tt rfl rfl rfl rfl rfl trivial ?_
     refine oSplit rfl rfl rfl (fun hb6 => ?_) (fun hb6 => ?_)
     ·replace h := cnd_t hb6 h
      iterate 6 refine oNoF rfl rfl rfl rfl hb6 rfl rfl ?_
      refine oPick rfl rfl rfl rfl rfl hb6 rfl ?_
      refine oVal tt rfl rfl rfl rfl rfl trivial ?_
      iterate 3 refine oNoF rfl rfl rfl rfl rfl rfl rfl ?_
      refine oPick rfl rfl rfl rfl rfl rfl rfl ?_
      refine vNil ?_
      change VC _ _ _ _
      refine vCondT rfl rfl ?_
      refine vSeq ?_
      refine vRegion ?_
      refine oEmpty tt (wNone rfl) rfl rfl rfl rfl ?_
      refine oVal tt rfl rfl rfl rfl rfl trivial ?_
      refine vNil ?_
      change VC _ _ _ _
      refine vNilT 2 9001 3 (.ints []) rfl rfl rfl rfl ?_
      refine vRet ?_
      change ∃ _, _
      cases h
      exact ⟨[9001], _, rfl, ⟨rfl, trivial⟩, rfl, (.eq rfl), rfl⟩
     ·replace h := cnd_f hb6 h
      iterate 2 refine oValG tt rfl rfl rfl rfl rfl hb6 rfl rfl rfl trivial ?_
      obtain ⟨hg7, h⟩ := grd_inv h
      refine oValG tt rfl rfl rfl rfl rfl hb6 rfl rfl rfl hg7 ?_
      refine oValG tt rfl rfl rfl rfl rfl hb6 rfl rfl rfl trivial ?_
      obtain ⟨v158, hc8, h⟩ := bind_inv h
      refine oCallG (S_l10On_w N (l_0.getD ((b154).toNat) (0, 0)) v158 hc8) rfl rfl rfl rfl hb6 rfl rfl rfl rfl rfl rfl rfl ⟨⟨rfl, rfl, trivial⟩, trivial⟩ ?_
      refine oValG tt rfl rfl rfl rfl rfl hb6 rfl rfl rfl trivial ?_
      refine oPickF rfl rfl rfl rfl rfl hb6 rfl ?_
      refine oVal tt rfl rfl rfl rfl rfl trivial ?_
      refine oSplit rfl rfl rfl (fun hb9 => ?_) (fun hb9 => ?_)
      ·replace h := cnd_t hb9 h
       iterate 3 refine oNoF rfl rfl rfl rfl hb9 rfl rfl ?_
       refine oPick rfl rfl rfl rfl rfl hb9 rfl ?_
       refine vNil ?_
       change VC _ _ _ _
       refine vCondT rfl rfl ?_
       refine vSeq ?_
       refine vRegion ?_
       refine oEmpty tt (wNone rfl) rfl rfl rfl rfl ?_
       refine oVal tt rfl rfl rfl rfl rfl trivial ?_
       refine vNil ?_
       change VC _ _ _ _
       refine vNilT 2 9001 3 (.ints []) rfl rfl rfl rfl ?_
       refine vRet ?_
       change ∃ _, _
       cases h
       exact ⟨[9001], _, rfl, ⟨rfl, trivial⟩, rfl, (.eq rfl), rfl⟩
      ·replace h := cnd_f hb9 h
       iterate 3 refine oValG tt rfl rfl rfl rfl rfl hb9 rfl rfl rfl trivial ?_
       refine oPickF rfl rfl rfl rfl rfl hb9 rfl ?_
       refine vNil ?_
       change VC _ _ _ _
       refine vCond rfl (fun hb10 => ?_) (fun hb10 => ?_)
       ·replace h := cnd_t hb10 h
        refine vSeq ?_
        refine vRegion ?_
        refine oEmpty tt (wNone rfl) rfl rfl rfl rfl ?_
        refine oVal tt rfl rfl rfl rfl rfl trivial ?_
        refine vNil ?_
        change VC _ _ _ _
        refine vNilT 2 9001 3 (.ints []) rfl rfl rfl rfl ?_
        refine vRet ?_
        change ∃ _, _
        cases h
        exact ⟨[9001], _, rfl, ⟨rfl, trivial⟩, rfl, (.eq rfl), rfl⟩
       ·replace h := cnd_f hb10 h
        refine vSkip ?_
        change VC _ _ _ _
        refine vRegionN 49 [48] [0, 0, 0, 6, 14, 30, 0, 0, 192, 448, 960, 2046, 0, 0, 12288, 28672, 61440, 0, 0, 393216, 917504, 1966080, 4190208, 8388606, 0, 0, 50331648, 117440512, 251658240, 0, 0, 1610612736, 3758096384, 8053063680, 17163091968, 0, 0, 103079215104, 240518168576, 515396075520, 0, 0, 3298534883328, 7696581394432, 16492674416640, 35150012350464, 70368727400448, 140737488355326, 281474976710654, 562949953421311, 1125899906842623] (by kernel_rfl) (by kernel_rfl) (by kernel_rfl) (by kernel_rfl) (by kernel_rfl) rfl (by rfl) ?_
        iterate 3 refine nVal tt rfl (wNone rfl) rfl rfl rfl rfl rfl trivial ?_
        refine nVal tt rfl (wNone rfl) rfl rfl rfl rfl rfl hg4 ?_
        iterate 4 refine nVal tt rfl (wNone rfl) rfl rfl rfl rfl rfl trivial ?_
        refine nVal tt rfl (wNone rfl) rfl rfl rfl rfl rfl hg7 ?_
        iterate 2 refine nVal tt rfl (wNone rfl) rfl rfl rfl rfl rfl trivial ?_
        obtain ⟨hg11, h⟩ := grd_inv h
        refine nVal tt rfl (wNone rfl) rfl rfl rfl rfl rfl hg11 ?_
        iterate 2 refine nVal tt rfl (wNone rfl) rfl rfl rfl rfl rfl trivial ?_
        refine nVal tt rfl (wNone rfl) rfl rfl rfl rfl rfl hg4 ?_
        iterate 4 refine nVal tt rfl (wNone rfl) rfl rfl rfl rfl rfl trivial ?_
        refine nVal tt rfl (wNone rfl) rfl rfl rfl rfl rfl hg7 ?_
        iterate 2 refine nVal tt rfl (wNone rfl) rfl rfl rfl rfl rfl trivial ?_
        refine nVal tt rfl (wNone rfl) rfl rfl rfl rfl rfl hg11 ?_
        obtain ⟨hg12, h⟩ := grd_inv h
        refine nVal tt rfl (wNone rfl) rfl rfl rfl rfl rfl hg12 ?_
        iterate 2 refine nVal tt rfl (wNone rfl) rfl rfl rfl rfl rfl trivial ?_
        refine nVal tt rfl (wNone rfl) rfl rfl rfl rfl rfl hg4 ?_
        iterate 4 refine nVal tt rfl (wNone rfl) rfl rfl rfl rfl rfl trivial ?_
        refine nVal tt rfl (wNone rfl) rfl rfl rfl rfl rfl hg7 ?_
        iterate 2 refine nVal tt rfl (wNone rfl) rfl rfl rfl rfl rfl trivial ?_
        obtain ⟨hg13, h⟩ := grd_inv h
        refine nVal tt rfl (wNone rfl) rfl rfl rfl rfl rfl hg13 ?_
        iterate 2 refine nVal tt rfl (wNone rfl) rfl rfl rfl rfl rfl trivial ?_
        refine nVal tt rfl (wNone rfl) rfl rfl rfl rfl rfl hg4 ?_
        iterate 4 refine nVal tt rfl (wNone rfl) rfl rfl rfl rfl rfl trivial ?_
        refine nVal tt rfl (wNone rfl) rfl rfl rfl rfl rfl hg7 ?_
        iterate 2 refine nVal tt rfl (wNone rfl) rfl rfl rfl rfl rfl trivial ?_
        refine nVal tt rfl (wNone rfl) rfl rfl rfl rfl rfl hg13 ?_
        obtain ⟨hg14, h⟩ := grd_inv h
        refine nVal tt rfl (wNone rfl) rfl rfl rfl rfl rfl hg14 ?_
        obtain ⟨hg15, h⟩ := grd_inv h
        refine nVal tt rfl (wNone rfl) rfl rfl rfl rfl rfl hg15 ?_
        refine nBuild tt (wNone rfl) rfl rfl rfl rfl rfl rfl rfl rfl rfl rfl rfl rfl ?_
        refine nNil ?_
        change VO _ _ _ _ _
        obtain ⟨hg16, h⟩ := grd_inv h
        refine oAppend tt rfl rfl rfl rfl rfl rfl rfl rfl rfl rfl rfl rfl rfl rfl rfl rfl (Nat.le_of_eq (Nat.zero_add _)) hg16 ?_
        refine oVal tt rfl rfl rfl rfl rfl trivial ?_
        refine vNil ?_
        change VC _ _ _ _
        refine vRegion ?_
        refine oVal tt rfl rfl rfl rfl rfl trivial ?_
        obtain ⟨hg17, h⟩ := grd_inv h
        refine oVal tt rfl rfl rfl rfl rfl hg17 ?_
        refine oVal tt rfl rfl rfl rfl rfl trivial ?_
        refine vNil ?_
        change ∃ _, _
        exact ⟨((l153 ++ ([(((((l_0.getD ((a122).toNat) (0, 0)).1) - ((l_0.getD ((b154).toNat) (0, 0)).1)) * (((l_0.getD ((a122).toNat) (0, 0)).1) - ((l_0.getD ((b154).toNat) (0, 0)).1))) + ((((l_0.getD ((a122).toNat) (0, 0)).2) - ((l_0.getD ((b154).toNat) (0, 0)).2)) * (((l_0.getD ((a122).toNat) (0, 0)).2) - ((l_0.getD ((b154).toNat) (0, 0)).2))))] : List Int)), (b154 + (1 : Int))), (En.of ⟨rfl, rfl, rfl, rfl, trivial⟩ ⟨rfl, trivial⟩ trivial), h⟩
    ·replace h := cnd_f hb3 h
     refine vExit ?_
     change ∃ _, _
     exact ⟨l153, (En.of ⟨rfl, rfl, rfl, trivial⟩ ⟨rfl, trivial⟩ trivial), h⟩
  ·replace h := cnd_f hb1 h
   refine vExit ?_
   change ∃ _, _
   exact ⟨l121, (En.of ⟨rfl, trivial⟩ ⟨rfl, trivial⟩ trivial), h⟩
end Go.Proofs.Ytcljhpldfanhkaa
namespace Go.Proofs.Ytcljhpldfanhkaa
open Go.RowKit
variable {N : Nat}
theorem l10On_e (p : Int × Int) : S_l10On N p = some (onGrid p) := by
 have h : ∀ x lo hi : Int, S_l1In N x lo hi = some (inB x lo hi) := fun x lo hi => by
  unfold S_l1In inB
  by_cases h : lo ≤ x
  ·rw [cnd_dt (by omega), decide_eq_true h, Bool.true_and]
  ·rw [cnd_df (by omega), decide_eq_false h, Bool.false_and]
 unfold S_l10On onGrid
 rw [h, h, Option.bind_some, Option.bind_some]
 cases inB p.1 0 4 <;> rfl
def sq2 (a b : Int × Int) : Int := (a.1 - b.1) * (a.1 - b.1) + (a.2 - b.2) * (a.2 - b.2)
def atP (p : List (Int × Int)) (i : Nat) : Int × Int := p.getD i (0, 0)
def rowSq (p : List (Int × Int)) (a : Nat) : Nat → Nat → List Int
 | 0, _ => []
 | k + 1, b => sq2 (atP p a) (atP p b) :: rowSq p a k (b + 1)
def allSqs (p : List (Int × Int)) : Nat → Nat → List Int
 | 0, _ => []
 | k + 1, a => rowSq p a (p.length - (a + 1)) (a + 1) ++ allSqs p k (a + 1)
theorem rowSq_len (p : List (Int × Int)) (a : Nat) : ∀ k b, (rowSq p a k b).length = k
 | 0, _ => rfl
 | k + 1, b => by simp [rowSq, rowSq_len p a k]
theorem sq_bd4 {a b : Int} (ha : 0 ≤ a ∧ a ≤ 4) (hb : 0 ≤ b ∧ b ≤ 4) : 0 ≤ (a - b) * (a - b) ∧ (a - b) * (a - b) ≤ 16 := by
 obtain ⟨k, hk⟩ : ∃ k, k = a - b := ⟨_, rfl⟩
 rw [← hk]
 have : k = -4 ∨ k = -3 ∨ k = -2 ∨ k = -1 ∨ k = 0 ∨ k = 1 ∨ k = 2 ∨ k = 3 ∨ k = 4 := by omega
 rcases this with h | h | h | h | h | h | h | h | h <;> subst h <;> decide
theorem sq2_bd {a b : Int × Int} (ha : onGrid a = true) (hb : onGrid b = true) : 0 ≤ sq2 a b ∧ sq2 a b ≤ 32 := by
 obtain ⟨a1, a2, a3, a4⟩ := onGrid_bd ha
 obtain ⟨b1, b2, b3, b4⟩ := onGrid_bd hb
 have h1 := sq_bd4 ⟨a1, a2⟩ ⟨b1, b2⟩
 have h2 := sq_bd4 ⟨a3, a4⟩ ⟨b3, b4⟩
 unfold sq2
 omega
section
variable {p : List (Int × Int)}
theorem inS_on (hp : p.length ≤ 6) {a : Nat} (ha : a < p.length) (hon : ∀ i, i < p.length → onGrid (atP p i) = true) {k : List Int → Option (List Int)} : ∀ (fuel b : Nat) (l : List Int), b ≤ p.length → p.length < fuel + b → l.length ≤ 100 + b → S_SquaresOf_l2 N p (a : Int) k fuel (l, (b : Int)) = k (l ++ rowSq p a (p.length - b) b) := by
 intro fuel
 induction fuel with
 | zero => intro b l h1 h2; omega
 | succ fuel ih =>
  intro b l h1 h2 h3
  rw [S_SquaresOf_l2]
  by_cases hb : b < p.length
  ·have ea : ((a : Int)).toNat = a := rfl
   have eb : ((b : Int)).toNat = b := rfl
   have oa := hon a ha
   have ob := hon b hb
   rw [ea, eb]
   have eA : p.getD a (0, 0) = atP p a := rfl
   have eB : p.getD b (0, 0) = atP p b := rfl
   rw [eA, eB, l10On_e, l10On_e, oa, ob]
   obtain ⟨a1, a2, a3, a4⟩ := onGrid_bd oa
   obtain ⟨b1, b2, b3, b4⟩ := onGrid_bd ob
   have s1 := sq_bd4 ⟨a1, a2⟩ ⟨b1, b2⟩
   have s2 := sq_bd4 ⟨a3, a4⟩ ⟨b3, b4⟩
   rw [cnd_dt (by omega), grd_pos (by omega), Option.bind_some, Bool.not_true, cnd_false, grd_pos (by omega), Option.bind_some, Bool.not_true, cnd_false, cnd_df (by omega), grd_pos ⟨by omega, by omega⟩, grd_pos ⟨by omega, by omega⟩, grd_pos ⟨by omega, by omega⟩, grd_pos ⟨by omega, by omega⟩, grd_pos ⟨by omega, by omega⟩, grd_pos (by omega), grd_pos ⟨by omega, by omega⟩, succ_cast, ih (b + 1) _ (by omega) (by omega) (by simp; omega), show p.length - b = (p.length - (b + 1)) + 1 by omega, rowSq, List.append_assoc]
   rfl
  ·rw [cnd_df (by omega), show p.length - b = 0 by omega]
   simp [rowSq]
theorem inI_on (hp : p.length ≤ 6) {a : Nat} (ha : a < p.length) (hon : ∀ i, i < p.length → onGrid (atP p i) = true) {k : List Int → Option (List Int)} : ∀ (fuel b : Nat) (l : List Int), b ≤ p.length → p.length < fuel + b → l.length ≤ 100 + b → I_SquaresOf_l2 N p (a : Int) k fuel (l, (b : Int)) = k (l ++ rowSq p a (p.length - b) b) := by
 intro fuel
 induction fuel with
 | zero => intro b l h1 h2; omega
 | succ fuel ih =>
  intro b l h1 h2 h3
  rw [I_SquaresOf_l2]
  by_cases hb : b < p.length
  ·have ea : ((a : Int)).toNat = a := rfl
   have eb : ((b : Int)).toNat = b := rfl
   have oa := hon a ha
   have ob := hon b hb
   have eA : p.getD a (0, 0) = atP p a := rfl
   have eB : p.getD b (0, 0) = atP p b := rfl
   obtain ⟨a1, a2, a3, a4⟩ := onGrid_bd oa
   obtain ⟨b1, b2, b3, b4⟩ := onGrid_bd ob
   have s1 := sq_bd4 ⟨a1, a2⟩ ⟨b1, b2⟩
   have s2 := sq_bd4 ⟨a3, a4⟩ ⟨b3, b4⟩
   have hf : M_Framework_square N (⟨⟨(0 : Int), ([] : List (Int × Int))⟩, p⟩ : Frm) (a : Int) (b : Int) = some (sq2 (atP p a) (atP p b)) := by
    unfold M_Framework_square
    simp only [ea, eb, eA, eB]
    rw [grd_pos (by omega), grd_pos (by omega), grd_pos ⟨by omega, by omega⟩, grd_pos ⟨by omega, by omega⟩, grd_pos ⟨by omega, by omega⟩, grd_pos ⟨by omega, by omega⟩, grd_pos ⟨by omega, by omega⟩]
    rfl
   rw [cnd_dt (by omega), hf, Option.bind_some, grd_pos (by omega), grd_pos ⟨by omega, by omega⟩, succ_cast, ih (b + 1) _ (by omega) (by omega) (by simp; omega), show p.length - b = (p.length - (b + 1)) + 1 by omega, rowSq, List.append_assoc]
   rfl
  ·rw [cnd_df (by omega), show p.length - b = 0 by omega]
   simp [rowSq]
theorem outS_on (hN : 4000000 ≤ N) (hp : p.length ≤ 6) (hon : ∀ i, i < p.length → onGrid (atP p i) = true) : ∀ (fuel a : Nat) (l : List Int), a ≤ p.length → p.length < fuel + a → l.length ≤ 10 * a → S_SquaresOf_l1 N p (fun l => some l) fuel (l, (a : Int)) = some (l ++ allSqs p (p.length - a) a) := by
 intro fuel
 induction fuel with
 | zero => intro a l h1 h2; omega
 | succ fuel ih =>
  intro a l h1 h2 h3
  rw [S_SquaresOf_l1]
  by_cases ha : a < p.length
  ·have hl := rowSq_len p a (p.length - (a + 1)) (a + 1)
   rw [cnd_dt (by omega), grd_pos ⟨by omega, by omega⟩, succ_cast, inS_on hp ha hon N (a + 1) l (by omega) (by omega) (by omega), ih (a + 1) _ (by omega) (by omega) (by rw [List.length_append, hl]; omega), show p.length - a = (p.length - (a + 1)) + 1 by omega, allSqs, List.append_assoc]
  ·rw [cnd_df (by omega), show p.length - a = 0 by omega]
   simp [allSqs]
theorem outI_on (hN : 4000000 ≤ N) (hp : p.length ≤ 6) (hon : ∀ i, i < p.length → onGrid (atP p i) = true) : ∀ (fuel a : Nat) (l : List Int), a ≤ p.length → p.length < fuel + a → l.length ≤ 10 * a → I_SquaresOf_l1 N p (fun l => some l) fuel (l, (a : Int)) = some (l ++ allSqs p (p.length - a) a) := by
 intro fuel
 induction fuel with
 | zero => intro a l h1 h2; omega
 | succ fuel ih =>
  intro a l h1 h2 h3
  rw [I_SquaresOf_l1]
  by_cases ha : a < p.length
  ·have hl := rowSq_len p a (p.length - (a + 1)) (a + 1)
   rw [cnd_dt (by omega), grd_pos ⟨by omega, by omega⟩, succ_cast, inI_on hp ha hon N (a + 1) l (by omega) (by omega) (by omega), ih (a + 1) _ (by omega) (by omega) (by rw [List.length_append, hl]; omega), show p.length - a = (p.length - (a + 1)) + 1 by omega, allSqs, List.append_assoc]
  ·rw [cnd_df (by omega), show p.length - a = 0 by omega]
   simp [allSqs]
theorem inS_off (hp : p.length ≤ 6) {a : Nat} (ha : a < p.length) {k : List Int → Option (List Int)} : ∀ (fuel b : Nat) (l : List Int), b < p.length → p.length < fuel + b → l.length ≤ 100 + b → (onGrid (atP p a) = false ∨ ∃ j, b ≤ j ∧ j < p.length ∧ onGrid (atP p j) = false) → S_SquaresOf_l2 N p (a : Int) k fuel (l, (b : Int)) = some [] := by
 intro fuel
 induction fuel with
 | zero => intro b l h1 h2; omega
 | succ fuel ih =>
  intro b l h1 h2 h3 hoff
  rw [S_SquaresOf_l2]
  have ea : ((a : Int)).toNat = a := rfl
  have eb : ((b : Int)).toNat = b := rfl
  have eA : p.getD a (0, 0) = atP p a := rfl
  have eB : p.getD b (0, 0) = atP p b := rfl
  rw [ea, eb, eA, eB, l10On_e, l10On_e, cnd_dt (by omega), grd_pos (by omega), Option.bind_some]
  cases oa : onGrid (atP p a) with
  | false => rfl
  | true =>
   rw [Bool.not_true, cnd_false, grd_pos (by omega), Option.bind_some]
   cases ob : onGrid (atP p b) with
   | false => rfl
   | true =>
    rw [oa] at hoff
    obtain ⟨j, j1, j2, j3⟩ := hoff.resolve_left (by simp)
    have hjb : j ≠ b := fun e => by rw [e, ob] at j3; cases j3
    obtain ⟨a1, a2, a3, a4⟩ := onGrid_bd oa
    obtain ⟨b1, b2, b3, b4⟩ := onGrid_bd ob
    have s1 := sq_bd4 ⟨a1, a2⟩ ⟨b1, b2⟩
    have s2 := sq_bd4 ⟨a3, a4⟩ ⟨b3, b4⟩
    rw [Bool.not_true, cnd_false, cnd_df (by omega), grd_pos ⟨by omega, by omega⟩, grd_pos ⟨by omega, by omega⟩, grd_pos ⟨by omega, by omega⟩, grd_pos ⟨by omega, by omega⟩, grd_pos ⟨by omega, by omega⟩, grd_pos (by omega), grd_pos ⟨by omega, by omega⟩, succ_cast]
    exact ih (b + 1) _ (by omega) (by omega) (by simp; omega) (.inr ⟨j, by omega, j2, j3⟩)
theorem l3_s {k : Unit → Option (List Int)} (hp : p.length ≤ 6) : ∀ (fuel i : Nat), i ≤ p.length → p.length < fuel + i → (∀ j, j < i → onGrid (atP p j) = true) →
  ((∀ j, j < p.length → onGrid (atP p j) = true) ∧ I_SquaresOf_l3 N p k fuel (i : Int) = k ()) ∨ ((∃ j, j < p.length ∧ onGrid (atP p j) = false) ∧ I_SquaresOf_l3 N p k fuel (i : Int) = some []) := by
 intro fuel
 induction fuel with
 | zero => intro i h1 h2; omega
 | succ fuel ih =>
  intro i h1 h2 h3
  rw [I_SquaresOf_l3]
  by_cases hi : i < p.length
  ·have ei : ((i : Int)).toNat = i := rfl
   have eI : p.getD i (0, 0) = atP p i := rfl
   rw [cnd_dt (by omega), grd_pos (by omega), ei, eI, isPlace_s, Option.bind_some]
   cases o : onGrid (atP p i) with
   | false => exact .inr ⟨⟨i, hi, o⟩, rfl⟩
   | true =>
    rw [Bool.not_true, cnd_false, grd_pos ⟨by omega, by omega⟩, succ_cast]
    exact ih (i + 1) (by omega) (by omega) fun j hj => by
     by_cases e : j = i
     ·rw [e]; exact o
     ·exact h3 j (by omega)
  ·rw [cnd_df (by omega)]
   exact .inl ⟨fun j hj => h3 j (by omega), rfl⟩
theorem squares_x (hN : 4000000 ≤ N) (hp : p.length ≤ 6) : ∃ d : List Int, S_SquaresOf N p = some d ∧ I_SquaresOf N p = some d ∧ (((∀ j, j < p.length → onGrid (atP p j) = true) ∧ d = allSqs p p.length 0) ∨ d = []) := by
 rcases l3_s (N := N) (p := p) (k := fun (_ : Unit) => I_SquaresOf_l1 N p (fun (l57 : List Int) => some l57) N (([] : List Int), (0 : Int))) hp N 0 (by omega) (by omega) (by intro j hj; omega) with ⟨h1, h2⟩ | ⟨⟨j, h1, h1'⟩, h2⟩
 ·refine ⟨_, ?_, ?_, .inl ⟨h1, rfl⟩⟩
  ·exact outS_on hN hp h1 N 0 [] (by omega) (by omega) (by simp)
  ·unfold I_SquaresOf
   rw [cnd_df (by omega)]
   refine h2.trans ?_
   exact outI_on hN hp h1 N 0 [] (by omega) (by omega) (by simp)
 ·refine ⟨[], ?_, ?_, .inr rfl⟩
  ·unfold S_SquaresOf
   obtain ⟨m, rfl⟩ : ∃ m, N = m + 1 := ⟨N - 1, by omega⟩
   rw [S_SquaresOf_l1, cnd_dt (by omega), grd_pos ⟨by omega, by omega⟩]
   by_cases h2 : 1 < p.length
   ·refine inS_off (a := 0) hp (by omega) (m + 1) 1 [] h2 (by omega) (by simp) ?_
    by_cases e : j = 0
    ·subst e; exact .inl h1'
    ·exact .inr ⟨j, by omega, h1, h1'⟩
   ·rw [S_SquaresOf_l2, cnd_df (by omega)]
    obtain ⟨m', rfl⟩ : ∃ m', m = m' + 1 := ⟨m - 1, by omega⟩
    rw [S_SquaresOf_l1, cnd_df (by omega)]
  ·unfold I_SquaresOf
   rw [cnd_df (by omega)]
   exact h2
end
end Go.Proofs.Ytcljhpldfanhkaa
namespace Go.Proofs.Ytcljhpldfanhkaa
open Go.RowKit
def Ok {α : Type} (o : Option α) (P : α → Prop) : Prop := ∃ r, o = some r ∧ P r
section
variable {α β : Type} {P Q : α → Prop}
theorem ok_some {r : α} (h : P r) : Ok (some r) P := ⟨r, rfl, h⟩
theorem ok_bind {o : Option β} {R : β → Prop} {f : β → Option α} (h : Ok o R) (hf : ∀ r, R r → Ok (f r) P) : Ok (o.bind f) P := by
 obtain ⟨r, rfl, hr⟩ := h
 exact hf r hr
theorem ok_grd {p : Prop} [Decidable p] {o : Option α} (hp : p) (h : Ok o P) : Ok (grd p o) P := by rw [grd_pos hp]; exact h
theorem ok_cnd {b : Bool} {x y : Option α} (h1 : b = true → Ok x P) (h2 : b = false → Ok y P) : Ok (cnd b x y) P := by
 cases b with
 | true => exact h1 rfl
 | false => exact h2 rfl
end
def Byt (l : List Int) : Prop := ∀ i : Nat, i < l.length → 0 ≤ l.getD i 0 ∧ l.getD i 0 < 256
structure CK (c : Cur) : Prop where
 byt : Byt c.b
 len : c.b.length ≤ 1048576
 nn : 0 ≤ c.i
theorem and_low {x : Int} {m : Nat} (hm : m < 4611686018427387904) : 0 ≤ andI x (m : Int) ∧ andI x (m : Int) ≤ m := by
 unfold andI
 have e : (BitVec.ofInt 64 (m : Int)).toNat = m := by rw [BitVec.toNat_ofInt]; omega
 rw [BitVec.toNat_and, e]
 have h : (BitVec.ofInt 64 x).toNat &&& m ≤ m := Nat.and_le_right
 rw [show IntKind.i64.wrap (((BitVec.ofInt 64 x).toNat &&& m : Nat) : Int) = (((BitVec.ofInt 64 x).toNat &&& m : Nat) : Int) from w64_id (by omega) (by omega)]
 omega
theorem and_255 (x : Int) : 0 ≤ andI x (255 : Int) ∧ andI x (255 : Int) < 256 := by
 have := and_low (x := x) (m := 255) (by omega)
 have e : ((255 : Nat) : Int) = (255 : Int) := rfl
 rw [e] at this
 omega
variable {N : Nat}
theorem byte_s {c : Cur} (h : CK c) : Ok (S_l1Byte N c) fun r => 0 ≤ r.1 ∧ r.1 < 256 ∧ 0 ≤ r.2.1 := by
 unfold S_l1Byte
 have hl := h.len
 have hn := h.nn
 refine ok_cnd (fun hb => ?_) (fun hb => ?_)
 ·rw [decide_eq_true_eq] at hb
  have hy := h.byt c.i.toNat (by omega)
  refine ok_grd ⟨hn, hb⟩ (ok_grd hy (ok_some ?_))
  have := and_255 (w64 ((andI (xorI (shrI (w64 ((w64 (c.h * (6364136223846793005 : Int))) + (1442695040888963407 : Int))) 33) (shrI (w64 ((w64 (c.h * (6364136223846793005 : Int))) + (1442695040888963407 : Int))) 45)) (255 : Int)) + (c.b.getD ((c.i).toNat) 0)))
  refine ⟨this.1, this.2, ?_⟩
  show 0 ≤ w64 (c.i + 1)
  rw [show w64 (c.i + 1) = c.i + 1 from w64_id (by omega) (by omega)]
  omega
 ·refine ok_some ?_
  have := and_255 (xorI (shrI (w64 ((w64 (c.h * (6364136223846793005 : Int))) + (1442695040888963407 : Int))) 33) (shrI (w64 ((w64 (c.h * (6364136223846793005 : Int))) + (1442695040888963407 : Int))) 45))
  exact ⟨this.1, this.2, hn⟩
structure Bel (n : Int) (r : Int × Int × Int) : Prop where
 nn : 0 ≤ r.1
 lt : 0 < n → r.1 < n
 zero : n ≤ 0 → r.1 = 0
 cur : 0 ≤ r.2.1
theorem below_s {c : Cur} (h : CK c) (n : Int) : Ok (S_l1Below N c n) (Bel n) := by
 unfold S_l1Below
 refine ok_cnd (fun hb => ?_) (fun hb => ?_)
 ·rw [decide_eq_true_eq] at hb
  exact ok_some ⟨by omega, by omega, by intro; rfl, h.nn⟩
 ·rw [decide_eq_false_iff_not] at hb
  refine ok_cnd (fun hb2 => ?_) (fun hb2 => ?_)
  ·refine ok_bind (byte_s h) fun v hv => ?_
   obtain ⟨h1, h2, h3⟩ := hv
   refine ok_grd (by omega) (ok_some ?_)
   have e1 := Int.tmod_nonneg n h1
   have e2 := Int.tmod_lt_of_pos v.1 (show 0 < n by omega)
   exact ⟨e1, fun _ => e2, by omega, h3⟩
  ·refine ok_bind (byte_s h) fun v2 h2 => ?_
   refine ok_bind (byte_s ⟨h.byt, h.len, h2.2.2⟩) fun v3 h3 => ?_
   refine ok_bind (byte_s ⟨h.byt, h.len, h3.2.2⟩) fun v4 h4 => ?_
   refine ok_bind (byte_s ⟨h.byt, h.len, h4.2.2⟩) fun v5 h5 => ?_
   obtain ⟨a2, b2, _⟩ := h2
   obtain ⟨a3, b3, _⟩ := h3
   obtain ⟨a4, b4, _⟩ := h4
   obtain ⟨a5, b5, c5⟩ := h5
   refine ok_grd ⟨by omega, by omega⟩ (ok_grd ⟨by omega, by omega⟩ (ok_grd ⟨by omega, by omega⟩ (ok_grd ⟨by omega, by omega⟩ (ok_grd ⟨by omega, by omega⟩ (ok_grd ⟨by omega, by omega⟩ (ok_grd (by omega) (ok_some ?_)))))))
   have e1 := Int.tmod_nonneg (a := (((v2.1 * (16777216 : Int)) + (v3.1 * (65536 : Int))) + (v4.1 * (256 : Int))) + v5.1) n (by omega)
   have e2 := Int.tmod_lt_of_pos ((((v2.1 * (16777216 : Int)) + (v3.1 * (65536 : Int))) + (v4.1 * (256 : Int))) + v5.1) (show 0 < n by omega)
   exact ⟨e1, fun _ => e2, by omega, c5⟩
theorem once_s {c : Cur} (h : CK c) (n : Int) : Ok (S_l1Once N c n) fun r => 0 ≤ r.2.1 := by
 unfold S_l1Once
 exact ok_bind (below_s h n) fun v hv => ok_some hv.cur
theorem new_s (hN : 4000000 ≤ N) {l : List Int} (hb : Byt l) (hl : l.length ≤ 1048576) : Ok (S_l1New N l) fun r => CK r ∧ r.b = l := by
 unfold S_l1New
 refine ok_grd ⟨by omega, by omega⟩ ?_
 have key : ∀ (fuel i : Nat) (h : Int), 0 ≤ h → h ≤ 1073741823 → i ≤ 4000 → 4001 < fuel + i → Ok (S_l1New_l1 N l (fun h3 => some (⟨l, (0 : Int), h3⟩ : Cur)) fuel (h, (i : Int))) fun r => CK r ∧ r.b = l := by
  intro fuel
  induction fuel with
  | zero => intro i h h1 h2 h4 h3; omega
  | succ fuel ih =>
   intro i h h1 h2 h4 h3
   rw [S_l1New_l1]
   refine ok_cnd (fun c1 => ?_) (fun c1 => ok_some ⟨⟨hb, hl, by simp⟩, rfl⟩)
   refine ok_cnd (fun c2 => ?_) (fun c2 => ok_some ⟨⟨hb, hl, by simp⟩, rfl⟩)
   rw [decide_eq_true_eq] at c1 c2
   have hy := hb i (by omega)
   have hi : ((i : Int)).toNat = i := rfl
   rw [hi]
   refine ok_grd ⟨by omega, by omega⟩ (ok_grd ⟨by omega, c1⟩ (ok_grd hy (ok_grd ⟨by omega, by omega⟩ (ok_grd ⟨by omega, by omega⟩ (ok_grd ⟨by omega, by omega⟩ ?_)))))
   have ha := and_low (x := h * (131 : Int) + l.getD i 0 + (7 : Int)) (m := 1073741823) (by omega)
   have e : ((1073741823 : Nat) : Int) = (1073741823 : Int) := rfl
   rw [e] at ha
   exact ih (i + 1) _ ha.1 ha.2 (by omega) (by omega)
 exact key N 0 _ (by omega) (by omega) (by omega) (by omega)
theorem CK.at {c : Cur} (h : CK c) {i x : Int} (hi : 0 ≤ i) : CK ⟨c.b, i, x⟩ := ⟨h.byt, h.len, hi⟩
end Go.Proofs.Ytcljhpldfanhkaa
namespace Go.Proofs.Ytcljhpldfanhkaa
abbrev VS := Int → Bool
def Bok (n : Nat) (e : Int × Int) : Prop := 0 ≤ e.1 ∧ e.1 < n ∧ 0 ≤ e.2 ∧ e.2 < n ∧ e.1 ≠ e.2
def v2 (a b : Int) : VS := fun v => v == a || v == b
end Go.Proofs.Ytcljhpldfanhkaa
namespace Go.Proofs.Ytcljhpldfanhkaa
def oth (e : Int × Int) (v : Int) : Int := e.1 + e.2 - v
structure PInv (n : Nat) (E : List (Int × Int)) (f T : List Int) : Prop where
 fl : f.length = n
 tl : T.length = E.length
 ok : ∀ e ∈ E, Bok n e
 en : ∀ i, i < E.length → T.getD i 0 = (E.getD i (0, 0)).1 ∨ T.getD i 0 = (E.getD i (0, 0)).2
 nn : ∀ v : Nat, v < n → 0 ≤ f.getD v 0
 sm : ∀ v : Nat, v < n → f.getD v 0 + (T.count (v : Int) : Int) = 2
variable {n : Nat} {E : List (Int × Int)} {f T : List Int}
theorem getD_mem {α : Type} {l : List α} {i : Nat} {d : α} (h : i < l.length) : l.getD i d ∈ l := by
 rw [List.getD_eq_getElem?_getD, List.getElem?_eq_getElem h]; exact List.getElem_mem h
end Go.Proofs.Ytcljhpldfanhkaa
namespace Go.Proofs.Ytcljhpldfanhkaa
variable {n : Nat} {E : List (Int × Int)} {f T : List Int} {a b : Int} {q : List Int} {fr : Int → Int} {k m : Nat}
end Go.Proofs.Ytcljhpldfanhkaa
namespace Go.Proofs.Ytcljhpldfanhkaa
variable {n : Nat} {f T : List Int} {a b : Int}
abbrev brI (bars : List (Int × Int)) (i : Int) : Int × Int := bars.getD i.toNat (0, 0)
structure PG (n : Nat) (bars : List (Int × Int)) (p : Pbl) : Prop where
 inv : PInv n (p.placed.map (brI bars)) p.free p.tails
 pl : ∀ i ∈ p.placed, 0 ≤ i ∧ i < (bars.length : Int)
section
variable {g : Grf} {p : Pbl} {N : Nat} (hN : 4000000 ≤ N) (hn : n ≤ 1000) (hg : g.n = n) (hp : PG n g.bars p)
end
section
variable {g : Grf} {N : Nat} (hN : 4000000 ≤ N) (hn : n ≤ 1000) (hg : g.n = n)
end
end Go.Proofs.Ytcljhpldfanhkaa
namespace Go.Proofs.Ytcljhpldfanhkaa
variable {n : Nat} {N : Nat}
variable {g : Grf} (hN : 4000000 ≤ N) (hn : n ≤ 1000) (hg : g.n = n)
end Go.Proofs.Ytcljhpldfanhkaa
namespace Go.Proofs.Ytcljhpldfanhkaa
variable {n : Nat} {a b : Int} {N : Nat}
section
variable {bars : List (Int × Int)} {p : Pbl} (hN : 4000000 ≤ N) (hn : n ≤ 1000) (hp : PG n bars p)
end
section
variable {bars : List (Int × Int)} (hN : 4000000 ≤ N) (hn : n ≤ 1000)
end
end Go.Proofs.Ytcljhpldfanhkaa
namespace Go.Proofs.Ytcljhpldfanhkaa
variable {n : Nat} {N : Nat}
end Go.Proofs.Ytcljhpldfanhkaa
namespace Go.Proofs.Ytcljhpldfanhkaa
variable {n : Nat} {N : Nat}
theorem put0_s (hN : 4000000 ≤ N) {g : Grf} (hl : g.bars.length ≤ 1000) (x : Int × Int) : ∃ L, S_l2Put N g x = some ⟨g.n, L⟩ ∧ L.length = g.bars.length + 1 ∧ ∀ e, e ∈ L ↔ e = x ∨ e ∈ g.bars := by
 have key : ∀ {kk : (List (Int × Int) × Bool) → Option Grf} (fuel i : Nat) (l : List (Int × Int)) (pl : Bool), i ≤ g.bars.length → g.bars.length < fuel + i → l.length = i + (if pl = true then 1 else 0) → (pl = true → x ∈ l) → (∀ e, (e = x ∨ e ∈ l) ↔ (e = x ∨ e ∈ g.bars.take i)) →
   ∃ l' pl', S_l2Put_l1 N g x kk fuel (l, pl, (i : Int)) = kk (l', pl') ∧ l'.length = g.bars.length + (if pl' = true then 1 else 0) ∧ (pl' = true → x ∈ l') ∧ ∀ e, (e = x ∨ e ∈ l') ↔ (e = x ∨ e ∈ g.bars) := by
  intro kk fuel
  induction fuel with
  | zero => intro i l pl h1 h2; omega
  | succ fuel ih =>
   intro i l pl h1 h2 h3 h4 h5
   rw [S_l2Put_l1]
   have hlb : l.length ≤ 1001 := by rw [h3]; split <;> omega
   by_cases hi : i < g.bars.length
   ·have htk : ∀ e, e ∈ g.bars.take (i + 1) ↔ e ∈ g.bars.take i ∨ e = g.bars.getD i (0, 0) := by
     intro e
     have hd : g.bars.getD i (0, 0) = g.bars[i] := by simp [List.getD_eq_getElem?_getD, List.getElem?_eq_getElem hi]
     rw [List.take_add_one, List.getElem?_eq_getElem hi, List.mem_append, hd]
     simp only [Option.toList_some, List.mem_singleton]
    have step : ∀ l2 : List (Int × Int), (∀ e, (e = x ∨ e ∈ l2) ↔ (e = x ∨ e ∈ l ∨ e = g.bars.getD i (0, 0))) → ∀ e, (e = x ∨ e ∈ l2) ↔ (e = x ∨ e ∈ g.bars.take (i + 1)) := by
     intro l2 h e
     rw [h e, htk e]
     have := h5 e
     constructor
     ·rintro (h | h | h)
      ·exact .inl h
      ·rcases this.1 (.inr h) with h | h
       ·exact .inl h
       ·exact .inr (.inl h)
      ·exact .inr (.inr h)
     ·rintro (h | h | h)
      ·exact .inl h
      ·rcases this.2 (.inr h) with h | h
       ·exact .inl h
       ·exact .inr (.inl h)
      ·exact .inr (.inr h)
    cases pl with
    | true =>
     simp only [if_true] at h3
     obtain ⟨l', pl', k1, k2⟩ := ih (i + 1) (l ++ [g.bars.getD i (0, 0)]) true (by omega) (by omega) (by simp; omega) (fun _ => by simp [h4 rfl]) (step _ fun e => by simp)
     refine ⟨l', pl', ?_, k2⟩
     simp (disch := omega) only [Int.toNat_natCast, tk0, List.length_cons, List.length_nil, grd_pos, grd_T, grd_R, cnd_dt, cnd_df, cnd_true, cnd_false, Option.bind_some, Bool.not_true, succ_cast]
     exact k1
    | false =>
     simp only [Bool.false_eq_true, if_false] at h3
     cases hb : barLeB (g.bars.getD i (0, 0)) x with
     | false =>
      obtain ⟨l', pl', k1, k2⟩ := ih (i + 1) (l ++ [x] ++ [g.bars.getD i (0, 0)]) true (by omega) (by omega) (by simp; omega) (fun _ => by simp) (step _ fun e => by simp; grind)
      refine ⟨l', pl', ?_, k2⟩
      simp (disch := omega) only [Int.toNat_natCast, tk0, List.length_cons, List.length_nil, grd_pos, grd_T, grd_R, cnd_dt, cnd_df, cnd_true, cnd_false, Option.bind_some, Bool.not_false, l2After_s, hb, List.length_append, succ_cast]
      exact k1
     | true =>
      obtain ⟨l', pl', k1, k2⟩ := ih (i + 1) (l ++ [g.bars.getD i (0, 0)]) false (by omega) (by omega) (by simp; omega) (fun h => by cases h) (step _ fun e => by simp)
      refine ⟨l', pl', ?_, k2⟩
      simp (disch := omega) only [Int.toNat_natCast, tk0, List.length_cons, List.length_nil, grd_pos, grd_T, grd_R, cnd_dt, cnd_df, cnd_true, cnd_false, Option.bind_some, Bool.not_false, Bool.not_true, l2After_s, hb, succ_cast]
      exact k1
   ·have e : i = g.bars.length := by omega
    subst e
    refine ⟨l, pl, ?_, h3, h4, by simpa using h5⟩
    simp (disch := omega) only [Int.toNat_natCast, tk0, List.length_cons, List.length_nil, grd_pos, grd_T, grd_R, cnd_dt, cnd_df, cnd_true, cnd_false, Option.bind_some]
 obtain ⟨l', pl', k1, k2, k3, k4⟩ := key (kk := fun (x_ : (List (Int × Int)) × Bool) =>
   match x_ with
   | (l10, placed11) =>
    cnd (!placed11) (
     grd (l10.length + 1 ≤ 4294967296) <|
     some (⟨g.n, (l10 ++ ([(x.1, x.2)] : List (Int × Int)))⟩ : Grf)) (
     some (⟨g.n, l10⟩ : Grf))) N 0 [] false (by omega) (by omega) (by simp) (fun h => by cases h) (fun e => by simp)
 rw [show ((0 : Nat) : Int) = 0 from rfl] at k1
 cases pl' with
 | true =>
  refine ⟨l', k1, by simpa using k2, fun e => ?_⟩
  rw [← k4 e]
  constructor
  ·exact .inr
  ·rintro (rfl | h)
   ·exact k3 rfl
   ·exact h
 | false =>
  simp only [Bool.false_eq_true, if_false] at k2
  refine ⟨l' ++ [x], ?_, by simp; omega, fun e => ?_⟩
  ·refine Eq.trans k1 ?_
   simp (disch := omega) only [Int.toNat_natCast, tk0, List.length_cons, List.length_nil, grd_pos, grd_T, grd_R, cnd_dt, cnd_df, cnd_true, cnd_false, Option.bind_some, Bool.not_false]
  ·rw [← k4 e]; simp; grind
end Go.Proofs.Ytcljhpldfanhkaa
namespace Go.Proofs.Ytcljhpldfanhkaa
variable {N : Nat}
end Go.Proofs.Ytcljhpldfanhkaa
namespace Go.Proofs.Ytcljhpldfanhkaa
open Go.RowKit
variable {N : Nat}
theorem l2CopyD {g : Grf} (h : g.bars.length ≤ 3000000) : S_l2Copy N g = some g := by
 unfold S_l2Copy
 rw [grd_pos (by omega)]; rfl
structure GD (m : Int) (k : Nat) (g : Grf) : Prop where
 len : g.bars.length ≤ k
 rg : ∀ e ∈ g.bars, 0 ≤ e.1 ∧ e.1 < m ∧ 0 ≤ e.2 ∧ e.2 < m
theorem put_d (hN : 4000000 ≤ N) {g : Grf} {m : Int} {k : Nat} (h : GD m k g) (hk : k ≤ 999) {x : Int × Int} (hx : 0 ≤ x.1 ∧ x.1 < m ∧ 0 ≤ x.2 ∧ x.2 < m) : Ok (S_l2Put N g x) fun r => GD m (k + 1) r ∧ r.n = g.n := by
 have hl := h.len
 obtain ⟨L, h1, h2, h3⟩ := put0_s (N := N) hN (g := g) (by omega) x
 refine ⟨_, h1, ⟨by simp only; omega, fun e he => ?_⟩, rfl⟩
 rcases (h3 e).1 he with rfl | h4
 ·exact hx
 ·exact h.rg e h4
theorem remove_d (hN : 4000000 ≤ N) {g : Grf} {m : Int} {k : Nat} (h : GD m k g) (hk : k ≤ 999) (i : Int) : Ok (S_RemoveBar N g i) fun r => GD m k r.1 ∧ r.1.n = g.n := by
 have hl := h.len
 unfold S_RemoveBar
 rw [isGraphS_s N hN, Option.bind_some]
 have cp : ∀ b : Bool, Ok ((S_l2Copy N g).bind fun v => some ((⟨v.n, v.bars⟩ : Grf), b)) fun r => GD m k r.1 ∧ r.1.n = g.n := fun b => by
  rw [l2CopyD (by omega)]; exact ok_some ⟨h, rfl⟩
 refine ok_cnd (fun _ => cp _) fun _ => ok_cnd (fun _ => cp _) fun a1 => ok_cnd (fun _ => cp _) fun a2 => ?_
 rw [decide_eq_false_iff_not] at a1 a2
 have t1 := List.length_take_le i.toNat g.bars
 have hlen : (((([] : List (Int × Int)) ++ ((g.bars.take (i.toNat)).drop 0)) ++ ((g.bars.take g.bars.length).drop (((i + (1 : Int))).toNat)))).length + 1 = g.bars.length := by
  simp only [List.nil_append, List.drop_zero, List.take_length, List.length_append, List.length_take, List.length_drop]; omega
 refine ok_grd ⟨by omega, by omega⟩ (ok_grd (by simp only [List.length_drop]; omega) (ok_grd ⟨by omega, by omega⟩ (ok_grd ⟨by omega, by omega⟩ (ok_grd ?_ (ok_some ⟨⟨?_, ?_⟩, rfl⟩)))))
 ·rw [← List.length_append]; omega
 ·simp only; omega
 ·intro e he
  refine h.rg e ?_
  simp only [List.nil_append, List.drop_zero, List.take_length, List.mem_append] at he
  rcases he with he | he
  ·exact List.mem_of_mem_take he
  ·exact List.mem_of_mem_drop he
theorem add_d (hN : 4000000 ≤ N) {g : Grf} {m : Int} {k : Nat} (h : GD m k g) (hk : k ≤ 999) (hm : g.n ≤ m) (a b : Int) : Ok (S_AddBar N g a b) fun r => GD m (k + 1) r.1 ∧ r.1.n = g.n := by
 have hl := h.len
 unfold S_AddBar
 rw [isGraphS_s N hN, Option.bind_some]
 have cp : ∀ b : Bool, Ok ((S_l2Copy N g).bind fun v => some ((⟨v.n, v.bars⟩ : Grf), b)) fun r => GD m (k + 1) r.1 ∧ r.1.n = g.n := fun b => by
  rw [l2CopyD (by omega)]; exact ok_some ⟨⟨by simp only; omega, h.rg⟩, rfl⟩
 refine ok_cnd (fun _ => cp _) fun _ => ok_cnd (fun _ => cp _) fun a1 => ok_cnd (fun _ => cp _) fun a2 => ok_cnd (fun _ => cp _) fun a3 => ok_cnd (fun _ => cp _) fun a4 => ok_cnd (fun _ => cp _) fun _ => ok_cnd (fun _ => cp _) fun _ => ?_
 rw [decide_eq_false_iff_not] at a1 a2 a3 a4
 refine ok_bind (put_d hN h hk (x := (min a b, max a b)) ⟨by simp only; omega, by simp only; omega, by simp only; omega, by simp only; omega⟩) fun r hr => ok_some hr
end Go.Proofs.Ytcljhpldfanhkaa
namespace Go.Proofs.Ytcljhpldfanhkaa
open Go.RowKit Go.Deep
theorem Rel.freeze1 {w0 : World} {O0 : Hd} {n : Nat} {M : Mp} {s : PS} {a : Act} {w : World} (h : Rel w0 O0 n M s a w) {r : Nat} {e : TypeId} {q : Sq} (hF : notF r = true) (hr : s.r r = some (e, q)) :
  ∃ M', Rel w0 O0 n M' ((s.kill r).setR r none) a w ∧ (∀ b, M'.β b = M.β b) ∧ (∀ v, VR M (Ow (Fs w0 O0) M) w (.row r 0 q.len) v → VR M' (Ow (Fs w0 O0) M') w (.ro true q) v) ∧ ∀ d v, VR M (Ow (Fs w0 O0) M) w d v → VR M' (Ow (Fs w0 O0) M') w (klS r d) v := by
 let M' : Mp := ⟨M.β, fun y => if y = r then none else M.γ y⟩
 have hown : ∀ k, M'.owned k → M.owned k := by
  rintro k (⟨b, hb⟩ | ⟨y, c, z, hy⟩)
  ·exact .inl ⟨b, hb⟩
  ·simp only [M'] at hy
   split at hy
   ·cases hy
   ·exact .inr ⟨y, c, z, hy⟩
 have hA : ∀ f b, b < w.heap.size → Ow (Fs w0 O0) M f b → Ow (Fs w0 O0) M' f b ∧ b < w.heap.size ∧ w.heap[b]? = w.heap[b]? := fun f b h1 h2 => ⟨⟨fun h3 => h2.1 (hown b h3), h2.2⟩, h1, rfl⟩
 have hγ : ∀ y z, y ≠ r → M'.γ y = some z → M.γ y = some z := fun y z h1 h2 => by simpa [M', h1] using h2
 have hβ : ∀ b k, M'.β b = some k → M.β b = some k := fun _ _ h => h
 have hbig : ∀ x y, BIG ≤ x → M'.γ x = some y → M.γ x = some y := fun x y hx h1 => by
  simp only [M'] at h1
  split at h1
  ·cases h1
  ·exact h1
 have hv : ∀ v, VR M (Ow (Fs w0 O0) M) w (.row r 0 q.len) v → VR M' (Ow (Fs w0 O0) M') w (.ro true q) v := by
  intro v h0
  cases h0 with
  | row _ _ _ _ g1 g2 =>
   rcases h.row r e q hr with ⟨hg, h0⟩ | ⟨g, cap, cur, hg, hh, hl, hmx, hcs, hc⟩
   ·have := g2 _ hg
    simp only [RowV] at this
    obtain ⟨⟨ao0, rfl⟩, _, _⟩ := this
    have := VR.ro (M := M') (A := Ow (Fs w0 O0) M') (w := w) true q ao0 0 0 0 (fun _ _ => undef) (by omega) (by omega) (by omega) (by intro i j d hi; omega) (by intro i j d hi; omega)
    rwa [h0] at this
   ·have := g2 _ hg
    simp only [RowV] at this
    obtain ⟨h1, ao, h2, h3⟩ := this
    have h4 := h3 (.inr trivial)
    rw [Nat.zero_mul] at h4
    subst h2
    refine .ro true q ao _ g 0 (fun i j => cur.getD (i * q.sz + j) undef) (by omega) (by omega) (fun _ => ⟨h4, (Array.getElem?_eq_some_iff.1 hh).1, ?_, ?_⟩) (fun i j d hi hd => ?_) (fun i j d hi hd => (VR.relem (fun d' hd' => hc i j d' hi hd') hd).elem_any hd hA)
    ·rintro (⟨b, hb⟩ | ⟨y, c, z, hy⟩)
     ·exact h.inj3 _ _ _ _ _ hb hg
     ·simp only [M'] at hy
      split at hy
      ·cases hy
      ·rename_i hyr; exact hyr (h.inj2 _ _ _ _ _ _ _ hy hg)
    ·exact (h.low _ (.inr ⟨r, _, _, hg⟩)).imp_right (O0.sub _ _)
    ·have hj : j < q.sz := by rw [← Sq.elem_len true q i]; exact (List.getElem?_eq_some_iff.1 hd).1
     have hlt : i * q.sz + j < cur.size := by
      rw [hcs]
      have h4 : (i + 1) * q.sz ≤ cap * q.sz := Nat.mul_le_mul_right _ (by omega)
      rw [Nat.add_mul, Nat.one_mul] at h4; omega
     rw [Nat.zero_add, cell_of_row w g _ cur e (0, 0) hh]
     simp [hlt]
 refine ⟨M', ⟨h.fr, h.dfr, h.sz, fun x => ?_, fun b cs hb => ?_, fun b hb => ?_, fun y e' p hy => ?_, fun y hy => ?_, fun k hk => h.low k (hown k hk), h.inj1, fun y y' k c z c' z' h1 h2 => ?_, fun b y k c z h1 h2 => ?_, h.nle, h.fxb, fun y u u' h1 h2 => ?_⟩, fun _ => rfl, hv, fun d v hd => VR.klS hA hγ hβ hd⟩
 ·have : ((s.kill r).setR r none).t x = kl r (s.t x) := PS.t_kill s r x
  rw [this]; exact VR.kl hA hγ hβ (h.tmp x)
 ·have hb' : (s.kill r).b b = some cs := hb
  rw [PS.b_kill] at hb'
  obtain ⟨cs0, h0, rfl⟩ := Option.map_eq_some_iff.1 hb'
  obtain ⟨k, cur, e2, a1, a2, a3, a4⟩ := h.box b cs0 h0
  refine ⟨k, cur, e2, a1, a2, by simpa using a3, fun j d hd => ?_⟩
  rw [List.getElem?_map] at hd
  obtain ⟨d0, h1, rfl⟩ := Option.map_eq_some_iff.1 hd
  exact VR.klS hA hγ hβ (a4 j d0 h1)
 ·have hb' : (s.kill r).b b = none := hb
  rw [PS.b_kill] at hb'
  exact h.boxn b (by simpa using hb')
 ·have hy : ((s.kill r).setR r none).r y = some (e', p) := hy
  rw [PS.r_setR _ _ _ _ hF] at hy
  by_cases hyr : r = y
  ·rw [if_pos hyr] at hy; cases hy
  ·rw [if_neg hyr] at hy
   rcases h.row y e' p hy with ⟨h1, h2⟩ | ⟨g, cap, cur, h1, h2, h3, h4, h5, h6⟩
   ·exact .inl ⟨by simp [M', Ne.symm hyr, h1], h2⟩
   ·exact .inr ⟨g, cap, cur, by simp [M', Ne.symm hyr, h1], h2, h3, h4, h5, fun i j d hi' hd => (h6 i j d hi' hd).relem_any hd hA hbig⟩
 ·have hy : ((s.kill r).setR r none).r y = none := hy
  rw [PS.r_setR _ _ _ _ hF] at hy
  by_cases hyr : r = y
  ·simp [M', hyr]
  ·rw [if_neg hyr] at hy
   simpa [M', Ne.symm hyr] using h.rown y hy
 ·simp only [M'] at h1 h2
  split at h1 <;> split at h2 <;> first | (cases h1; done) | (cases h2; done) | exact h.inj2 _ _ _ _ _ _ _ h1 h2
 ·simp only [M'] at h2
  split at h2
  ·cases h2
  ·exact h.inj3 _ _ _ _ _ h1 h2
 ·simp only [M'] at h2
  split at h2
  ·cases h2
  ·exact h.fxr y u u' h1 h2
section
variable {C : Cx} {ops : Array Oper} {K : PS → Prop} {l : List Oper} {s s' : PS} {TT : List (Nat × Ty)} {tm : List (Nat × D)} {rw' : List (Nat × Option (TypeId × Sq))} {bx : List (Nat × Option (List D))}
theorem En.freezeB (b i : Nat) {r m : Nat} {e : TypeId} {q : Sq} {cs : List D} (hb : (PS.b ⟨tm, rw', bx⟩ b) = some cs) (hi : cs[i]? = some (.row r 0 m)) (hr : (PS.r ⟨tm, rw', bx⟩ r) = some (e, q)) (hnf : nf ⟨(PS.kill ⟨tm, rw', bx⟩ r).tmp, (r, none) :: rw', (b, some ((cs.map (klS r)).set i (.ro true q))) :: (PS.kill ⟨tm, rw', bx⟩ r).box⟩ = some s') (hm : m = q.len) (hF : notF r = true := by rfl) : En C ⟨tm, rw', bx⟩ s' := ⟨fun M a w hr' => by
 subst hm
 rw [nf_ok hnf]
 obtain ⟨M', h1, h0, h2, h3⟩ := hr'.freeze1 hF hr
 refine ⟨M', h1.fr, h1.dfr, h1.sz, h1.tmp, fun x ds hx => ?_, fun x hx => ?_, h1.row, h1.rown, h1.low, h1.inj1, h1.inj2, h1.inj3, h1.nle, h1.fxb, h1.fxr⟩
 ·by_cases hxb : b = x
  ·subst hxb
   simp [PS.b, look_cons_self] at hx
   subst hx
   obtain ⟨k, cur, e', g1, g2, g3, g4⟩ := hr'.box b cs hb
   refine ⟨k, cur, e', by rw [h0, g1], g2, by simpa using g3, fun j d hj => ?_⟩
   rw [List.getElem?_set] at hj
   by_cases hij : i = j
   ·subst hij
    have hlt := (List.getElem?_eq_some_iff.1 hi).1
    rw [if_pos rfl, if_pos (by simpa using hlt)] at hj
    cases hj
    exact h2 _ (g4 i _ hi)
   ·rw [if_neg hij, List.getElem?_map] at hj
    obtain ⟨d0, hd0, rfl⟩ := Option.map_eq_some_iff.1 hj
    exact h3 _ _ (g4 j d0 hd0)
  ·exact h1.box x ds (by simpa [PS.b, PS.setR, look_cons_ne hxb] using hx)
 ·by_cases hxb : b = x
  ·subst hxb; simp [PS.b, look_cons_self] at hx
  ·exact h1.boxn x (by simpa [PS.b, PS.setR, look_cons_ne hxb] using hx)⟩
end
end Go.Proofs.Ytcljhpldfanhkaa
namespace Go.Proofs.Ytcljhpldfanhkaa
open Go.RowKit
end Go.Proofs.Ytcljhpldfanhkaa
namespace Go.Proofs.Ytcljhpldfanhkaa
open Go.RowKit
end Go.Proofs.Ytcljhpldfanhkaa
namespace Go.Proofs.Ytcljhpldfanhkaa
open Go.RowKit
end Go.Proofs.Ytcljhpldfanhkaa
namespace Go.Proofs.Ytcljhpldfanhkaa
open Go.RowKit
end Go.Proofs.Ytcljhpldfanhkaa
namespace Go.Proofs.Ytcljhpldfanhkaa
open Go.RowKit Go.Deep
end Go.Proofs.Ytcljhpldfanhkaa
namespace Go.Proofs.Ytcljhpldfanhkaa
open Go.RowKit
def S_AreCollinear (N : Nat) (a_0 : Int × Int) (b_1 : Int × Int) (c_2 : Int × Int) : Option (Bool) :=
 (S_l10On N a_0).bind fun v1 =>
 cnd (!v1) (
  some false) (
  (S_l10On N b_1).bind fun v2 =>
  cnd (!v2) (
   some false) (
   (S_l10On N c_2).bind fun v3 =>
   cnd (!v3) (
    some false) (
    grd (Rg64 (b_1.1 - a_0.1)) <|
    grd (Rg64 (c_2.2 - a_0.2)) <|
    grd (Rg64 ((b_1.1 - a_0.1) * (c_2.2 - a_0.2))) <|
    grd (Rg64 (b_1.2 - a_0.2)) <|
    grd (Rg64 (c_2.1 - a_0.1)) <|
    grd (Rg64 ((b_1.2 - a_0.2) * (c_2.1 - a_0.1))) <|
    some (((b_1.1 - a_0.1) * (c_2.2 - a_0.2)) == ((b_1.2 - a_0.2) * (c_2.1 - a_0.1))))))
set_option maxRecDepth 20000 in
set_option maxHeartbeats 1600000 in
theorem S_AreCollinear_w (N : Nat) (a_0 : Int × Int) (b_1 : Int × Int) (c_2 : Int × Int) (r : Bool) (h : S_AreCollinear N a_0 b_1 c_2 = some r) : PCall Try.prog 57 [.agg [.int a_0.1, .int a_0.2], .agg [.int b_1.1, .int b_1.2], .agg [.int c_2.1, .int c_2.2]] [] (.bool r) := by
 unfold S_AreCollinear at h
 refine pcall_intro (TT := TT) tt Try.func57 rfl rfl Try.ntmps57 (congrArg Array.toList Try.results57) rfl rfl fun w0 => ?_
 refine vSeq ?_
 refine vRegion ?_
 iterate 3 refine oBox rfl rfl rfl rfl rfl rfl rfl rfl rfl ?_
 refine oVal tt rfl rfl rfl rfl rfl trivial ?_
 refine vNil ?_
 change VC _ _ _ _
 iterate 2 refine vSeq ?_
 refine vRegion ?_
 refine oVal tt rfl rfl rfl rfl rfl trivial ?_
 obtain ⟨v1, hc1, h⟩ := bind_inv h
 refine oCall (S_l10On_w N a_0 v1 hc1) rfl rfl rfl rfl rfl rfl rfl rfl ⟨⟨rfl, rfl, trivial⟩, trivial⟩ ?_
 iterate 2 refine oVal tt rfl rfl rfl rfl rfl trivial ?_
 refine oSplit rfl rfl rfl (fun hb2 => ?_) (fun hb2 => ?_)
 ·replace h := cnd_t hb2 h
  iterate 3 refine oNoF rfl rfl rfl rfl hb2 rfl rfl ?_
  refine oPick rfl rfl rfl rfl rfl hb2 rfl ?_
  refine oVal tt rfl rfl rfl rfl rfl trivial ?_
  iterate 3 refine oNoF rfl rfl rfl rfl rfl rfl rfl ?_
  refine oPick rfl rfl rfl rfl rfl rfl rfl ?_
  refine vNil ?_
  change VC _ _ _ _
  refine vCondT rfl rfl ?_
  refine vSeq ?_
  refine vRegion ?_
  refine oVal tt rfl rfl rfl rfl rfl trivial ?_
  refine vNil ?_
  change VC _ _ _ _
  refine vRet ?_
  change ∃ _, _
  cases h
  exact ⟨[], _, rfl, trivial, rfl, (.eq rfl), rfl⟩
 ·replace h := cnd_f hb2 h
  refine oValG tt rfl rfl rfl rfl rfl hb2 rfl rfl rfl trivial ?_
  obtain ⟨v2, hc3, h⟩ := bind_inv h
  refine oCallG (S_l10On_w N b_1 v2 hc3) rfl rfl rfl rfl hb2 rfl rfl rfl rfl rfl rfl rfl ⟨⟨rfl, rfl, trivial⟩, trivial⟩ ?_
  refine oValG tt rfl rfl rfl rfl rfl hb2 rfl rfl rfl trivial ?_
  refine oPickF rfl rfl rfl rfl rfl hb2 rfl ?_
  refine oVal tt rfl rfl rfl rfl rfl trivial ?_
  refine oSplit rfl rfl rfl (fun hb4 => ?_) (fun hb4 => ?_)
  ·replace h := cnd_t hb4 h
   iterate 3 refine oNoF rfl rfl rfl rfl hb4 rfl rfl ?_
   refine oPick rfl rfl rfl rfl rfl hb4 rfl ?_
   refine vNil ?_
   change VC _ _ _ _
   refine vCondT rfl rfl ?_
   refine vSeq ?_
   refine vRegion ?_
   refine oVal tt rfl rfl rfl rfl rfl trivial ?_
   refine vNil ?_
   change VC _ _ _ _
   refine vRet ?_
   change ∃ _, _
   cases h
   exact ⟨[], _, rfl, trivial, rfl, (.eq rfl), rfl⟩
  ·replace h := cnd_f hb4 h
   refine oValG tt rfl rfl rfl rfl rfl hb4 rfl rfl rfl trivial ?_
   obtain ⟨v3, hc5, h⟩ := bind_inv h
   refine oCallG (S_l10On_w N c_2 v3 hc5) rfl rfl rfl rfl hb4 rfl rfl rfl rfl rfl rfl rfl ⟨⟨rfl, rfl, trivial⟩, trivial⟩ ?_
   refine oValG tt rfl rfl rfl rfl rfl hb4 rfl rfl rfl trivial ?_
   refine oPickF rfl rfl rfl rfl rfl hb4 rfl ?_
   refine vNil ?_
   change VC _ _ _ _
   refine vCond rfl (fun hb6 => ?_) (fun hb6 => ?_)
   ·replace h := cnd_t hb6 h
    refine vSeq ?_
    refine vRegion ?_
    refine oVal tt rfl rfl rfl rfl rfl trivial ?_
    refine vNil ?_
    change VC _ _ _ _
    refine vRet ?_
    change ∃ _, _
    cases h
    exact ⟨[], _, rfl, trivial, rfl, (.eq rfl), rfl⟩
   ·replace h := cnd_f hb6 h
    refine vSkip ?_
    change VC _ _ _ _
    refine vSeq ?_
    refine vRegion ?_
    iterate 4 refine oVal tt rfl rfl rfl rfl rfl trivial ?_
    obtain ⟨hg7, h⟩ := grd_inv h
    refine oVal tt rfl rfl rfl rfl rfl hg7 ?_
    iterate 4 refine oVal tt rfl rfl rfl rfl rfl trivial ?_
    obtain ⟨hg8, h⟩ := grd_inv h
    refine oVal tt rfl rfl rfl rfl rfl hg8 ?_
    obtain ⟨hg9, h⟩ := grd_inv h
    refine oVal tt rfl rfl rfl rfl rfl hg9 ?_
    iterate 4 refine oVal tt rfl rfl rfl rfl rfl trivial ?_
    obtain ⟨hg10, h⟩ := grd_inv h
    refine oVal tt rfl rfl rfl rfl rfl hg10 ?_
    iterate 4 refine oVal tt rfl rfl rfl rfl rfl trivial ?_
    obtain ⟨hg11, h⟩ := grd_inv h
    refine oVal tt rfl rfl rfl rfl rfl hg11 ?_
    obtain ⟨hg12, h⟩ := grd_inv h
    refine oVal tt rfl rfl rfl rfl rfl hg12 ?_
    iterate 2 refine oVal tt rfl rfl rfl rfl rfl trivial ?_
    refine vNil ?_
    change VC _ _ _ _
    refine vRet ?_
    change ∃ _, _
    cases h
    exact ⟨[], _, rfl, trivial, rfl, (.eq rfl), rfl⟩
def S_l22Squares (N : Nat) (c_0 : Cur) : Option ((List Int) × Int × Int) :=
 (S_l10Of N c_0 (⟨(4 : Int), ([] : List (Int × Int))⟩ : Grf)).bind fun v1 =>
 (S_SquaresOf N v1.1.places).bind fun v2 =>
 (S_l1Once N (⟨c_0.b, v1.2.1, v1.2.2⟩ : Cur) (4 : Int)).bind fun v3 =>
 cnd v3.1 (
  (S_l1Below N (⟨c_0.b, v3.2.1, v3.2.2⟩ : Cur) (6 : Int)).bind fun v4 =>
  (S_l1PickInt N (⟨c_0.b, v4.2.1, v4.2.2⟩ : Cur) ([(-1 : Int), (0 : Int), (3 : Int), (25 : Int), (200 : Int), (201 : Int)] : List Int)).bind fun v5 =>
  grd (0 ≤ v4.1 ∧ v4.1 < (v2.length : Int)) <|
  grd (v2.length = (v2.set ((v4.1).toNat) v5.1).length) <|
  some ((v2.set ((v4.1).toNat) v5.1), v5.2.2.1, v5.2.2.2)) (
  some (v2, v3.2.1, v3.2.2))
set_option maxRecDepth 20000 in
set_option maxHeartbeats 1600000 in
theorem S_l22Squares_w (N : Nat) (c_0 : Cur) (r : (List Int) × Int × Int) (h : S_l22Squares N c_0 = some r) : MCall Try.prog 138 [.ptr 1000000 0] [900101] [1000000] [(3, .ints [])] [(3, .ints r.1)] [[.ro false (.bytes c_0.b), .int c_0.i, .int c_0.h]] [[.ro false (.bytes c_0.b), .int r.2.1, .int r.2.2]] (.row 900101 0 r.1.length) := by
 unfold S_l22Squares at h
 refine mcall_intro (TT := TT) tt Try.func138 rfl rfl Try.ntmps138 (congrArg Array.toList Try.results138) rfl rfl rfl rfl rfl fun w0 O0 => ?_
 refine vSeq ?_
 refine vRegion ?_
 refine oVal tt rfl rfl rfl rfl rfl trivial ?_
 refine vNil ?_
 change VC _ _ _ _
 refine vSeq ?_
 refine vRegion ?_
 refine oVal tt rfl rfl rfl rfl rfl trivial ?_
 refine oPure (wNone rfl) (pBuild bld_impl_Graph rfl rfl) rfl rfl ?_
 refine vEnO (En.zero 9503 111 (.pairs []) rfl rfl) ?_
 refine vEnO (En.zero 9504 71 (.pairs []) rfl rfl) ?_
 obtain ⟨v1, hc1, h⟩ := bind_inv h
 refine oMCall (S_l10Of_w N c_0 (⟨(4 : Int), ([] : List (Int × Int))⟩ : Grf) v1 hc1) [9503, 9504] [1000000] [1070, 1071] rfl rfl rfl rfl rfl rfl ⟨rfl, rfl, trivial⟩ ⟨rfl, trivial⟩ ⟨⟨rfl, rfl⟩, ⟨⟨rfl, rfl⟩, (.inr (.inr ⟨rfl, rfl⟩)), trivial⟩, trivial⟩ ?_
 refine oAlloc tt rfl rfl rfl rfl rfl rfl rfl rfl rfl ?_
 refine oStore tt rfl rfl rfl rfl rfl rfl rfl rfl rfl rfl rfl ⟨trivial, trivial, trivial, trivial⟩ ?_
 refine vNil ?_
 change VC _ _ _ _
 refine vSeq ?_
 refine vRegion ?_
 iterate 2 refine oVal tt rfl rfl rfl rfl rfl trivial ?_
 obtain ⟨v2, hc2, h⟩ := bind_inv h
 refine oCall (S_SquaresOf_w N v1.1.places v2 hc2) rfl rfl rfl rfl rfl rfl rfl rfl ⟨(.inl ⟨rfl, rfl⟩), trivial⟩ ?_
 refine oVal tt rfl rfl rfl rfl rfl trivial ?_
 refine vNil ?_
 change VC _ _ _ _
 iterate 2 refine vSeq ?_
 refine vRegion ?_
 refine oVal tt rfl rfl rfl rfl rfl trivial ?_
 obtain ⟨v3, hc3, h⟩ := bind_inv h
 refine oMCall (S_l1Once_w N (⟨c_0.b, v1.2.1, v1.2.2⟩ : Cur) (4 : Int) v3 hc3) [] [1000000] [] rfl rfl rfl rfl rfl rfl trivial ⟨rfl, trivial⟩ ⟨⟨rfl, rfl⟩, ⟨rfl, rfl⟩, trivial⟩ ?_
 refine vNil ?_
 change VC _ _ _ _
 refine vCond rfl (fun hb4 => ?_) (fun hb4 => ?_)
 ·replace h := cnd_t hb4 h
  refine vRegion ?_
  iterate 2 refine oVal tt rfl rfl rfl rfl rfl trivial ?_
  obtain ⟨v4, hc5, h⟩ := bind_inv h
  refine oMCall (S_l1Below_w N (⟨c_0.b, v3.2.1, v3.2.2⟩ : Cur) (6 : Int) v4 hc5) [] [1000000] [] rfl rfl rfl rfl rfl rfl trivial ⟨rfl, trivial⟩ ⟨⟨rfl, rfl⟩, ⟨rfl, rfl⟩, trivial⟩ ?_
  refine oVal tt rfl rfl rfl rfl rfl trivial ?_
  refine oBuild tt rfl rfl rfl rfl rfl rfl rfl rfl rfl rfl rfl ?_
  obtain ⟨v5, hc6, h⟩ := bind_inv h
  refine oMCall (S_l1PickInt_w N (⟨c_0.b, v4.2.1, v4.2.2⟩ : Cur) ([(-1 : Int), (0 : Int), (3 : Int), (25 : Int), (200 : Int), (201 : Int)] : List Int) v5 hc6) [17] [1000000] [17] rfl rfl rfl rfl rfl rfl ⟨rfl, trivial⟩ ⟨rfl, trivial⟩ ⟨⟨rfl, rfl⟩, ⟨rfl, rfl⟩, trivial⟩ ?_
  obtain ⟨hg7, h⟩ := grd_inv h
  refine oVal tt rfl rfl rfl rfl rfl hg7 ?_
  refine oStore tt rfl rfl rfl rfl rfl rfl rfl rfl rfl rfl ⟨_, _, rfl, hg7.1, hg7.2⟩ ⟨hg7, trivial⟩ ?_
  refine vNil ?_
  change VC _ _ _ _
  refine vSeq ?_
  refine vRegion ?_
  iterate 2 refine oVal tt rfl rfl rfl rfl rfl trivial ?_
  refine vNil ?_
  change VC _ _ _ _
  obtain ⟨hg8, h⟩ := grd_inv h
  refine vRet ?_
  change ∃ _, _
  cases h
  exact ⟨[1100], (by simp only [hg8]; rfl), ⟨rfl, trivial⟩, ⟨rfl, trivial⟩, rfl⟩
 ·replace h := cnd_f hb4 h
  refine vSkip ?_
  change VC _ _ _ _
  refine vSeq ?_
  refine vRegion ?_
  iterate 2 refine oVal tt rfl rfl rfl rfl rfl trivial ?_
  refine vNil ?_
  change VC _ _ _ _
  refine vRet ?_
  change ∃ _, _
  cases h
  exact ⟨[1100], rfl, ⟨rfl, trivial⟩, ⟨rfl, trivial⟩, rfl⟩
def S_DrawHeronOf (N : Nat) (code_0 : List Int) : Option (Int × Int × Int) :=
 (S_l1New N code_0).bind fun v1 =>
 (S_l22Squares N v1).bind fun v2 =>
 grd (0 ≤ (0 : Int) ∧ (0 : Int) < (v2.1.length : Int)) <|
 grd (0 ≤ (1 : Int) ∧ (1 : Int) < (v2.1.length : Int)) <|
 grd (0 ≤ (3 : Int) ∧ (3 : Int) < (v2.1.length : Int)) <|
 some ((v2.1.getD ((0 : Int).toNat) 0), (v2.1.getD ((1 : Int).toNat) 0), (v2.1.getD ((3 : Int).toNat) 0))
set_option maxRecDepth 20000 in
set_option maxHeartbeats 1600000 in
theorem S_DrawHeronOf_w (N : Nat) (code_0 : List Int) (r : Int × Int × Int) (h : S_DrawHeronOf N code_0 = some r) : PCall Try.prog 59 [.ro false (.bytes code_0)] [] (.tup [.int r.1, .int r.2.1, .int r.2.2]) := by
 unfold S_DrawHeronOf at h
 refine pcall_intro (TT := TT) tt Try.func59 rfl rfl Try.ntmps59 (congrArg Array.toList Try.results59) rfl rfl fun w0 => ?_
 refine vSeq ?_
 refine vRegion ?_
 iterate 3 refine oVal tt rfl rfl rfl rfl rfl trivial ?_
 refine vNil ?_
 change VC _ _ _ _
 refine vSeq ?_
 refine vRegion ?_
 refine oVal tt rfl rfl rfl rfl rfl trivial ?_
 obtain ⟨v1, hc1, h⟩ := bind_inv h
 refine oCallB (S_l1New_w N code_0 v1 hc1) rfl rfl rfl rfl rfl ⟨rfl, rfl, trivial⟩ ?_
 refine vEnO (En.zero 9502 3 (.ints []) rfl rfl) ?_
 obtain ⟨v2, hc2, h⟩ := bind_inv h
 refine oMCall (S_l22Squares_w N v1 v2 hc2) [9502] [7] [1080] rfl rfl rfl rfl rfl rfl ⟨rfl, trivial⟩ ⟨rfl, trivial⟩ ⟨⟨rfl, rfl⟩, trivial⟩ ?_
 refine oVal tt rfl rfl rfl rfl rfl trivial ?_
 refine vNil ?_
 change VC _ _ _ _
 refine vSeq ?_
 refine vRegionD (by kernel_rfl) (by kernel_rfl) ?_
 refine cVal tt rfl (wNone rfl) rfl rfl rfl trivial ?_
 obtain ⟨hg3, h⟩ := grd_inv h
 iterate 2 refine cVal tt rfl (wNone rfl) rfl rfl rfl hg3 ?_
 refine cVal tt rfl (wNone rfl) rfl rfl rfl trivial ?_
 obtain ⟨hg4, h⟩ := grd_inv h
 iterate 2 refine cVal tt rfl (wNone rfl) rfl rfl rfl hg4 ?_
 refine cVal tt rfl (wNone rfl) rfl rfl rfl trivial ?_
 obtain ⟨hg5, h⟩ := grd_inv h
 iterate 2 refine cVal tt rfl (wNone rfl) rfl rfl rfl hg5 ?_
 iterate 3 refine cVal tt rfl (wNone rfl) rfl rfl rfl trivial ?_
 refine cNil ?_
 change VC _ _ _ _
 refine vRet ?_
 change ∃ _, _
 cases h
 exact ⟨[], _, rfl, trivial, rfl, (.eq rfl), rfl⟩
def S_DrawIsTriangle (N : Nat) (code_0 : List Int) : Option (Int × Int × Int) :=
 (S_l1New N code_0).bind fun v1 =>
 (S_l22Squares N v1).bind fun v2 =>
 grd (0 ≤ (0 : Int) ∧ (0 : Int) < (v2.1.length : Int)) <|
 grd (0 ≤ (1 : Int) ∧ (1 : Int) < (v2.1.length : Int)) <|
 grd (0 ≤ (5 : Int) ∧ (5 : Int) < (v2.1.length : Int)) <|
 some ((v2.1.getD ((0 : Int).toNat) 0), (v2.1.getD ((1 : Int).toNat) 0), (v2.1.getD ((5 : Int).toNat) 0))
set_option maxRecDepth 20000 in
set_option maxHeartbeats 1600000 in
theorem S_DrawIsTriangle_w (N : Nat) (code_0 : List Int) (r : Int × Int × Int) (h : S_DrawIsTriangle N code_0 = some r) : PCall Try.prog 60 [.ro false (.bytes code_0)] [] (.tup [.int r.1, .int r.2.1, .int r.2.2]) := by
 unfold S_DrawIsTriangle at h
 refine pcall_intro (TT := TT) tt Try.func60 rfl rfl Try.ntmps60 (congrArg Array.toList Try.results60) rfl rfl fun w0 => ?_
 refine vSeq ?_
 refine vRegion ?_
 iterate 3 refine oVal tt rfl rfl rfl rfl rfl trivial ?_
 refine vNil ?_
 change VC _ _ _ _
 refine vSeq ?_
 refine vRegion ?_
 refine oVal tt rfl rfl rfl rfl rfl trivial ?_
 obtain ⟨v1, hc1, h⟩ := bind_inv h
 refine oCallB (S_l1New_w N code_0 v1 hc1) rfl rfl rfl rfl rfl ⟨rfl, rfl, trivial⟩ ?_
 refine vEnO (En.zero 9502 3 (.ints []) rfl rfl) ?_
 obtain ⟨v2, hc2, h⟩ := bind_inv h
 refine oMCall (S_l22Squares_w N v1 v2 hc2) [9502] [7] [1080] rfl rfl rfl rfl rfl rfl ⟨rfl, trivial⟩ ⟨rfl, trivial⟩ ⟨⟨rfl, rfl⟩, trivial⟩ ?_
 refine oVal tt rfl rfl rfl rfl rfl trivial ?_
 refine vNil ?_
 change VC _ _ _ _
 refine vSeq ?_
 refine vRegionD (by kernel_rfl) (by kernel_rfl) ?_
 refine cVal tt rfl (wNone rfl) rfl rfl rfl trivial ?_
 obtain ⟨hg3, h⟩ := grd_inv h
 iterate 2 refine cVal tt rfl (wNone rfl) rfl rfl rfl hg3 ?_
 refine cVal tt rfl (wNone rfl) rfl rfl rfl trivial ?_
 obtain ⟨hg4, h⟩ := grd_inv h
 iterate 2 refine cVal tt rfl (wNone rfl) rfl rfl rfl hg4 ?_
 refine cVal tt rfl (wNone rfl) rfl rfl rfl trivial ?_
 obtain ⟨hg5, h⟩ := grd_inv h
 iterate 2 refine cVal tt rfl (wNone rfl) rfl rfl rfl hg5 ?_
 iterate 3 refine cVal tt rfl (wNone rfl) rfl rfl rfl trivial ?_
 refine cNil ?_
 change VC _ _ _ _
 refine vRet ?_
 change ∃ _, _
 cases h
 exact ⟨[], _, rfl, trivial, rfl, (.eq rfl), rfl⟩
def S_DrawIsPlanar (N : Nat) (code_0 : List Int) : Option (List Int) :=
 (S_l1New N code_0).bind fun v1 =>
 (S_l22Squares N v1).bind fun v2 =>
 some v2.1
set_option maxRecDepth 20000 in
set_option maxHeartbeats 1600000 in
theorem S_DrawIsPlanar_w (N : Nat) (code_0 : List Int) (r : List Int) (h : S_DrawIsPlanar N code_0 = some r) : PCall Try.prog 61 [.ro false (.bytes code_0)] [(3, .ints r)] (.row 0 0 r.length) := by
 unfold S_DrawIsPlanar at h
 refine pcall_intro (TT := TT) tt Try.func61 rfl rfl Try.ntmps61 (congrArg Array.toList Try.results61) rfl rfl fun w0 => ?_
 refine vSeq ?_
 refine vRegion ?_
 refine oVal tt rfl rfl rfl rfl rfl trivial ?_
 refine vNil ?_
 change VC _ _ _ _
 refine vSeq ?_
 refine vRegion ?_
 refine oVal tt rfl rfl rfl rfl rfl trivial ?_
 obtain ⟨v1, hc1, h⟩ := bind_inv h
 refine oCallB (S_l1New_w N code_0 v1 hc1) rfl rfl rfl rfl rfl ⟨rfl, rfl, trivial⟩ ?_
 refine vEnO (En.zero 9502 3 (.ints []) rfl rfl) ?_
 obtain ⟨v2, hc2, h⟩ := bind_inv h
 refine oMCall (S_l22Squares_w N v1 v2 hc2) [9502] [4] [1050] rfl rfl rfl rfl rfl rfl ⟨rfl, trivial⟩ ⟨rfl, trivial⟩ ⟨⟨rfl, rfl⟩, trivial⟩ ?_
 refine oVal tt rfl rfl rfl rfl rfl trivial ?_
 refine vNil ?_
 change VC _ _ _ _
 refine vRet ?_
 change ∃ _, _
 cases h
 exact ⟨[1050], _, rfl, ⟨rfl, trivial⟩, rfl, (.eq rfl), rfl⟩
def S_DrawLastSquares (N : Nat) (code_0 : List Int) : Option (List Int) :=
 (S_l1New N code_0).bind fun v1 =>
 (S_l22Squares N v1).bind fun v2 =>
 grd (0 ≤ (5 : Int) ∧ (5 : Int) ≤ (v2.1.length : Int)) <|
 some ((v2.1.take ((5 : Int).toNat)).drop 0)
set_option maxRecDepth 20000 in
set_option maxHeartbeats 1600000 in
theorem S_DrawLastSquares_w (N : Nat) (code_0 : List Int) (r : List Int) (h : S_DrawLastSquares N code_0 = some r) : PCall Try.prog 62 [.ro false (.bytes code_0)] [] (.ro true (.ints r)) := by
 unfold S_DrawLastSquares at h
 refine pcall_intro (TT := TT) tt Try.func62 rfl rfl Try.ntmps62 (congrArg Array.toList Try.results62) rfl rfl fun w0 => ?_
 refine vSeq ?_
 refine vRegion ?_
 refine oVal tt rfl rfl rfl rfl rfl trivial ?_
 refine vNil ?_
 change VC _ _ _ _
 refine vSeq ?_
 refine vRegion ?_
 refine oVal tt rfl rfl rfl rfl rfl trivial ?_
 obtain ⟨v1, hc1, h⟩ := bind_inv h
 refine oCallB (S_l1New_w N code_0 v1 hc1) rfl rfl rfl rfl rfl ⟨rfl, rfl, trivial⟩ ?_
 refine vEnO (En.zero 9502 3 (.ints []) rfl rfl) ?_
 obtain ⟨v2, hc2, h⟩ := bind_inv h
 refine oMCall (S_l22Squares_w N v1 v2 hc2) [9502] [5] [1060] rfl rfl rfl rfl rfl rfl ⟨rfl, trivial⟩ ⟨rfl, trivial⟩ ⟨⟨rfl, rfl⟩, trivial⟩ ?_
 refine oVal tt rfl rfl rfl rfl rfl trivial ?_
 refine vNil ?_
 change VC _ _ _ _
 refine vSeq ?_
 refine vRegion ?_
 refine oVal tt rfl rfl rfl rfl rfl trivial ?_
 refine oFreeze (t := 7) rfl rfl rfl rfl ?_
 obtain ⟨hg3, h⟩ := grd_inv h
 refine oVal tt rfl rfl rfl rfl rfl hg3 ?_
 refine oVal tt rfl rfl rfl rfl rfl trivial ?_
 refine vNil ?_
 change VC _ _ _ _
 refine vRet ?_
 change ∃ _, _
 cases h
 exact ⟨[], _, rfl, trivial, rfl, (.eq rfl), rfl⟩
end Go.Proofs.Ytcljhpldfanhkaa
namespace Go.Proofs.Ytcljhpldfanhkaa
open Go.RowKit
end Go.Proofs.Ytcljhpldfanhkaa
namespace Go.Proofs.Ytcljhpldfanhkaa
open Go.RowKit
end Go.Proofs.Ytcljhpldfanhkaa
namespace Go.Proofs.Ytcljhpldfanhkaa
open Go.RowKit
end Go.Proofs.Ytcljhpldfanhkaa
namespace Go.Proofs.Ytcljhpldfanhkaa
open Go.RowKit
end Go.Proofs.Ytcljhpldfanhkaa
