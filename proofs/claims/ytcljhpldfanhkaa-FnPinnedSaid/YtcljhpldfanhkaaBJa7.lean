/- Texts that the proof needs, put together: G120 Ec Da Qs Db Pu G81 G83 G115 G121 G10 G11 G19 G20 G66 G122 G124 Va. -/
import Derived.Test.YtcljhpldfanhkaaBJa2
import Derived.Test.YtcljhpldfanhkaaBJa3
import Derived.Test.YtcljhpldfanhkaaBJa4
import Derived.Test.YtcljhpldfanhkaaBJa5
import Derived.Test.YtcljhpldfanhkaaBJa6
set_option linter.unusedVariables false
set_option linter.unusedSimpArgs false
namespace Go.Proofs.Ytcljhpldfanhkaa
open Go.RowKit
def S_l20Any (N : Nat) (c_0 : Cur) : Option (Pin × Int × Int) :=
 (S_l1Below N c_0 (4 : Int)).bind fun v1 =>
 grd (Rg64 ((1 : Int) + v1.1)) <|
 (S_l20Isostatic N (⟨c_0.b, v1.2.1, v1.2.2⟩ : Cur) ((1 : Int) + v1.1)).bind fun v2 =>
 (S_l1Below N (⟨c_0.b, v2.2.1, v2.2.2⟩ : Cur) (8 : Int)).bind fun v3 =>
 cnd (v3.1 == (0 : Int)) (
  (S_l1Below N (⟨c_0.b, v3.2.1, v3.2.2⟩ : Cur) (v2.1.g.bars.length : Int)).bind fun v4 =>
  (S_RemoveBar N v2.1.g v4.1).bind fun v5 =>
  some ((⟨⟨v5.1.n, v5.1.bars⟩, v2.1.ground⟩ : Pin), v4.2.1, v4.2.2)) (
  cnd (v3.1 == (1 : Int)) (
   (S_l1Below N (⟨c_0.b, v3.2.1, v3.2.2⟩ : Cur) v2.1.g.n).bind fun v6 =>
   (S_l1Below N (⟨c_0.b, v6.2.1, v6.2.2⟩ : Cur) v2.1.g.n).bind fun v7 =>
   (S_AddBar N v2.1.g v6.1 v7.1).bind fun v8 =>
   some ((⟨⟨v8.1.n, v8.1.bars⟩, v2.1.ground⟩ : Pin), v7.2.1, v7.2.2)) (
   cnd (v3.1 == (2 : Int)) (
    (S_l1Below N (⟨c_0.b, v3.2.1, v3.2.2⟩ : Cur) (4 : Int)).bind fun v9 =>
    grd (Rg64 (v9.1 - (1 : Int))) <|
    (S_l1Below N (⟨c_0.b, v9.2.1, v9.2.2⟩ : Cur) (9 : Int)).bind fun v10 =>
    some ((⟨⟨v2.1.g.n, v2.1.g.bars⟩, ([(v9.1 - (1 : Int)), v10.1] : List Int)⟩ : Pin), v10.2.1, v10.2.2)) (
    some ((⟨⟨v2.1.g.n, v2.1.g.bars⟩, v2.1.ground⟩ : Pin), v3.2.1, v3.2.2))))
set_option maxRecDepth 20000 in
set_option maxHeartbeats 1600000 in
theorem S_l20Any_w (N : Nat) (c_0 : Cur) (r : Pin × Int × Int) (h : S_l20Any N c_0 = some r) : MCall Try.prog 109 [.ptr 1000000 0] [900101, 900102] [1000000] [(111, .pairs []), (3, .ints [])] [(111, .pairs r.1.g.bars), (3, .ints r.1.ground)] [[.ro false (.bytes c_0.b), .int c_0.i, .int c_0.h]] [[.ro false (.bytes c_0.b), .int r.2.1, .int r.2.2]] (.agg [.int r.1.g.n, .row 900101 0 r.1.g.bars.length, .row 900102 0 r.1.ground.length]) := by
 unfold S_l20Any at h
 refine mcall_intro (TT := TT) tt Try.func109 rfl rfl Try.ntmps109 (congrArg Array.toList Try.results109) rfl rfl rfl rfl rfl fun w0 O0 => ?_
 refine vSeq ?_
 refine vRegion ?_
 refine oAlloc tt rfl rfl rfl rfl rfl rfl rfl rfl rfl ?_
 refine vNil ?_
 change VC _ _ _ _
 refine vSeq ?_
 refine vRegion ?_
 iterate 2 refine oVal tt rfl rfl rfl rfl rfl trivial ?_
 obtain ⟨v1, hc1, h⟩ := bind_inv h
 refine oMCall (S_l1Below_w N c_0 (4 : Int) v1 hc1) [] [1000000] [] rfl rfl rfl rfl rfl rfl trivial ⟨rfl, trivial⟩ ⟨⟨rfl, rfl⟩, ⟨rfl, rfl⟩, trivial⟩ ?_
 obtain ⟨hg2, h⟩ := grd_inv h
 refine oVal tt rfl rfl rfl rfl rfl hg2 ?_
 refine vEnO (En.zero 9503 111 (.pairs []) rfl rfl) ?_
 refine vEnO (En.zero 9504 3 (.ints []) rfl rfl) ?_
 obtain ⟨v2, hc3, h⟩ := bind_inv h
 refine oMCall (S_l20Isostatic_w N (⟨c_0.b, v1.2.1, v1.2.2⟩ : Cur) ((1 : Int) + v1.1) v2 hc3) [9503, 9504] [1000000] [1140, 1141] rfl rfl rfl rfl rfl rfl ⟨rfl, rfl, trivial⟩ ⟨rfl, trivial⟩ ⟨⟨rfl, rfl⟩, ⟨rfl, rfl⟩, trivial⟩ ?_
 refine oAlloc tt rfl rfl rfl rfl rfl rfl rfl rfl rfl ?_
 refine oStore tt rfl rfl rfl rfl rfl rfl rfl rfl rfl rfl rfl ⟨trivial, trivial, trivial, trivial⟩ ?_
 refine vNil ?_
 change VC _ _ _ _
 iterate 2 refine vSeq ?_
 refine vRegion ?_
 refine oVal tt rfl rfl rfl rfl rfl trivial ?_
 obtain ⟨v3, hc4, h⟩ := bind_inv h
 refine oMCall (S_l1Below_w N (⟨c_0.b, v2.2.1, v2.2.2⟩ : Cur) (8 : Int) v3 hc4) [] [1000000] [] rfl rfl rfl rfl rfl rfl trivial ⟨rfl, trivial⟩ ⟨⟨rfl, rfl⟩, ⟨rfl, rfl⟩, trivial⟩ ?_
 refine vNil ?_
 change VC _ _ _ _
 refine vBlock ?_
 refine vSeq ?_
 refine vRegion ?_
 iterate 2 refine oVal tt rfl rfl rfl rfl rfl trivial ?_
 refine vNil ?_
 change VC _ _ _ _
 refine vCond rfl (fun hb5 => ?_) (fun hb5 => ?_)
 ·replace h := cnd_t hb5 h
  refine vSeq ?_
  refine vRegionN 14 [7, 8, 12, 1071000000, 1130000004] [0, 1, 0, 0, 8, 24, 56, 124, 255, 511, 1023, 1023, 0, 6143, 16383] (by kernel_rfl) (by kernel_rfl) (by kernel_rfl) (by kernel_rfl) (by kernel_rfl) rfl (by rfl) ?_
  iterate 7 refine nVal tt rfl (wNone rfl) rfl rfl rfl rfl rfl trivial ?_
  obtain ⟨v4, hc6, h⟩ := bind_inv h
  refine nMCall (rids := []) (bids := []) (pids := []) (wNone rfl) (S_l1Below_w N (⟨c_0.b, v3.2.1, v3.2.2⟩ : Cur) (v2.1.g.bars.length : Int) v4 hc6) [] [1000000] [] rfl rfl rfl rfl rfl (by first | rfl | kernel_rfl) rfl rfl rfl rfl rfl (by first | rfl | kernel_rfl)  trivial ⟨rfl, trivial⟩ ⟨⟨rfl, rfl⟩, ⟨rfl, rfl⟩, trivial⟩ ?_
  obtain ⟨v5, hc7, h⟩ := bind_inv h
  refine nCallR (S_RemoveBar_w N v2.1.g v4.1 v5 hc7) rfl (wNone rfl) rfl rfl rfl rfl rfl rfl (by first | rfl | kernel_rfl | (simp [nrL, nm, gdst, nmT, rowB]; done)) rfl (by first | rfl | kernel_rfl | (simp [chkE, nrL, nm, gdst, nmT, rowB, hid, ment, mentA, mentS]; done) | (simp [chkE, nrL, nm, gdst, nmT, rowB, hid, ment, mentA, mentS]; decide)) ⟨⟨rfl, (.inl ⟨rfl, rfl⟩), trivial⟩, rfl, trivial⟩ ?_
  iterate 3 refine nVal tt rfl (wNone rfl) rfl rfl rfl rfl rfl trivial ?_
  refine nAlloc tt (wNone rfl) rfl rfl rfl rfl rfl rfl rfl rfl rfl rfl ?_
  refine nStoreB tt (wNone rfl) rfl rfl rfl rfl rfl rfl rfl rfl rfl rfl rfl rfl ?_
  refine nNil ?_
  change VO _ _ _ _ _
  refine oVal tt rfl rfl rfl rfl rfl trivial ?_
  refine vNil ?_
  change VC _ _ _ _
  refine vRegion ?_
  iterate 2 refine oVal tt rfl rfl rfl rfl rfl trivial ?_
  refine oStore tt rfl rfl rfl rfl rfl rfl rfl rfl rfl rfl rfl ⟨trivial, trivial, trivial⟩ ?_
  refine vNil ?_
  change VC _ _ _ _
  refine vSeq ?_
  refine vRegion ?_
  refine oVal tt rfl rfl rfl rfl rfl trivial ?_
  refine oStore tt rfl rfl rfl rfl rfl rfl rfl rfl rfl rfl rfl ⟨trivial, trivial, trivial, trivial⟩ ?_
  refine vNil ?_
  change VC _ _ _ _
  refine vRet ?_
  change ∃ _, _
  cases h
  exact ⟨[1280, 1141], rfl, ⟨rfl, rfl, trivial⟩, ⟨rfl, trivial⟩, rfl⟩
 ·replace h := cnd_f hb5 h
  refine vSeq ?_
  refine vRegion ?_
  iterate 2 refine oVal tt rfl rfl rfl rfl rfl trivial ?_
  refine vNil ?_
  change VC _ _ _ _
  refine vCond rfl (fun hb8 => ?_) (fun hb8 => ?_)
  ·replace h := cnd_t hb8 h
   refine vSeq ?_
   refine vRegion ?_
   iterate 4 refine oVal tt rfl rfl rfl rfl rfl trivial ?_
   obtain ⟨v6, hc9, h⟩ := bind_inv h
   refine oMCall (S_l1Below_w N (⟨c_0.b, v3.2.1, v3.2.2⟩ : Cur) v2.1.g.n v6 hc9) [] [1000000] [] rfl rfl rfl rfl rfl rfl trivial ⟨rfl, trivial⟩ ⟨⟨rfl, rfl⟩, ⟨rfl, rfl⟩, trivial⟩ ?_
   refine oVal tt rfl rfl rfl rfl rfl trivial ?_
   refine vNil ?_
   change VC _ _ _ _
   refine vSeq ?_
   refine vRegion ?_
   iterate 4 refine oVal tt rfl rfl rfl rfl rfl trivial ?_
   obtain ⟨v7, hc10, h⟩ := bind_inv h
   refine oMCall (S_l1Below_w N (⟨c_0.b, v6.2.1, v6.2.2⟩ : Cur) v2.1.g.n v7 hc10) [] [1000000] [] rfl rfl rfl rfl rfl rfl trivial ⟨rfl, trivial⟩ ⟨⟨rfl, rfl⟩, ⟨rfl, rfl⟩, trivial⟩ ?_
   refine oVal tt rfl rfl rfl rfl rfl trivial ?_
   refine vNil ?_
   change VC _ _ _ _
   refine vSeq ?_
   refine vRegion ?_
   iterate 4 refine oVal tt rfl rfl rfl rfl rfl trivial ?_
   obtain ⟨v8, hc11, h⟩ := bind_inv h
   refine oCall (S_AddBar_w N v2.1.g v6.1 v7.1 v8 hc11) rfl rfl rfl rfl rfl rfl rfl rfl ⟨⟨rfl, (.inl ⟨rfl, rfl⟩), trivial⟩, rfl, rfl, trivial⟩ ?_
   iterate 3 refine oVal tt rfl rfl rfl rfl rfl trivial ?_
   refine oAlloc tt rfl rfl rfl rfl rfl rfl rfl rfl rfl ?_
   refine oStore tt rfl rfl rfl rfl rfl rfl rfl rfl rfl rfl rfl ⟨trivial, trivial, trivial⟩ ?_
   refine oVal tt rfl rfl rfl rfl rfl trivial ?_
   refine vNil ?_
   change VC _ _ _ _
   refine vRegion ?_
   iterate 2 refine oVal tt rfl rfl rfl rfl rfl trivial ?_
   refine oStore tt rfl rfl rfl rfl rfl rfl rfl rfl rfl rfl rfl ⟨trivial, trivial, trivial⟩ ?_
   refine vNil ?_
   change VC _ _ _ _
   refine vSeq ?_
   refine vRegion ?_
   refine oVal tt rfl rfl rfl rfl rfl trivial ?_
   refine oStore tt rfl rfl rfl rfl rfl rfl rfl rfl rfl rfl rfl ⟨trivial, trivial, trivial, trivial⟩ ?_
   refine vNil ?_
   change VC _ _ _ _
   refine vRet ?_
   change ∃ _, _
   cases h
   exact ⟨[1500, 1141], rfl, ⟨rfl, rfl, trivial⟩, ⟨rfl, trivial⟩, rfl⟩
  ·replace h := cnd_f hb8 h
   refine vSeq ?_
   refine vRegion ?_
   iterate 2 refine oVal tt rfl rfl rfl rfl rfl trivial ?_
   refine vNil ?_
   change VC _ _ _ _
   refine vCond rfl (fun hb12 => ?_) (fun hb12 => ?_)
   ·replace h := cnd_t hb12 h
    refine vRegion ?_
    refine oVal tt rfl rfl rfl rfl rfl trivial ?_
    obtain ⟨v9, hc13, h⟩ := bind_inv h
    refine oMCall (S_l1Below_w N (⟨c_0.b, v3.2.1, v3.2.2⟩ : Cur) (4 : Int) v9 hc13) [] [1000000] [] rfl rfl rfl rfl rfl rfl trivial ⟨rfl, trivial⟩ ⟨⟨rfl, rfl⟩, ⟨rfl, rfl⟩, trivial⟩ ?_
    obtain ⟨hg14, h⟩ := grd_inv h
    refine oVal tt rfl rfl rfl rfl rfl hg14 ?_
    refine oVal tt rfl rfl rfl rfl rfl trivial ?_
    obtain ⟨v10, hc15, h⟩ := bind_inv h
    refine oMCall (S_l1Below_w N (⟨c_0.b, v9.2.1, v9.2.2⟩ : Cur) (9 : Int) v10 hc15) [] [1000000] [] rfl rfl rfl rfl rfl rfl trivial ⟨rfl, trivial⟩ ⟨⟨rfl, rfl⟩, ⟨rfl, rfl⟩, trivial⟩ ?_
    refine oBuild tt rfl rfl rfl rfl rfl rfl rfl rfl rfl rfl rfl ?_
    refine oVal tt rfl rfl rfl rfl rfl trivial ?_
    refine oStore tt rfl rfl rfl rfl rfl rfl rfl rfl rfl rfl rfl ⟨trivial, trivial⟩ ?_
    refine vNil ?_
    change VC _ _ _ _
    refine vSeq ?_
    refine vRegion ?_
    refine oVal tt rfl rfl rfl rfl rfl trivial ?_
    refine oStore tt rfl rfl rfl rfl rfl rfl rfl rfl rfl rfl rfl ⟨trivial, trivial, trivial, trivial⟩ ?_
    refine vNil ?_
    change VC _ _ _ _
    refine vRet ?_
    change ∃ _, _
    cases h
    exact ⟨[1140, 62], rfl, ⟨rfl, rfl, trivial⟩, ⟨rfl, trivial⟩, rfl⟩
   ·replace h := cnd_f hb12 h
    refine vSkip ?_
    change VC _ _ _ _
    refine vSeq ?_
    refine vRegion ?_
    refine oVal tt rfl rfl rfl rfl rfl trivial ?_
    refine oStore tt rfl rfl rfl rfl rfl rfl rfl rfl rfl rfl rfl ⟨trivial, trivial, trivial, trivial⟩ ?_
    refine vNil ?_
    change VC _ _ _ _
    refine vRet ?_
    change ∃ _, _
    cases h
    exact ⟨[1140, 1141], rfl, ⟨rfl, rfl, trivial⟩, ⟨rfl, trivial⟩, rfl⟩
def S_l1New_l1 (N : Nat) (code_0 : List Int) (k : Int → Option (Cur)) : Nat → (Int × Int) → Option (Cur)
 | 0, _ => none
 | n + 1, (h5, i6) =>
  cnd (decide (i6 < (code_0.length : Int))) (
   cnd (decide (i6 < (4000 : Int))) (
    grd (Rg64 (h5 * (131 : Int))) <|
    grd (0 ≤ i6 ∧ i6 < (code_0.length : Int)) <|
    grd (0 ≤ (code_0.getD ((i6).toNat) 0) ∧ (code_0.getD ((i6).toNat) 0) < 256) <|
    grd (Rg64 ((h5 * (131 : Int)) + (code_0.getD ((i6).toNat) 0))) <|
    grd (Rg64 (((h5 * (131 : Int)) + (code_0.getD ((i6).toNat) 0)) + (7 : Int))) <|
    grd (Rg64 (i6 + (1 : Int))) <|
    S_l1New_l1 N code_0 k n ((andI (((h5 * (131 : Int)) + (code_0.getD ((i6).toNat) 0)) + (7 : Int)) (1073741823 : Int)), (i6 + (1 : Int)))) (
    k h5)) (
   k h5)
def S_l1New (N : Nat) (code_0 : List Int) : Option (Cur) :=
 grd (Rg64 ((10101 : Int) + (code_0.length : Int))) <|
 S_l1New_l1 N code_0 (fun (h3 : Int) =>
    some (⟨code_0, (0 : Int), h3⟩ : Cur)) N (((10101 : Int) + (code_0.length : Int)), (0 : Int))
set_option maxRecDepth 20000 in
set_option maxHeartbeats 1600000 in
theorem S_l1New_w (N : Nat) (code_0 : List Int) (r : Cur) (h : S_l1New N code_0 = some r) : PCallB Try.prog 110 [.ro false (.bytes code_0)] [.ro false (.bytes r.b), .int r.i, .int r.h] := by
 unfold S_l1New at h
 refine pcallB_intro (TT := TT) tt Try.func110 rfl rfl Try.ntmps110 (congrArg Array.toList Try.results110) rfl rfl rfl fun w0 O0 => ?_
 refine vSeq ?_
 refine vRegion ?_
 refine oVal tt rfl rfl rfl rfl rfl trivial ?_
 refine vNil ?_
 change VC _ _ _ _
 refine vSeq ?_
 refine vRegion ?_
 iterate 2 refine oVal tt rfl rfl rfl rfl rfl trivial ?_
 obtain ⟨hg1, h⟩ := grd_inv h
 refine oVal tt rfl rfl rfl rfl rfl hg1 ?_
 refine oVal tt rfl rfl rfl rfl rfl trivial ?_
 refine vNil ?_
 change VC _ _ _ _
 iterate 2 refine vSeq ?_
 refine vRegion ?_
 refine oVal tt rfl rfl rfl rfl rfl trivial ?_
 refine vNil ?_
 change VC _ _ _ _
 refine vJoin (F := fun k => S_l1New_l1 N code_0 k) h (α := Int) (J := fun (h3 : Int) => (⟨[(0, .ro false (.bytes code_0)), (3, .int h3)], [], []⟩ : PS)) ?_ ?_
 ·rintro h3 h
  show VC _ _ _ (⟨[(0, .ro false (.bytes code_0)), (3, .int h3)], [], []⟩ : PS)
  refine vSeq ?_
  refine vRegion ?_
  iterate 2 refine oVal tt rfl rfl rfl rfl rfl trivial ?_
  refine oPure (wNone rfl) (pBuild bld_spec_l1Cur rfl rfl) rfl rfl ?_
  refine oBox rfl rfl rfl rfl rfl rfl rfl rfl rfl ?_
  refine oVal tt rfl rfl rfl rfl rfl trivial ?_
  refine vNil ?_
  change VC _ _ _ _
  refine vRet ?_
  change ∃ _, _
  cases h
  exact ⟨31, rfl, rfl, rfl⟩
 ·intro k h
  refine vBlock ?_
  refine vLoopS (α := Int × Int) (fun | (h5, i6) => (⟨[(0, .ro false (.bytes code_0)), (3, .int h5), (4, .int i6)], [], []⟩ : PS)) (S_l1New_l1 N code_0 k) h (En.of ⟨rfl, rfl, rfl, trivial⟩ trivial trivial) (fun _ => rfl) ?_
  rintro n ⟨h5, i6⟩ h
  rw [S_l1New_l1] at h
  show VC _ _ _ (⟨[(0, .ro false (.bytes code_0)), (3, .int h5), (4, .int i6)], [], []⟩ : PS)
  iterate 2 refine vSeq ?_
  refine vRegion ?_
  iterate 5 refine oVal tt rfl rfl rfl rfl rfl trivial ?_
  refine oSplit rfl rfl rfl (fun hb2 => ?_) (fun hb2 => ?_)
  ·replace h := cnd_t hb2 h
   iterate 2 refine oValG tt rfl rfl rfl rfl rfl hb2 rfl rfl rfl trivial ?_
   refine oPick rfl rfl rfl rfl rfl hb2 rfl ?_
   refine vNil ?_
   change VC _ _ _ _
   refine vCond rfl (fun hb3 => ?_) (fun hb3 => ?_)
   ·replace h := cnd_t hb3 h
    refine vSkip ?_
    change VC _ _ _ _
    refine vSeq ?_
    refine vBlock ?_
    refine vRegion ?_
    refine oVal tt rfl rfl rfl rfl rfl trivial ?_
    obtain ⟨hg4, h⟩ := grd_inv h
    refine oVal tt rfl rfl rfl rfl rfl hg4 ?_
    iterate 2 refine oVal tt rfl rfl rfl rfl rfl trivial ?_
    obtain ⟨hg5, h⟩ := grd_inv h
    refine oVal tt rfl rfl rfl rfl rfl hg5 ?_
    refine oVal tt rfl rfl rfl rfl rfl trivial ?_
    obtain ⟨hg6, h⟩ := grd_inv h
    refine oPure (wNone rfl) (pConvI Try.underlying5 Try.underlying3 rfl rfl hg6) rfl rfl ?_
    obtain ⟨hg7, h⟩ := grd_inv h
    refine oVal tt rfl rfl rfl rfl rfl hg7 ?_
    obtain ⟨hg8, h⟩ := grd_inv h
    refine oVal tt rfl rfl rfl rfl rfl hg8 ?_
    iterate 2 refine oVal tt rfl rfl rfl rfl rfl trivial ?_
    refine vNil ?_
    change VC _ _ _ _
    refine vRegion ?_
    refine oVal tt rfl rfl rfl rfl rfl trivial ?_
    obtain ⟨hg9, h⟩ := grd_inv h
    refine oVal tt rfl rfl rfl rfl rfl hg9 ?_
    refine oVal tt rfl rfl rfl rfl rfl trivial ?_
    refine vNil ?_
    change ∃ _, _
    exact ⟨((andI (((h5 * (131 : Int)) + (code_0.getD ((i6).toNat) 0)) + (7 : Int)) (1073741823 : Int)), (i6 + (1 : Int))), (En.of ⟨rfl, rfl, rfl, trivial⟩ trivial trivial), h⟩
   ·replace h := cnd_f hb3 h
    refine vExit ?_
    change ∃ _, _
    exact ⟨h5, (En.of ⟨rfl, rfl, trivial⟩ trivial trivial), h⟩
  ·replace h := cnd_f hb2 h
   iterate 2 refine oNoT rfl rfl rfl rfl hb2 rfl rfl ?_
   refine oPickF rfl rfl rfl rfl rfl hb2 rfl ?_
   refine vNil ?_
   change VC _ _ _ _
   refine vCondF rfl rfl ?_
   refine vExit ?_
   change ∃ _, _
   exact ⟨h5, (En.of ⟨rfl, rfl, trivial⟩ trivial trivial), h⟩
def L_has_l1 (N : Nat) (l_0 : List Int) (x_1 : Int) (k : Unit → Option (Bool)) : Nat → Int → Option (Bool)
 | 0, _ => none
 | n + 1, i3 =>
  cnd (decide (i3 < (l_0.length : Int))) (
   grd (0 ≤ i3 ∧ i3 < (l_0.length : Int)) <|
   cnd ((l_0.getD ((i3).toNat) 0) == x_1) (
    some true) (
    grd (Rg64 (i3 + (1 : Int))) <|
    L_has_l1 N l_0 x_1 k n (i3 + (1 : Int)))) (
   k ())
def L_has (N : Nat) (l_0 : List Int) (x_1 : Int) : Option (Bool) :=
 L_has_l1 N l_0 x_1 (fun (_ : Unit) =>
    some false) N (0 : Int)
set_option maxRecDepth 20000 in
set_option maxHeartbeats 1600000 in
theorem L_has_w (N : Nat) (l_0 : List Int) (x_1 : Int) (r : Bool) (h : L_has N l_0 x_1 = some r) : PCall Try.prog 22 [.ro false (.ints l_0), .int x_1] [] (.bool r) := by
 unfold L_has at h
 refine pcall_intro (TT := TT) tt Try.func22 rfl rfl Try.ntmps22 (congrArg Array.toList Try.results22) rfl rfl fun w0 => ?_
 refine vSeq ?_
 refine vRegion ?_
 refine oVal tt rfl rfl rfl rfl rfl trivial ?_
 refine vNil ?_
 change VC _ _ _ _
 iterate 2 refine vSeq ?_
 refine vRegion ?_
 refine oVal tt rfl rfl rfl rfl rfl trivial ?_
 refine vNil ?_
 change VC _ _ _ _
 refine vJoin (F := fun k => L_has_l1 N l_0 x_1 k) h (α := Unit) (J := fun (_ : Unit) => (⟨[], [], []⟩ : PS)) ?_ ?_
 ·rintro ⟨⟩ h
  show VC _ _ _ (⟨[], [], []⟩ : PS)
  refine vSeq ?_
  refine vRegion ?_
  refine oVal tt rfl rfl rfl rfl rfl trivial ?_
  refine vNil ?_
  change VC _ _ _ _
  refine vRet ?_
  change ∃ _, _
  cases h
  exact ⟨[], _, rfl, trivial, rfl, (.eq rfl), rfl⟩
 ·intro k h
  refine vBlock ?_
  refine vLoopS (α := Int) (fun (i3 : Int) => (⟨[(0, .ro false (.ints l_0)), (1, .int x_1), (5, .int i3)], [], []⟩ : PS)) (L_has_l1 N l_0 x_1 k) h (En.of ⟨rfl, rfl, rfl, trivial⟩ trivial trivial) (fun _ => rfl) ?_
  rintro n i3 h
  rw [L_has_l1] at h
  show VC _ _ _ (⟨[(0, .ro false (.ints l_0)), (1, .int x_1), (5, .int i3)], [], []⟩ : PS)
  iterate 2 refine vSeq ?_
  refine vRegion ?_
  iterate 4 refine oVal tt rfl rfl rfl rfl rfl trivial ?_
  refine vNil ?_
  change VC _ _ _ _
  refine vCond rfl (fun hb1 => ?_) (fun hb1 => ?_)
  ·replace h := cnd_t hb1 h
   refine vSkip ?_
   change VC _ _ _ _
   refine vSeq ?_
   refine vBlock ?_
   refine vSeq ?_
   refine vRegion ?_
   iterate 2 refine oVal tt rfl rfl rfl rfl rfl trivial ?_
   obtain ⟨hg2, h⟩ := grd_inv h
   refine oVal tt rfl rfl rfl rfl rfl hg2 ?_
   iterate 3 refine oVal tt rfl rfl rfl rfl rfl trivial ?_
   refine vNil ?_
   change VC _ _ _ _
   refine vCond rfl (fun hb3 => ?_) (fun hb3 => ?_)
   ·replace h := cnd_t hb3 h
    refine vSeq ?_
    refine vRegion ?_
    refine oVal tt rfl rfl rfl rfl rfl trivial ?_
    refine vNil ?_
    change VC _ _ _ _
    refine vRet ?_
    change ∃ _, _
    cases h
    exact ⟨[], _, rfl, trivial, rfl, (.eq rfl), rfl⟩
   ·replace h := cnd_f hb3 h
    refine vSkip ?_
    change VC _ _ _ _
    refine vRegion ?_
    refine oVal tt rfl rfl rfl rfl rfl trivial ?_
    obtain ⟨hg4, h⟩ := grd_inv h
    refine oVal tt rfl rfl rfl rfl rfl hg4 ?_
    refine oVal tt rfl rfl rfl rfl rfl trivial ?_
    refine vNil ?_
    change ∃ _, _
    exact ⟨(i3 + (1 : Int)), (En.of ⟨rfl, rfl, rfl, trivial⟩ trivial trivial), h⟩
  ·replace h := cnd_f hb1 h
   refine vExit ?_
   change ∃ _, _
   exact ⟨(), (En.of trivial trivial trivial), h⟩
def L_sameInts_l1 (N : Nat) (a_0 : List Int) (b_1 : List Int) (k : Unit → Option (Bool)) : Nat → Int → Option (Bool)
 | 0, _ => none
 | n + 1, i3 =>
  cnd (decide (i3 < (a_0.length : Int))) (
   grd (0 ≤ i3 ∧ i3 < (a_0.length : Int)) <|
   grd (0 ≤ i3 ∧ i3 < (b_1.length : Int)) <|
   cnd ((a_0.getD ((i3).toNat) 0) != (b_1.getD ((i3).toNat) 0)) (
    some false) (
    grd (Rg64 (i3 + (1 : Int))) <|
    L_sameInts_l1 N a_0 b_1 k n (i3 + (1 : Int)))) (
   k ())
def L_sameInts (N : Nat) (a_0 : List Int) (b_1 : List Int) : Option (Bool) :=
 cnd ((a_0.length : Int) != (b_1.length : Int)) (
  some false) (
  L_sameInts_l1 N a_0 b_1 (fun (_ : Unit) =>
     some true) N (0 : Int))
set_option maxRecDepth 20000 in
set_option maxHeartbeats 1600000 in
theorem L_sameInts_w (N : Nat) (a_0 : List Int) (b_1 : List Int) (r : Bool) (h : L_sameInts N a_0 b_1 = some r) : PCall Try.prog 27 [.ro false (.ints a_0), .ro false (.ints b_1)] [] (.bool r) := by
 unfold L_sameInts at h
 refine pcall_intro (TT := TT) tt Try.func27 rfl rfl Try.ntmps27 (congrArg Array.toList Try.results27) rfl rfl fun w0 => ?_
 refine vSeq ?_
 refine vRegion ?_
 refine oVal tt rfl rfl rfl rfl rfl trivial ?_
 refine vNil ?_
 change VC _ _ _ _
 iterate 2 refine vSeq ?_
 refine vRegion ?_
 iterate 5 refine oVal tt rfl rfl rfl rfl rfl trivial ?_
 refine vNil ?_
 change VC _ _ _ _
 refine vCond rfl (fun hb1 => ?_) (fun hb1 => ?_)
 ·replace h := cnd_t hb1 h
  refine vSeq ?_
  refine vRegion ?_
  refine oVal tt rfl rfl rfl rfl rfl trivial ?_
  refine vNil ?_
  change VC _ _ _ _
  refine vRet ?_
  change ∃ _, _
  cases h
  exact ⟨[], _, rfl, trivial, rfl, (.eq rfl), rfl⟩
 ·replace h := cnd_f hb1 h
  refine vSkip ?_
  change VC _ _ _ _
  iterate 2 refine vSeq ?_
  refine vRegion ?_
  refine oVal tt rfl rfl rfl rfl rfl trivial ?_
  refine vNil ?_
  change VC _ _ _ _
  refine vJoin (F := fun k => L_sameInts_l1 N a_0 b_1 k) h (α := Unit) (J := fun (_ : Unit) => (⟨[], [], []⟩ : PS)) ?_ ?_
  ·rintro ⟨⟩ h
   show VC _ _ _ (⟨[], [], []⟩ : PS)
   refine vSeq ?_
   refine vRegion ?_
   refine oVal tt rfl rfl rfl rfl rfl trivial ?_
   refine vNil ?_
   change VC _ _ _ _
   refine vRet ?_
   change ∃ _, _
   cases h
   exact ⟨[], _, rfl, trivial, rfl, (.eq rfl), rfl⟩
  ·intro k h
   refine vBlock ?_
   refine vLoopS (α := Int) (fun (i3 : Int) => (⟨[(0, .ro false (.ints a_0)), (1, .ro false (.ints b_1)), (5, .int i3)], [], []⟩ : PS)) (L_sameInts_l1 N a_0 b_1 k) h (En.of ⟨rfl, rfl, rfl, trivial⟩ trivial trivial) (fun _ => rfl) ?_
   rintro n i3 h
   rw [L_sameInts_l1] at h
   show VC _ _ _ (⟨[(0, .ro false (.ints a_0)), (1, .ro false (.ints b_1)), (5, .int i3)], [], []⟩ : PS)
   iterate 2 refine vSeq ?_
   refine vRegion ?_
   iterate 4 refine oVal tt rfl rfl rfl rfl rfl trivial ?_
   refine vNil ?_
   change VC _ _ _ _
   refine vCond rfl (fun hb2 => ?_) (fun hb2 => ?_)
   ·replace h := cnd_t hb2 h
    refine vSkip ?_
    change VC _ _ _ _
    refine vSeq ?_
    refine vBlock ?_
    refine vSeq ?_
    refine vRegionD (by kernel_rfl) (by kernel_rfl) ?_
    iterate 2 refine cVal tt rfl (wNone rfl) rfl rfl rfl trivial ?_
    obtain ⟨hg3, h⟩ := grd_inv h
    refine cVal tt rfl (wNone rfl) rfl rfl rfl hg3 ?_
    iterate 3 refine cVal tt rfl (wNone rfl) rfl rfl rfl trivial ?_
    obtain ⟨hg4, h⟩ := grd_inv h
    refine cVal tt rfl (wNone rfl) rfl rfl rfl hg4 ?_
    iterate 2 refine cVal tt rfl (wNone rfl) rfl rfl rfl trivial ?_
    refine cNil ?_
    change VC _ _ _ _
    refine vCond rfl (fun hb5 => ?_) (fun hb5 => ?_)
    ·replace h := cnd_t hb5 h
     refine vSeq ?_
     refine vRegion ?_
     refine oVal tt rfl rfl rfl rfl rfl trivial ?_
     refine vNil ?_
     change VC _ _ _ _
     refine vRet ?_
     change ∃ _, _
     cases h
     exact ⟨[], _, rfl, trivial, rfl, (.eq rfl), rfl⟩
    ·replace h := cnd_f hb5 h
     refine vSkip ?_
     change VC _ _ _ _
     refine vRegion ?_
     refine oVal tt rfl rfl rfl rfl rfl trivial ?_
     obtain ⟨hg6, h⟩ := grd_inv h
     refine oVal tt rfl rfl rfl rfl rfl hg6 ?_
     refine oVal tt rfl rfl rfl rfl rfl trivial ?_
     refine vNil ?_
     change ∃ _, _
     exact ⟨(i3 + (1 : Int)), (En.of ⟨rfl, rfl, rfl, trivial⟩ trivial trivial), h⟩
   ·replace h := cnd_f hb2 h
    refine vExit ?_
    change ∃ _, _
    exact ⟨(), (En.of trivial trivial trivial), h⟩
end Go.Proofs.Ytcljhpldfanhkaa
namespace Go.Proofs.Ytcljhpldfanhkaa
open Go.RowKit
variable {n : Nat} {N : Nat}
theorem has_s (hN : 4000000 ≤ N) {l : List Int} (hl : l.length ≤ 3000000) (x : Int) : L_has N l x = some (l.contains x) := by
 have key : ∀ (fuel i : Nat), i ≤ l.length → l.length < fuel + i → L_has_l1 N l x (fun (_ : Unit) => some false) fuel (i : Int) = some ((l.drop i).contains x) := by
  intro fuel
  induction fuel with
  | zero => intro i h1 h2; omega
  | succ fuel ih =>
   intro i h1 h2
   rw [L_has_l1]
   by_cases hi : i < l.length
   ·have e2 : ((i : Int)).toNat = i := rfl
    have ed : l.drop i = l.getD i 0 :: l.drop (i + 1) := by
     rw [List.drop_eq_getElem_cons hi]; simp [List.getD_eq_getElem?_getD, hi]
    rw [cnd_dt (by omega), grd_pos (by omega), e2, ed, List.contains_cons]
    by_cases e : l.getD i 0 = x
    ·rw [cnd_eqt e, e]; simp
    ·rw [cnd_eqf e, grd_R (by omega) (by omega), succ_cast, ih (i + 1) (by omega) (by omega)]
     have : (x == l.getD i 0) = false := by simpa using fun h => e h.symm
     rw [this, Bool.false_or]
   ·rw [cnd_df (by omega), List.drop_eq_nil_of_le (by omega)]; rfl
 have := key N 0 (by omega) (by omega)
 simpa [L_has] using this
theorem sameInts_s (hN : 4000000 ≤ N) {l : List Int} (hl : l.length ≤ 3000000) : L_sameInts N l l = some true := by
 have key : ∀ (fuel i : Nat), i ≤ l.length → l.length < fuel + i → L_sameInts_l1 N l l (fun (_ : Unit) => some true) fuel (i : Int) = some true := by
  intro fuel
  induction fuel with
  | zero => intro i h1 h2; omega
  | succ fuel ih =>
   intro i h1 h2
   rw [L_sameInts_l1]
   by_cases hi : i < l.length
   ·rw [cnd_dt (by omega), grd_pos (by omega), grd_pos (by omega), cnd_nef rfl, grd_R (by omega) (by omega), succ_cast, ih (i + 1) (by omega) (by omega)]
   ·rw [cnd_df (by omega)]
 unfold L_sameInts
 rw [cnd_nef rfl]
 exact key N 0 (by omega) (by omega)
theorem fallsS1_s (hN : 4000000 ≤ N) {a b : List Int} (ha : a.length ≤ 3000000) (hb : b.length ≤ 3000000) : ∀ (fuel i : Nat) (l : List Int), i ≤ b.length → b.length < fuel + i → l.length ≤ i →
  S_FallsWith_l1 N b a (fun x => some x) fuel (l, (i : Int)) = some (l ++ (b.drop i).filter fun x => !a.contains x) := by
 intro fuel
 induction fuel with
 | zero => intro i l h1 h2; omega
 | succ fuel ih =>
  intro i l h1 h2 h3
  rw [S_FallsWith_l1]
  by_cases hi : i < b.length
  ·have e2 : ((i : Int)).toNat = i := by omega
   have ed : b.drop i = b.getD i 0 :: b.drop (i + 1) := by
    rw [List.drop_eq_getElem_cons hi]; simp [List.getD_eq_getElem?_getD, hi]
   have c1 := l2Has_s N hN (l := a) ha (b.getD i 0)
   rw [ed]
   simp (disch := omega) only [cnd_dt, grd_pos, grd_R, e2, c1, Option.bind_some]
   cases hc : a.contains (b.getD i 0) with
   | false =>
    rw [Bool.not_false, cnd_true, succ_cast, ih (i + 1) _ (by omega) (by omega) (by simp; omega), List.filter_cons_of_pos (by simpa using hc), List.append_assoc]
    rfl
   | true =>
    rw [Bool.not_true, cnd_false, succ_cast, ih (i + 1) _ (by omega) (by omega) (by omega), List.filter_cons_of_neg (by simpa using hc)]
  ·rw [cnd_df (by omega), List.drop_eq_nil_of_le (by omega)]; simp
theorem falls_eq (hN : 4000000 ≤ N) {p : Pin} (hp : isPinned p = true) {k : Nat} (hk : k < p.g.bars.length) {a b : List Int} (ha : S_SteadyPoints N (lessP p k) = some a) (hb : S_SteadyPoints N p = some b) : S_FallsWith N p (k : Int) = some (b.filter fun x => !a.contains x) ∧ I_FallsWith N p (k : Int) = some (b.filter fun x => !a.contains x) := by
 obtain ⟨b1, b2, b3, b4⟩ := isPinned_bd hp
 obtain ⟨a', la, sa, ia⟩ := steady_x (N := N) hN (p := lessP p k) (lessP_bd (by omega)) (show p.ground.length ≤ 3000000 by omega)
 obtain ⟨b', lb, sb, ib⟩ := steady_x (N := N) hN (p := p) (by omega) (by omega)
 have ea : a' = a := by rw [ha] at sa; exact (Option.some.inj sa).symm
 have eb : b' = b := by rw [hb] at sb; exact (Option.some.inj sb).symm
 subst ea eb
 have hS : S_FallsWith N p (k : Int) = some (b'.filter fun x => !a'.contains x) := by
  unfold S_FallsWith
  rw [isPinnedS_s N hN (by omega) (by omega), hp, Option.bind_some, Bool.not_true, cnd_false, cnd_df (by omega), cnd_df (by omega), sb, Option.bind_some, l27Less_s hN hp (by omega) (by omega) hk, Option.bind_some, sa, Option.bind_some]
  exact fallsS1_s hN (by omega) (by omega) N 0 [] (by omega) (by omega) (by simp)
 obtain ⟨l, _, l1, l2⟩ := falls_x (N := N) hN (p := p) (by omega) (by omega) (k : Int)
 rw [hS] at l1
 exact ⟨hS, by rw [l2, l1]⟩
theorem falls_iso (hN : 4000000 ≤ N) {p : Pin} {LH LS H I : List (Int × Int)} {t : Nat → Bool} (hp : isPinned p = true) (h : PF N n p LH LS H I t) (hf : 2 * ((innerPts p).length : Int) - ((I.length : Int) - H.length) = 0) (hr : (p.g.bars.length : Int) = (I.length : Int) - H.length) {k : Nat} (hk : k < p.g.bars.length) :
  ∃ l : List Int, I_FallsWith N p (k : Int) = some l ∧ l.length ≠ 0 := by
 have hp' := pinned_sub hp (lessL_sub p.g.bars k)
 obtain ⟨n', LH', LS', H', I', t', h'⟩ := pin_full hN hp'
 have en : n' = n := by have := h.pn; have := h'.pn; simp only at this; omega
 subst en
 have hlen := lessL_len (l := p.g.bars) hk
 have hle : I'.length ≤ H'.length + (lessL p.g.bars k).length := h'.le
 have hin : (innerPts ⟨⟨p.g.n, lessL p.g.bars k⟩, p.ground⟩).length + p.ground.length = n' := h'.inn
 have hin0 := h.inn
 have nf : ¬ (stl t' n' 0).length = n' := fun hc => by
  have h2 := h'.all.1 hc
  omega
 have hall := h.all.2 hf
 have ⟨v, hv, htv⟩ : ∃ v, v < n' ∧ t' v = false := by
  refine Classical.byContradiction fun hc => nf (stl_len.2.2 fun i _ hi => ?_)
  cases hti : t' i with
  | true => rfl
  | false => exact absurd ⟨i, by omega, hti⟩ hc
 have e := falls_eq hN hp hk (a := stl t' n' 0) (b := stl t n' 0) h'.st h.st
 refine ⟨_, e.2, fun h0 => ?_⟩
 have h0 := List.eq_nil_of_length_eq_zero h0
 have hm : (v : Int) ∈ (stl t n' 0).filter fun x => !(stl t' n' 0).contains x := by
  refine List.mem_filter.2 ⟨stl_mem.2 ⟨v, by omega, by omega, stl_len.2.1 hall v (by omega) (by omega), rfl⟩, ?_⟩
  have : ¬ (v : Int) ∈ stl t' n' 0 := fun hm => by
   obtain ⟨i, _, _, h3, h4⟩ := stl_mem.1 hm
   have : i = v := by omega
   subst this
   rw [htv] at h3; cases h3
  simpa using this
 rw [h0] at hm
 cases hm
end Go.Proofs.Ytcljhpldfanhkaa
namespace Go.Proofs.Ytcljhpldfanhkaa
open Go.RowKit
def Ok {α : Type} (o : Option α) (P : α → Prop) : Prop := ∃ r, o = some r ∧ P r
section
variable {α β : Type} {P Q : α → Prop}
theorem ok_some {r : α} (h : P r) : Ok (some r) P := ⟨r, rfl, h⟩
theorem ok_bind {o : Option β} {R : β → Prop} {f : β → Option α} (h : Ok o R) (hf : ∀ r, R r → Ok (f r) P) : Ok (o.bind f) P := by
 obtain ⟨r, rfl, hr⟩ := h
 exact hf r hr
theorem ok_grd {p : Prop} [Decidable p] {o : Option α} (hp : p) (h : Ok o P) : Ok (grd p o) P := by rw [grd_pos hp]; exact h
theorem ok_cnd {b : Bool} {x y : Option α} (h1 : b = true → Ok x P) (h2 : b = false → Ok y P) : Ok (cnd b x y) P := by
 cases b with
 | true => exact h1 rfl
 | false => exact h2 rfl
theorem ok_jn {σ : Type} {k : σ → Option α} {f : (σ → Option α) → Option α} {R : σ → Prop} (hk : ∀ x, R x → Ok (k x) P) (hf : ∀ k' : σ → Option α, (∀ x, R x → Ok (k' x) P) → Ok (f k') P) : Ok (jn k f) P := hf k hk
end
def Byt (l : List Int) : Prop := ∀ i : Nat, i < l.length → 0 ≤ l.getD i 0 ∧ l.getD i 0 < 256
structure CK (c : Cur) : Prop where
 byt : Byt c.b
 len : c.b.length ≤ 1048576
 nn : 0 ≤ c.i
theorem and_low {x : Int} {m : Nat} (hm : m < 4611686018427387904) : 0 ≤ andI x (m : Int) ∧ andI x (m : Int) ≤ m := by
 unfold andI
 have e : (BitVec.ofInt 64 (m : Int)).toNat = m := by rw [BitVec.toNat_ofInt]; omega
 rw [BitVec.toNat_and, e]
 have h : (BitVec.ofInt 64 x).toNat &&& m ≤ m := Nat.and_le_right
 rw [show IntKind.i64.wrap (((BitVec.ofInt 64 x).toNat &&& m : Nat) : Int) = (((BitVec.ofInt 64 x).toNat &&& m : Nat) : Int) from w64_id (by omega) (by omega)]
 omega
theorem and_255 (x : Int) : 0 ≤ andI x (255 : Int) ∧ andI x (255 : Int) < 256 := by
 have := and_low (x := x) (m := 255) (by omega)
 have e : ((255 : Nat) : Int) = (255 : Int) := rfl
 rw [e] at this
 omega
variable {N : Nat}
theorem byte_s {c : Cur} (h : CK c) : Ok (S_l1Byte N c) fun r => 0 ≤ r.1 ∧ r.1 < 256 ∧ 0 ≤ r.2.1 := by
 unfold S_l1Byte
 have hl := h.len
 have hn := h.nn
 refine ok_cnd (fun hb => ?_) (fun hb => ?_)
 ·rw [decide_eq_true_eq] at hb
  have hy := h.byt c.i.toNat (by omega)
  refine ok_grd ⟨hn, hb⟩ (ok_grd hy (ok_some ?_))
  have := and_255 (w64 ((andI (xorI (shrI (w64 ((w64 (c.h * (6364136223846793005 : Int))) + (1442695040888963407 : Int))) 33) (shrI (w64 ((w64 (c.h * (6364136223846793005 : Int))) + (1442695040888963407 : Int))) 45)) (255 : Int)) + (c.b.getD ((c.i).toNat) 0)))
  refine ⟨this.1, this.2, ?_⟩
  show 0 ≤ w64 (c.i + 1)
  rw [show w64 (c.i + 1) = c.i + 1 from w64_id (by omega) (by omega)]
  omega
 ·refine ok_some ?_
  have := and_255 (xorI (shrI (w64 ((w64 (c.h * (6364136223846793005 : Int))) + (1442695040888963407 : Int))) 33) (shrI (w64 ((w64 (c.h * (6364136223846793005 : Int))) + (1442695040888963407 : Int))) 45))
  exact ⟨this.1, this.2, hn⟩
structure Bel (n : Int) (r : Int × Int × Int) : Prop where
 nn : 0 ≤ r.1
 lt : 0 < n → r.1 < n
 zero : n ≤ 0 → r.1 = 0
 cur : 0 ≤ r.2.1
theorem below_s {c : Cur} (h : CK c) (n : Int) : Ok (S_l1Below N c n) (Bel n) := by
 unfold S_l1Below
 refine ok_cnd (fun hb => ?_) (fun hb => ?_)
 ·rw [decide_eq_true_eq] at hb
  exact ok_some ⟨by omega, by omega, by intro; rfl, h.nn⟩
 ·rw [decide_eq_false_iff_not] at hb
  refine ok_cnd (fun hb2 => ?_) (fun hb2 => ?_)
  ·refine ok_bind (byte_s h) fun v hv => ?_
   obtain ⟨h1, h2, h3⟩ := hv
   refine ok_grd (by omega) (ok_some ?_)
   have e1 := Int.tmod_nonneg n h1
   have e2 := Int.tmod_lt_of_pos v.1 (show 0 < n by omega)
   exact ⟨e1, fun _ => e2, by omega, h3⟩
  ·refine ok_bind (byte_s h) fun v2 h2 => ?_
   refine ok_bind (byte_s ⟨h.byt, h.len, h2.2.2⟩) fun v3 h3 => ?_
   refine ok_bind (byte_s ⟨h.byt, h.len, h3.2.2⟩) fun v4 h4 => ?_
   refine ok_bind (byte_s ⟨h.byt, h.len, h4.2.2⟩) fun v5 h5 => ?_
   obtain ⟨a2, b2, _⟩ := h2
   obtain ⟨a3, b3, _⟩ := h3
   obtain ⟨a4, b4, _⟩ := h4
   obtain ⟨a5, b5, c5⟩ := h5
   refine ok_grd ⟨by omega, by omega⟩ (ok_grd ⟨by omega, by omega⟩ (ok_grd ⟨by omega, by omega⟩ (ok_grd ⟨by omega, by omega⟩ (ok_grd ⟨by omega, by omega⟩ (ok_grd ⟨by omega, by omega⟩ (ok_grd (by omega) (ok_some ?_)))))))
   have e1 := Int.tmod_nonneg (a := (((v2.1 * (16777216 : Int)) + (v3.1 * (65536 : Int))) + (v4.1 * (256 : Int))) + v5.1) n (by omega)
   have e2 := Int.tmod_lt_of_pos ((((v2.1 * (16777216 : Int)) + (v3.1 * (65536 : Int))) + (v4.1 * (256 : Int))) + v5.1) (show 0 < n by omega)
   exact ⟨e1, fun _ => e2, by omega, c5⟩
theorem once_s {c : Cur} (h : CK c) (n : Int) : Ok (S_l1Once N c n) fun r => 0 ≤ r.2.1 := by
 unfold S_l1Once
 exact ok_bind (below_s h n) fun v hv => ok_some hv.cur
theorem new_s (hN : 4000000 ≤ N) {l : List Int} (hb : Byt l) (hl : l.length ≤ 1048576) : Ok (S_l1New N l) fun r => CK r ∧ r.b = l := by
 unfold S_l1New
 refine ok_grd ⟨by omega, by omega⟩ ?_
 have key : ∀ (fuel i : Nat) (h : Int), 0 ≤ h → h ≤ 1073741823 → i ≤ 4000 → 4001 < fuel + i → Ok (S_l1New_l1 N l (fun h3 => some (⟨l, (0 : Int), h3⟩ : Cur)) fuel (h, (i : Int))) fun r => CK r ∧ r.b = l := by
  intro fuel
  induction fuel with
  | zero => intro i h h1 h2 h4 h3; omega
  | succ fuel ih =>
   intro i h h1 h2 h4 h3
   rw [S_l1New_l1]
   refine ok_cnd (fun c1 => ?_) (fun c1 => ok_some ⟨⟨hb, hl, by simp⟩, rfl⟩)
   refine ok_cnd (fun c2 => ?_) (fun c2 => ok_some ⟨⟨hb, hl, by simp⟩, rfl⟩)
   rw [decide_eq_true_eq] at c1 c2
   have hy := hb i (by omega)
   have hi : ((i : Int)).toNat = i := rfl
   rw [hi]
   refine ok_grd ⟨by omega, by omega⟩ (ok_grd ⟨by omega, c1⟩ (ok_grd hy (ok_grd ⟨by omega, by omega⟩ (ok_grd ⟨by omega, by omega⟩ (ok_grd ⟨by omega, by omega⟩ ?_)))))
   have ha := and_low (x := h * (131 : Int) + l.getD i 0 + (7 : Int)) (m := 1073741823) (by omega)
   have e : ((1073741823 : Nat) : Int) = (1073741823 : Int) := rfl
   rw [e] at ha
   exact ih (i + 1) _ ha.1 ha.2 (by omega) (by omega)
 exact key N 0 _ (by omega) (by omega) (by omega) (by omega)
theorem CK.at {c : Cur} (h : CK c) {i x : Int} (hi : 0 ≤ i) : CK ⟨c.b, i, x⟩ := ⟨h.byt, h.len, hi⟩
end Go.Proofs.Ytcljhpldfanhkaa
namespace Go.Proofs.Ytcljhpldfanhkaa
variable {N : Nat}
def bitB (m : Int) (j : Nat) : Bool := andI (shrI m (j : Int)) (1 : Int) == (1 : Int)
def setU (m : Int) (k : Nat) : List Int := ((List.range k).filter (bitB m)).map fun (j : Nat) => (j : Int)
theorem setU_succ (m : Int) (k : Nat) : setU m (k + 1) = cnd (bitB m k) (setU m k ++ [(k : Int)]) (setU m k) := by
 unfold setU
 rw [List.range_succ, List.filter_append, List.map_append]
 cases h : bitB m k <;> simp [h, cnd]
theorem setU_len (m : Int) (k : Nat) : (setU m k).length ≤ k := by
 unfold setU
 rw [List.length_map]
 exact Nat.le_trans (List.length_filter_le _ _) (by simp)
theorem setS_s (hN : 4000000 ≤ N) {n m : Int} (hn : n ≤ 1000) : S_l3Set N n m = some (setU m n.toNat) := by
 unfold S_l3Set
 refine Eq.trans ?_ (fold (N := N) (len := n.toNat) (σ := List Int) (st := fun i => setU m i) (F := fun f s => S_l3Set_l1 N n m (fun l3 => some l3) f (s.1, s.2)) (fin := some (setU m n.toNat)) (by omega) (fun f i hi => ?_) fun f => ?_)
 ·simp [setU]
 ·show S_l3Set_l1 N n m _ (f + 1) (setU m i, (i : Int)) = S_l3Set_l1 N n m _ f (setU m (i + 1), ((i + 1 : Nat) : Int))
  have hl := setU_len m i
  rw [S_l3Set_l1, cnd_dt (by omega), grd_pos (by omega), setU_succ]
  show cnd (bitB m i) _ _ = _
  cases bitB m i with
  | true => rw [cnd_true, cnd_true, grd_pos (by omega), grd_R (by omega) (by omega), succ_cast]
  | false => rw [cnd_false, cnd_false, grd_R (by omega) (by omega), succ_cast]
 ·show S_l3Set_l1 N n m _ (f + 1) (setU m n.toNat, ((n.toNat : Nat) : Int)) = _
  rw [S_l3Set_l1, cnd_df (by omega)]
end Go.Proofs.Ytcljhpldfanhkaa
namespace Go.Proofs.Ytcljhpldfanhkaa
open Go.RowKit
variable {N : Nat}
theorem l2CopyD {g : Grf} (h : g.bars.length ≤ 3000000) : S_l2Copy N g = some g := by
 unfold S_l2Copy
 rw [grd_pos (by omega)]; rfl
structure GD (m : Int) (k : Nat) (g : Grf) : Prop where
 len : g.bars.length ≤ k
 rg : ∀ e ∈ g.bars, 0 ≤ e.1 ∧ e.1 < m ∧ 0 ≤ e.2 ∧ e.2 < m
theorem put_d (hN : 4000000 ≤ N) {g : Grf} {m : Int} {k : Nat} (h : GD m k g) (hk : k ≤ 999) {x : Int × Int} (hx : 0 ≤ x.1 ∧ x.1 < m ∧ 0 ≤ x.2 ∧ x.2 < m) : Ok (S_l2Put N g x) fun r => GD m (k + 1) r ∧ r.n = g.n := by
 have hl := h.len
 obtain ⟨L, h1, h2, h3⟩ := put0_s (N := N) hN (g := g) (by omega) x
 refine ⟨_, h1, ⟨by simp only; omega, fun e he => ?_⟩, rfl⟩
 rcases (h3 e).1 he with rfl | h4
 ·exact hx
 ·exact h.rg e h4
theorem remove_d (hN : 4000000 ≤ N) {g : Grf} {m : Int} {k : Nat} (h : GD m k g) (hk : k ≤ 999) (i : Int) : Ok (S_RemoveBar N g i) fun r => GD m k r.1 ∧ r.1.n = g.n := by
 have hl := h.len
 unfold S_RemoveBar
 rw [isGraphS_s N hN, Option.bind_some]
 have cp : ∀ b : Bool, Ok ((S_l2Copy N g).bind fun v => some ((⟨v.n, v.bars⟩ : Grf), b)) fun r => GD m k r.1 ∧ r.1.n = g.n := fun b => by
  rw [l2CopyD (by omega)]; exact ok_some ⟨h, rfl⟩
 refine ok_cnd (fun _ => cp _) fun _ => ok_cnd (fun _ => cp _) fun a1 => ok_cnd (fun _ => cp _) fun a2 => ?_
 rw [decide_eq_false_iff_not] at a1 a2
 have t1 := List.length_take_le i.toNat g.bars
 have hlen : (((([] : List (Int × Int)) ++ ((g.bars.take (i.toNat)).drop 0)) ++ ((g.bars.take g.bars.length).drop (((i + (1 : Int))).toNat)))).length + 1 = g.bars.length := by
  simp only [List.nil_append, List.drop_zero, List.take_length, List.length_append, List.length_take, List.length_drop]; omega
 refine ok_grd ⟨by omega, by omega⟩ (ok_grd (by simp only [List.length_drop]; omega) (ok_grd ⟨by omega, by omega⟩ (ok_grd ⟨by omega, by omega⟩ (ok_grd ?_ (ok_some ⟨⟨?_, ?_⟩, rfl⟩)))))
 ·rw [← List.length_append]; omega
 ·simp only; omega
 ·intro e he
  refine h.rg e ?_
  simp only [List.nil_append, List.drop_zero, List.take_length, List.mem_append] at he
  rcases he with he | he
  ·exact List.mem_of_mem_take he
  ·exact List.mem_of_mem_drop he
theorem add_d (hN : 4000000 ≤ N) {g : Grf} {m : Int} {k : Nat} (h : GD m k g) (hk : k ≤ 999) (hm : g.n ≤ m) (a b : Int) : Ok (S_AddBar N g a b) fun r => GD m (k + 1) r.1 ∧ r.1.n = g.n := by
 have hl := h.len
 unfold S_AddBar
 rw [isGraphS_s N hN, Option.bind_some]
 have cp : ∀ b : Bool, Ok ((S_l2Copy N g).bind fun v => some ((⟨v.n, v.bars⟩ : Grf), b)) fun r => GD m (k + 1) r.1 ∧ r.1.n = g.n := fun b => by
  rw [l2CopyD (by omega)]; exact ok_some ⟨⟨by simp only; omega, h.rg⟩, rfl⟩
 refine ok_cnd (fun _ => cp _) fun _ => ok_cnd (fun _ => cp _) fun a1 => ok_cnd (fun _ => cp _) fun a2 => ok_cnd (fun _ => cp _) fun a3 => ok_cnd (fun _ => cp _) fun a4 => ok_cnd (fun _ => cp _) fun _ => ok_cnd (fun _ => cp _) fun _ => ?_
 rw [decide_eq_false_iff_not] at a1 a2 a3 a4
 refine ok_bind (put_d hN h hk (x := (min a b, max a b)) ⟨by simp only; omega, by simp only; omega, by simp only; omega, by simp only; omega⟩) fun r hr => ok_some hr
structure PD (k : Nat) (p : Pin) : Prop where
 gd : GD 64 k p.g
 gl : p.ground.length ≤ 3
 n0 : 0 ≤ p.g.n
 n1 : p.g.n ≤ 64
theorem iso_d (hN : 4000000 ≤ N) {c : Cur} (hc : CK c) {inner : Int} (hi : 0 ≤ inner ∧ inner ≤ 4) : Ok (S_l20Isostatic N c inner) fun r => PD 40 r.1 ∧ 0 ≤ r.2.1 := by
 unfold S_l20Isostatic
 refine ok_bind (below_s hc 2) fun v1 h1 => ?_
 have b0 := h1.nn
 have b1 := h1.lt (by omega)
 have hp : (2 : Int) ^ ((2 : Int) + v1.1).toNat ≤ 8 := by
  have : ((2 : Int) + v1.1).toNat = 2 ∨ ((2 : Int) + v1.1).toNat = 3 := by omega
  rcases this with e | e <;> rw [e] <;> decide
 have hp0 : 0 ≤ (2 : Int) ^ ((2 : Int) + v1.1).toNat := by
  have : ((2 : Int) + v1.1).toNat = 2 ∨ ((2 : Int) + v1.1).toNat = 3 := by omega
  rcases this with e | e <;> rw [e] <;> decide
 refine ok_grd ⟨by omega, by omega⟩ (ok_grd ⟨by omega, by omega⟩ (ok_grd ⟨by omega, by omega, ⟨by omega, by omega⟩⟩ (ok_grd ⟨by omega, by omega⟩ ?_)))
 rw [setS_s hN (by omega), Option.bind_some]
 generalize hgr : setU _ _ = gr
 have hgl : gr.length ≤ 3 := by
  have := setU_len ((1 : Int) * 2 ^ ((((2 : Int) + v1.1)).toNat) - (1 : Int)) ((2 : Int) + v1.1).toNat
  rw [← hgr]; omega
 have key : ∀ (fuel : Nat) (l : List (Int × Int)) (v i h n : Int), GD 64 (3 * v.toNat) ⟨n, l⟩ → 0 ≤ n → n ≤ 64 → 2 ≤ v → v ≤ 8 → 0 ≤ i → 10 < fuel + v → Ok (S_l20Isostatic_l1 N c inner v1 (fun (x : (List (Int × Int)) × Int × Int × Int) =>
   match x with
   | (l148, c149, c150, c151) =>
    some ((⟨⟨c151, l148⟩, gr⟩ : Pin), c149, c150)) fuel (l, v, i, h, n)) fun r => PD 40 r.1 ∧ 0 ≤ r.2.1 := by
  intro fuel
  induction fuel with
  | zero => intro l v i h n h1 h2 h3 h4 h5 h6 h7; omega
  | succ fuel ih =>
   intro l v i h n hg hn0 hn1 hv2 hv8 hi0 hf
   rw [S_l20Isostatic_l1]
   have two : ∀ (g : Grf) (x y w i h : Int), GD 64 (3 * v.toNat) g → 0 ≤ g.n → g.n ≤ 64 → 0 ≤ x ∧ x < 64 → 0 ≤ w ∧ w < 64 → 0 ≤ i → v ≤ 7 → Ok ((S_l2Put N g (x, v)).bind fun v275 => (S_l2Put N v275 (w, v)).bind fun v276 => grd (Rg64 (v + (1 : Int))) <| S_l20Isostatic_l1 N c inner v1 (fun (x : (List (Int × Int)) × Int × Int × Int) =>
     match x with
     | (l148, c149, c150, c151) =>
      some ((⟨⟨c151, l148⟩, gr⟩ : Pin), c149, c150)) fuel (v276.bars, (v + (1 : Int)), i, h, v276.n)) fun r => PD 40 r.1 ∧ 0 ≤ r.2.1 := by
    intro g x y w i h hg hn0 hn1 hx hw hi hv7
    refine ok_bind (put_d hN hg (by omega) ⟨hx.1, hx.2, by omega, by omega⟩) fun g1 k1 => ?_
    refine ok_bind (put_d hN k1.1 (by omega) ⟨hw.1, hw.2, by omega, by omega⟩) fun g2 k2 => ?_
    refine ok_grd ⟨by omega, by omega⟩ (ih _ _ _ _ _ ⟨?_, k2.1.rg⟩ ?_ ?_ (by omega) (by omega) hi (by omega))
    ·have := k2.1.len; simp only; omega
    ·rw [k2.2, k1.2]; exact hn0
    ·rw [k2.2, k1.2]; exact hn1
   have tm : ∀ x : Int, 0 ≤ x → 0 ≤ Int.tmod x v ∧ Int.tmod x v < 64 := fun x hx => ⟨Int.tmod_nonneg v hx, by have := Int.tmod_lt_of_pos x (show 0 < v by omega); omega⟩
   have plain : ∀ (i h : Int), 0 ≤ i → v ≤ 7 → Ok ((S_l1Below N (⟨c.b, i, h⟩ : Cur) v).bind fun v273 =>
        grd (Rg64 (v273.1 + (1 : Int))) <|
        grd (Rg64 (v - (1 : Int))) <|
        (S_l1Below N (⟨c.b, v273.2.1, v273.2.2⟩ : Cur) (v - (1 : Int))).bind fun v274 =>
        grd (Rg64 ((v273.1 + (1 : Int)) + v274.1)) <|
        grd (v ≠ 0) <|
        (S_l2Put N (⟨n, l⟩ : Grf) (v273.1, v)).bind fun v275 =>
        (S_l2Put N v275 ((Int.tmod ((v273.1 + (1 : Int)) + v274.1) v), v)).bind fun v276 =>
        grd (Rg64 (v + (1 : Int))) <|
        S_l20Isostatic_l1 N c inner v1 (fun (x : (List (Int × Int)) × Int × Int × Int) =>
   match x with
   | (l148, c149, c150, c151) =>
    some ((⟨⟨c151, l148⟩, gr⟩ : Pin), c149, c150)) fuel (v276.bars, (v + (1 : Int)), v274.2.1, v274.2.2, v276.n)) fun r => PD 40 r.1 ∧ 0 ≤ r.2.1 := by
    intro i h hi0 hv7
    refine ok_bind (below_s (hc.at hi0) v) fun r hr => ?_
    have r0 := hr.nn
    have r1 := hr.lt (by omega)
    refine ok_grd ⟨by omega, by omega⟩ (ok_grd ⟨by omega, by omega⟩ ?_)
    refine ok_bind (below_s (hc.at hr.cur) (v - 1)) fun s hs => ?_
    have s0 := hs.nn
    have s1 := hs.lt (by omega)
    refine ok_grd ⟨by omega, by omega⟩ (ok_grd (by omega) ?_)
    exact two _ _ 0 _ _ _ hg hn0 hn1 ⟨by omega, by omega⟩ (tm _ (by omega)) hs.cur hv7
   refine ok_cnd (fun c1 => ?_) (fun c1 => ?_)
   ·rw [decide_eq_true_eq] at c1
    have hv7 : v ≤ 7 := by omega
    refine ok_cnd (fun c2 => ?_) (fun c2 => plain _ _ hi0 hv7)
    refine ok_bind (once_s (hc.at hi0) 2) fun o ho => ?_
    refine ok_cnd (fun c3 => ?_) (fun c3 => plain _ _ ho hv7)
    refine ok_jn (R := fun x => 0 ≤ x.1) (fun x hx => plain _ _ hx hv7) fun k' hk' => ?_
    refine ok_cnd (fun c4 => ?_) (fun c4 => hk' _ ho)
    rw [decide_eq_true_eq] at c4
    refine ok_bind (below_s (hc.at ho) (l.length : Int)) fun r hr => ?_
    have r0 := hr.nn
    have r1 := hr.lt (by omega)
    have hin : l.getD r.1.toNat (0, 0) ∈ l := by
     rw [List.getD_eq_getElem?_getD, List.getElem?_eq_getElem (show r.1.toNat < l.length by omega)]; exact List.getElem_mem (by omega)
    generalize l.getD r.1.toNat (0, 0) = e at hin
    obtain ⟨e1, e2, e3, e4⟩ := hg.rg e hin
    refine ok_grd ⟨by omega, by omega⟩ (ok_grd ⟨by omega, by omega⟩ (ok_grd ⟨by omega, by omega⟩ ?_))
    refine ok_bind (below_s (hc.at hr.cur) (v - 1)) fun s hs => ?_
    have s0 := hs.nn
    have s1 := hs.lt (by omega)
    refine ok_grd ⟨by omega, by omega⟩ (ok_grd (by omega) ?_)
    have three : ∀ w : Int, 0 ≤ w ∧ w < 64 → Ok ((S_RemoveBar N (⟨n, l⟩ : Grf) r.1).bind fun v280 =>
          (S_l2Put N v280.1 (e.1, v)).bind fun v281 =>
          (S_l2Put N v281 (e.2, v)).bind fun v282 =>
          (S_l2Put N v282 (w, v)).bind fun v283 =>
          grd (Rg64 (v + (1 : Int))) <|
          S_l20Isostatic_l1 N c inner v1 (fun (x : (List (Int × Int)) × Int × Int × Int) =>
   match x with
   | (l148, c149, c150, c151) =>
    some ((⟨⟨c151, l148⟩, gr⟩ : Pin), c149, c150)) fuel (v283.bars, (v + (1 : Int)), s.2.1, s.2.2, v283.n)) fun r => PD 40 r.1 ∧ 0 ≤ r.2.1 := by
     intro w hw
     refine ok_bind (remove_d hN hg (by omega) r.1) fun g0 k0 => ?_
     refine ok_bind (put_d hN k0.1 (by omega) ⟨e1, e2, by omega, by omega⟩) fun g1 k1 => ?_
     refine ok_bind (put_d hN k1.1 (by omega) ⟨e3, e4, by omega, by omega⟩) fun g2 k2 => ?_
     refine ok_bind (put_d hN k2.1 (by omega) ⟨hw.1, hw.2, by omega, by omega⟩) fun g3 k3 => ?_
     have hn : g3.n = n := by rw [k3.2, k2.2, k1.2, k0.2]
     refine ok_grd ⟨by omega, by omega⟩ (ih _ _ _ _ _ ⟨?_, k3.1.rg⟩ (by omega) (by omega) (by omega) (by omega) hs.cur (by omega))
     have := k3.1.len; simp only; omega
    refine ok_cnd (fun c5 => ?_) (fun c5 => ?_)
    ·refine ok_cnd (fun c6 => ?_) (fun c6 => hk' _ hs.cur)
     refine ok_cnd (fun c7 => ?_) (fun c7 => hk' _ hs.cur)
     exact three _ (tm _ (by omega))
    ·refine ok_jn (R := fun w => 0 ≤ w ∧ w < 64) (fun w hw => ?_) fun k2 hk2 => ?_
     ·refine ok_cnd (fun c6 => ?_) (fun c6 => hk' _ hs.cur)
      refine ok_cnd (fun c7 => ?_) (fun c7 => hk' _ hs.cur)
      exact three _ hw
     ·refine ok_cnd (fun c6 => ?_) (fun c6 => ?_)
      ·exact hk2 _ (tm _ (by omega))
      ·exact hk2 _ (tm _ (by omega))
   ·exact ok_some ⟨⟨⟨by have := hg.len; simp only at this ⊢; omega, hg.rg⟩, hgl, hn0, hn1⟩, hi0⟩
 exact key N [] _ _ _ _ ⟨by simp, by simp⟩ (by omega) (by omega) (by omega) (by omega) h1.cur (by omega)
theorem any_d (hN : 4000000 ≤ N) {c : Cur} (hc : CK c) : Ok (S_l20Any N c) fun r => PD 41 r.1 ∧ 0 ≤ r.2.1 := by
 unfold S_l20Any
 refine ok_bind (below_s hc 4) fun v1 h1 => ?_
 have b0 := h1.nn
 have b1 := h1.lt (by omega)
 refine ok_grd ⟨by omega, by omega⟩ ?_
 refine ok_bind (iso_d hN (hc.at h1.cur) ⟨by omega, by omega⟩) fun v2 h2 => ?_
 obtain ⟨p2, c2⟩ := h2
 refine ok_bind (below_s (hc.at c2) 8) fun v3 h3 => ?_
 have wk : GD 64 41 v2.1.g := ⟨by have := p2.gd.len; omega, p2.gd.rg⟩
 refine ok_cnd (fun c1 => ?_) (fun c1 => ?_)
 ·refine ok_bind (below_s (hc.at h3.cur) _) fun v4 h4 => ?_
  refine ok_bind (remove_d hN p2.gd (by omega) v4.1) fun v5 h5 => ok_some ⟨⟨⟨?_, h5.1.rg⟩, p2.gl, ?_, ?_⟩, h4.cur⟩
  ·have := h5.1.len; simp only; omega
  ·have := p2.n0; simp only; rw [h5.2]; exact this
  ·have := p2.n1; simp only; rw [h5.2]; exact this
 refine ok_cnd (fun c1 => ?_) (fun c1 => ?_)
 ·refine ok_bind (below_s (hc.at h3.cur) _) fun v4 h4 => ?_
  refine ok_bind (below_s (hc.at h4.cur) _) fun v5 h5 => ?_
  refine ok_bind (add_d hN p2.gd (by omega) p2.n1 v4.1 v5.1) fun v6 h6 => ok_some ⟨⟨⟨h6.1.len, h6.1.rg⟩, p2.gl, ?_, ?_⟩, h5.cur⟩
  ·have := p2.n0; simp only; rw [h6.2]; exact this
  ·have := p2.n1; simp only; rw [h6.2]; exact this
 refine ok_cnd (fun c1 => ?_) (fun c1 => ok_some ⟨⟨wk, p2.gl, p2.n0, p2.n1⟩, h3.cur⟩)
 refine ok_bind (below_s (hc.at h3.cur) 4) fun v4 h4 => ?_
 have d0 := h4.nn
 have d1 := h4.lt (by omega)
 refine ok_grd ⟨by omega, by omega⟩ ?_
 refine ok_bind (below_s (hc.at h4.cur) 9) fun v5 h5 => ok_some ⟨⟨wk, by simp, p2.n0, p2.n1⟩, h5.cur⟩
end Go.Proofs.Ytcljhpldfanhkaa
namespace Go.Proofs.Ytcljhpldfanhkaa
variable {N : Nat}
theorem pinnedRigid_x (hN : 4000000 ≤ N) {p : Pin} (hb : p.g.bars.length ≤ 3000000) (hg : p.ground.length ≤ 3000000) : ∃ b : Bool, S_IsPinnedRigid N p = some b ∧ I_IsPinnedRigid N p = some b := by
 obtain ⟨r, h1, h2⟩ := pinnedFreedom_x (N := N) hN hb hg
 exact ⟨r == 0, by unfold S_IsPinnedRigid; rw [h1]; rfl, by unfold I_IsPinnedRigid; rw [h2]; rfl⟩
theorem isostatic_x (hN : 4000000 ≤ N) {p : Pin} (hb : p.g.bars.length ≤ 3000000) (hg : p.ground.length ≤ 3000000) : ∃ b : Bool, S_IsIsostatic N p = some b ∧ I_IsIsostatic N p = some b := by
 obtain ⟨b, h1, h2⟩ := pinnedRigid_x (N := N) hN hb hg
 obtain ⟨r, g1, g2, _⟩ := pinnedRank_x (N := N) hN hb hg
 cases b with
 | false => exact ⟨false, by unfold S_IsIsostatic; rw [h1]; rfl, by unfold I_IsIsostatic; rw [h2]; rfl⟩
 | true =>
  refine ⟨r == (p.g.bars.length : Int), ?_, ?_⟩
  ·unfold S_IsIsostatic
   rw [h1, Option.bind_some, cnd_true, g1, Option.bind_some]
   congr 1
   by_cases e : r = (p.g.bars.length : Int)
   ·rw [e]
   ·have e' : ¬ (p.g.bars.length : Int) = r := fun h => e h.symm
    rw [beq_false_of_ne e, beq_false_of_ne e']
  ·unfold I_IsIsostatic
   rw [h2, Option.bind_some, cnd_true, g2, Option.bind_some]
end Go.Proofs.Ytcljhpldfanhkaa
namespace Go.Proofs.Ytcljhpldfanhkaa
open Go.RowKit Go.Deep
end Go.Proofs.Ytcljhpldfanhkaa
namespace Go.Proofs.Ytcljhpldfanhkaa
open Go.RowKit Go.Deep
end Go.Proofs.Ytcljhpldfanhkaa
namespace Go.Proofs.Ytcljhpldfanhkaa
open Go.RowKit Go.Deep
end Go.Proofs.Ytcljhpldfanhkaa
namespace Go.Proofs.Ytcljhpldfanhkaa
open Go.RowKit
end Go.Proofs.Ytcljhpldfanhkaa
namespace Go.Proofs.Ytcljhpldfanhkaa
open Go.RowKit
end Go.Proofs.Ytcljhpldfanhkaa
namespace Go.Proofs.Ytcljhpldfanhkaa
open Go.RowKit
end Go.Proofs.Ytcljhpldfanhkaa
namespace Go.Proofs.Ytcljhpldfanhkaa
open Go.RowKit
end Go.Proofs.Ytcljhpldfanhkaa
namespace Go.Proofs.Ytcljhpldfanhkaa
open Go.RowKit
end Go.Proofs.Ytcljhpldfanhkaa
namespace Go.Proofs.Ytcljhpldfanhkaa
open Go.RowKit
end Go.Proofs.Ytcljhpldfanhkaa
namespace Go.Proofs.Ytcljhpldfanhkaa
open Go.RowKit
end Go.Proofs.Ytcljhpldfanhkaa
namespace Go.Proofs.Ytcljhpldfanhkaa
open Go.RowKit
def S_DrawSteadyPoints (N : Nat) (code_0 : List Int) : Option (Pin) :=
 (S_l1New N code_0).bind fun v1 =>
 (S_l20Any N v1).bind fun v2 =>
 some (⟨⟨v2.1.g.n, v2.1.g.bars⟩, v2.1.ground⟩ : Pin)
set_option maxRecDepth 20000 in
set_option maxHeartbeats 1600000 in
theorem S_DrawSteadyPoints_w (N : Nat) (code_0 : List Int) (r : Pin) (h : S_DrawSteadyPoints N code_0 = some r) : PCall Try.prog 68 [.ro false (.bytes code_0)] [(111, .pairs r.g.bars), (3, .ints r.ground)] (.agg [.int r.g.n, .row 0 0 r.g.bars.length, .row 1 0 r.ground.length]) := by
 unfold S_DrawSteadyPoints at h
 refine pcall_intro (TT := TT) tt Try.func68 rfl rfl Try.ntmps68 (congrArg Array.toList Try.results68) rfl rfl fun w0 => ?_
 refine vSeq ?_
 refine vRegion ?_
 refine oAlloc tt rfl rfl rfl rfl rfl rfl rfl rfl rfl ?_
 refine vNil ?_
 change VC _ _ _ _
 refine vSeq ?_
 refine vRegion ?_
 refine oVal tt rfl rfl rfl rfl rfl trivial ?_
 obtain ⟨v1, hc1, h⟩ := bind_inv h
 refine oCallB (S_l1New_w N code_0 v1 hc1) rfl rfl rfl rfl rfl ⟨rfl, rfl, trivial⟩ ?_
 refine vEnO (En.zero 9503 111 (.pairs []) rfl rfl) ?_
 refine vEnO (En.zero 9504 3 (.ints []) rfl rfl) ?_
 obtain ⟨v2, hc2, h⟩ := bind_inv h
 refine oMCall (S_l20Any_w N v1 v2 hc2) [9503, 9504] [4] [1050, 1051] rfl rfl rfl rfl rfl rfl ⟨rfl, rfl, trivial⟩ ⟨rfl, trivial⟩ ⟨⟨rfl, rfl⟩, trivial⟩ ?_
 refine oStore tt rfl rfl rfl rfl rfl rfl rfl rfl rfl rfl rfl ⟨trivial, trivial, trivial, trivial⟩ ?_
 refine vNil ?_
 change VC _ _ _ _
 refine vRet ?_
 change ∃ _, _
 cases h
 exact ⟨[1050, 1051], _, rfl, ⟨rfl, rfl, trivial⟩, rfl, (.eq rfl), rfl⟩
def L_FnPinned_l1 (N : Nat) (v2 : Pin) (k : Unit → Option (Bool)) : Nat → Int → Option (Bool)
 | 0, _ => none
 | n + 1, i33 =>
  cnd (decide (i33 < (v2.g.bars.length : Int))) (
   (I_IsIsostatic N v2).bind fun v36 =>
   cnd v36 (
    (I_FallsWith N v2 i33).bind fun v37 =>
    cnd ((v37.length : Int) == (0 : Int)) (
     some false) (
     grd (Rg64 (i33 + (1 : Int))) <|
     L_FnPinned_l1 N v2 k n (i33 + (1 : Int)))) (
    k ())) (
   k ())
def L_FnPinned_l2 (N : Nat) (v2 : Pin) (v3 : List Int) (k : Unit → Option (Bool)) : Nat → Int → Option (Bool)
 | 0, _ => none
 | n + 1, i40 =>
  cnd (decide (i40 < (v2.ground.length : Int))) (
   grd (0 ≤ i40 ∧ i40 < (v2.ground.length : Int)) <|
   (L_has N v3 (v2.ground.getD ((i40).toNat) 0)).bind fun v42 =>
   cnd (!v42) (
    some false) (
    grd (Rg64 (i40 + (1 : Int))) <|
    L_FnPinned_l2 N v2 v3 k n (i40 + (1 : Int)))) (
   k ())
def L_FnPinned (N : Nat) (code_0 : List Int) : Option (Bool) :=
 (L_big N code_0).bind fun v1 =>
 cnd v1 (
  some true) (
  (S_DrawSteadyPoints N code_0).bind fun v2 =>
  (I_SteadyPoints N v2).bind fun v3 =>
  (I_PinnedFreedom N v2).bind fun v4 =>
  (S_SteadyPoints N v2).bind fun v5 =>
  (L_sameInts N v3 v5).bind fun v6 =>
  cnd (!v6) (
   some false) (
   (S_PinnedFreedom N v2).bind fun v7 =>
   cnd (v4 != v7) (
    some false) (
    (I_PinnedRank N v2).bind fun v8 =>
    (S_PinnedRank N v2).bind fun v9 =>
    cnd (v8 != v9) (
     some false) (
     (I_IsPinned N v2).bind fun v10 =>
     (S_IsPinned N v2).bind fun v11 =>
     cnd (v10 != v11) (
      some false) (
      (I_IsPinnedRigid N v2).bind fun v12 =>
      cnd (v12 != (v4 == (0 : Int))) (
       some false) (
       (I_IsIsostatic N v2).bind fun v13 =>
       (S_IsIsostatic N v2).bind fun v14 =>
       cnd (v13 != v14) (
        some false) (
        (I_InnerPoints N v2).bind fun v15 =>
        (S_InnerPoints N v2).bind fun v16 =>
        (L_sameInts N v15 v16).bind fun v17 =>
        cnd (!v17) (
         some false) (
         (S_IsPinned N v2).bind fun v18 =>
         cnd (!v18) (
          some (v4 == (-1 : Int))) (
          L_FnPinned_l2 N v2 v3 (fun (_ : Unit) =>
             cnd (((v3.length : Int) == v2.g.n) != (v4 == (0 : Int))) (
              some false) (
              cnd (decide (v4 < (0 : Int))) (
               some false) (
               L_FnPinned_l1 N v2 (fun (_ : Unit) =>
                  some true) N (0 : Int)))) N (0 : Int))))))))))
set_option maxRecDepth 20000 in
set_option maxHeartbeats 1600000 in
theorem L_FnPinned_w (N : Nat) (code_0 : List Int) (r : Bool) (h : L_FnPinned N code_0 = some r) : PCall Try.prog 6 [.ro false (.bytes code_0)] [] (.bool r) := by
 unfold L_FnPinned at h
 refine pcall_intro (TT := TT) tt Try.func6 rfl rfl Try.ntmps6 (congrArg Array.toList Try.results6) rfl rfl fun w0 => ?_
 refine vSeq ?_
 refine vRegion ?_
 refine oVal tt rfl rfl rfl rfl rfl trivial ?_
 refine vNil ?_
 change VC _ _ _ _
 iterate 2 refine vSeq ?_
 refine vRegion ?_
 refine oVal tt rfl rfl rfl rfl rfl trivial ?_
 obtain ⟨v1, hc1, h⟩ := bind_inv h
 refine oCall (L_big_w N code_0 v1 hc1) rfl rfl rfl rfl rfl rfl rfl rfl ⟨rfl, trivial⟩ ?_
 refine vNil ?_
 change VC _ _ _ _
 refine vCond rfl (fun hb2 => ?_) (fun hb2 => ?_)
 ·replace h := cnd_t hb2 h
  refine vSeq ?_
  refine vRegion ?_
  refine oVal tt rfl rfl rfl rfl rfl trivial ?_
  refine vNil ?_
  change VC _ _ _ _
  refine vRet ?_
  change ∃ _, _
  cases h
  exact ⟨[], _, rfl, trivial, rfl, (.eq rfl), rfl⟩
 ·replace h := cnd_f hb2 h
  refine vSkip ?_
  change VC _ _ _ _
  refine vSeq ?_
  refine vRegion ?_
  refine oVal tt rfl rfl rfl rfl rfl trivial ?_
  obtain ⟨v2, hc3, h⟩ := bind_inv h
  refine oCall (S_DrawSteadyPoints_w N code_0 v2 hc3) rfl rfl rfl rfl rfl rfl rfl rfl ⟨rfl, trivial⟩ ?_
  refine oAlloc tt rfl rfl rfl rfl rfl rfl rfl rfl rfl ?_
  refine oStore tt rfl rfl rfl rfl rfl rfl rfl rfl rfl rfl rfl ⟨trivial, trivial, trivial, trivial⟩ ?_
  refine vNil ?_
  change VC _ _ _ _
  refine vSeq ?_
  refine vRegion ?_
  refine oVal tt rfl rfl rfl rfl rfl trivial ?_
  obtain ⟨v3, hc4, h⟩ := bind_inv h
  refine oCall (I_SteadyPoints_w N v2 v3 hc4) rfl rfl rfl rfl rfl rfl rfl rfl ⟨⟨rfl, (.inl ⟨rfl, rfl⟩), (.inl ⟨rfl, rfl⟩), trivial⟩, trivial⟩ ?_
  refine oVal tt rfl rfl rfl rfl rfl trivial ?_
  refine vNil ?_
  change VC _ _ _ _
  refine vSeq ?_
  refine vRegion ?_
  refine oVal tt rfl rfl rfl rfl rfl trivial ?_
  obtain ⟨v4, hc5, h⟩ := bind_inv h
  refine oCall (I_PinnedFreedom_w N v2 v4 hc5) rfl rfl rfl rfl rfl rfl rfl rfl ⟨⟨rfl, (.inl ⟨rfl, rfl⟩), (.inl ⟨rfl, rfl⟩), trivial⟩, trivial⟩ ?_
  refine oVal tt rfl rfl rfl rfl rfl trivial ?_
  refine vNil ?_
  change VC _ _ _ _
  iterate 2 refine vSeq ?_
  refine vRegionN 43 [2, 41] [0, 0, 2, 7, 15, 31, 63, 63, 191, 511, 1023, 2047, 4095, 8191, 4095, 32767, 65535, 131071, 262143, 524287, 1048575, 524287, 4194303, 8388607, 16777215, 33554431, 67108863, 134217727, 67108863, 335544319, 1073741823, 2147483647, 4294967295, 8589934591, 17179869183, 8589934591, 68719476735, 137438953471, 274877906943, 549755813887, 1099511627775, 2199023255551, 1099511627775, 8796093022207, 17592186044415, 35184372088831, 70368744177663] (by kernel_rfl) (by kernel_rfl) (by kernel_rfl) (by kernel_rfl) (by kernel_rfl) rfl (by rfl) ?_
  iterate 2 refine nVal tt rfl (wNone rfl) rfl rfl rfl rfl rfl trivial ?_
  obtain ⟨v5, hc6, h⟩ := bind_inv h
  refine nCallR (S_SteadyPoints_w N v2 v5 hc6) rfl (wNone rfl) rfl rfl rfl rfl rfl rfl (by first | rfl | kernel_rfl | (simp [nrL, nm, gdst, nmT, rowB]; done)) rfl (by first | rfl | kernel_rfl | (simp [chkE, nrL, nm, gdst, nmT, rowB, hid, ment, mentA, mentS]; done) | (simp [chkE, nrL, nm, gdst, nmT, rowB, hid, ment, mentA, mentS]; decide)) ⟨⟨rfl, (.inl ⟨rfl, rfl⟩), (.inl ⟨rfl, rfl⟩), trivial⟩, trivial⟩ ?_
  obtain ⟨v6, hc7, h⟩ := bind_inv h
  refine nCall (L_sameInts_w N v3 v5 v6 hc7) rfl (wNone rfl) rfl rfl rfl rfl rfl rfl rfl rfl ⟨(.inl ⟨rfl, rfl⟩), (.inl ⟨rfl, rfl⟩), trivial⟩ ?_
  iterate 2 refine nVal tt rfl (wNone rfl) rfl rfl rfl rfl rfl trivial ?_
  refine nSplit rfl rfl rfl (fun hb8 => ?_) (fun hb8 => ?_)
  ·replace h := cnd_t hb8 h
   iterate 4 refine nNoF rfl rfl rfl rfl hb8 rfl rfl ?_
   refine nPickT rfl (wNone rfl) rfl rfl rfl hb8 rfl rfl ?_
   refine nVal tt rfl (wNone rfl) rfl rfl rfl rfl rfl trivial ?_
   iterate 5 refine nNoF rfl rfl rfl rfl rfl rfl rfl ?_
   refine nPickT rfl (wNone rfl) rfl rfl rfl rfl rfl rfl ?_
   refine nVal tt rfl (wNone rfl) rfl rfl rfl rfl rfl trivial ?_
   iterate 5 refine nNoF rfl rfl rfl rfl rfl rfl rfl ?_
   refine nPickT rfl (wNone rfl) rfl rfl rfl rfl rfl rfl ?_
   refine nVal tt rfl (wNone rfl) rfl rfl rfl rfl rfl trivial ?_
   iterate 5 refine nNoF rfl rfl rfl rfl rfl rfl rfl ?_
   refine nPickT rfl (wNone rfl) rfl rfl rfl rfl rfl rfl ?_
   refine nVal tt rfl (wNone rfl) rfl rfl rfl rfl rfl trivial ?_
   iterate 5 refine nNoF rfl rfl rfl rfl rfl rfl rfl ?_
   refine nPickT rfl (wNone rfl) rfl rfl rfl rfl rfl rfl ?_
   refine nVal tt rfl (wNone rfl) rfl rfl rfl rfl rfl trivial ?_
   iterate 3 refine nNoF rfl rfl rfl rfl rfl rfl rfl ?_
   refine nNil ?_
   change VO _ _ _ _ _
   iterate 3 refine oNoF rfl rfl rfl rfl rfl rfl rfl ?_
   refine oPick rfl rfl rfl rfl rfl rfl rfl ?_
   refine vNil ?_
   change VC _ _ _ _
   refine vCondT rfl rfl ?_
   refine vSeq ?_
   refine vRegion ?_
   refine oVal tt rfl rfl rfl rfl rfl trivial ?_
   refine vNil ?_
   change VC _ _ _ _
   refine vRet ?_
   change ∃ _, _
   cases h
   exact ⟨[], _, rfl, trivial, rfl, (.eq rfl), rfl⟩
  ·replace h := cnd_f hb8 h
   iterate 2 refine nVal tt rfl (wSome rfl rfl rfl rfl hb8) rfl rfl rfl rfl rfl trivial ?_
   obtain ⟨v7, hc9, h⟩ := bind_inv h
   refine nCall (S_PinnedFreedom_w N v2 v7 hc9) rfl (wSome rfl rfl rfl rfl hb8) rfl rfl rfl rfl rfl rfl rfl rfl ⟨⟨rfl, (.inl ⟨rfl, rfl⟩), (.inl ⟨rfl, rfl⟩), trivial⟩, trivial⟩ ?_
   refine nVal tt rfl (wSome rfl rfl rfl rfl hb8) rfl rfl rfl rfl rfl trivial ?_
   refine nPickF rfl (wNone rfl) rfl rfl rfl hb8 rfl rfl ?_
   refine nVal tt rfl (wNone rfl) rfl rfl rfl rfl rfl trivial ?_
   refine nSplit rfl rfl rfl (fun hb10 => ?_) (fun hb10 => ?_)
   ·replace h := cnd_t hb10 h
    iterate 5 refine nNoF rfl rfl rfl rfl hb10 rfl rfl ?_
    refine nPickT rfl (wNone rfl) rfl rfl rfl hb10 rfl rfl ?_
    refine nVal tt rfl (wNone rfl) rfl rfl rfl rfl rfl trivial ?_
    iterate 5 refine nNoF rfl rfl rfl rfl rfl rfl rfl ?_
    refine nPickT rfl (wNone rfl) rfl rfl rfl rfl rfl rfl ?_
    refine nVal tt rfl (wNone rfl) rfl rfl rfl rfl rfl trivial ?_
    iterate 5 refine nNoF rfl rfl rfl rfl rfl rfl rfl ?_
    refine nPickT rfl (wNone rfl) rfl rfl rfl rfl rfl rfl ?_
    refine nVal tt rfl (wNone rfl) rfl rfl rfl rfl rfl trivial ?_
    iterate 5 refine nNoF rfl rfl rfl rfl rfl rfl rfl ?_
    refine nPickT rfl (wNone rfl) rfl rfl rfl rfl rfl rfl ?_
    refine nVal tt rfl (wNone rfl) rfl rfl rfl rfl rfl trivial ?_
    iterate 3 refine nNoF rfl rfl rfl rfl rfl rfl rfl ?_
    refine nNil ?_
    change VO _ _ _ _ _
    iterate 3 refine oNoF rfl rfl rfl rfl rfl rfl rfl ?_
    refine oPick rfl rfl rfl rfl rfl rfl rfl ?_
    refine vNil ?_
    change VC _ _ _ _
    refine vCondT rfl rfl ?_
    refine vSeq ?_
    refine vRegion ?_
    refine oVal tt rfl rfl rfl rfl rfl trivial ?_
    refine vNil ?_
    change VC _ _ _ _
    refine vRet ?_
    change ∃ _, _
    cases h
    exact ⟨[], _, rfl, trivial, rfl, (.eq rfl), rfl⟩
   ·replace h := cnd_f hb10 h
    refine nVal tt rfl (wSome rfl rfl rfl rfl hb10) rfl rfl rfl rfl rfl trivial ?_
    obtain ⟨v8, hc11, h⟩ := bind_inv h
    refine nCall (I_PinnedRank_w N v2 v8 hc11) rfl (wSome rfl rfl rfl rfl hb10) rfl rfl rfl rfl rfl rfl rfl rfl ⟨⟨rfl, (.inl ⟨rfl, rfl⟩), (.inl ⟨rfl, rfl⟩), trivial⟩, trivial⟩ ?_
    refine nVal tt rfl (wSome rfl rfl rfl rfl hb10) rfl rfl rfl rfl rfl trivial ?_
    obtain ⟨v9, hc12, h⟩ := bind_inv h
    refine nCall (S_PinnedRank_w N v2 v9 hc12) rfl (wSome rfl rfl rfl rfl hb10) rfl rfl rfl rfl rfl rfl rfl rfl ⟨⟨rfl, (.inl ⟨rfl, rfl⟩), (.inl ⟨rfl, rfl⟩), trivial⟩, trivial⟩ ?_
    refine nVal tt rfl (wSome rfl rfl rfl rfl hb10) rfl rfl rfl rfl rfl trivial ?_
    refine nPickF rfl (wNone rfl) rfl rfl rfl hb10 rfl rfl ?_
    refine nVal tt rfl (wNone rfl) rfl rfl rfl rfl rfl trivial ?_
    refine nSplit rfl rfl rfl (fun hb13 => ?_) (fun hb13 => ?_)
    ·replace h := cnd_t hb13 h
     iterate 5 refine nNoF rfl rfl rfl rfl hb13 rfl rfl ?_
     refine nPickT rfl (wNone rfl) rfl rfl rfl hb13 rfl rfl ?_
     refine nVal tt rfl (wNone rfl) rfl rfl rfl rfl rfl trivial ?_
     iterate 5 refine nNoF rfl rfl rfl rfl rfl rfl rfl ?_
     refine nPickT rfl (wNone rfl) rfl rfl rfl rfl rfl rfl ?_
     refine nVal tt rfl (wNone rfl) rfl rfl rfl rfl rfl trivial ?_
     iterate 5 refine nNoF rfl rfl rfl rfl rfl rfl rfl ?_
     refine nPickT rfl (wNone rfl) rfl rfl rfl rfl rfl rfl ?_
     refine nVal tt rfl (wNone rfl) rfl rfl rfl rfl rfl trivial ?_
     iterate 3 refine nNoF rfl rfl rfl rfl rfl rfl rfl ?_
     refine nNil ?_
     change VO _ _ _ _ _
     iterate 3 refine oNoF rfl rfl rfl rfl rfl rfl rfl ?_
     refine oPick rfl rfl rfl rfl rfl rfl rfl ?_
     refine vNil ?_
     change VC _ _ _ _
     refine vCondT rfl rfl ?_
     refine vSeq ?_
     refine vRegion ?_
     refine oVal tt rfl rfl rfl rfl rfl trivial ?_
     refine vNil ?_
     change VC _ _ _ _
     refine vRet ?_
     change ∃ _, _
     cases h
     exact ⟨[], _, rfl, trivial, rfl, (.eq rfl), rfl⟩
    ·replace h := cnd_f hb13 h
     refine nVal tt rfl (wSome rfl rfl rfl rfl hb13) rfl rfl rfl rfl rfl trivial ?_
     obtain ⟨v10, hc14, h⟩ := bind_inv h
     refine nCall (I_IsPinned_w N v2 v10 hc14) rfl (wSome rfl rfl rfl rfl hb13) rfl rfl rfl rfl rfl rfl rfl rfl ⟨⟨rfl, (.inl ⟨rfl, rfl⟩), (.inl ⟨rfl, rfl⟩), trivial⟩, trivial⟩ ?_
     refine nVal tt rfl (wSome rfl rfl rfl rfl hb13) rfl rfl rfl rfl rfl trivial ?_
     obtain ⟨v11, hc15, h⟩ := bind_inv h
     refine nCall (S_IsPinned_w N v2 v11 hc15) rfl (wSome rfl rfl rfl rfl hb13) rfl rfl rfl rfl rfl rfl rfl rfl ⟨⟨rfl, (.inl ⟨rfl, rfl⟩), (.inl ⟨rfl, rfl⟩), trivial⟩, trivial⟩ ?_
     refine nPure (wSome rfl rfl rfl rfl hb13) (pNeB Try.underlying4 rfl rfl rfl) rfl rfl rfl rfl ?_
     refine nPickF rfl (wNone rfl) rfl rfl rfl hb13 rfl rfl ?_
     refine nVal tt rfl (wNone rfl) rfl rfl rfl rfl rfl trivial ?_
     refine nSplit rfl rfl rfl (fun hb16 => ?_) (fun hb16 => ?_)
     ·replace h := cnd_t hb16 h
      iterate 5 refine nNoF rfl rfl rfl rfl hb16 rfl rfl ?_
      refine nPickT rfl (wNone rfl) rfl rfl rfl hb16 rfl rfl ?_
      refine nVal tt rfl (wNone rfl) rfl rfl rfl rfl rfl trivial ?_
      iterate 5 refine nNoF rfl rfl rfl rfl rfl rfl rfl ?_
      refine nPickT rfl (wNone rfl) rfl rfl rfl rfl rfl rfl ?_
      refine nVal tt rfl (wNone rfl) rfl rfl rfl rfl rfl trivial ?_
      iterate 3 refine nNoF rfl rfl rfl rfl rfl rfl rfl ?_
      refine nNil ?_
      change VO _ _ _ _ _
      iterate 3 refine oNoF rfl rfl rfl rfl rfl rfl rfl ?_
      refine oPick rfl rfl rfl rfl rfl rfl rfl ?_
      refine vNil ?_
      change VC _ _ _ _
      refine vCondT rfl rfl ?_
      refine vSeq ?_
      refine vRegion ?_
      refine oVal tt rfl rfl rfl rfl rfl trivial ?_
      refine vNil ?_
      change VC _ _ _ _
      refine vRet ?_
      change ∃ _, _
      cases h
      exact ⟨[], _, rfl, trivial, rfl, (.eq rfl), rfl⟩
     ·replace h := cnd_f hb16 h
      refine nVal tt rfl (wSome rfl rfl rfl rfl hb16) rfl rfl rfl rfl rfl trivial ?_
      obtain ⟨v12, hc17, h⟩ := bind_inv h
      refine nCall (I_IsPinnedRigid_w N v2 v12 hc17) rfl (wSome rfl rfl rfl rfl hb16) rfl rfl rfl rfl rfl rfl rfl rfl ⟨⟨rfl, (.inl ⟨rfl, rfl⟩), (.inl ⟨rfl, rfl⟩), trivial⟩, trivial⟩ ?_
      iterate 2 refine nVal tt rfl (wSome rfl rfl rfl rfl hb16) rfl rfl rfl rfl rfl trivial ?_
      refine nPure (wSome rfl rfl rfl rfl hb16) (pNeB Try.underlying4 rfl rfl rfl) rfl rfl rfl rfl ?_
      refine nPickF rfl (wNone rfl) rfl rfl rfl hb16 rfl rfl ?_
      refine nVal tt rfl (wNone rfl) rfl rfl rfl rfl rfl trivial ?_
      refine nSplit rfl rfl rfl (fun hb18 => ?_) (fun hb18 => ?_)
      ·replace h := cnd_t hb18 h
       iterate 5 refine nNoF rfl rfl rfl rfl hb18 rfl rfl ?_
       refine nPickT rfl (wNone rfl) rfl rfl rfl hb18 rfl rfl ?_
       refine nVal tt rfl (wNone rfl) rfl rfl rfl rfl rfl trivial ?_
       iterate 3 refine nNoF rfl rfl rfl rfl rfl rfl rfl ?_
       refine nNil ?_
       change VO _ _ _ _ _
       iterate 3 refine oNoF rfl rfl rfl rfl rfl rfl rfl ?_
       refine oPick rfl rfl rfl rfl rfl rfl rfl ?_
       refine vNil ?_
       change VC _ _ _ _
       refine vCondT rfl rfl ?_
       refine vSeq ?_
       refine vRegion ?_
       refine oVal tt rfl rfl rfl rfl rfl trivial ?_
       refine vNil ?_
       change VC _ _ _ _
       refine vRet ?_
       change ∃ _, _
       cases h
       exact ⟨[], _, rfl, trivial, rfl, (.eq rfl), rfl⟩
      ·replace h := cnd_f hb18 h
       refine nVal tt rfl (wSome rfl rfl rfl rfl hb18) rfl rfl rfl rfl rfl trivial ?_
       obtain ⟨v13, hc19, h⟩ := bind_inv h
       refine nCall (I_IsIsostatic_w N v2 v13 hc19) rfl (wSome rfl rfl rfl rfl hb18) rfl rfl rfl rfl rfl rfl rfl rfl ⟨⟨rfl, (.inl ⟨rfl, rfl⟩), (.inl ⟨rfl, rfl⟩), trivial⟩, trivial⟩ ?_
       refine nVal tt rfl (wSome rfl rfl rfl rfl hb18) rfl rfl rfl rfl rfl trivial ?_
       obtain ⟨v14, hc20, h⟩ := bind_inv h
       refine nCall (S_IsIsostatic_w N v2 v14 hc20) rfl (wSome rfl rfl rfl rfl hb18) rfl rfl rfl rfl rfl rfl rfl rfl ⟨⟨rfl, (.inl ⟨rfl, rfl⟩), (.inl ⟨rfl, rfl⟩), trivial⟩, trivial⟩ ?_
       refine nPure (wSome rfl rfl rfl rfl hb18) (pNeB Try.underlying4 rfl rfl rfl) rfl rfl rfl rfl ?_
       refine nPickF rfl (wNone rfl) rfl rfl rfl hb18 rfl rfl ?_
       refine nVal tt rfl (wNone rfl) rfl rfl rfl rfl rfl trivial ?_
       refine nSplit rfl rfl rfl (fun hb21 => ?_) (fun hb21 => ?_)
       ·replace h := cnd_t hb21 h
        iterate 3 refine nNoF rfl rfl rfl rfl hb21 rfl rfl ?_
        refine nNil ?_
        change VO _ _ _ _ _
        iterate 3 refine oNoF rfl rfl rfl rfl hb21 rfl rfl ?_
        refine oPick rfl rfl rfl rfl rfl hb21 rfl ?_
        refine vNil ?_
        change VC _ _ _ _
        refine vCondT rfl rfl ?_
        refine vSeq ?_
        refine vRegion ?_
        refine oVal tt rfl rfl rfl rfl rfl trivial ?_
        refine vNil ?_
        change VC _ _ _ _
        refine vRet ?_
        change ∃ _, _
        cases h
        exact ⟨[], _, rfl, trivial, rfl, (.eq rfl), rfl⟩
       ·replace h := cnd_f hb21 h
        refine nVal tt rfl (wSome rfl rfl rfl rfl hb21) rfl rfl rfl rfl rfl trivial ?_
        obtain ⟨v15, hc22, h⟩ := bind_inv h
        refine nCallR (I_InnerPoints_w N v2 v15 hc22) rfl (wSome rfl rfl rfl rfl hb21) rfl rfl rfl rfl rfl rfl (by first | rfl | kernel_rfl | (simp [nrL, nm, gdst, nmT, rowB]; done)) rfl (by first | rfl | kernel_rfl | (simp [chkE, nrL, nm, gdst, nmT, rowB, hid, ment, mentA, mentS]; done) | (simp [chkE, nrL, nm, gdst, nmT, rowB, hid, ment, mentA, mentS]; decide)) ⟨⟨rfl, (.inl ⟨rfl, rfl⟩), (.inl ⟨rfl, rfl⟩), trivial⟩, trivial⟩ ?_
        refine nVal tt rfl (wSome rfl rfl rfl rfl hb21) rfl rfl rfl rfl rfl trivial ?_
        refine nNil ?_
        change VO _ _ _ _ _
        obtain ⟨v16, hc23, h⟩ := bind_inv h
        refine oCallG (S_InnerPoints_w N v2 v16 hc23) rfl rfl rfl rfl hb21 rfl rfl rfl rfl rfl rfl rfl ⟨⟨rfl, (.inl ⟨rfl, rfl⟩), (.inl ⟨rfl, rfl⟩), trivial⟩, trivial⟩ ?_
        obtain ⟨v17, hc24, h⟩ := bind_inv h
        refine oCallG (L_sameInts_w N v15 v16 v17 hc24) rfl rfl rfl rfl hb21 rfl rfl rfl rfl rfl rfl rfl ⟨(.inl ⟨rfl, rfl⟩), (.inl ⟨rfl, rfl⟩), trivial⟩ ?_
        refine oValG tt rfl rfl rfl rfl rfl hb21 rfl rfl rfl trivial ?_
        refine oPickF rfl rfl rfl rfl rfl hb21 rfl ?_
        refine vNil ?_
        change VC _ _ _ _
        refine vCond rfl (fun hb25 => ?_) (fun hb25 => ?_)
        ·replace h := cnd_t hb25 h
         refine vSeq ?_
         refine vRegion ?_
         refine oVal tt rfl rfl rfl rfl rfl trivial ?_
         refine vNil ?_
         change VC _ _ _ _
         refine vRet ?_
         change ∃ _, _
         cases h
         exact ⟨[], _, rfl, trivial, rfl, (.eq rfl), rfl⟩
        ·replace h := cnd_f hb25 h
         refine vSkip ?_
         change VC _ _ _ _
         iterate 2 refine vSeq ?_
         refine vRegion ?_
         refine oVal tt rfl rfl rfl rfl rfl trivial ?_
         obtain ⟨v18, hc26, h⟩ := bind_inv h
         refine oCall (S_IsPinned_w N v2 v18 hc26) rfl rfl rfl rfl rfl rfl rfl rfl ⟨⟨rfl, (.inl ⟨rfl, rfl⟩), (.inl ⟨rfl, rfl⟩), trivial⟩, trivial⟩ ?_
         refine oVal tt rfl rfl rfl rfl rfl trivial ?_
         refine vNil ?_
         change VC _ _ _ _
         refine vCond rfl (fun hb27 => ?_) (fun hb27 => ?_)
         ·replace h := cnd_t hb27 h
          refine vSeq ?_
          refine vRegion ?_
          iterate 3 refine oVal tt rfl rfl rfl rfl rfl trivial ?_
          refine vNil ?_
          change VC _ _ _ _
          refine vRet ?_
          change ∃ _, _
          cases h
          exact ⟨[], _, rfl, trivial, rfl, (.eq rfl), rfl⟩
         ·replace h := cnd_f hb27 h
          refine vSkip ?_
          change VC _ _ _ _
          iterate 2 refine vSeq ?_
          refine vRegion ?_
          refine oVal tt rfl rfl rfl rfl rfl trivial ?_
          refine vNil ?_
          change VC _ _ _ _
          refine vJoin (F := fun k => L_FnPinned_l2 N v2 v3 k) h (α := Unit) (J := fun (_ : Unit) => (⟨[(3, .ptr 3 0), (4, .row 1130 0 v3.length), (5, .int v4)], [(1130, some (3, .ints v3)), (1110, some (111, .pairs v2.g.bars)), (1111, some (3, .ints v2.ground))], [(3, some [.int v2.g.n, .row 1110 0 v2.g.bars.length, .row 1111 0 v2.ground.length])]⟩ : PS)) ?_ ?_
          ·rintro ⟨⟩ h
           show VC _ _ _ (⟨[(3, .ptr 3 0), (4, .row 1130 0 v3.length), (5, .int v4)], [(1130, some (3, .ints v3)), (1110, some (111, .pairs v2.g.bars)), (1111, some (3, .ints v2.ground))], [(3, some [.int v2.g.n, .row 1110 0 v2.g.bars.length, .row 1111 0 v2.ground.length])]⟩ : PS)
           iterate 2 refine vSeq ?_
           refine vRegion ?_
           iterate 8 refine oVal tt rfl rfl rfl rfl rfl trivial ?_
           refine oPure (wNone rfl) (pNeB Try.underlying4 rfl rfl rfl) rfl rfl ?_
           refine oVal tt rfl rfl rfl rfl rfl trivial ?_
           refine oSplit rfl rfl rfl (fun hb28 => ?_) (fun hb28 => ?_)
           ·replace h := cnd_t hb28 h
            iterate 2 refine oNoF rfl rfl rfl rfl hb28 rfl rfl ?_
            refine oPick rfl rfl rfl rfl rfl hb28 rfl ?_
            refine vNil ?_
            change VC _ _ _ _
            refine vCondT rfl rfl ?_
            refine vSeq ?_
            refine vRegion ?_
            refine oVal tt rfl rfl rfl rfl rfl trivial ?_
            refine vNil ?_
            change VC _ _ _ _
            refine vRet ?_
            change ∃ _, _
            cases h
            exact ⟨[], _, rfl, trivial, rfl, (.eq rfl), rfl⟩
           ·replace h := cnd_f hb28 h
            iterate 2 refine oValG tt rfl rfl rfl rfl rfl hb28 rfl rfl rfl trivial ?_
            refine oPickF rfl rfl rfl rfl rfl hb28 rfl ?_
            refine vNil ?_
            change VC _ _ _ _
            refine vCond rfl (fun hb29 => ?_) (fun hb29 => ?_)
            ·replace h := cnd_t hb29 h
             refine vSeq ?_
             refine vRegion ?_
             refine oVal tt rfl rfl rfl rfl rfl trivial ?_
             refine vNil ?_
             change VC _ _ _ _
             refine vRet ?_
             change ∃ _, _
             cases h
             exact ⟨[], _, rfl, trivial, rfl, (.eq rfl), rfl⟩
            ·replace h := cnd_f hb29 h
             refine vSkip ?_
             change VC _ _ _ _
             iterate 2 refine vSeq ?_
             refine vRegion ?_
             refine oVal tt rfl rfl rfl rfl rfl trivial ?_
             refine vNil ?_
             change VC _ _ _ _
             refine vJoin (F := fun k => L_FnPinned_l1 N v2 k) h (α := Unit) (J := fun (_ : Unit) => (⟨[], [], []⟩ : PS)) ?_ ?_
             ·rintro ⟨⟩ h
              show VC _ _ _ (⟨[], [], []⟩ : PS)
              refine vSeq ?_
              refine vRegion ?_
              refine oVal tt rfl rfl rfl rfl rfl trivial ?_
              refine vNil ?_
              change VC _ _ _ _
              refine vRet ?_
              change ∃ _, _
              cases h
              exact ⟨[], _, rfl, trivial, rfl, (.eq rfl), rfl⟩
             ·intro k h
              refine vBlock ?_
              refine vLoopS (α := Int) (fun (i33 : Int) => (⟨[(3, .ptr 3 0), (7, .int i33)], [(1110, some (111, .pairs v2.g.bars)), (1111, some (3, .ints v2.ground))], [(3, some [.int v2.g.n, .row 1110 0 v2.g.bars.length, .row 1111 0 v2.ground.length])]⟩ : PS)) (L_FnPinned_l1 N v2 k) h (En.of ⟨rfl, rfl, trivial⟩ ⟨rfl, rfl, trivial⟩ ⟨rfl, trivial⟩) (fun _ => rfl) ?_
              rintro n i33 h
              rw [L_FnPinned_l1] at h
              show VC _ _ _ (⟨[(3, .ptr 3 0), (7, .int i33)], [(1110, some (111, .pairs v2.g.bars)), (1111, some (3, .ints v2.ground))], [(3, some [.int v2.g.n, .row 1110 0 v2.g.bars.length, .row 1111 0 v2.ground.length])]⟩ : PS)
              iterate 2 refine vSeq ?_
              refine vRegion ?_
              iterate 7 refine oVal tt rfl rfl rfl rfl rfl trivial ?_
              refine oSplit rfl rfl rfl (fun hb30 => ?_) (fun hb30 => ?_)
              ·replace h := cnd_t hb30 h
               refine oValG tt rfl rfl rfl rfl rfl hb30 rfl rfl rfl trivial ?_
               obtain ⟨v36, hc31, h⟩ := bind_inv h
               refine oCallG (I_IsIsostatic_w N v2 v36 hc31) rfl rfl rfl rfl hb30 rfl rfl rfl rfl rfl rfl rfl ⟨⟨rfl, (.inl ⟨rfl, rfl⟩), (.inl ⟨rfl, rfl⟩), trivial⟩, trivial⟩ ?_
               refine oPick rfl rfl rfl rfl rfl hb30 rfl ?_
               refine vNil ?_
               change VC _ _ _ _
               refine vCond rfl (fun hb32 => ?_) (fun hb32 => ?_)
               ·replace h := cnd_t hb32 h
                refine vSkip ?_
                change VC _ _ _ _
                refine vSeq ?_
                refine vBlock ?_
                refine vSeq ?_
                refine vRegion ?_
                iterate 2 refine oVal tt rfl rfl rfl rfl rfl trivial ?_
                obtain ⟨v37, hc33, h⟩ := bind_inv h
                refine oCall (I_FallsWith_w N v2 i33 v37 hc33) rfl rfl rfl rfl rfl rfl rfl rfl ⟨⟨rfl, (.inl ⟨rfl, rfl⟩), (.inl ⟨rfl, rfl⟩), trivial⟩, rfl, trivial⟩ ?_
                iterate 2 refine oVal tt rfl rfl rfl rfl rfl trivial ?_
                refine vNil ?_
                change VC _ _ _ _
                refine vCond rfl (fun hb34 => ?_) (fun hb34 => ?_)
                ·replace h := cnd_t hb34 h
                 refine vSeq ?_
                 refine vRegion ?_
                 refine oVal tt rfl rfl rfl rfl rfl trivial ?_
                 refine vNil ?_
                 change VC _ _ _ _
                 refine vRet ?_
                 change ∃ _, _
                 cases h
                 exact ⟨[], _, rfl, trivial, rfl, (.eq rfl), rfl⟩
                ·replace h := cnd_f hb34 h
                 refine vSkip ?_
                 change VC _ _ _ _
                 refine vRegion ?_
                 refine oVal tt rfl rfl rfl rfl rfl trivial ?_
                 obtain ⟨hg35, h⟩ := grd_inv h
                 refine oVal tt rfl rfl rfl rfl rfl hg35 ?_
                 refine oVal tt rfl rfl rfl rfl rfl trivial ?_
                 refine vNil ?_
                 change ∃ _, _
                 exact ⟨(i33 + (1 : Int)), (En.of ⟨rfl, rfl, trivial⟩ ⟨rfl, rfl, trivial⟩ ⟨rfl, trivial⟩), h⟩
               ·replace h := cnd_f hb32 h
                refine vExit ?_
                change ∃ _, _
                exact ⟨(), (En.of trivial trivial trivial), h⟩
              ·replace h := cnd_f hb30 h
               iterate 2 refine oNoT rfl rfl rfl rfl hb30 rfl rfl ?_
               refine oPickF rfl rfl rfl rfl rfl hb30 rfl ?_
               refine vNil ?_
               change VC _ _ _ _
               refine vCondF rfl rfl ?_
               refine vExit ?_
               change ∃ _, _
               exact ⟨(), (En.of trivial trivial trivial), h⟩
          ·intro k h
           refine vBlock ?_
           refine vLoopS (α := Int) (fun (i40 : Int) => (⟨[(3, .ptr 3 0), (4, .row 1130 0 v3.length), (5, .int v4), (6, .int i40)], [(1130, some (3, .ints v3)), (1110, some (111, .pairs v2.g.bars)), (1111, some (3, .ints v2.ground))], [(3, some [.int v2.g.n, .row 1110 0 v2.g.bars.length, .row 1111 0 v2.ground.length])]⟩ : PS)) (L_FnPinned_l2 N v2 v3 k) h (En.of ⟨rfl, rfl, rfl, rfl, trivial⟩ ⟨rfl, rfl, rfl, trivial⟩ ⟨rfl, trivial⟩) (fun _ => rfl) ?_
           rintro n i40 h
           rw [L_FnPinned_l2] at h
           show VC _ _ _ (⟨[(3, .ptr 3 0), (4, .row 1130 0 v3.length), (5, .int v4), (6, .int i40)], [(1130, some (3, .ints v3)), (1110, some (111, .pairs v2.g.bars)), (1111, some (3, .ints v2.ground))], [(3, some [.int v2.g.n, .row 1110 0 v2.g.bars.length, .row 1111 0 v2.ground.length])]⟩ : PS)
           iterate 2 refine vSeq ?_
           refine vRegion ?_
           iterate 5 refine oVal tt rfl rfl rfl rfl rfl trivial ?_
           refine vNil ?_
           change VC _ _ _ _
           refine vCond rfl (fun hb36 => ?_) (fun hb36 => ?_)
           ·replace h := cnd_t hb36 h
            refine vSkip ?_
            change VC _ _ _ _
            refine vSeq ?_
            refine vBlock ?_
            refine vSeq ?_
            refine vRegion ?_
            iterate 4 refine oVal tt rfl rfl rfl rfl rfl trivial ?_
            obtain ⟨hg37, h⟩ := grd_inv h
            iterate 2 refine oVal tt rfl rfl rfl rfl rfl hg37 ?_
            obtain ⟨v42, hc38, h⟩ := bind_inv h
            refine oCall (L_has_w N v3 (v2.ground.getD ((i40).toNat) 0) v42 hc38) rfl rfl rfl rfl rfl rfl rfl rfl ⟨(.inl ⟨rfl, rfl⟩), rfl, trivial⟩ ?_
            refine oVal tt rfl rfl rfl rfl rfl trivial ?_
            refine vNil ?_
            change VC _ _ _ _
            refine vCond rfl (fun hb39 => ?_) (fun hb39 => ?_)
            ·replace h := cnd_t hb39 h
             refine vSeq ?_
             refine vRegion ?_
             refine oVal tt rfl rfl rfl rfl rfl trivial ?_
             refine vNil ?_
             change VC _ _ _ _
             refine vRet ?_
             change ∃ _, _
             cases h
             exact ⟨[], _, rfl, trivial, rfl, (.eq rfl), rfl⟩
            ·replace h := cnd_f hb39 h
             refine vSkip ?_
             change VC _ _ _ _
             refine vRegion ?_
             refine oVal tt rfl rfl rfl rfl rfl trivial ?_
             obtain ⟨hg40, h⟩ := grd_inv h
             refine oVal tt rfl rfl rfl rfl rfl hg40 ?_
             refine oVal tt rfl rfl rfl rfl rfl trivial ?_
             refine vNil ?_
             change ∃ _, _
             exact ⟨(i40 + (1 : Int)), (En.of ⟨rfl, rfl, rfl, rfl, trivial⟩ ⟨rfl, rfl, rfl, trivial⟩ ⟨rfl, trivial⟩), h⟩
           ·replace h := cnd_f hb36 h
            refine vExit ?_
            change ∃ _, _
            exact ⟨(), (En.of ⟨rfl, rfl, rfl, trivial⟩ ⟨rfl, rfl, rfl, trivial⟩ ⟨rfl, trivial⟩), h⟩
end Go.Proofs.Ytcljhpldfanhkaa
namespace Go.Proofs.Ytcljhpldfanhkaa
open Go.ChangeShapes Go.WideShapes Go.ChangeAt Go.RowKit Go.Deep
section
variable {H : Type} {enc : TypeId × Value → H} {P : Program} {w : World} {spare : Nat → Bool} {held : Bool} {fuel : Nat} {cs : List Value} {x : DataW H × List MemPlace}
theorem open_bytesD {t e : TypeId} (ht : P.underlying t = some (.slice e)) (he : P.underlying e = some (.int .u8)) (hc : P.cellsOf e = 1) (h : DataW.trod enc P w 0 spare held fuel t cs = some x) :
  ∃ v l, cs = [v] ∧ VR M0 R0 w (.ro false (.bytes l)) v ∧ ∀ x ∈ l, 0 ≤ x ∧ x < 256 := by
 obtain ⟨v, rfl, hcap⟩ := trod_cap ht h
 rcases open_slice1 ht hc h with ⟨h0, _⟩ | ⟨a, len, cap, m, n, V, D, Pl, h0, hb, hl, hm, hmm, rfl, hx⟩
 ·simp at h0; subst h0
  exact ⟨_, [], rfl, .ro false (.bytes []) _ 0 0 0 (fun _ _ => undef) (Nat.zero_le _) (Nat.le_refl _) (fun h => absurd h (by simp [Sq.len])) (fun i j d hi => absurd hi (by simp [Sq.len])) (fun i j d hi => absurd hi (by simp [Sq.len])), by simp⟩
 ·simp at h0; subst h0
  have hlm : len ≤ m := by rw [hmm]; split <;> omega
  have hcell : ∀ i, i < len → ∃ z : Int, w.cell? (a.add i) = some (.int .u8 z) ∧ 0 ≤ z ∧ z < 256 := fun i hi => by
   obtain ⟨h1, h2⟩ := hx i (by omega)
   obtain ⟨z, hz, _, hw⟩ := DataW.trod_int he h2
   simp at hz
   simp [Lit.wf, IntKind.min, IntKind.max, IntKind.signed, IntKind.bits] at hw
   exact ⟨z, by rw [h1, hz], by omega⟩
  obtain ⟨f, hf⟩ := choose_lt hcell
  have hlen : ((List.range len).map f).length = len := by simp
  refine ⟨_, (List.range len).map f, rfl, ?_, fun x hx' => ?_⟩
  ·by_cases h0 : 0 < len
   ·have c0 := (hf 0 h0).1
    have hs := cell?_spot c0
    have ha : a = ⟨a.block, a.off, none⟩ := by
     have : (a.add 0) = a := by simp [Addr.add]
     rw [this] at hs; cases a; simp_all
    have hlt : a.block < w.heap.size := by have := cell?_lt c0; rwa [add_block] at this
    have hcl : ∀ i, i < len → w.cell? ⟨a.block, a.off + i, none⟩ = some (.int .u8 (f i)) := fun i hi => by
     have := (hf i hi).1
     rw [ha, Addr.add_lit] at this
     exact this
    have := VR.ro (M := M0) (A := R0) (w := w) false (.bytes ((List.range len).map f)) (some a) cap a.block a.off (fun i _ => .int .u8 (f i)) (by simp only [Sq.len, hlen]; omega) (by simp only [Sq.len, hlen]; exact hl) (fun _ => ⟨by rw [← ha], hlt, trivial⟩) (fun i j d hi hd => by
      simp only [Sq.len, hlen] at hi
      rcases j with _ | j <;> simp [Sq.elem] at hd
      simp only [Sq.sz, Nat.mul_one, Nat.add_zero]
      exact hcl i hi) (fun i j d hi hd => by
      simp only [Sq.len, hlen] at hi
      rcases j with _ | j <;> simp [Sq.elem, hi] at hd
      subst hd
      exact .val _ rfl)
    simpa only [Sq.len, hlen] using this
   ·have := VR.ro (M := M0) (A := R0) (w := w) false (.bytes ((List.range len).map f)) (some a) cap 0 0 (fun _ _ => undef) (by simp only [Sq.len, hlen]; omega) (by simp only [Sq.len, hlen]; exact hl) (fun h => absurd h (by simp only [Sq.len, hlen]; exact h0)) (fun i j d hi => absurd hi (by simp only [Sq.len, hlen]; omega)) (fun i j d hi => absurd hi (by simp only [Sq.len, hlen]; omega))
    simpa only [Sq.len, hlen] using this
  ·obtain ⟨i, hi, rfl⟩ := List.mem_map.1 hx'
   exact (hf i (by simpa using hi)).2
end
end Go.Proofs.Ytcljhpldfanhkaa
