/- Texts that the proof needs, put together: G119 Shc G120 Ec Eh Ei Da Qs Db G101 G19 G125 Ej G10 G11 G20 Pj. -/
import Derived.Test.YtcljhpldfanhkaaBJc3
import Derived.Test.YtcljhpldfanhkaaBJc4
import Derived.Test.YtcljhpldfanhkaaBJc5
import Derived.Test.YtcljhpldfanhkaaBJc6
set_option linter.unusedVariables false
set_option linter.unusedSimpArgs false
namespace Go.Proofs.Ytcljhpldfanhkaa
open Go.RowKit
def L_big (N : Nat) (code_0 : List Int) : Option (Bool) :=
 some (decide ((code_0.length : Int) > (1048576 : Int)))
set_option maxRecDepth 20000 in
set_option maxHeartbeats 1600000 in
theorem L_big_w (N : Nat) (code_0 : List Int) (r : Bool) (h : L_big N code_0 = some r) : PCall Try.prog 9 [.ro false (.bytes code_0)] [] (.bool r) := by
 unfold L_big at h
 refine pcall_intro (TT := TT) tt Try.func9 rfl rfl Try.ntmps9 (congrArg Array.toList Try.results9) rfl rfl fun w0 => ?_
 refine vSeq ?_
 refine vRegion ?_
 refine oVal tt rfl rfl rfl rfl rfl trivial ?_
 refine vNil ?_
 change VC _ _ _ _
 refine vSeq ?_
 refine vRegion ?_
 iterate 4 refine oVal tt rfl rfl rfl rfl rfl trivial ?_
 refine vNil ?_
 change VC _ _ _ _
 refine vRet ?_
 change ∃ _, _
 cases h
 exact ⟨[], _, rfl, trivial, rfl, (.eq rfl), rfl⟩
def S_l1Byte (N : Nat) (c_0 : Cur) : Option (Int × Int × Int) :=
 cnd (decide (c_0.i < (c_0.b.length : Int))) (
  grd (0 ≤ c_0.i ∧ c_0.i < (c_0.b.length : Int)) <|
  grd (0 ≤ (c_0.b.getD ((c_0.i).toNat) 0) ∧ (c_0.b.getD ((c_0.i).toNat) 0) < 256) <|
  some ((andI (w64 ((andI (xorI (shrI (w64 ((w64 (c_0.h * (6364136223846793005 : Int))) + (1442695040888963407 : Int))) 33) (shrI (w64 ((w64 (c_0.h * (6364136223846793005 : Int))) + (1442695040888963407 : Int))) 45)) (255 : Int)) + (c_0.b.getD ((c_0.i).toNat) 0))) (255 : Int)), (w64 (c_0.i + (1 : Int))), (w64 ((w64 (c_0.h * (6364136223846793005 : Int))) + (1442695040888963407 : Int))))) (
  some ((andI (xorI (shrI (w64 ((w64 (c_0.h * (6364136223846793005 : Int))) + (1442695040888963407 : Int))) 33) (shrI (w64 ((w64 (c_0.h * (6364136223846793005 : Int))) + (1442695040888963407 : Int))) 45)) (255 : Int)), c_0.i, (w64 ((w64 (c_0.h * (6364136223846793005 : Int))) + (1442695040888963407 : Int)))))
set_option maxRecDepth 20000 in
set_option maxHeartbeats 1600000 in
theorem S_l1Byte_w (N : Nat) (c_0 : Cur) (r : Int × Int × Int) (h : S_l1Byte N c_0 = some r) : MCall Try.prog 179 [.ptr 1000000 0] [] [1000000] [] [] [[.ro false (.bytes c_0.b), .int c_0.i, .int c_0.h]] [[.ro false (.bytes c_0.b), .int r.2.1, .int r.2.2]] (.int r.1) := by
 unfold S_l1Byte at h
 refine mcall_intro (TT := TT) tt Try.func179 rfl rfl Try.ntmps179 (congrArg Array.toList Try.results179) rfl rfl rfl rfl rfl fun w0 O0 => ?_
 refine vSeq ?_
 refine vRegion ?_
 refine oVal tt rfl rfl rfl rfl rfl trivial ?_
 refine vNil ?_
 change VC _ _ _ _
 refine vSeq ?_
 refine vRegion ?_
 iterate 5 refine oVal tt rfl rfl rfl rfl rfl trivial ?_
 refine oPure (wNone rfl) (pMulW rfl rfl rfl) rfl rfl ?_
 refine oPure (wNone rfl) (pAddW rfl rfl rfl) rfl rfl ?_
 iterate 2 refine oVal tt rfl rfl rfl rfl rfl trivial ?_
 refine oStore tt rfl rfl rfl rfl rfl rfl rfl rfl rfl rfl rfl ⟨trivial, trivial⟩ ?_
 refine vNil ?_
 change VC _ _ _ _
 refine vSeq ?_
 refine vRegionD (by kernel_rfl) (by kernel_rfl) ?_
 iterate 4 refine cVal tt rfl (wNone rfl) rfl rfl rfl trivial ?_
 refine cPure (wNone rfl) (pShrU rfl rfl rfl (by decide)) rfl rfl ?_
 iterate 4 refine cVal tt rfl (wNone rfl) rfl rfl rfl trivial ?_
 refine cPure (wNone rfl) (pShrU rfl rfl rfl (by decide)) rfl rfl ?_
 refine cPure (wNone rfl) (pXor rfl rfl rfl) rfl rfl ?_
 iterate 2 refine cVal tt rfl (wNone rfl) rfl rfl rfl trivial ?_
 refine cNil ?_
 change VC _ _ _ _
 iterate 2 refine vSeq ?_
 refine vRegionD (by kernel_rfl) (by kernel_rfl) ?_
 iterate 10 refine cVal tt rfl (wNone rfl) rfl rfl rfl trivial ?_
 refine cNil ?_
 change VC _ _ _ _
 refine vCond rfl (fun hb1 => ?_) (fun hb1 => ?_)
 ·replace h := cnd_t hb1 h
  refine vSeq ?_
  refine vRegionD (by kernel_rfl) (by kernel_rfl) ?_
  iterate 9 refine cVal tt rfl (wNone rfl) rfl rfl rfl trivial ?_
  obtain ⟨hg2, h⟩ := grd_inv h
  refine cVal tt rfl (wNone rfl) rfl rfl rfl hg2 ?_
  refine cVal tt rfl (wNone rfl) rfl rfl rfl trivial ?_
  obtain ⟨hg3, h⟩ := grd_inv h
  refine cPure (wNone rfl) (pConvI Try.underlying5 Try.underlying3 rfl rfl hg3) rfl rfl ?_
  refine cPure (wNone rfl) (pAddW rfl rfl rfl) rfl rfl ?_
  iterate 2 refine cVal tt rfl (wNone rfl) rfl rfl rfl trivial ?_
  refine cNil ?_
  change VC _ _ _ _
  refine vRegion ?_
  iterate 5 refine oVal tt rfl rfl rfl rfl rfl trivial ?_
  refine oPure (wNone rfl) (pAddW rfl rfl rfl) rfl rfl ?_
  iterate 2 refine oVal tt rfl rfl rfl rfl rfl trivial ?_
  refine oStore tt rfl rfl rfl rfl rfl rfl rfl rfl rfl rfl rfl ⟨trivial, trivial⟩ ?_
  refine vNil ?_
  change VC _ _ _ _
  refine vSeq ?_
  refine vRegion ?_
  iterate 2 refine oVal tt rfl rfl rfl rfl rfl trivial ?_
  refine vNil ?_
  change VC _ _ _ _
  refine vRet ?_
  change ∃ _, _
  cases h
  exact ⟨[], rfl, trivial, ⟨rfl, trivial⟩, rfl⟩
 ·replace h := cnd_f hb1 h
  refine vSkip ?_
  change VC _ _ _ _
  refine vSeq ?_
  refine vRegion ?_
  iterate 2 refine oVal tt rfl rfl rfl rfl rfl trivial ?_
  refine vNil ?_
  change VC _ _ _ _
  refine vRet ?_
  change ∃ _, _
  cases h
  exact ⟨[], rfl, trivial, ⟨rfl, trivial⟩, rfl⟩
def S_l1Below (N : Nat) (c_0 : Cur) (n_1 : Int) : Option (Int × Int × Int) :=
 cnd (decide (n_1 ≤ (0 : Int))) (
  some ((0 : Int), c_0.i, c_0.h)) (
  cnd (decide (n_1 ≤ (256 : Int))) (
   (S_l1Byte N c_0).bind fun v1 =>
   grd (n_1 ≠ 0) <|
   some ((Int.tmod v1.1 n_1), v1.2.1, v1.2.2)) (
   (S_l1Byte N c_0).bind fun v2 =>
   (S_l1Byte N (⟨c_0.b, v2.2.1, v2.2.2⟩ : Cur)).bind fun v3 =>
   (S_l1Byte N (⟨c_0.b, v3.2.1, v3.2.2⟩ : Cur)).bind fun v4 =>
   (S_l1Byte N (⟨c_0.b, v4.2.1, v4.2.2⟩ : Cur)).bind fun v5 =>
   grd (Rg64 (v2.1 * (16777216 : Int))) <|
   grd (Rg64 (v3.1 * (65536 : Int))) <|
   grd (Rg64 ((v2.1 * (16777216 : Int)) + (v3.1 * (65536 : Int)))) <|
   grd (Rg64 (v4.1 * (256 : Int))) <|
   grd (Rg64 (((v2.1 * (16777216 : Int)) + (v3.1 * (65536 : Int))) + (v4.1 * (256 : Int)))) <|
   grd (Rg64 ((((v2.1 * (16777216 : Int)) + (v3.1 * (65536 : Int))) + (v4.1 * (256 : Int))) + v5.1)) <|
   grd (n_1 ≠ 0) <|
   some ((Int.tmod ((((v2.1 * (16777216 : Int)) + (v3.1 * (65536 : Int))) + (v4.1 * (256 : Int))) + v5.1) n_1), v5.2.1, v5.2.2)))
set_option maxRecDepth 20000 in
set_option maxHeartbeats 1600000 in
theorem S_l1Below_w (N : Nat) (c_0 : Cur) (n_1 : Int) (r : Int × Int × Int) (h : S_l1Below N c_0 n_1 = some r) : MCall Try.prog 123 [.ptr 1000000 0, .int n_1] [] [1000000] [] [] [[.ro false (.bytes c_0.b), .int c_0.i, .int c_0.h]] [[.ro false (.bytes c_0.b), .int r.2.1, .int r.2.2]] (.int r.1) := by
 unfold S_l1Below at h
 refine mcall_intro (TT := TT) tt Try.func123 rfl rfl Try.ntmps123 (congrArg Array.toList Try.results123) rfl rfl rfl rfl rfl fun w0 O0 => ?_
 refine vSeq ?_
 refine vRegion ?_
 refine oVal tt rfl rfl rfl rfl rfl trivial ?_
 refine vNil ?_
 change VC _ _ _ _
 iterate 2 refine vSeq ?_
 refine vRegion ?_
 iterate 2 refine oVal tt rfl rfl rfl rfl rfl trivial ?_
 refine vNil ?_
 change VC _ _ _ _
 refine vCond rfl (fun hb1 => ?_) (fun hb1 => ?_)
 ·replace h := cnd_t hb1 h
  refine vSeq ?_
  refine vRegion ?_
  refine oVal tt rfl rfl rfl rfl rfl trivial ?_
  refine vNil ?_
  change VC _ _ _ _
  refine vRet ?_
  change ∃ _, _
  cases h
  exact ⟨[], rfl, trivial, ⟨rfl, trivial⟩, rfl⟩
 ·replace h := cnd_f hb1 h
  refine vSkip ?_
  change VC _ _ _ _
  iterate 2 refine vSeq ?_
  refine vRegion ?_
  iterate 2 refine oVal tt rfl rfl rfl rfl rfl trivial ?_
  refine vNil ?_
  change VC _ _ _ _
  refine vCond rfl (fun hb2 => ?_) (fun hb2 => ?_)
  ·replace h := cnd_t hb2 h
   refine vSeq ?_
   refine vRegion ?_
   refine oVal tt rfl rfl rfl rfl rfl trivial ?_
   obtain ⟨v1, hc3, h⟩ := bind_inv h
   refine oMCall (S_l1Byte_w N c_0 v1 hc3) [] [1000000] [] rfl rfl rfl rfl rfl rfl trivial ⟨rfl, trivial⟩ ⟨⟨rfl, rfl⟩, trivial⟩ ?_
   refine oVal tt rfl rfl rfl rfl rfl trivial ?_
   obtain ⟨hg4, h⟩ := grd_inv h
   refine oVal tt rfl rfl rfl rfl rfl hg4 ?_
   refine oVal tt rfl rfl rfl rfl rfl trivial ?_
   refine vNil ?_
   change VC _ _ _ _
   refine vRet ?_
   change ∃ _, _
   cases h
   exact ⟨[], rfl, trivial, ⟨rfl, trivial⟩, rfl⟩
  ·replace h := cnd_f hb2 h
   refine vSkip ?_
   change VC _ _ _ _
   refine vSeq ?_
   refine vRegion ?_
   refine oVal tt rfl rfl rfl rfl rfl trivial ?_
   obtain ⟨v2, hc5, h⟩ := bind_inv h
   refine oMCall (S_l1Byte_w N c_0 v2 hc5) [] [1000000] [] rfl rfl rfl rfl rfl rfl trivial ⟨rfl, trivial⟩ ⟨⟨rfl, rfl⟩, trivial⟩ ?_
   refine oVal tt rfl rfl rfl rfl rfl trivial ?_
   refine vNil ?_
   change VC _ _ _ _
   refine vSeq ?_
   refine vRegion ?_
   refine oVal tt rfl rfl rfl rfl rfl trivial ?_
   obtain ⟨v3, hc6, h⟩ := bind_inv h
   refine oMCall (S_l1Byte_w N (⟨c_0.b, v2.2.1, v2.2.2⟩ : Cur) v3 hc6) [] [1000000] [] rfl rfl rfl rfl rfl rfl trivial ⟨rfl, trivial⟩ ⟨⟨rfl, rfl⟩, trivial⟩ ?_
   refine oVal tt rfl rfl rfl rfl rfl trivial ?_
   refine vNil ?_
   change VC _ _ _ _
   refine vSeq ?_
   refine vRegion ?_
   refine oVal tt rfl rfl rfl rfl rfl trivial ?_
   obtain ⟨v4, hc7, h⟩ := bind_inv h
   refine oMCall (S_l1Byte_w N (⟨c_0.b, v3.2.1, v3.2.2⟩ : Cur) v4 hc7) [] [1000000] [] rfl rfl rfl rfl rfl rfl trivial ⟨rfl, trivial⟩ ⟨⟨rfl, rfl⟩, trivial⟩ ?_
   refine oVal tt rfl rfl rfl rfl rfl trivial ?_
   refine vNil ?_
   change VC _ _ _ _
   refine vSeq ?_
   refine vRegion ?_
   refine oVal tt rfl rfl rfl rfl rfl trivial ?_
   obtain ⟨v5, hc8, h⟩ := bind_inv h
   refine oMCall (S_l1Byte_w N (⟨c_0.b, v4.2.1, v4.2.2⟩ : Cur) v5 hc8) [] [1000000] [] rfl rfl rfl rfl rfl rfl trivial ⟨rfl, trivial⟩ ⟨⟨rfl, rfl⟩, trivial⟩ ?_
   refine oVal tt rfl rfl rfl rfl rfl trivial ?_
   refine vNil ?_
   change VC _ _ _ _
   refine vSeq ?_
   refine vRegion ?_
   refine oVal tt rfl rfl rfl rfl rfl trivial ?_
   obtain ⟨hg9, h⟩ := grd_inv h
   refine oVal tt rfl rfl rfl rfl rfl hg9 ?_
   refine oVal tt rfl rfl rfl rfl rfl trivial ?_
   obtain ⟨hg10, h⟩ := grd_inv h
   refine oVal tt rfl rfl rfl rfl rfl hg10 ?_
   obtain ⟨hg11, h⟩ := grd_inv h
   refine oVal tt rfl rfl rfl rfl rfl hg11 ?_
   refine oVal tt rfl rfl rfl rfl rfl trivial ?_
   obtain ⟨hg12, h⟩ := grd_inv h
   refine oVal tt rfl rfl rfl rfl rfl hg12 ?_
   obtain ⟨hg13, h⟩ := grd_inv h
   refine oVal tt rfl rfl rfl rfl rfl hg13 ?_
   refine oVal tt rfl rfl rfl rfl rfl trivial ?_
   obtain ⟨hg14, h⟩ := grd_inv h
   refine oVal tt rfl rfl rfl rfl rfl hg14 ?_
   refine oVal tt rfl rfl rfl rfl rfl trivial ?_
   obtain ⟨hg15, h⟩ := grd_inv h
   refine oVal tt rfl rfl rfl rfl rfl hg15 ?_
   refine oVal tt rfl rfl rfl rfl rfl trivial ?_
   refine vNil ?_
   change VC _ _ _ _
   refine vRet ?_
   change ∃ _, _
   cases h
   exact ⟨[], rfl, trivial, ⟨rfl, trivial⟩, rfl⟩
def S_l1Once (N : Nat) (c_0 : Cur) (n_1 : Int) : Option (Bool × Int × Int) :=
 (S_l1Below N c_0 n_1).bind fun v1 =>
 some ((v1.1 == (0 : Int)), v1.2.1, v1.2.2)
set_option maxRecDepth 20000 in
set_option maxHeartbeats 1600000 in
theorem S_l1Once_w (N : Nat) (c_0 : Cur) (n_1 : Int) (r : Bool × Int × Int) (h : S_l1Once N c_0 n_1 = some r) : MCall Try.prog 130 [.ptr 1000000 0, .int n_1] [] [1000000] [] [] [[.ro false (.bytes c_0.b), .int c_0.i, .int c_0.h]] [[.ro false (.bytes c_0.b), .int r.2.1, .int r.2.2]] (.bool r.1) := by
 unfold S_l1Once at h
 refine mcall_intro (TT := TT) tt Try.func130 rfl rfl Try.ntmps130 (congrArg Array.toList Try.results130) rfl rfl rfl rfl rfl fun w0 O0 => ?_
 refine vSeq ?_
 refine vRegion ?_
 refine oVal tt rfl rfl rfl rfl rfl trivial ?_
 refine vNil ?_
 change VC _ _ _ _
 refine vSeq ?_
 refine vRegion ?_
 iterate 2 refine oVal tt rfl rfl rfl rfl rfl trivial ?_
 obtain ⟨v1, hc1, h⟩ := bind_inv h
 refine oMCall (S_l1Below_w N c_0 n_1 v1 hc1) [] [1000000] [] rfl rfl rfl rfl rfl rfl trivial ⟨rfl, trivial⟩ ⟨⟨rfl, rfl⟩, ⟨rfl, rfl⟩, trivial⟩ ?_
 iterate 2 refine oVal tt rfl rfl rfl rfl rfl trivial ?_
 refine vNil ?_
 change VC _ _ _ _
 refine vRet ?_
 change ∃ _, _
 cases h
 exact ⟨[], rfl, trivial, ⟨rfl, trivial⟩, rfl⟩
def S_l20Isostatic_l1 (N : Nat) (c_0 : Cur) (inner_1 : Int) (v1 : Int × Int × Int) (k : ((List (Int × Int)) × Int × Int × Int) → Option (Pin × Int × Int)) : Nat → ((List (Int × Int)) × Int × Int × Int × Int) → Option (Pin × Int × Int)
 | 0, _ => none
 | n + 1, (l213, v214, c215, c216, c217) =>
  cnd (decide (v214 < (((2 : Int) + v1.1) + inner_1))) (
   cnd (decide (v214 > ((2 : Int) + v1.1))) (
    (S_l1Once N (⟨c_0.b, c215, c216⟩ : Cur) (2 : Int)).bind fun v258 =>
    cnd v258.1 (
     jn (fun (x : Int × Int) =>
         match x with
         | (c271, c272) =>
          (S_l1Below N (⟨c_0.b, c271, c272⟩ : Cur) v214).bind fun v273 =>
          grd (Rg64 (v273.1 + (1 : Int))) <|
          grd (Rg64 (v214 - (1 : Int))) <|
          (S_l1Below N (⟨c_0.b, v273.2.1, v273.2.2⟩ : Cur) (v214 - (1 : Int))).bind fun v274 =>
          grd (Rg64 ((v273.1 + (1 : Int)) + v274.1)) <|
          grd (v214 ≠ 0) <|
          (S_l2Put N (⟨c217, l213⟩ : Grf) (v273.1, v214)).bind fun v275 =>
          (S_l2Put N v275 ((Int.tmod ((v273.1 + (1 : Int)) + v274.1) v214), v214)).bind fun v276 =>
          grd (Rg64 (v214 + (1 : Int))) <|
          S_l20Isostatic_l1 N c_0 inner_1 v1 k n (v276.bars, (v214 + (1 : Int)), v274.2.1, v274.2.2, v276.n)) fun k277 =>
      cnd (decide ((l213.length : Int) > (0 : Int))) (
       (S_l1Below N (⟨c_0.b, v258.2.1, v258.2.2⟩ : Cur) (l213.length : Int)).bind fun v278 =>
       grd (0 ≤ v278.1 ∧ v278.1 < (l213.length : Int)) <|
       grd (Rg64 (((l213.getD ((v278.1).toNat) (0, 0)).2) + (1 : Int))) <|
       grd (Rg64 (v214 - (1 : Int))) <|
       (S_l1Below N (⟨c_0.b, v278.2.1, v278.2.2⟩ : Cur) (v214 - (1 : Int))).bind fun v279 =>
       grd (Rg64 ((((l213.getD ((v278.1).toNat) (0, 0)).2) + (1 : Int)) + v279.1)) <|
       grd (v214 ≠ 0) <|
       cnd ((Int.tmod ((((l213.getD ((v278.1).toNat) (0, 0)).2) + (1 : Int)) + v279.1) v214) == ((l213.getD ((v278.1).toNat) (0, 0)).1)) (
        cnd ((Int.tmod (((l213.getD ((v278.1).toNat) (0, 0)).2) + (1 : Int)) v214) != ((l213.getD ((v278.1).toNat) (0, 0)).1)) (
         cnd ((Int.tmod (((l213.getD ((v278.1).toNat) (0, 0)).2) + (1 : Int)) v214) != ((l213.getD ((v278.1).toNat) (0, 0)).2)) (
          (S_RemoveBar N (⟨c217, l213⟩ : Grf) v278.1).bind fun v280 =>
          (S_l2Put N v280.1 ((l213.getD ((v278.1).toNat) (0, 0)).1, v214)).bind fun v281 =>
          (S_l2Put N v281 ((l213.getD ((v278.1).toNat) (0, 0)).2, v214)).bind fun v282 =>
          (S_l2Put N v282 ((Int.tmod (((l213.getD ((v278.1).toNat) (0, 0)).2) + (1 : Int)) v214), v214)).bind fun v283 =>
          grd (Rg64 (v214 + (1 : Int))) <|
          S_l20Isostatic_l1 N c_0 inner_1 v1 k n (v283.bars, (v214 + (1 : Int)), v279.2.1, v279.2.2, v283.n)) (
          k277 (v279.2.1, v279.2.2))) (
         k277 (v279.2.1, v279.2.2))) (
        jn (fun (w284 : Int) =>
           cnd (w284 != ((l213.getD ((v278.1).toNat) (0, 0)).1)) (
            cnd (w284 != ((l213.getD ((v278.1).toNat) (0, 0)).2)) (
             (S_RemoveBar N (⟨c217, l213⟩ : Grf) v278.1).bind fun v285 =>
             (S_l2Put N v285.1 ((l213.getD ((v278.1).toNat) (0, 0)).1, v214)).bind fun v286 =>
             (S_l2Put N v286 ((l213.getD ((v278.1).toNat) (0, 0)).2, v214)).bind fun v287 =>
             (S_l2Put N v287 (w284, v214)).bind fun v288 =>
             grd (Rg64 (v214 + (1 : Int))) <|
             S_l20Isostatic_l1 N c_0 inner_1 v1 k n (v288.bars, (v214 + (1 : Int)), v279.2.1, v279.2.2, v288.n)) (
             k277 (v279.2.1, v279.2.2))) (
            k277 (v279.2.1, v279.2.2))) fun k289 =>
         cnd ((Int.tmod ((((l213.getD ((v278.1).toNat) (0, 0)).2) + (1 : Int)) + v279.1) v214) == ((l213.getD ((v278.1).toNat) (0, 0)).2)) (
          k289 (Int.tmod (((l213.getD ((v278.1).toNat) (0, 0)).2) + (1 : Int)) v214)) (
          k289 (Int.tmod ((((l213.getD ((v278.1).toNat) (0, 0)).2) + (1 : Int)) + v279.1) v214)))) (
       k277 (v258.2.1, v258.2.2))) (
     (S_l1Below N (⟨c_0.b, v258.2.1, v258.2.2⟩ : Cur) v214).bind fun v290 =>
     grd (Rg64 (v290.1 + (1 : Int))) <|
     grd (Rg64 (v214 - (1 : Int))) <|
     (S_l1Below N (⟨c_0.b, v290.2.1, v290.2.2⟩ : Cur) (v214 - (1 : Int))).bind fun v291 =>
     grd (Rg64 ((v290.1 + (1 : Int)) + v291.1)) <|
     grd (v214 ≠ 0) <|
     (S_l2Put N (⟨c217, l213⟩ : Grf) (v290.1, v214)).bind fun v292 =>
     (S_l2Put N v292 ((Int.tmod ((v290.1 + (1 : Int)) + v291.1) v214), v214)).bind fun v293 =>
     grd (Rg64 (v214 + (1 : Int))) <|
     S_l20Isostatic_l1 N c_0 inner_1 v1 k n (v293.bars, (v214 + (1 : Int)), v291.2.1, v291.2.2, v293.n))) (
    (S_l1Below N (⟨c_0.b, c215, c216⟩ : Cur) v214).bind fun v294 =>
    grd (Rg64 (v294.1 + (1 : Int))) <|
    grd (Rg64 (v214 - (1 : Int))) <|
    (S_l1Below N (⟨c_0.b, v294.2.1, v294.2.2⟩ : Cur) (v214 - (1 : Int))).bind fun v295 =>
    grd (Rg64 ((v294.1 + (1 : Int)) + v295.1)) <|
    grd (v214 ≠ 0) <|
    (S_l2Put N (⟨c217, l213⟩ : Grf) (v294.1, v214)).bind fun v296 =>
    (S_l2Put N v296 ((Int.tmod ((v294.1 + (1 : Int)) + v295.1) v214), v214)).bind fun v297 =>
    grd (Rg64 (v214 + (1 : Int))) <|
    S_l20Isostatic_l1 N c_0 inner_1 v1 k n (v297.bars, (v214 + (1 : Int)), v295.2.1, v295.2.2, v297.n))) (
   k (l213, c215, c216, c217))
def S_l20Isostatic (N : Nat) (c_0 : Cur) (inner_1 : Int) : Option (Pin × Int × Int) :=
 (S_l1Below N c_0 (2 : Int)).bind fun v1 =>
 grd (Rg64 ((2 : Int) + v1.1)) <|
 grd (Rg64 (((2 : Int) + v1.1) + inner_1)) <|
 grd (0 ≤ ((2 : Int) + v1.1) ∧ ((2 : Int) + v1.1) < 64 ∧ Rg64 ((1 : Int) * 2 ^ ((((2 : Int) + v1.1)).toNat))) <|
 grd (Rg64 (((1 : Int) * 2 ^ ((((2 : Int) + v1.1)).toNat)) - (1 : Int))) <|
 (S_l3Set N ((2 : Int) + v1.1) (((1 : Int) * 2 ^ ((((2 : Int) + v1.1)).toNat)) - (1 : Int))).bind fun v2 =>
 S_l20Isostatic_l1 N c_0 inner_1 v1 (fun (x : (List (Int × Int)) × Int × Int × Int) =>
   match x with
   | (l148, c149, c150, c151) =>
    some ((⟨⟨c151, l148⟩, v2⟩ : Pin), c149, c150)) N (([] : List (Int × Int)), ((2 : Int) + v1.1), v1.2.1, v1.2.2, (((2 : Int) + v1.1) + inner_1))
set_option maxRecDepth 20000 in
set_option maxHeartbeats 1600000 in
theorem S_l20Isostatic_w (N : Nat) (c_0 : Cur) (inner_1 : Int) (r : Pin × Int × Int) (h : S_l20Isostatic N c_0 inner_1 = some r) : MCall Try.prog 171 [.ptr 1000000 0, .int inner_1] [900101, 900102] [1000000] [(111, .pairs []), (3, .ints [])] [(111, .pairs r.1.g.bars), (3, .ints r.1.ground)] [[.ro false (.bytes c_0.b), .int c_0.i, .int c_0.h]] [[.ro false (.bytes c_0.b), .int r.2.1, .int r.2.2]] (.agg [.int r.1.g.n, .row 900101 0 r.1.g.bars.length, .row 900102 0 r.1.ground.length]) := by
 unfold S_l20Isostatic at h
 refine mcall_intro (TT := TT) tt Try.func171 rfl rfl Try.ntmps171 (congrArg Array.toList Try.results171) rfl rfl rfl rfl rfl fun w0 O0 => ?_
 refine vSeq ?_
 refine vRegion ?_
 refine oAlloc tt rfl rfl rfl rfl rfl rfl rfl rfl rfl ?_
 refine vNil ?_
 change VC _ _ _ _
 refine vSeq ?_
 refine vRegion ?_
 refine oVal tt rfl rfl rfl rfl rfl trivial ?_
 obtain ⟨v1, hc1, h⟩ := bind_inv h
 refine oMCall (S_l1Below_w N c_0 (2 : Int) v1 hc1) [] [1000000] [] rfl rfl rfl rfl rfl rfl trivial ⟨rfl, trivial⟩ ⟨⟨rfl, rfl⟩, ⟨rfl, rfl⟩, trivial⟩ ?_
 obtain ⟨hg2, h⟩ := grd_inv h
 refine oVal tt rfl rfl rfl rfl rfl hg2 ?_
 refine oVal tt rfl rfl rfl rfl rfl trivial ?_
 refine vNil ?_
 change VC _ _ _ _
 refine vSeq ?_
 refine vRegion ?_
 iterate 2 refine oVal tt rfl rfl rfl rfl rfl trivial ?_
 obtain ⟨hg3, h⟩ := grd_inv h
 refine oVal tt rfl rfl rfl rfl rfl hg3 ?_
 refine oEmpty tt (wNone rfl) rfl rfl rfl rfl ?_
 refine oPure (wNone rfl) (pBuild bld_impl_Graph rfl rfl) rfl rfl ?_
 refine oAlloc tt rfl rfl rfl rfl rfl rfl rfl rfl rfl ?_
 refine oStore tt rfl rfl rfl rfl rfl rfl rfl rfl rfl rfl rfl ⟨trivial, trivial, trivial⟩ ?_
 refine vNil ?_
 change VC _ _ _ _
 refine vSeq ?_
 refine vRegionN 8 [5, 7] [0, 0, 0, 4, 12, 30, 63, 0, 255] (by kernel_rfl) (by kernel_rfl) (by kernel_rfl) (by kernel_rfl) (by kernel_rfl) rfl (by rfl) ?_
 iterate 3 refine nVal tt rfl (wNone rfl) rfl rfl rfl rfl rfl trivial ?_
 obtain ⟨hg4, h⟩ := grd_inv h
 refine nVal tt rfl (wNone rfl) rfl rfl rfl rfl rfl hg4 ?_
 obtain ⟨hg5, h⟩ := grd_inv h
 refine nVal tt rfl (wNone rfl) rfl rfl rfl rfl rfl hg5 ?_
 obtain ⟨v2, hc6, h⟩ := bind_inv h
 refine nCallR (S_l3Set_w N ((2 : Int) + v1.1) (((1 : Int) * 2 ^ ((((2 : Int) + v1.1)).toNat)) - (1 : Int)) v2 hc6) rfl (wNone rfl) rfl rfl rfl rfl rfl rfl (by first | rfl | kernel_rfl | (simp [nrL, nm, gdst, nmT, rowB]; done)) rfl (by first | rfl | kernel_rfl | (simp [chkE, nrL, nm, gdst, nmT, rowB, hid, ment, mentA, mentS]; done) | (simp [chkE, nrL, nm, gdst, nmT, rowB, hid, ment, mentA, mentS]; decide)) ⟨rfl, rfl, trivial⟩ ?_
 refine nPure (wNone rfl) (pBuild bld_impl_Pinned rfl rfl) rfl rfl rfl rfl ?_
 refine nAlloc tt (wNone rfl) rfl rfl rfl rfl rfl rfl rfl rfl rfl rfl ?_
 refine nNil ?_
 change VO _ _ _ _ _
 refine oStore tt rfl rfl rfl rfl rfl rfl rfl rfl rfl rfl rfl ⟨trivial, trivial, trivial, trivial⟩ ?_
 refine vNil ?_
 change VC _ _ _ _
 iterate 2 refine vSeq ?_
 refine vRegion ?_
 iterate 2 refine oVal tt rfl rfl rfl rfl rfl trivial ?_
 refine vNil ?_
 change VC _ _ _ _
 refine vJoin (F := fun k => S_l20Isostatic_l1 N c_0 inner_1 v1 k) h (α := (List (Int × Int)) × Int × Int × Int) (J := fun | (l148, c149, c150, c151) => (⟨[(4, .ptr 4 0), (7, .ptr 7 0)], [(9503, some (111, .pairs l148)), (1290, some (3, .ints v2))], [(1000000, some [.ro false (.bytes c_0.b), .int c149, .int c150]), (4, some [.int (0 : Int), .nil, .nil]), (7, some [.int c151, .row 9503 0 l148.length, .row 1290 0 v2.length])]⟩ : PS)) ?_ ?_
 ·rintro ⟨l148, c149, c150, c151⟩ h
  show VC _ _ _ (⟨[(4, .ptr 4 0), (7, .ptr 7 0)], [(9503, some (111, .pairs l148)), (1290, some (3, .ints v2))], [(1000000, some [.ro false (.bytes c_0.b), .int c149, .int c150]), (4, some [.int (0 : Int), .nil, .nil]), (7, some [.int c151, .row 9503 0 l148.length, .row 1290 0 v2.length])]⟩ : PS)
  refine vSeq ?_
  refine vRegion ?_
  refine oVal tt rfl rfl rfl rfl rfl trivial ?_
  refine oStore tt rfl rfl rfl rfl rfl rfl rfl rfl rfl rfl rfl ⟨trivial, trivial, trivial, trivial⟩ ?_
  refine vNil ?_
  change VC _ _ _ _
  refine vRet ?_
  change ∃ _, _
  cases h
  exact ⟨[9503, 1290], rfl, ⟨rfl, rfl, trivial⟩, ⟨rfl, trivial⟩, rfl⟩
 ·intro k h
  refine vBlock ?_
  refine vNilB 7 1 9504 111 (.pairs []) rfl rfl rfl rfl rfl ?_
  refine vLoopS (α := (List (Int × Int)) × Int × Int × Int × Int) (fun | (l213, v214, c215, c216, c217) => (⟨[(0, .ptr 1000000 0), (1, .int inner_1), (4, .ptr 4 0), (5, .int ((2 : Int) + v1.1)), (7, .ptr 7 0), (8, .int v214)], [(9504, some (111, .pairs l213)), (1290, some (3, .ints v2))], [(1000000, some [.ro false (.bytes c_0.b), .int c215, .int c216]), (4, some [.int (0 : Int), .nil, .nil]), (7, some [.int c217, .row 9504 0 l213.length, .row 1290 0 v2.length])]⟩ : PS)) (S_l20Isostatic_l1 N c_0 inner_1 v1 k) h (En.of ⟨rfl, rfl, rfl, rfl, rfl, rfl, trivial⟩ ⟨rfl, rfl, trivial⟩ ⟨rfl, rfl, rfl, trivial⟩) (fun _ => rfl) ?_
  rintro n ⟨l213, v214, c215, c216, c217⟩ h
  rw [S_l20Isostatic_l1] at h
  show VC _ _ _ (⟨[(0, .ptr 1000000 0), (1, .int inner_1), (4, .ptr 4 0), (5, .int ((2 : Int) + v1.1)), (7, .ptr 7 0), (8, .int v214)], [(9504, some (111, .pairs l213)), (1290, some (3, .ints v2))], [(1000000, some [.ro false (.bytes c_0.b), .int c215, .int c216]), (4, some [.int (0 : Int), .nil, .nil]), (7, some [.int c217, .row 9504 0 l213.length, .row 1290 0 v2.length])]⟩ : PS)
  iterate 2 refine vSeq ?_
  refine vRegion ?_
  iterate 3 refine oVal tt rfl rfl rfl rfl rfl trivial ?_
  refine oVal tt rfl rfl rfl rfl rfl hg3 ?_
  refine oVal tt rfl rfl rfl rfl rfl trivial ?_
  refine vNil ?_
  change VC _ _ _ _
  refine vCond rfl (fun hb7 => ?_) (fun hb7 => ?_)
  ·replace h := cnd_t hb7 h
   refine vSkip ?_
   change VC _ _ _ _
   refine vSeq ?_
   refine vBlock ?_
   iterate 2 refine vSeq ?_
   refine vRegion ?_
   iterate 4 refine oVal tt rfl rfl rfl rfl rfl trivial ?_
   refine oSplit rfl rfl rfl (fun hb8 => ?_) (fun hb8 => ?_)
   ·replace h := cnd_t hb8 h
    refine oValG tt rfl rfl rfl rfl rfl hb8 rfl rfl rfl trivial ?_
    obtain ⟨v258, hc9, h⟩ := bind_inv h
    refine oMCallG (S_l1Once_w N (⟨c_0.b, c215, c216⟩ : Cur) (2 : Int) v258 hc9) [] [1000000] [] rfl rfl rfl rfl hb8 rfl rfl rfl rfl rfl trivial ⟨rfl, trivial⟩ ⟨⟨rfl, rfl⟩, ⟨rfl, rfl⟩, trivial⟩ ?_
    refine oPick rfl rfl rfl rfl rfl hb8 rfl ?_
    refine oVal tt rfl rfl rfl rfl rfl trivial ?_
    refine oSplit rfl rfl rfl (fun hb10 => ?_) (fun hb10 => ?_)
    ·replace h := cnd_t hb10 h
     iterate 5 refine oValG tt rfl rfl rfl rfl rfl hb10 rfl rfl rfl trivial ?_
     refine oPick rfl rfl rfl rfl rfl hb10 rfl ?_
     refine vNil ?_
     change VC _ _ _ _
     refine vJoinN h (α := Int × Int) (J := fun | (c271, c272) => (⟨[(0, .ptr 1000000 0), (1, .int inner_1), (4, .ptr 4 0), (5, .int ((2 : Int) + v1.1)), (7, .ptr 7 0), (8, .int v214)], [(9504, some (111, .pairs l213)), (1290, some (3, .ints v2))], [(1000000, some [.ro false (.bytes c_0.b), .int c271, .int c272]), (4, some [.int (0 : Int), .nil, .nil]), (7, some [.int c217, .row 9504 0 l213.length, .row 1290 0 v2.length])]⟩ : PS)) ?_ ?_
     ·rintro ⟨c271, c272⟩ h
      show VC _ _ _ (⟨[(0, .ptr 1000000 0), (1, .int inner_1), (4, .ptr 4 0), (5, .int ((2 : Int) + v1.1)), (7, .ptr 7 0), (8, .int v214)], [(9504, some (111, .pairs l213)), (1290, some (3, .ints v2))], [(1000000, some [.ro false (.bytes c_0.b), .int c271, .int c272]), (4, some [.int (0 : Int), .nil, .nil]), (7, some [.int c217, .row 9504 0 l213.length, .row 1290 0 v2.length])]⟩ : PS)
      refine vSeq ?_
      refine vRegion ?_
      iterate 2 refine oVal tt rfl rfl rfl rfl rfl trivial ?_
      obtain ⟨v273, hc11, h⟩ := bind_inv h
      refine oMCall (S_l1Below_w N (⟨c_0.b, c271, c272⟩ : Cur) v214 v273 hc11) [] [1000000] [] rfl rfl rfl rfl rfl rfl trivial ⟨rfl, trivial⟩ ⟨⟨rfl, rfl⟩, ⟨rfl, rfl⟩, trivial⟩ ?_
      refine oVal tt rfl rfl rfl rfl rfl trivial ?_
      refine vNil ?_
      change VC _ _ _ _
      refine vSeq ?_
      refine vRegion ?_
      refine oVal tt rfl rfl rfl rfl rfl trivial ?_
      obtain ⟨hg12, h⟩ := grd_inv h
      refine oVal tt rfl rfl rfl rfl rfl hg12 ?_
      iterate 2 refine oVal tt rfl rfl rfl rfl rfl trivial ?_
      obtain ⟨hg13, h⟩ := grd_inv h
      refine oVal tt rfl rfl rfl rfl rfl hg13 ?_
      obtain ⟨v274, hc14, h⟩ := bind_inv h
      refine oMCall (S_l1Below_w N (⟨c_0.b, v273.2.1, v273.2.2⟩ : Cur) (v214 - (1 : Int)) v274 hc14) [] [1000000] [] rfl rfl rfl rfl rfl rfl trivial ⟨rfl, trivial⟩ ⟨⟨rfl, rfl⟩, ⟨rfl, rfl⟩, trivial⟩ ?_
      obtain ⟨hg15, h⟩ := grd_inv h
      refine oVal tt rfl rfl rfl rfl rfl hg15 ?_
      refine oVal tt rfl rfl rfl rfl rfl trivial ?_
      obtain ⟨hg16, h⟩ := grd_inv h
      refine oVal tt rfl rfl rfl rfl rfl hg16 ?_
      refine oVal tt rfl rfl rfl rfl rfl trivial ?_
      refine vNil ?_
      change VC _ _ _ _
      refine vRegion ?_
      iterate 4 refine oVal tt rfl rfl rfl rfl rfl trivial ?_
      refine oPure (wNone rfl) (pBuild bld_impl_Bar rfl rfl) rfl rfl ?_
      obtain ⟨v275, hc17, h⟩ := bind_inv h
      refine oCall (S_l2Put_w N (⟨c217, l213⟩ : Grf) (v273.1, v214) v275 hc17) rfl rfl rfl rfl rfl rfl rfl rfl ⟨⟨rfl, (.inl ⟨rfl, rfl⟩), trivial⟩, ⟨rfl, rfl, trivial⟩, trivial⟩ ?_
      iterate 2 refine oVal tt rfl rfl rfl rfl rfl trivial ?_
      refine oPure (wNone rfl) (pBuild bld_impl_Bar rfl rfl) rfl rfl ?_
      obtain ⟨v276, hc18, h⟩ := bind_inv h
      refine oCall (S_l2Put_w N v275 ((Int.tmod ((v273.1 + (1 : Int)) + v274.1) v214), v214) v276 hc18) rfl rfl rfl rfl rfl rfl rfl rfl ⟨⟨rfl, (.inl ⟨rfl, rfl⟩), trivial⟩, ⟨rfl, rfl, trivial⟩, trivial⟩ ?_
      refine oVal tt rfl rfl rfl rfl rfl trivial ?_
      refine oStore tt rfl rfl rfl rfl rfl rfl rfl rfl rfl rfl rfl ⟨trivial, trivial, trivial⟩ ?_
      refine vNil ?_
      change VC _ _ _ _
      refine vRegion ?_
      refine oVal tt rfl rfl rfl rfl rfl trivial ?_
      obtain ⟨hg19, h⟩ := grd_inv h
      refine oVal tt rfl rfl rfl rfl rfl hg19 ?_
      refine oVal tt rfl rfl rfl rfl rfl trivial ?_
      refine vNil ?_
      change ∃ _, _
      exact ⟨(v276.bars, (v214 + (1 : Int)), v274.2.1, v274.2.2, v276.n), (En.ren [9504] [2450] rfl ⟨.inr rfl, .inr rfl, .inr rfl, .inr rfl, .inr rfl, .inr rfl, trivial⟩ ⟨.inr rfl, .inr rfl, trivial⟩ ⟨.inr ⟨_, _, rfl, rfl, ⟨.inr rfl, .inr rfl, .inr rfl, trivial⟩⟩, .inr ⟨_, _, rfl, rfl, ⟨.inr rfl, .inr rfl, .inr rfl, trivial⟩⟩, .inr ⟨_, _, rfl, rfl, ⟨.inr rfl, .inr rfl, .inr rfl, trivial⟩⟩, trivial⟩), h⟩
     ·intro k277 h
      refine vCond rfl (fun hb20 => ?_) (fun hb20 => ?_)
      ·replace h := cnd_t hb20 h
       refine vSeq ?_
       refine vRegion ?_
       iterate 5 refine oVal tt rfl rfl rfl rfl rfl trivial ?_
       obtain ⟨v278, hc21, h⟩ := bind_inv h
       refine oMCall (S_l1Below_w N (⟨c_0.b, v258.2.1, v258.2.2⟩ : Cur) (l213.length : Int) v278 hc21) [] [1000000] [] rfl rfl rfl rfl rfl rfl trivial ⟨rfl, trivial⟩ ⟨⟨rfl, rfl⟩, ⟨rfl, rfl⟩, trivial⟩ ?_
       refine oVal tt rfl rfl rfl rfl rfl trivial ?_
       refine vNil ?_
       change VC _ _ _ _
       refine vSeq ?_
       refine vRegion ?_
       iterate 4 refine oVal tt rfl rfl rfl rfl rfl trivial ?_
       obtain ⟨hg22, h⟩ := grd_inv h
       iterate 2 refine oVal tt rfl rfl rfl rfl rfl hg22 ?_
       refine oAlloc tt rfl rfl rfl rfl rfl rfl rfl rfl rfl ?_
       refine oStore tt rfl rfl rfl rfl rfl rfl rfl rfl rfl rfl rfl ⟨trivial, trivial, trivial⟩ ?_
       refine vNil ?_
       change VC _ _ _ _
       refine vSeq ?_
       refine vRegionN 9 [6, 1061000000] [0, 1, 3, 0, 0, 16, 56, 127, 0, 511, 1023] (by kernel_rfl) (by kernel_rfl) (by kernel_rfl) (by kernel_rfl) (by kernel_rfl) rfl (by rfl) ?_
       iterate 2 refine nVal tt rfl (wNone rfl) rfl rfl rfl rfl rfl trivial ?_
       obtain ⟨hg23, h⟩ := grd_inv h
       refine nVal tt rfl (wNone rfl) rfl rfl rfl rfl rfl hg23 ?_
       iterate 2 refine nVal tt rfl (wNone rfl) rfl rfl rfl rfl rfl trivial ?_
       obtain ⟨hg24, h⟩ := grd_inv h
       refine nVal tt rfl (wNone rfl) rfl rfl rfl rfl rfl hg24 ?_
       obtain ⟨v279, hc25, h⟩ := bind_inv h
       refine nMCall (rids := []) (bids := []) (pids := []) (wNone rfl) (S_l1Below_w N (⟨c_0.b, v278.2.1, v278.2.2⟩ : Cur) (v214 - (1 : Int)) v279 hc25) [] [1000000] [] rfl rfl rfl rfl rfl (by first | rfl | kernel_rfl) rfl rfl rfl rfl rfl (by first | rfl | kernel_rfl)  trivial ⟨rfl, trivial⟩ ⟨⟨rfl, rfl⟩, ⟨rfl, rfl⟩, trivial⟩ ?_
       obtain ⟨hg26, h⟩ := grd_inv h
       refine nVal tt rfl (wNone rfl) rfl rfl rfl rfl rfl hg26 ?_
       refine nVal tt rfl (wNone rfl) rfl rfl rfl rfl rfl trivial ?_
       refine nNil ?_
       change VO _ _ _ _ _
       obtain ⟨hg27, h⟩ := grd_inv h
       refine oVal tt rfl rfl rfl rfl rfl hg27 ?_
       refine oVal tt rfl rfl rfl rfl rfl trivial ?_
       refine vNil ?_
       change VC _ _ _ _
       iterate 2 refine vSeq ?_
       refine vRegion ?_
       iterate 5 refine oVal tt rfl rfl rfl rfl rfl trivial ?_
       refine oSplit rfl rfl rfl (fun hb28 => ?_) (fun hb28 => ?_)
       ·replace h := cnd_t hb28 h
        iterate 4 refine oNoF rfl rfl rfl rfl hb28 rfl rfl ?_
        refine oPick rfl rfl rfl rfl rfl hb28 rfl ?_
        refine vNil ?_
        change VC _ _ _ _
        refine vCondT rfl rfl ?_
        refine vRegion ?_
        iterate 2 refine oVal tt rfl rfl rfl rfl rfl trivial ?_
        refine oVal tt rfl rfl rfl rfl rfl hg23 ?_
        refine oVal tt rfl rfl rfl rfl rfl trivial ?_
        refine oVal tt rfl rfl rfl rfl rfl hg27 ?_
        refine oVal tt rfl rfl rfl rfl rfl trivial ?_
        refine vNil ?_
        change VC _ _ _ _
        refine vSeq ?_
        refine vRegion ?_
        iterate 5 refine oVal tt rfl rfl rfl rfl rfl trivial ?_
        refine oSplit rfl rfl rfl (fun hb29 => ?_) (fun hb29 => ?_)
        ·replace h := cnd_t hb29 h
         iterate 4 refine oValG tt rfl rfl rfl rfl rfl hb29 rfl rfl rfl trivial ?_
         refine oPick rfl rfl rfl rfl rfl hb29 rfl ?_
         refine vNil ?_
         change VC _ _ _ _
         refine vCond rfl (fun hb30 => ?_) (fun hb30 => ?_)
         ·replace h := cnd_t hb30 h
          refine vSeq ?_
          refine vRegion ?_
          iterate 3 refine oVal tt rfl rfl rfl rfl rfl trivial ?_
          obtain ⟨v280, hc31, h⟩ := bind_inv h
          refine oCall (S_RemoveBar_w N (⟨c217, l213⟩ : Grf) v278.1 v280 hc31) rfl rfl rfl rfl rfl rfl rfl rfl ⟨⟨rfl, (.inl ⟨rfl, rfl⟩), trivial⟩, rfl, trivial⟩ ?_
          iterate 3 refine oVal tt rfl rfl rfl rfl rfl trivial ?_
          refine oAlloc tt rfl rfl rfl rfl rfl rfl rfl rfl rfl ?_
          refine oStore tt rfl rfl rfl rfl rfl rfl rfl rfl rfl rfl rfl ⟨trivial, trivial, trivial⟩ ?_
          refine oVal tt rfl rfl rfl rfl rfl trivial ?_
          refine vNil ?_
          change VC _ _ _ _
          refine vSeq ?_
          refine vRegionN 10 [5] [0, 0, 2, 0, 14, 31, 0, 64, 0, 448, 1023, 2047] (by kernel_rfl) (by kernel_rfl) (by kernel_rfl) (by kernel_rfl) (by kernel_rfl) rfl (by rfl) ?_
          iterate 4 refine nVal tt rfl (wNone rfl) rfl rfl rfl rfl rfl trivial ?_
          refine nPure (wNone rfl) (pBuild bld_impl_Bar rfl rfl) rfl rfl rfl rfl ?_
          obtain ⟨v281, hc32, h⟩ := bind_inv h
          refine nCallR (S_l2Put_w N v280.1 ((l213.getD ((v278.1).toNat) (0, 0)).1, v214) v281 hc32) rfl (wNone rfl) rfl rfl rfl rfl rfl rfl (by first | rfl | kernel_rfl | (simp [nrL, nm, gdst, nmT, rowB]; done)) rfl (by first | rfl | kernel_rfl | (simp [chkE, nrL, nm, gdst, nmT, rowB, hid, ment, mentA, mentS]; done) | (simp [chkE, nrL, nm, gdst, nmT, rowB, hid, ment, mentA, mentS]; decide)) ⟨⟨rfl, (.inl ⟨rfl, rfl⟩), trivial⟩, ⟨rfl, rfl, trivial⟩, trivial⟩ ?_
          iterate 3 refine nVal tt rfl (wNone rfl) rfl rfl rfl rfl rfl trivial ?_
          refine nPure (wNone rfl) (pBuild bld_impl_Bar rfl rfl) rfl rfl rfl rfl ?_
          refine nNil ?_
          change VO _ _ _ _ _
          obtain ⟨v282, hc33, h⟩ := bind_inv h
          refine oCall (S_l2Put_w N v281 ((l213.getD ((v278.1).toNat) (0, 0)).2, v214) v282 hc33) rfl rfl rfl rfl rfl rfl rfl rfl ⟨⟨rfl, (.inl ⟨rfl, rfl⟩), trivial⟩, ⟨rfl, rfl, trivial⟩, trivial⟩ ?_
          refine oStore tt rfl rfl rfl rfl rfl rfl rfl rfl rfl rfl rfl ⟨trivial, trivial, trivial⟩ ?_
          refine vNil ?_
          change VC _ _ _ _
          refine vSeq ?_
          refine vRegion ?_
          iterate 3 refine oVal tt rfl rfl rfl rfl rfl trivial ?_
          refine oPure (wNone rfl) (pBuild bld_impl_Bar rfl rfl) rfl rfl ?_
          obtain ⟨v283, hc34, h⟩ := bind_inv h
          refine oCall (S_l2Put_w N v282 ((Int.tmod (((l213.getD ((v278.1).toNat) (0, 0)).2) + (1 : Int)) v214), v214) v283 hc34) rfl rfl rfl rfl rfl rfl rfl rfl ⟨⟨rfl, (.inl ⟨rfl, rfl⟩), trivial⟩, ⟨rfl, rfl, trivial⟩, trivial⟩ ?_
          refine oVal tt rfl rfl rfl rfl rfl trivial ?_
          refine oStore tt rfl rfl rfl rfl rfl rfl rfl rfl rfl rfl rfl ⟨trivial, trivial, trivial⟩ ?_
          refine vNil ?_
          change VC _ _ _ _
          refine vExit ?_
          change VC _ _ _ _
          refine vRegion ?_
          refine oVal tt rfl rfl rfl rfl rfl trivial ?_
          obtain ⟨hg35, h⟩ := grd_inv h
          refine oVal tt rfl rfl rfl rfl rfl hg35 ?_
          refine oVal tt rfl rfl rfl rfl rfl trivial ?_
          refine vNil ?_
          change ∃ _, _
          exact ⟨(v283.bars, (v214 + (1 : Int)), v279.2.1, v279.2.2, v283.n), (En.ren [9504] [2220] rfl ⟨.inr rfl, .inr rfl, .inr rfl, .inr rfl, .inr rfl, .inr rfl, trivial⟩ ⟨.inr rfl, .inr rfl, trivial⟩ ⟨.inr ⟨_, _, rfl, rfl, ⟨.inr rfl, .inr rfl, .inr rfl, trivial⟩⟩, .inr ⟨_, _, rfl, rfl, ⟨.inr rfl, .inr rfl, .inr rfl, trivial⟩⟩, .inr ⟨_, _, rfl, rfl, ⟨.inr rfl, .inr rfl, .inr rfl, trivial⟩⟩, trivial⟩), h⟩
         ·replace h := cnd_f hb30 h
          refine vSkip ?_
          change ∃ _, _
          exact ⟨(v279.2.1, v279.2.2), (En.of ⟨rfl, rfl, rfl, rfl, rfl, rfl, trivial⟩ ⟨rfl, rfl, trivial⟩ ⟨rfl, rfl, rfl, trivial⟩), h⟩
        ·replace h := cnd_f hb29 h
         iterate 4 refine oNoT rfl rfl rfl rfl hb29 rfl rfl ?_
         refine oPickF rfl rfl rfl rfl rfl hb29 rfl ?_
         refine vNil ?_
         change VC _ _ _ _
         refine vCondF rfl rfl ?_
         refine vSkip ?_
         change ∃ _, _
         exact ⟨(v279.2.1, v279.2.2), (En.of ⟨rfl, rfl, rfl, rfl, rfl, rfl, trivial⟩ ⟨rfl, rfl, trivial⟩ ⟨rfl, rfl, rfl, trivial⟩), h⟩
       ·replace h := cnd_f hb28 h
        iterate 4 refine oValG tt rfl rfl rfl rfl rfl hb28 rfl rfl rfl trivial ?_
        refine oPickF rfl rfl rfl rfl rfl hb28 rfl ?_
        refine vNil ?_
        change VC _ _ _ _
        refine vJoinN h (α := Int) (J := fun (w284 : Int) => (⟨[(0, .ptr 1000000 0), (1, .int inner_1), (4, .ptr 4 0), (5, .int ((2 : Int) + v1.1)), (7, .ptr 7 0), (8, .int v214), (9, .int v278.1), (10, .ptr 10 0), (11, .int w284)], [(9504, some (111, .pairs l213)), (1290, some (3, .ints v2))], [(1000000, some [.ro false (.bytes c_0.b), .int v279.2.1, .int v279.2.2]), (4, some [.int (0 : Int), .nil, .nil]), (7, some [.int c217, .row 9504 0 l213.length, .row 1290 0 v2.length]), (10, some [.int ((l213.getD ((v278.1).toNat) (0, 0)).1), .int ((l213.getD ((v278.1).toNat) (0, 0)).2)])]⟩ : PS)) ?_ ?_
        ·rintro w284 h
         show VC _ _ _ (⟨[(0, .ptr 1000000 0), (1, .int inner_1), (4, .ptr 4 0), (5, .int ((2 : Int) + v1.1)), (7, .ptr 7 0), (8, .int v214), (9, .int v278.1), (10, .ptr 10 0), (11, .int w284)], [(9504, some (111, .pairs l213)), (1290, some (3, .ints v2))], [(1000000, some [.ro false (.bytes c_0.b), .int v279.2.1, .int v279.2.2]), (4, some [.int (0 : Int), .nil, .nil]), (7, some [.int c217, .row 9504 0 l213.length, .row 1290 0 v2.length]), (10, some [.int ((l213.getD ((v278.1).toNat) (0, 0)).1), .int ((l213.getD ((v278.1).toNat) (0, 0)).2)])]⟩ : PS)
         refine vSeq ?_
         refine vRegion ?_
         iterate 5 refine oVal tt rfl rfl rfl rfl rfl trivial ?_
         refine oSplit rfl rfl rfl (fun hb36 => ?_) (fun hb36 => ?_)
         ·replace h := cnd_t hb36 h
          iterate 4 refine oValG tt rfl rfl rfl rfl rfl hb36 rfl rfl rfl trivial ?_
          refine oPick rfl rfl rfl rfl rfl hb36 rfl ?_
          refine vNil ?_
          change VC _ _ _ _
          refine vCond rfl (fun hb37 => ?_) (fun hb37 => ?_)
          ·replace h := cnd_t hb37 h
           refine vSeq ?_
           refine vRegion ?_
           iterate 3 refine oVal tt rfl rfl rfl rfl rfl trivial ?_
           obtain ⟨v285, hc38, h⟩ := bind_inv h
           refine oCall (S_RemoveBar_w N (⟨c217, l213⟩ : Grf) v278.1 v285 hc38) rfl rfl rfl rfl rfl rfl rfl rfl ⟨⟨rfl, (.inl ⟨rfl, rfl⟩), trivial⟩, rfl, trivial⟩ ?_
           iterate 3 refine oVal tt rfl rfl rfl rfl rfl trivial ?_
           refine oAlloc tt rfl rfl rfl rfl rfl rfl rfl rfl rfl ?_
           refine oStore tt rfl rfl rfl rfl rfl rfl rfl rfl rfl rfl rfl ⟨trivial, trivial, trivial⟩ ?_
           refine oVal tt rfl rfl rfl rfl rfl trivial ?_
           refine vNil ?_
           change VC _ _ _ _
           refine vSeq ?_
           refine vRegionN 10 [5] [0, 0, 2, 0, 14, 31, 0, 64, 0, 448, 1023, 2047] (by kernel_rfl) (by kernel_rfl) (by kernel_rfl) (by kernel_rfl) (by kernel_rfl) rfl (by rfl) ?_
           iterate 4 refine nVal tt rfl (wNone rfl) rfl rfl rfl rfl rfl trivial ?_
           refine nPure (wNone rfl) (pBuild bld_impl_Bar rfl rfl) rfl rfl rfl rfl ?_
           obtain ⟨v286, hc39, h⟩ := bind_inv h
           refine nCallR (S_l2Put_w N v285.1 ((l213.getD ((v278.1).toNat) (0, 0)).1, v214) v286 hc39) rfl (wNone rfl) rfl rfl rfl rfl rfl rfl (by first | rfl | kernel_rfl | (simp [nrL, nm, gdst, nmT, rowB]; done)) rfl (by first | rfl | kernel_rfl | (simp [chkE, nrL, nm, gdst, nmT, rowB, hid, ment, mentA, mentS]; done) | (simp [chkE, nrL, nm, gdst, nmT, rowB, hid, ment, mentA, mentS]; decide)) ⟨⟨rfl, (.inl ⟨rfl, rfl⟩), trivial⟩, ⟨rfl, rfl, trivial⟩, trivial⟩ ?_
           iterate 3 refine nVal tt rfl (wNone rfl) rfl rfl rfl rfl rfl trivial ?_
           refine nPure (wNone rfl) (pBuild bld_impl_Bar rfl rfl) rfl rfl rfl rfl ?_
           refine nNil ?_
           change VO _ _ _ _ _
           obtain ⟨v287, hc40, h⟩ := bind_inv h
           refine oCall (S_l2Put_w N v286 ((l213.getD ((v278.1).toNat) (0, 0)).2, v214) v287 hc40) rfl rfl rfl rfl rfl rfl rfl rfl ⟨⟨rfl, (.inl ⟨rfl, rfl⟩), trivial⟩, ⟨rfl, rfl, trivial⟩, trivial⟩ ?_
           refine oStore tt rfl rfl rfl rfl rfl rfl rfl rfl rfl rfl rfl ⟨trivial, trivial, trivial⟩ ?_
           refine vNil ?_
           change VC _ _ _ _
           refine vSeq ?_
           refine vRegion ?_
           iterate 3 refine oVal tt rfl rfl rfl rfl rfl trivial ?_
           refine oPure (wNone rfl) (pBuild bld_impl_Bar rfl rfl) rfl rfl ?_
           obtain ⟨v288, hc41, h⟩ := bind_inv h
           refine oCall (S_l2Put_w N v287 (w284, v214) v288 hc41) rfl rfl rfl rfl rfl rfl rfl rfl ⟨⟨rfl, (.inl ⟨rfl, rfl⟩), trivial⟩, ⟨rfl, rfl, trivial⟩, trivial⟩ ?_
           refine oVal tt rfl rfl rfl rfl rfl trivial ?_
           refine oStore tt rfl rfl rfl rfl rfl rfl rfl rfl rfl rfl rfl ⟨trivial, trivial, trivial⟩ ?_
           refine vNil ?_
           change VC _ _ _ _
           refine vExit ?_
           change VC _ _ _ _
           refine vRegion ?_
           refine oVal tt rfl rfl rfl rfl rfl trivial ?_
           obtain ⟨hg42, h⟩ := grd_inv h
           refine oVal tt rfl rfl rfl rfl rfl hg42 ?_
           refine oVal tt rfl rfl rfl rfl rfl trivial ?_
           refine vNil ?_
           change ∃ _, _
           exact ⟨(v288.bars, (v214 + (1 : Int)), v279.2.1, v279.2.2, v288.n), (En.ren [9504] [2220] rfl ⟨.inr rfl, .inr rfl, .inr rfl, .inr rfl, .inr rfl, .inr rfl, trivial⟩ ⟨.inr rfl, .inr rfl, trivial⟩ ⟨.inr ⟨_, _, rfl, rfl, ⟨.inr rfl, .inr rfl, .inr rfl, trivial⟩⟩, .inr ⟨_, _, rfl, rfl, ⟨.inr rfl, .inr rfl, .inr rfl, trivial⟩⟩, .inr ⟨_, _, rfl, rfl, ⟨.inr rfl, .inr rfl, .inr rfl, trivial⟩⟩, trivial⟩), h⟩
          ·replace h := cnd_f hb37 h
           refine vSkip ?_
           change ∃ _, _
           exact ⟨(v279.2.1, v279.2.2), (En.of ⟨rfl, rfl, rfl, rfl, rfl, rfl, trivial⟩ ⟨rfl, rfl, trivial⟩ ⟨rfl, rfl, rfl, trivial⟩), h⟩
         ·replace h := cnd_f hb36 h
          iterate 4 refine oNoT rfl rfl rfl rfl hb36 rfl rfl ?_
          refine oPickF rfl rfl rfl rfl rfl hb36 rfl ?_
          refine vNil ?_
          change VC _ _ _ _
          refine vCondF rfl rfl ?_
          refine vSkip ?_
          change ∃ _, _
          exact ⟨(v279.2.1, v279.2.2), (En.of ⟨rfl, rfl, rfl, rfl, rfl, rfl, trivial⟩ ⟨rfl, rfl, trivial⟩ ⟨rfl, rfl, rfl, trivial⟩), h⟩
        ·intro k289 h
         refine vCond rfl (fun hb43 => ?_) (fun hb43 => ?_)
         ·replace h := cnd_t hb43 h
          refine vRegion ?_
          iterate 2 refine oVal tt rfl rfl rfl rfl rfl trivial ?_
          refine oVal tt rfl rfl rfl rfl rfl hg23 ?_
          refine oVal tt rfl rfl rfl rfl rfl trivial ?_
          refine oVal tt rfl rfl rfl rfl rfl hg27 ?_
          refine oVal tt rfl rfl rfl rfl rfl trivial ?_
          refine vNil ?_
          change ∃ _, _
          exact ⟨(Int.tmod (((l213.getD ((v278.1).toNat) (0, 0)).2) + (1 : Int)) v214), (En.of ⟨rfl, rfl, rfl, rfl, rfl, rfl, rfl, rfl, rfl, trivial⟩ ⟨rfl, rfl, trivial⟩ ⟨rfl, rfl, rfl, rfl, trivial⟩), h⟩
         ·replace h := cnd_f hb43 h
          refine vSkip ?_
          change ∃ _, _
          exact ⟨(Int.tmod ((((l213.getD ((v278.1).toNat) (0, 0)).2) + (1 : Int)) + v279.1) v214), (En.of ⟨rfl, rfl, rfl, rfl, rfl, rfl, rfl, rfl, rfl, trivial⟩ ⟨rfl, rfl, trivial⟩ ⟨rfl, rfl, rfl, rfl, trivial⟩), h⟩
      ·replace h := cnd_f hb20 h
       refine vSkip ?_
       change ∃ _, _
       exact ⟨(v258.2.1, v258.2.2), (En.of ⟨rfl, rfl, rfl, rfl, rfl, rfl, trivial⟩ ⟨rfl, rfl, trivial⟩ ⟨rfl, rfl, rfl, trivial⟩), h⟩
    ·replace h := cnd_f hb10 h
     iterate 5 refine oNoT rfl rfl rfl rfl hb10 rfl rfl ?_
     refine oPickF rfl rfl rfl rfl rfl hb10 rfl ?_
     refine vNil ?_
     change VC _ _ _ _
     refine vCondF rfl rfl ?_
     refine vSkip ?_
     change VC _ _ _ _
     refine vSeq ?_
     refine vRegion ?_
     iterate 2 refine oVal tt rfl rfl rfl rfl rfl trivial ?_
     obtain ⟨v290, hc44, h⟩ := bind_inv h
     refine oMCall (S_l1Below_w N (⟨c_0.b, v258.2.1, v258.2.2⟩ : Cur) v214 v290 hc44) [] [1000000] [] rfl rfl rfl rfl rfl rfl trivial ⟨rfl, trivial⟩ ⟨⟨rfl, rfl⟩, ⟨rfl, rfl⟩, trivial⟩ ?_
     refine oVal tt rfl rfl rfl rfl rfl trivial ?_
     refine vNil ?_
     change VC _ _ _ _
     refine vSeq ?_
     refine vRegion ?_
     refine oVal tt rfl rfl rfl rfl rfl trivial ?_
     obtain ⟨hg45, h⟩ := grd_inv h
     refine oVal tt rfl rfl rfl rfl rfl hg45 ?_
     iterate 2 refine oVal tt rfl rfl rfl rfl rfl trivial ?_
     obtain ⟨hg46, h⟩ := grd_inv h
     refine oVal tt rfl rfl rfl rfl rfl hg46 ?_
     obtain ⟨v291, hc47, h⟩ := bind_inv h
     refine oMCall (S_l1Below_w N (⟨c_0.b, v290.2.1, v290.2.2⟩ : Cur) (v214 - (1 : Int)) v291 hc47) [] [1000000] [] rfl rfl rfl rfl rfl rfl trivial ⟨rfl, trivial⟩ ⟨⟨rfl, rfl⟩, ⟨rfl, rfl⟩, trivial⟩ ?_
     obtain ⟨hg48, h⟩ := grd_inv h
     refine oVal tt rfl rfl rfl rfl rfl hg48 ?_
     refine oVal tt rfl rfl rfl rfl rfl trivial ?_
     obtain ⟨hg49, h⟩ := grd_inv h
     refine oVal tt rfl rfl rfl rfl rfl hg49 ?_
     refine oVal tt rfl rfl rfl rfl rfl trivial ?_
     refine vNil ?_
     change VC _ _ _ _
     refine vRegion ?_
     iterate 4 refine oVal tt rfl rfl rfl rfl rfl trivial ?_
     refine oPure (wNone rfl) (pBuild bld_impl_Bar rfl rfl) rfl rfl ?_
     obtain ⟨v292, hc50, h⟩ := bind_inv h
     refine oCall (S_l2Put_w N (⟨c217, l213⟩ : Grf) (v290.1, v214) v292 hc50) rfl rfl rfl rfl rfl rfl rfl rfl ⟨⟨rfl, (.inl ⟨rfl, rfl⟩), trivial⟩, ⟨rfl, rfl, trivial⟩, trivial⟩ ?_
     iterate 2 refine oVal tt rfl rfl rfl rfl rfl trivial ?_
     refine oPure (wNone rfl) (pBuild bld_impl_Bar rfl rfl) rfl rfl ?_
     obtain ⟨v293, hc51, h⟩ := bind_inv h
     refine oCall (S_l2Put_w N v292 ((Int.tmod ((v290.1 + (1 : Int)) + v291.1) v214), v214) v293 hc51) rfl rfl rfl rfl rfl rfl rfl rfl ⟨⟨rfl, (.inl ⟨rfl, rfl⟩), trivial⟩, ⟨rfl, rfl, trivial⟩, trivial⟩ ?_
     refine oVal tt rfl rfl rfl rfl rfl trivial ?_
     refine oStore tt rfl rfl rfl rfl rfl rfl rfl rfl rfl rfl rfl ⟨trivial, trivial, trivial⟩ ?_
     refine vNil ?_
     change VC _ _ _ _
     refine vRegion ?_
     refine oVal tt rfl rfl rfl rfl rfl trivial ?_
     obtain ⟨hg52, h⟩ := grd_inv h
     refine oVal tt rfl rfl rfl rfl rfl hg52 ?_
     refine oVal tt rfl rfl rfl rfl rfl trivial ?_
     refine vNil ?_
     change ∃ _, _
     exact ⟨(v293.bars, (v214 + (1 : Int)), v291.2.1, v291.2.2, v293.n), (En.ren [9504] [2450] rfl ⟨.inr rfl, .inr rfl, .inr rfl, .inr rfl, .inr rfl, .inr rfl, trivial⟩ ⟨.inr rfl, .inr rfl, trivial⟩ ⟨.inr ⟨_, _, rfl, rfl, ⟨.inr rfl, .inr rfl, .inr rfl, trivial⟩⟩, .inr ⟨_, _, rfl, rfl, ⟨.inr rfl, .inr rfl, .inr rfl, trivial⟩⟩, .inr ⟨_, _, rfl, rfl, ⟨.inr rfl, .inr rfl, .inr rfl, trivial⟩⟩, trivial⟩), h⟩
   ·replace h := cnd_f hb8 h
    iterate 2 refine oNoT rfl rfl rfl rfl hb8 rfl rfl ?_
    refine oPickF rfl rfl rfl rfl rfl hb8 rfl ?_
    refine oVal tt rfl rfl rfl rfl rfl trivial ?_
    iterate 5 refine oNoT rfl rfl rfl rfl rfl rfl rfl ?_
    refine oPickF rfl rfl rfl rfl rfl rfl rfl ?_
    refine vNil ?_
    change VC _ _ _ _
    refine vCondF rfl rfl ?_
    refine vSkip ?_
    change VC _ _ _ _
    refine vSeq ?_
    refine vRegion ?_
    iterate 2 refine oVal tt rfl rfl rfl rfl rfl trivial ?_
    obtain ⟨v294, hc53, h⟩ := bind_inv h
    refine oMCall (S_l1Below_w N (⟨c_0.b, c215, c216⟩ : Cur) v214 v294 hc53) [] [1000000] [] rfl rfl rfl rfl rfl rfl trivial ⟨rfl, trivial⟩ ⟨⟨rfl, rfl⟩, ⟨rfl, rfl⟩, trivial⟩ ?_
    refine oVal tt rfl rfl rfl rfl rfl trivial ?_
    refine vNil ?_
    change VC _ _ _ _
    refine vSeq ?_
    refine vRegion ?_
    refine oVal tt rfl rfl rfl rfl rfl trivial ?_
    obtain ⟨hg54, h⟩ := grd_inv h
    refine oVal tt rfl rfl rfl rfl rfl hg54 ?_
    iterate 2 refine oVal tt rfl rfl rfl rfl rfl trivial ?_
    obtain ⟨hg55, h⟩ := grd_inv h
    refine oVal tt rfl rfl rfl rfl rfl hg55 ?_
    obtain ⟨v295, hc56, h⟩ := bind_inv h
    refine oMCall (S_l1Below_w N (⟨c_0.b, v294.2.1, v294.2.2⟩ : Cur) (v214 - (1 : Int)) v295 hc56) [] [1000000] [] rfl rfl rfl rfl rfl rfl trivial ⟨rfl, trivial⟩ ⟨⟨rfl, rfl⟩, ⟨rfl, rfl⟩, trivial⟩ ?_
    obtain ⟨hg57, h⟩ := grd_inv h
    refine oVal tt rfl rfl rfl rfl rfl hg57 ?_
    refine oVal tt rfl rfl rfl rfl rfl trivial ?_
    obtain ⟨hg58, h⟩ := grd_inv h
    refine oVal tt rfl rfl rfl rfl rfl hg58 ?_
    refine oVal tt rfl rfl rfl rfl rfl trivial ?_
    refine vNil ?_
    change VC _ _ _ _
    refine vRegion ?_
    iterate 4 refine oVal tt rfl rfl rfl rfl rfl trivial ?_
    refine oPure (wNone rfl) (pBuild bld_impl_Bar rfl rfl) rfl rfl ?_
    obtain ⟨v296, hc59, h⟩ := bind_inv h
    refine oCall (S_l2Put_w N (⟨c217, l213⟩ : Grf) (v294.1, v214) v296 hc59) rfl rfl rfl rfl rfl rfl rfl rfl ⟨⟨rfl, (.inl ⟨rfl, rfl⟩), trivial⟩, ⟨rfl, rfl, trivial⟩, trivial⟩ ?_
    iterate 2 refine oVal tt rfl rfl rfl rfl rfl trivial ?_
    refine oPure (wNone rfl) (pBuild bld_impl_Bar rfl rfl) rfl rfl ?_
    obtain ⟨v297, hc60, h⟩ := bind_inv h
    refine oCall (S_l2Put_w N v296 ((Int.tmod ((v294.1 + (1 : Int)) + v295.1) v214), v214) v297 hc60) rfl rfl rfl rfl rfl rfl rfl rfl ⟨⟨rfl, (.inl ⟨rfl, rfl⟩), trivial⟩, ⟨rfl, rfl, trivial⟩, trivial⟩ ?_
    refine oVal tt rfl rfl rfl rfl rfl trivial ?_
    refine oStore tt rfl rfl rfl rfl rfl rfl rfl rfl rfl rfl rfl ⟨trivial, trivial, trivial⟩ ?_
    refine vNil ?_
    change VC _ _ _ _
    refine vRegion ?_
    refine oVal tt rfl rfl rfl rfl rfl trivial ?_
    obtain ⟨hg61, h⟩ := grd_inv h
    refine oVal tt rfl rfl rfl rfl rfl hg61 ?_
    refine oVal tt rfl rfl rfl rfl rfl trivial ?_
    refine vNil ?_
    change ∃ _, _
    exact ⟨(v297.bars, (v214 + (1 : Int)), v295.2.1, v295.2.2, v297.n), (En.ren [9504] [2450] rfl ⟨.inr rfl, .inr rfl, .inr rfl, .inr rfl, .inr rfl, .inr rfl, trivial⟩ ⟨.inr rfl, .inr rfl, trivial⟩ ⟨.inr ⟨_, _, rfl, rfl, ⟨.inr rfl, .inr rfl, .inr rfl, trivial⟩⟩, .inr ⟨_, _, rfl, rfl, ⟨.inr rfl, .inr rfl, .inr rfl, trivial⟩⟩, .inr ⟨_, _, rfl, rfl, ⟨.inr rfl, .inr rfl, .inr rfl, trivial⟩⟩, trivial⟩), h⟩
  ·replace h := cnd_f hb7 h
   refine vExit ?_
   change ∃ _, _
   exact ⟨(l213, c215, c216, c217), (En.ren [9503] [9504] rfl ⟨.inr rfl, .inr rfl, trivial⟩ ⟨.inr rfl, .inr rfl, trivial⟩ ⟨.inr ⟨_, _, rfl, rfl, ⟨.inr rfl, .inr rfl, .inr rfl, trivial⟩⟩, .inr ⟨_, _, rfl, rfl, ⟨.inr rfl, .inr rfl, .inr rfl, trivial⟩⟩, .inr ⟨_, _, rfl, rfl, ⟨.inr rfl, .inr rfl, .inr rfl, trivial⟩⟩, trivial⟩), h⟩
def S_AddBar (N : Nat) (g_0 : Grf) (a_1 : Int) (b_2 : Int) : Option (Grf × Bool) :=
 (S_IsGraph N g_0).bind fun v1 =>
 cnd (!v1) (
  (S_l2Copy N g_0).bind fun v2 =>
  some ((⟨v2.n, v2.bars⟩ : Grf), false)) (
  cnd (decide (a_1 < (0 : Int))) (
   (S_l2Copy N g_0).bind fun v3 =>
   some ((⟨v3.n, v3.bars⟩ : Grf), false)) (
   cnd (decide (b_2 < (0 : Int))) (
    (S_l2Copy N g_0).bind fun v4 =>
    some ((⟨v4.n, v4.bars⟩ : Grf), false)) (
    cnd (decide (a_1 ≥ g_0.n)) (
     (S_l2Copy N g_0).bind fun v5 =>
     some ((⟨v5.n, v5.bars⟩ : Grf), false)) (
     cnd (decide (b_2 ≥ g_0.n)) (
      (S_l2Copy N g_0).bind fun v6 =>
      some ((⟨v6.n, v6.bars⟩ : Grf), false)) (
      cnd (a_1 == b_2) (
       (S_l2Copy N g_0).bind fun v7 =>
       some ((⟨v7.n, v7.bars⟩ : Grf), false)) (
       cnd (decide ((g_0.bars.length : Int) ≥ (24 : Int))) (
        (S_l2Copy N g_0).bind fun v8 =>
        some ((⟨v8.n, v8.bars⟩ : Grf), false)) (
        (S_l2Put N g_0 ((min a_1 b_2), (max a_1 b_2))).bind fun v9 =>
        some ((⟨v9.n, v9.bars⟩ : Grf), true))))))))
set_option maxRecDepth 20000 in
set_option maxHeartbeats 1600000 in
theorem S_AddBar_w (N : Nat) (g_0 : Grf) (a_1 : Int) (b_2 : Int) (r : Grf × Bool) (h : S_AddBar N g_0 a_1 b_2 = some r) : PCall Try.prog 173 [gD g_0, .int a_1, .int b_2] [(111, .pairs r.1.bars)] (.tup [.agg [.int r.1.n, .row 0 0 r.1.bars.length], .bool r.2]) := by
 unfold S_AddBar at h
 refine pcall_intro (TT := TT) tt Try.func173 rfl rfl Try.ntmps173 (congrArg Array.toList Try.results173) rfl rfl fun w0 => ?_
 refine vSeq ?_
 refine vRegion ?_
 refine oBox rfl rfl rfl rfl rfl rfl rfl rfl rfl ?_
 refine oAlloc tt rfl rfl rfl rfl rfl rfl rfl rfl rfl ?_
 refine oVal tt rfl rfl rfl rfl rfl trivial ?_
 refine vNil ?_
 change VC _ _ _ _
 iterate 2 refine vSeq ?_
 refine vRegion ?_
 refine oVal tt rfl rfl rfl rfl rfl trivial ?_
 obtain ⟨v1, hc1, h⟩ := bind_inv h
 refine oCall (S_IsGraph_w N g_0 v1 hc1) rfl rfl rfl rfl rfl rfl rfl rfl ⟨⟨rfl, rfl, trivial⟩, trivial⟩ ?_
 iterate 2 refine oVal tt rfl rfl rfl rfl rfl trivial ?_
 refine oSplit rfl rfl rfl (fun hb2 => ?_) (fun hb2 => ?_)
 ·replace h := cnd_t hb2 h
  iterate 2 refine oNoF rfl rfl rfl rfl hb2 rfl rfl ?_
  refine oPick rfl rfl rfl rfl rfl hb2 rfl ?_
  refine oVal tt rfl rfl rfl rfl rfl trivial ?_
  iterate 2 refine oNoF rfl rfl rfl rfl rfl rfl rfl ?_
  refine oPick rfl rfl rfl rfl rfl rfl rfl ?_
  refine oVal tt rfl rfl rfl rfl rfl trivial ?_
  iterate 4 refine oNoF rfl rfl rfl rfl rfl rfl rfl ?_
  refine oPick rfl rfl rfl rfl rfl rfl rfl ?_
  refine oVal tt rfl rfl rfl rfl rfl trivial ?_
  iterate 4 refine oNoF rfl rfl rfl rfl rfl rfl rfl ?_
  refine oPick rfl rfl rfl rfl rfl rfl rfl ?_
  refine oVal tt rfl rfl rfl rfl rfl trivial ?_
  iterate 3 refine oNoF rfl rfl rfl rfl rfl rfl rfl ?_
  refine oPick rfl rfl rfl rfl rfl rfl rfl ?_
  refine oVal tt rfl rfl rfl rfl rfl trivial ?_
  iterate 4 refine oNoF rfl rfl rfl rfl rfl rfl rfl ?_
  refine oPick rfl rfl rfl rfl rfl rfl rfl ?_
  refine vNil ?_
  change VC _ _ _ _
  refine vCondT rfl rfl ?_
  refine vSeq ?_
  refine vRegion ?_
  refine oVal tt rfl rfl rfl rfl rfl trivial ?_
  obtain ⟨v2, hc3, h⟩ := bind_inv h
  refine oCall (S_l2Copy_w N g_0 v2 hc3) rfl rfl rfl rfl rfl rfl rfl rfl ⟨⟨rfl, rfl, trivial⟩, trivial⟩ ?_
  refine oStore tt rfl rfl rfl rfl rfl rfl rfl rfl rfl rfl rfl ⟨trivial, trivial, trivial⟩ ?_
  refine oVal tt rfl rfl rfl rfl rfl trivial ?_
  refine vNil ?_
  change VC _ _ _ _
  refine vRet ?_
  change ∃ _, _
  cases h
  exact ⟨[1430], _, rfl, ⟨rfl, trivial⟩, rfl, (.eq rfl), rfl⟩
 ·replace h := cnd_f hb2 h
  iterate 2 refine oValG tt rfl rfl rfl rfl rfl hb2 rfl rfl rfl trivial ?_
  refine oPickF rfl rfl rfl rfl rfl hb2 rfl ?_
  refine oVal tt rfl rfl rfl rfl rfl trivial ?_
  refine oSplit rfl rfl rfl (fun hb4 => ?_) (fun hb4 => ?_)
  ·replace h := cnd_t hb4 h
   iterate 2 refine oNoF rfl rfl rfl rfl hb4 rfl rfl ?_
   refine oPick rfl rfl rfl rfl rfl hb4 rfl ?_
   refine oVal tt rfl rfl rfl rfl rfl trivial ?_
   iterate 4 refine oNoF rfl rfl rfl rfl rfl rfl rfl ?_
   refine oPick rfl rfl rfl rfl rfl rfl rfl ?_
   refine oVal tt rfl rfl rfl rfl rfl trivial ?_
   iterate 4 refine oNoF rfl rfl rfl rfl rfl rfl rfl ?_
   refine oPick rfl rfl rfl rfl rfl rfl rfl ?_
   refine oVal tt rfl rfl rfl rfl rfl trivial ?_
   iterate 3 refine oNoF rfl rfl rfl rfl rfl rfl rfl ?_
   refine oPick rfl rfl rfl rfl rfl rfl rfl ?_
   refine oVal tt rfl rfl rfl rfl rfl trivial ?_
   iterate 4 refine oNoF rfl rfl rfl rfl rfl rfl rfl ?_
   refine oPick rfl rfl rfl rfl rfl rfl rfl ?_
   refine vNil ?_
   change VC _ _ _ _
   refine vCondT rfl rfl ?_
   refine vSeq ?_
   refine vRegion ?_
   refine oVal tt rfl rfl rfl rfl rfl trivial ?_
   obtain ⟨v3, hc5, h⟩ := bind_inv h
   refine oCall (S_l2Copy_w N g_0 v3 hc5) rfl rfl rfl rfl rfl rfl rfl rfl ⟨⟨rfl, rfl, trivial⟩, trivial⟩ ?_
   refine oStore tt rfl rfl rfl rfl rfl rfl rfl rfl rfl rfl rfl ⟨trivial, trivial, trivial⟩ ?_
   refine oVal tt rfl rfl rfl rfl rfl trivial ?_
   refine vNil ?_
   change VC _ _ _ _
   refine vRet ?_
   change ∃ _, _
   cases h
   exact ⟨[1430], _, rfl, ⟨rfl, trivial⟩, rfl, (.eq rfl), rfl⟩
  ·replace h := cnd_f hb4 h
   iterate 2 refine oValG tt rfl rfl rfl rfl rfl hb4 rfl rfl rfl trivial ?_
   refine oPickF rfl rfl rfl rfl rfl hb4 rfl ?_
   refine oVal tt rfl rfl rfl rfl rfl trivial ?_
   refine oSplit rfl rfl rfl (fun hb6 => ?_) (fun hb6 => ?_)
   ·replace h := cnd_t hb6 h
    iterate 4 refine oNoF rfl rfl rfl rfl hb6 rfl rfl ?_
    refine oPick rfl rfl rfl rfl rfl hb6 rfl ?_
    refine oVal tt rfl rfl rfl rfl rfl trivial ?_
    iterate 4 refine oNoF rfl rfl rfl rfl rfl rfl rfl ?_
    refine oPick rfl rfl rfl rfl rfl rfl rfl ?_
    refine oVal tt rfl rfl rfl rfl rfl trivial ?_
    iterate 3 refine oNoF rfl rfl rfl rfl rfl rfl rfl ?_
    refine oPick rfl rfl rfl rfl rfl rfl rfl ?_
    refine oVal tt rfl rfl rfl rfl rfl trivial ?_
    iterate 4 refine oNoF rfl rfl rfl rfl rfl rfl rfl ?_
    refine oPick rfl rfl rfl rfl rfl rfl rfl ?_
    refine vNil ?_
    change VC _ _ _ _
    refine vCondT rfl rfl ?_
    refine vSeq ?_
    refine vRegion ?_
    refine oVal tt rfl rfl rfl rfl rfl trivial ?_
    obtain ⟨v4, hc7, h⟩ := bind_inv h
    refine oCall (S_l2Copy_w N g_0 v4 hc7) rfl rfl rfl rfl rfl rfl rfl rfl ⟨⟨rfl, rfl, trivial⟩, trivial⟩ ?_
    refine oStore tt rfl rfl rfl rfl rfl rfl rfl rfl rfl rfl rfl ⟨trivial, trivial, trivial⟩ ?_
    refine oVal tt rfl rfl rfl rfl rfl trivial ?_
    refine vNil ?_
    change VC _ _ _ _
    refine vRet ?_
    change ∃ _, _
    cases h
    exact ⟨[1430], _, rfl, ⟨rfl, trivial⟩, rfl, (.eq rfl), rfl⟩
   ·replace h := cnd_f hb6 h
    iterate 4 refine oValG tt rfl rfl rfl rfl rfl hb6 rfl rfl rfl trivial ?_
    refine oPickF rfl rfl rfl rfl rfl hb6 rfl ?_
    refine oVal tt rfl rfl rfl rfl rfl trivial ?_
    refine oSplit rfl rfl rfl (fun hb8 => ?_) (fun hb8 => ?_)
    ·replace h := cnd_t hb8 h
     iterate 4 refine oNoF rfl rfl rfl rfl hb8 rfl rfl ?_
     refine oPick rfl rfl rfl rfl rfl hb8 rfl ?_
     refine oVal tt rfl rfl rfl rfl rfl trivial ?_
     iterate 3 refine oNoF rfl rfl rfl rfl rfl rfl rfl ?_
     refine oPick rfl rfl rfl rfl rfl rfl rfl ?_
     refine oVal tt rfl rfl rfl rfl rfl trivial ?_
     iterate 4 refine oNoF rfl rfl rfl rfl rfl rfl rfl ?_
     refine oPick rfl rfl rfl rfl rfl rfl rfl ?_
     refine vNil ?_
     change VC _ _ _ _
     refine vCondT rfl rfl ?_
     refine vSeq ?_
     refine vRegion ?_
     refine oVal tt rfl rfl rfl rfl rfl trivial ?_
     obtain ⟨v5, hc9, h⟩ := bind_inv h
     refine oCall (S_l2Copy_w N g_0 v5 hc9) rfl rfl rfl rfl rfl rfl rfl rfl ⟨⟨rfl, rfl, trivial⟩, trivial⟩ ?_
     refine oStore tt rfl rfl rfl rfl rfl rfl rfl rfl rfl rfl rfl ⟨trivial, trivial, trivial⟩ ?_
     refine oVal tt rfl rfl rfl rfl rfl trivial ?_
     refine vNil ?_
     change VC _ _ _ _
     refine vRet ?_
     change ∃ _, _
     cases h
     exact ⟨[1430], _, rfl, ⟨rfl, trivial⟩, rfl, (.eq rfl), rfl⟩
    ·replace h := cnd_f hb8 h
     iterate 4 refine oValG tt rfl rfl rfl rfl rfl hb8 rfl rfl rfl trivial ?_
     refine oPickF rfl rfl rfl rfl rfl hb8 rfl ?_
     refine oVal tt rfl rfl rfl rfl rfl trivial ?_
     refine oSplit rfl rfl rfl (fun hb10 => ?_) (fun hb10 => ?_)
     ·replace h := cnd_t hb10 h
      iterate 3 refine oNoF rfl rfl rfl rfl hb10 rfl rfl ?_
      refine oPick rfl rfl rfl rfl rfl hb10 rfl ?_
      refine oVal tt rfl rfl rfl rfl rfl trivial ?_
      iterate 4 refine oNoF rfl rfl rfl rfl rfl rfl rfl ?_
      refine oPick rfl rfl rfl rfl rfl rfl rfl ?_
      refine vNil ?_
      change VC _ _ _ _
      refine vCondT rfl rfl ?_
      refine vSeq ?_
      refine vRegion ?_
      refine oVal tt rfl rfl rfl rfl rfl trivial ?_
      obtain ⟨v6, hc11, h⟩ := bind_inv h
      refine oCall (S_l2Copy_w N g_0 v6 hc11) rfl rfl rfl rfl rfl rfl rfl rfl ⟨⟨rfl, rfl, trivial⟩, trivial⟩ ?_
      refine oStore tt rfl rfl rfl rfl rfl rfl rfl rfl rfl rfl rfl ⟨trivial, trivial, trivial⟩ ?_
      refine oVal tt rfl rfl rfl rfl rfl trivial ?_
      refine vNil ?_
      change VC _ _ _ _
      refine vRet ?_
      change ∃ _, _
      cases h
      exact ⟨[1430], _, rfl, ⟨rfl, trivial⟩, rfl, (.eq rfl), rfl⟩
     ·replace h := cnd_f hb10 h
      iterate 3 refine oValG tt rfl rfl rfl rfl rfl hb10 rfl rfl rfl trivial ?_
      refine oPickF rfl rfl rfl rfl rfl hb10 rfl ?_
      refine oVal tt rfl rfl rfl rfl rfl trivial ?_
      refine oSplit rfl rfl rfl (fun hb12 => ?_) (fun hb12 => ?_)
      ·replace h := cnd_t hb12 h
       iterate 4 refine oNoF rfl rfl rfl rfl hb12 rfl rfl ?_
       refine oPick rfl rfl rfl rfl rfl hb12 rfl ?_
       refine vNil ?_
       change VC _ _ _ _
       refine vCondT rfl rfl ?_
       refine vSeq ?_
       refine vRegion ?_
       refine oVal tt rfl rfl rfl rfl rfl trivial ?_
       obtain ⟨v7, hc13, h⟩ := bind_inv h
       refine oCall (S_l2Copy_w N g_0 v7 hc13) rfl rfl rfl rfl rfl rfl rfl rfl ⟨⟨rfl, rfl, trivial⟩, trivial⟩ ?_
       refine oStore tt rfl rfl rfl rfl rfl rfl rfl rfl rfl rfl rfl ⟨trivial, trivial, trivial⟩ ?_
       refine oVal tt rfl rfl rfl rfl rfl trivial ?_
       refine vNil ?_
       change VC _ _ _ _
       refine vRet ?_
       change ∃ _, _
       cases h
       exact ⟨[1430], _, rfl, ⟨rfl, trivial⟩, rfl, (.eq rfl), rfl⟩
      ·replace h := cnd_f hb12 h
       iterate 4 refine oValG tt rfl rfl rfl rfl rfl hb12 rfl rfl rfl trivial ?_
       refine oPickF rfl rfl rfl rfl rfl hb12 rfl ?_
       refine vNil ?_
       change VC _ _ _ _
       refine vCond rfl (fun hb14 => ?_) (fun hb14 => ?_)
       ·replace h := cnd_t hb14 h
        refine vSeq ?_
        refine vRegion ?_
        refine oVal tt rfl rfl rfl rfl rfl trivial ?_
        obtain ⟨v8, hc15, h⟩ := bind_inv h
        refine oCall (S_l2Copy_w N g_0 v8 hc15) rfl rfl rfl rfl rfl rfl rfl rfl ⟨⟨rfl, rfl, trivial⟩, trivial⟩ ?_
        refine oStore tt rfl rfl rfl rfl rfl rfl rfl rfl rfl rfl rfl ⟨trivial, trivial, trivial⟩ ?_
        refine oVal tt rfl rfl rfl rfl rfl trivial ?_
        refine vNil ?_
        change VC _ _ _ _
        refine vRet ?_
        change ∃ _, _
        cases h
        exact ⟨[1430], _, rfl, ⟨rfl, trivial⟩, rfl, (.eq rfl), rfl⟩
       ·replace h := cnd_f hb14 h
        refine vSkip ?_
        change VC _ _ _ _
        refine vSeq ?_
        refine vRegion ?_
        iterate 7 refine oVal tt rfl rfl rfl rfl rfl trivial ?_
        refine oPure (wNone rfl) (pBuild bld_impl_Bar rfl rfl) rfl rfl ?_
        obtain ⟨v9, hc16, h⟩ := bind_inv h
        refine oCall (S_l2Put_w N g_0 ((min a_1 b_2), (max a_1 b_2)) v9 hc16) rfl rfl rfl rfl rfl rfl rfl rfl ⟨⟨rfl, rfl, trivial⟩, ⟨rfl, rfl, trivial⟩, trivial⟩ ?_
        refine oStore tt rfl rfl rfl rfl rfl rfl rfl rfl rfl rfl rfl ⟨trivial, trivial, trivial⟩ ?_
        refine oVal tt rfl rfl rfl rfl rfl trivial ?_
        refine vNil ?_
        change VC _ _ _ _
        refine vRet ?_
        change ∃ _, _
        cases h
        exact ⟨[1520], _, rfl, ⟨rfl, trivial⟩, rfl, (.eq rfl), rfl⟩
end Go.Proofs.Ytcljhpldfanhkaa
namespace Go.Proofs.Ytcljhpldfanhkaa
open Go.RowKit
theorem bld_spec_l1Cur : BuildOK Try.prog 151 [(0, 1), (1, 1), (2, 1)] [.slice none 0 0, .int .i64 0, .int .i64 0] := bld (by kernel_rfl) (by kernel_rfl)
end Go.Proofs.Ytcljhpldfanhkaa
namespace Go.Proofs.Ytcljhpldfanhkaa
open Go.RowKit
def S_l20Any (N : Nat) (c_0 : Cur) : Option (Pin × Int × Int) :=
 (S_l1Below N c_0 (4 : Int)).bind fun v1 =>
 grd (Rg64 ((1 : Int) + v1.1)) <|
 (S_l20Isostatic N (⟨c_0.b, v1.2.1, v1.2.2⟩ : Cur) ((1 : Int) + v1.1)).bind fun v2 =>
 (S_l1Below N (⟨c_0.b, v2.2.1, v2.2.2⟩ : Cur) (8 : Int)).bind fun v3 =>
 cnd (v3.1 == (0 : Int)) (
  (S_l1Below N (⟨c_0.b, v3.2.1, v3.2.2⟩ : Cur) (v2.1.g.bars.length : Int)).bind fun v4 =>
  (S_RemoveBar N v2.1.g v4.1).bind fun v5 =>
  some ((⟨⟨v5.1.n, v5.1.bars⟩, v2.1.ground⟩ : Pin), v4.2.1, v4.2.2)) (
  cnd (v3.1 == (1 : Int)) (
   (S_l1Below N (⟨c_0.b, v3.2.1, v3.2.2⟩ : Cur) v2.1.g.n).bind fun v6 =>
   (S_l1Below N (⟨c_0.b, v6.2.1, v6.2.2⟩ : Cur) v2.1.g.n).bind fun v7 =>
   (S_AddBar N v2.1.g v6.1 v7.1).bind fun v8 =>
   some ((⟨⟨v8.1.n, v8.1.bars⟩, v2.1.ground⟩ : Pin), v7.2.1, v7.2.2)) (
   cnd (v3.1 == (2 : Int)) (
    (S_l1Below N (⟨c_0.b, v3.2.1, v3.2.2⟩ : Cur) (4 : Int)).bind fun v9 =>
    grd (Rg64 (v9.1 - (1 : Int))) <|
    (S_l1Below N (⟨c_0.b, v9.2.1, v9.2.2⟩ : Cur) (9 : Int)).bind fun v10 =>
    some ((⟨⟨v2.1.g.n, v2.1.g.bars⟩, ([(v9.1 - (1 : Int)), v10.1] : List Int)⟩ : Pin), v10.2.1, v10.2.2)) (
    some ((⟨⟨v2.1.g.n, v2.1.g.bars⟩, v2.1.ground⟩ : Pin), v3.2.1, v3.2.2))))
set_option maxRecDepth 20000 in
set_option maxHeartbeats 1600000 in
theorem S_l20Any_w (N : Nat) (c_0 : Cur) (r : Pin × Int × Int) (h : S_l20Any N c_0 = some r) : MCall Try.prog 109 [.ptr 1000000 0] [900101, 900102] [1000000] [(111, .pairs []), (3, .ints [])] [(111, .pairs r.1.g.bars), (3, .ints r.1.ground)] [[.ro false (.bytes c_0.b), .int c_0.i, .int c_0.h]] [[.ro false (.bytes c_0.b), .int r.2.1, .int r.2.2]] (.agg [.int r.1.g.n, .row 900101 0 r.1.g.bars.length, .row 900102 0 r.1.ground.length]) := by
 unfold S_l20Any at h
 refine mcall_intro (TT := TT) tt Try.func109 rfl rfl Try.ntmps109 (congrArg Array.toList Try.results109) rfl rfl rfl rfl rfl fun w0 O0 => ?_
 refine vSeq ?_
 refine vRegion ?_
 refine oAlloc tt rfl rfl rfl rfl rfl rfl rfl rfl rfl ?_
 refine vNil ?_
 change VC _ _ _ _
 refine vSeq ?_
 refine vRegion ?_
 iterate 2 refine oVal tt rfl rfl rfl rfl rfl trivial ?_
 obtain ⟨v1, hc1, h⟩ := bind_inv h
 refine oMCall (S_l1Below_w N c_0 (4 : Int) v1 hc1) [] [1000000] [] rfl rfl rfl rfl rfl rfl trivial ⟨rfl, trivial⟩ ⟨⟨rfl, rfl⟩, ⟨rfl, rfl⟩, trivial⟩ ?_
 obtain ⟨hg2, h⟩ := grd_inv h
 refine oVal tt rfl rfl rfl rfl rfl hg2 ?_
 refine vEnO (En.zero 9503 111 (.pairs []) rfl rfl) ?_
 refine vEnO (En.zero 9504 3 (.ints []) rfl rfl) ?_
 obtain ⟨v2, hc3, h⟩ := bind_inv h
 refine oMCall (S_l20Isostatic_w N (⟨c_0.b, v1.2.1, v1.2.2⟩ : Cur) ((1 : Int) + v1.1) v2 hc3) [9503, 9504] [1000000] [1140, 1141] rfl rfl rfl rfl rfl rfl ⟨rfl, rfl, trivial⟩ ⟨rfl, trivial⟩ ⟨⟨rfl, rfl⟩, ⟨rfl, rfl⟩, trivial⟩ ?_
 refine oAlloc tt rfl rfl rfl rfl rfl rfl rfl rfl rfl ?_
 refine oStore tt rfl rfl rfl rfl rfl rfl rfl rfl rfl rfl rfl ⟨trivial, trivial, trivial, trivial⟩ ?_
 refine vNil ?_
 change VC _ _ _ _
 iterate 2 refine vSeq ?_
 refine vRegion ?_
 refine oVal tt rfl rfl rfl rfl rfl trivial ?_
 obtain ⟨v3, hc4, h⟩ := bind_inv h
 refine oMCall (S_l1Below_w N (⟨c_0.b, v2.2.1, v2.2.2⟩ : Cur) (8 : Int) v3 hc4) [] [1000000] [] rfl rfl rfl rfl rfl rfl trivial ⟨rfl, trivial⟩ ⟨⟨rfl, rfl⟩, ⟨rfl, rfl⟩, trivial⟩ ?_
 refine vNil ?_
 change VC _ _ _ _
 refine vBlock ?_
 refine vSeq ?_
 refine vRegion ?_
 iterate 2 refine oVal tt rfl rfl rfl rfl rfl trivial ?_
 refine vNil ?_
 change VC _ _ _ _
 refine vCond rfl (fun hb5 => ?_) (fun hb5 => ?_)
 ·replace h := cnd_t hb5 h
  refine vSeq ?_
  refine vRegionN 14 [7, 8, 12, 1071000000, 1130000004] [0, 1, 0, 0, 8, 24, 56, 124, 255, 511, 1023, 1023, 0, 6143, 16383] (by kernel_rfl) (by kernel_rfl) (by kernel_rfl) (by kernel_rfl) (by kernel_rfl) rfl (by rfl) ?_
  iterate 7 refine nVal tt rfl (wNone rfl) rfl rfl rfl rfl rfl trivial ?_
  obtain ⟨v4, hc6, h⟩ := bind_inv h
  refine nMCall (rids := []) (bids := []) (pids := []) (wNone rfl) (S_l1Below_w N (⟨c_0.b, v3.2.1, v3.2.2⟩ : Cur) (v2.1.g.bars.length : Int) v4 hc6) [] [1000000] [] rfl rfl rfl rfl rfl (by first | rfl | kernel_rfl) rfl rfl rfl rfl rfl (by first | rfl | kernel_rfl)  trivial ⟨rfl, trivial⟩ ⟨⟨rfl, rfl⟩, ⟨rfl, rfl⟩, trivial⟩ ?_
  obtain ⟨v5, hc7, h⟩ := bind_inv h
  refine nCallR (S_RemoveBar_w N v2.1.g v4.1 v5 hc7) rfl (wNone rfl) rfl rfl rfl rfl rfl rfl (by first | rfl | kernel_rfl | (simp [nrL, nm, gdst, nmT, rowB]; done)) rfl (by first | rfl | kernel_rfl | (simp [chkE, nrL, nm, gdst, nmT, rowB, hid, ment, mentA, mentS]; done) | (simp [chkE, nrL, nm, gdst, nmT, rowB, hid, ment, mentA, mentS]; decide)) ⟨⟨rfl, (.inl ⟨rfl, rfl⟩), trivial⟩, rfl, trivial⟩ ?_
  iterate 3 refine nVal tt rfl (wNone rfl) rfl rfl rfl rfl rfl trivial ?_
  refine nAlloc tt (wNone rfl) rfl rfl rfl rfl rfl rfl rfl rfl rfl rfl ?_
  refine nStoreB tt (wNone rfl) rfl rfl rfl rfl rfl rfl rfl rfl rfl rfl rfl rfl ?_
  refine nNil ?_
  change VO _ _ _ _ _
  refine oVal tt rfl rfl rfl rfl rfl trivial ?_
  refine vNil ?_
  change VC _ _ _ _
  refine vRegion ?_
  iterate 2 refine oVal tt rfl rfl rfl rfl rfl trivial ?_
  refine oStore tt rfl rfl rfl rfl rfl rfl rfl rfl rfl rfl rfl ⟨trivial, trivial, trivial⟩ ?_
  refine vNil ?_
  change VC _ _ _ _
  refine vSeq ?_
  refine vRegion ?_
  refine oVal tt rfl rfl rfl rfl rfl trivial ?_
  refine oStore tt rfl rfl rfl rfl rfl rfl rfl rfl rfl rfl rfl ⟨trivial, trivial, trivial, trivial⟩ ?_
  refine vNil ?_
  change VC _ _ _ _
  refine vRet ?_
  change ∃ _, _
  cases h
  exact ⟨[1280, 1141], rfl, ⟨rfl, rfl, trivial⟩, ⟨rfl, trivial⟩, rfl⟩
 ·replace h := cnd_f hb5 h
  refine vSeq ?_
  refine vRegion ?_
  iterate 2 refine oVal tt rfl rfl rfl rfl rfl trivial ?_
  refine vNil ?_
  change VC _ _ _ _
  refine vCond rfl (fun hb8 => ?_) (fun hb8 => ?_)
  ·replace h := cnd_t hb8 h
   refine vSeq ?_
   refine vRegion ?_
   iterate 4 refine oVal tt rfl rfl rfl rfl rfl trivial ?_
   obtain ⟨v6, hc9, h⟩ := bind_inv h
   refine oMCall (S_l1Below_w N (⟨c_0.b, v3.2.1, v3.2.2⟩ : Cur) v2.1.g.n v6 hc9) [] [1000000] [] rfl rfl rfl rfl rfl rfl trivial ⟨rfl, trivial⟩ ⟨⟨rfl, rfl⟩, ⟨rfl, rfl⟩, trivial⟩ ?_
   refine oVal tt rfl rfl rfl rfl rfl trivial ?_
   refine vNil ?_
   change VC _ _ _ _
   refine vSeq ?_
   refine vRegion ?_
   iterate 4 refine oVal tt rfl rfl rfl rfl rfl trivial ?_
   obtain ⟨v7, hc10, h⟩ := bind_inv h
   refine oMCall (S_l1Below_w N (⟨c_0.b, v6.2.1, v6.2.2⟩ : Cur) v2.1.g.n v7 hc10) [] [1000000] [] rfl rfl rfl rfl rfl rfl trivial ⟨rfl, trivial⟩ ⟨⟨rfl, rfl⟩, ⟨rfl, rfl⟩, trivial⟩ ?_
   refine oVal tt rfl rfl rfl rfl rfl trivial ?_
   refine vNil ?_
   change VC _ _ _ _
   refine vSeq ?_
   refine vRegion ?_
   iterate 4 refine oVal tt rfl rfl rfl rfl rfl trivial ?_
   obtain ⟨v8, hc11, h⟩ := bind_inv h
   refine oCall (S_AddBar_w N v2.1.g v6.1 v7.1 v8 hc11) rfl rfl rfl rfl rfl rfl rfl rfl ⟨⟨rfl, (.inl ⟨rfl, rfl⟩), trivial⟩, rfl, rfl, trivial⟩ ?_
   iterate 3 refine oVal tt rfl rfl rfl rfl rfl trivial ?_
   refine oAlloc tt rfl rfl rfl rfl rfl rfl rfl rfl rfl ?_
   refine oStore tt rfl rfl rfl rfl rfl rfl rfl rfl rfl rfl rfl ⟨trivial, trivial, trivial⟩ ?_
   refine oVal tt rfl rfl rfl rfl rfl trivial ?_
   refine vNil ?_
   change VC _ _ _ _
   refine vRegion ?_
   iterate 2 refine oVal tt rfl rfl rfl rfl rfl trivial ?_
   refine oStore tt rfl rfl rfl rfl rfl rfl rfl rfl rfl rfl rfl ⟨trivial, trivial, trivial⟩ ?_
   refine vNil ?_
   change VC _ _ _ _
   refine vSeq ?_
   refine vRegion ?_
   refine oVal tt rfl rfl rfl rfl rfl trivial ?_
   refine oStore tt rfl rfl rfl rfl rfl rfl rfl rfl rfl rfl rfl ⟨trivial, trivial, trivial, trivial⟩ ?_
   refine vNil ?_
   change VC _ _ _ _
   refine vRet ?_
   change ∃ _, _
   cases h
   exact ⟨[1500, 1141], rfl, ⟨rfl, rfl, trivial⟩, ⟨rfl, trivial⟩, rfl⟩
  ·replace h := cnd_f hb8 h
   refine vSeq ?_
   refine vRegion ?_
   iterate 2 refine oVal tt rfl rfl rfl rfl rfl trivial ?_
   refine vNil ?_
   change VC _ _ _ _
   refine vCond rfl (fun hb12 => ?_) (fun hb12 => ?_)
   ·replace h := cnd_t hb12 h
    refine vRegion ?_
    refine oVal tt rfl rfl rfl rfl rfl trivial ?_
    obtain ⟨v9, hc13, h⟩ := bind_inv h
    refine oMCall (S_l1Below_w N (⟨c_0.b, v3.2.1, v3.2.2⟩ : Cur) (4 : Int) v9 hc13) [] [1000000] [] rfl rfl rfl rfl rfl rfl trivial ⟨rfl, trivial⟩ ⟨⟨rfl, rfl⟩, ⟨rfl, rfl⟩, trivial⟩ ?_
    obtain ⟨hg14, h⟩ := grd_inv h
    refine oVal tt rfl rfl rfl rfl rfl hg14 ?_
    refine oVal tt rfl rfl rfl rfl rfl trivial ?_
    obtain ⟨v10, hc15, h⟩ := bind_inv h
    refine oMCall (S_l1Below_w N (⟨c_0.b, v9.2.1, v9.2.2⟩ : Cur) (9 : Int) v10 hc15) [] [1000000] [] rfl rfl rfl rfl rfl rfl trivial ⟨rfl, trivial⟩ ⟨⟨rfl, rfl⟩, ⟨rfl, rfl⟩, trivial⟩ ?_
    refine oBuild tt rfl rfl rfl rfl rfl rfl rfl rfl rfl rfl rfl ?_
    refine oVal tt rfl rfl rfl rfl rfl trivial ?_
    refine oStore tt rfl rfl rfl rfl rfl rfl rfl rfl rfl rfl rfl ⟨trivial, trivial⟩ ?_
    refine vNil ?_
    change VC _ _ _ _
    refine vSeq ?_
    refine vRegion ?_
    refine oVal tt rfl rfl rfl rfl rfl trivial ?_
    refine oStore tt rfl rfl rfl rfl rfl rfl rfl rfl rfl rfl rfl ⟨trivial, trivial, trivial, trivial⟩ ?_
    refine vNil ?_
    change VC _ _ _ _
    refine vRet ?_
    change ∃ _, _
    cases h
    exact ⟨[1140, 62], rfl, ⟨rfl, rfl, trivial⟩, ⟨rfl, trivial⟩, rfl⟩
   ·replace h := cnd_f hb12 h
    refine vSkip ?_
    change VC _ _ _ _
    refine vSeq ?_
    refine vRegion ?_
    refine oVal tt rfl rfl rfl rfl rfl trivial ?_
    refine oStore tt rfl rfl rfl rfl rfl rfl rfl rfl rfl rfl rfl ⟨trivial, trivial, trivial, trivial⟩ ?_
    refine vNil ?_
    change VC _ _ _ _
    refine vRet ?_
    change ∃ _, _
    cases h
    exact ⟨[1140, 1141], rfl, ⟨rfl, rfl, trivial⟩, ⟨rfl, trivial⟩, rfl⟩
def S_l1New_l1 (N : Nat) (code_0 : List Int) (k : Int → Option (Cur)) : Nat → (Int × Int) → Option (Cur)
 | 0, _ => none
 | n + 1, (h5, i6) =>
  cnd (decide (i6 < (code_0.length : Int))) (
   cnd (decide (i6 < (4000 : Int))) (
    grd (Rg64 (h5 * (131 : Int))) <|
    grd (0 ≤ i6 ∧ i6 < (code_0.length : Int)) <|
    grd (0 ≤ (code_0.getD ((i6).toNat) 0) ∧ (code_0.getD ((i6).toNat) 0) < 256) <|
    grd (Rg64 ((h5 * (131 : Int)) + (code_0.getD ((i6).toNat) 0))) <|
    grd (Rg64 (((h5 * (131 : Int)) + (code_0.getD ((i6).toNat) 0)) + (7 : Int))) <|
    grd (Rg64 (i6 + (1 : Int))) <|
    S_l1New_l1 N code_0 k n ((andI (((h5 * (131 : Int)) + (code_0.getD ((i6).toNat) 0)) + (7 : Int)) (1073741823 : Int)), (i6 + (1 : Int)))) (
    k h5)) (
   k h5)
def S_l1New (N : Nat) (code_0 : List Int) : Option (Cur) :=
 grd (Rg64 ((10101 : Int) + (code_0.length : Int))) <|
 S_l1New_l1 N code_0 (fun (h3 : Int) =>
    some (⟨code_0, (0 : Int), h3⟩ : Cur)) N (((10101 : Int) + (code_0.length : Int)), (0 : Int))
set_option maxRecDepth 20000 in
set_option maxHeartbeats 1600000 in
theorem S_l1New_w (N : Nat) (code_0 : List Int) (r : Cur) (h : S_l1New N code_0 = some r) : PCallB Try.prog 110 [.ro false (.bytes code_0)] [.ro false (.bytes r.b), .int r.i, .int r.h] := by
 unfold S_l1New at h
 refine pcallB_intro (TT := TT) tt Try.func110 rfl rfl Try.ntmps110 (congrArg Array.toList Try.results110) rfl rfl rfl fun w0 O0 => ?_
 refine vSeq ?_
 refine vRegion ?_
 refine oVal tt rfl rfl rfl rfl rfl trivial ?_
 refine vNil ?_
 change VC _ _ _ _
 refine vSeq ?_
 refine vRegion ?_
 iterate 2 refine oVal tt rfl rfl rfl rfl rfl trivial ?_
 obtain ⟨hg1, h⟩ := grd_inv h
 refine oVal tt rfl rfl rfl rfl rfl hg1 ?_
 refine oVal tt rfl rfl rfl rfl rfl trivial ?_
 refine vNil ?_
 change VC _ _ _ _
 iterate 2 refine vSeq ?_
 refine vRegion ?_
 refine oVal tt rfl rfl rfl rfl rfl trivial ?_
 refine vNil ?_
 change VC _ _ _ _
 refine vJoin (F := fun k => S_l1New_l1 N code_0 k) h (α := Int) (J := fun (h3 : Int) => (⟨[(0, .ro false (.bytes code_0)), (3, .int h3)], [], []⟩ : PS)) ?_ ?_
 ·rintro h3 h
  show VC _ _ _ (⟨[(0, .ro false (.bytes code_0)), (3, .int h3)], [], []⟩ : PS)
  refine vSeq ?_
  refine vRegion ?_
  iterate 2 refine oVal tt rfl rfl rfl rfl rfl trivial ?_
  refine oPure (wNone rfl) (pBuild bld_spec_l1Cur rfl rfl) rfl rfl ?_
  refine oBox rfl rfl rfl rfl rfl rfl rfl rfl rfl ?_
  refine oVal tt rfl rfl rfl rfl rfl trivial ?_
  refine vNil ?_
  change VC _ _ _ _
  refine vRet ?_
  change ∃ _, _
  cases h
  exact ⟨31, rfl, rfl, rfl⟩
 ·intro k h
  refine vBlock ?_
  refine vLoopS (α := Int × Int) (fun | (h5, i6) => (⟨[(0, .ro false (.bytes code_0)), (3, .int h5), (4, .int i6)], [], []⟩ : PS)) (S_l1New_l1 N code_0 k) h (En.of ⟨rfl, rfl, rfl, trivial⟩ trivial trivial) (fun _ => rfl) ?_
  rintro n ⟨h5, i6⟩ h
  rw [S_l1New_l1] at h
  show VC _ _ _ (⟨[(0, .ro false (.bytes code_0)), (3, .int h5), (4, .int i6)], [], []⟩ : PS)
  iterate 2 refine vSeq ?_
  refine vRegion ?_
  iterate 5 refine oVal tt rfl rfl rfl rfl rfl trivial ?_
  refine oSplit rfl rfl rfl (fun hb2 => ?_) (fun hb2 => ?_)
  ·replace h := cnd_t hb2 h
   iterate 2 refine oValG tt rfl rfl rfl rfl rfl hb2 rfl rfl rfl trivial ?_
   refine oPick rfl rfl rfl rfl rfl hb2 rfl ?_
   refine vNil ?_
   change VC _ _ _ _
   refine vCond rfl (fun hb3 => ?_) (fun hb3 => ?_)
   ·replace h := cnd_t hb3 h
    refine vSkip ?_
    change VC _ _ _ _
    refine vSeq ?_
    refine vBlock ?_
    refine vRegion ?_
    refine oVal tt rfl rfl rfl rfl rfl trivial ?_
    obtain ⟨hg4, h⟩ := grd_inv h
    refine oVal tt rfl rfl rfl rfl rfl hg4 ?_
    iterate 2 refine oVal tt rfl rfl rfl rfl rfl trivial ?_
    obtain ⟨hg5, h⟩ := grd_inv h
    refine oVal tt rfl rfl rfl rfl rfl hg5 ?_
    refine oVal tt rfl rfl rfl rfl rfl trivial ?_
    obtain ⟨hg6, h⟩ := grd_inv h
    refine oPure (wNone rfl) (pConvI Try.underlying5 Try.underlying3 rfl rfl hg6) rfl rfl ?_
    obtain ⟨hg7, h⟩ := grd_inv h
    refine oVal tt rfl rfl rfl rfl rfl hg7 ?_
    obtain ⟨hg8, h⟩ := grd_inv h
    refine oVal tt rfl rfl rfl rfl rfl hg8 ?_
    iterate 2 refine oVal tt rfl rfl rfl rfl rfl trivial ?_
    refine vNil ?_
    change VC _ _ _ _
    refine vRegion ?_
    refine oVal tt rfl rfl rfl rfl rfl trivial ?_
    obtain ⟨hg9, h⟩ := grd_inv h
    refine oVal tt rfl rfl rfl rfl rfl hg9 ?_
    refine oVal tt rfl rfl rfl rfl rfl trivial ?_
    refine vNil ?_
    change ∃ _, _
    exact ⟨((andI (((h5 * (131 : Int)) + (code_0.getD ((i6).toNat) 0)) + (7 : Int)) (1073741823 : Int)), (i6 + (1 : Int))), (En.of ⟨rfl, rfl, rfl, trivial⟩ trivial trivial), h⟩
   ·replace h := cnd_f hb3 h
    refine vExit ?_
    change ∃ _, _
    exact ⟨h5, (En.of ⟨rfl, rfl, trivial⟩ trivial trivial), h⟩
  ·replace h := cnd_f hb2 h
   iterate 2 refine oNoT rfl rfl rfl rfl hb2 rfl rfl ?_
   refine oPickF rfl rfl rfl rfl rfl hb2 rfl ?_
   refine vNil ?_
   change VC _ _ _ _
   refine vCondF rfl rfl ?_
   refine vExit ?_
   change ∃ _, _
   exact ⟨h5, (En.of ⟨rfl, rfl, trivial⟩ trivial trivial), h⟩
def L_has_l1 (N : Nat) (l_0 : List Int) (x_1 : Int) (k : Unit → Option (Bool)) : Nat → Int → Option (Bool)
 | 0, _ => none
 | n + 1, i3 =>
  cnd (decide (i3 < (l_0.length : Int))) (
   grd (0 ≤ i3 ∧ i3 < (l_0.length : Int)) <|
   cnd ((l_0.getD ((i3).toNat) 0) == x_1) (
    some true) (
    grd (Rg64 (i3 + (1 : Int))) <|
    L_has_l1 N l_0 x_1 k n (i3 + (1 : Int)))) (
   k ())
def L_has (N : Nat) (l_0 : List Int) (x_1 : Int) : Option (Bool) :=
 L_has_l1 N l_0 x_1 (fun (_ : Unit) =>
    some false) N (0 : Int)
def L_sameInts_l1 (N : Nat) (a_0 : List Int) (b_1 : List Int) (k : Unit → Option (Bool)) : Nat → Int → Option (Bool)
 | 0, _ => none
 | n + 1, i3 =>
  cnd (decide (i3 < (a_0.length : Int))) (
   grd (0 ≤ i3 ∧ i3 < (a_0.length : Int)) <|
   grd (0 ≤ i3 ∧ i3 < (b_1.length : Int)) <|
   cnd ((a_0.getD ((i3).toNat) 0) != (b_1.getD ((i3).toNat) 0)) (
    some false) (
    grd (Rg64 (i3 + (1 : Int))) <|
    L_sameInts_l1 N a_0 b_1 k n (i3 + (1 : Int)))) (
   k ())
def L_sameInts (N : Nat) (a_0 : List Int) (b_1 : List Int) : Option (Bool) :=
 cnd ((a_0.length : Int) != (b_1.length : Int)) (
  some false) (
  L_sameInts_l1 N a_0 b_1 (fun (_ : Unit) =>
     some true) N (0 : Int))
set_option maxRecDepth 20000 in
set_option maxHeartbeats 1600000 in
theorem L_sameInts_w (N : Nat) (a_0 : List Int) (b_1 : List Int) (r : Bool) (h : L_sameInts N a_0 b_1 = some r) : PCall Try.prog 27 [.ro false (.ints a_0), .ro false (.ints b_1)] [] (.bool r) := by
 unfold L_sameInts at h
 refine pcall_intro (TT := TT) tt Try.func27 rfl rfl Try.ntmps27 (congrArg Array.toList Try.results27) rfl rfl fun w0 => ?_
 refine vSeq ?_
 refine vRegion ?_
 refine oVal tt rfl rfl rfl rfl rfl trivial ?_
 refine vNil ?_
 change VC _ _ _ _
 iterate 2 refine vSeq ?_
 refine vRegion ?_
 iterate 5 refine oVal tt rfl rfl rfl rfl rfl trivial ?_
 refine vNil ?_
 change VC _ _ _ _
 refine vCond rfl (fun hb1 => ?_) (fun hb1 => ?_)
 ·replace h := cnd_t hb1 h
  refine vSeq ?_
  refine vRegion ?_
  refine oVal tt rfl rfl rfl rfl rfl trivial ?_
  refine vNil ?_
  change VC _ _ _ _
  refine vRet ?_
  change ∃ _, _
  cases h
  exact ⟨[], _, rfl, trivial, rfl, (.eq rfl), rfl⟩
 ·replace h := cnd_f hb1 h
  refine vSkip ?_
  change VC _ _ _ _
  iterate 2 refine vSeq ?_
  refine vRegion ?_
  refine oVal tt rfl rfl rfl rfl rfl trivial ?_
  refine vNil ?_
  change VC _ _ _ _
  refine vJoin (F := fun k => L_sameInts_l1 N a_0 b_1 k) h (α := Unit) (J := fun (_ : Unit) => (⟨[], [], []⟩ : PS)) ?_ ?_
  ·rintro ⟨⟩ h
   show VC _ _ _ (⟨[], [], []⟩ : PS)
   refine vSeq ?_
   refine vRegion ?_
   refine oVal tt rfl rfl rfl rfl rfl trivial ?_
   refine vNil ?_
   change VC _ _ _ _
   refine vRet ?_
   change ∃ _, _
   cases h
   exact ⟨[], _, rfl, trivial, rfl, (.eq rfl), rfl⟩
  ·intro k h
   refine vBlock ?_
   refine vLoopS (α := Int) (fun (i3 : Int) => (⟨[(0, .ro false (.ints a_0)), (1, .ro false (.ints b_1)), (5, .int i3)], [], []⟩ : PS)) (L_sameInts_l1 N a_0 b_1 k) h (En.of ⟨rfl, rfl, rfl, trivial⟩ trivial trivial) (fun _ => rfl) ?_
   rintro n i3 h
   rw [L_sameInts_l1] at h
   show VC _ _ _ (⟨[(0, .ro false (.ints a_0)), (1, .ro false (.ints b_1)), (5, .int i3)], [], []⟩ : PS)
   iterate 2 refine vSeq ?_
   refine vRegion ?_
   iterate 4 refine oVal tt rfl rfl rfl rfl rfl trivial ?_
   refine vNil ?_
   change VC _ _ _ _
   refine vCond rfl (fun hb2 => ?_) (fun hb2 => ?_)
   ·replace h := cnd_t hb2 h
    refine vSkip ?_
    change VC _ _ _ _
    refine vSeq ?_
    refine vBlock ?_
    refine vSeq ?_
    refine vRegionD (by kernel_rfl) (by kernel_rfl) ?_
    iterate 2 refine cVal tt rfl (wNone rfl) rfl rfl rfl trivial ?_
    obtain ⟨hg3, h⟩ := grd_inv h
    refine cVal tt rfl (wNone rfl) rfl rfl rfl hg3 ?_
    iterate 3 refine cVal tt rfl (wNone rfl) rfl rfl rfl trivial ?_
    obtain ⟨hg4, h⟩ := grd_inv h
    refine cVal tt rfl (wNone rfl) rfl rfl rfl hg4 ?_
    iterate 2 refine cVal tt rfl (wNone rfl) rfl rfl rfl trivial ?_
    refine cNil ?_
    change VC _ _ _ _
    refine vCond rfl (fun hb5 => ?_) (fun hb5 => ?_)
    ·replace h := cnd_t hb5 h
     refine vSeq ?_
     refine vRegion ?_
     refine oVal tt rfl rfl rfl rfl rfl trivial ?_
     refine vNil ?_
     change VC _ _ _ _
     refine vRet ?_
     change ∃ _, _
     cases h
     exact ⟨[], _, rfl, trivial, rfl, (.eq rfl), rfl⟩
    ·replace h := cnd_f hb5 h
     refine vSkip ?_
     change VC _ _ _ _
     refine vRegion ?_
     refine oVal tt rfl rfl rfl rfl rfl trivial ?_
     obtain ⟨hg6, h⟩ := grd_inv h
     refine oVal tt rfl rfl rfl rfl rfl hg6 ?_
     refine oVal tt rfl rfl rfl rfl rfl trivial ?_
     refine vNil ?_
     change ∃ _, _
     exact ⟨(i3 + (1 : Int)), (En.of ⟨rfl, rfl, rfl, trivial⟩ trivial trivial), h⟩
   ·replace h := cnd_f hb2 h
    refine vExit ?_
    change ∃ _, _
    exact ⟨(), (En.of trivial trivial trivial), h⟩
end Go.Proofs.Ytcljhpldfanhkaa
namespace Go.Proofs.Ytcljhpldfanhkaa
open Go.RowKit
variable {n : Nat} {N : Nat}
theorem has_s (hN : 4000000 ≤ N) {l : List Int} (hl : l.length ≤ 3000000) (x : Int) : L_has N l x = some (l.contains x) := by
 have key : ∀ (fuel i : Nat), i ≤ l.length → l.length < fuel + i → L_has_l1 N l x (fun (_ : Unit) => some false) fuel (i : Int) = some ((l.drop i).contains x) := by
  intro fuel
  induction fuel with
  | zero => intro i h1 h2; omega
  | succ fuel ih =>
   intro i h1 h2
   rw [L_has_l1]
   by_cases hi : i < l.length
   ·have e2 : ((i : Int)).toNat = i := rfl
    have ed : l.drop i = l.getD i 0 :: l.drop (i + 1) := by
     rw [List.drop_eq_getElem_cons hi]; simp [List.getD_eq_getElem?_getD, hi]
    rw [cnd_dt (by omega), grd_pos (by omega), e2, ed, List.contains_cons]
    by_cases e : l.getD i 0 = x
    ·rw [cnd_eqt e, e]; simp
    ·rw [cnd_eqf e, grd_R (by omega) (by omega), succ_cast, ih (i + 1) (by omega) (by omega)]
     have : (x == l.getD i 0) = false := by simpa using fun h => e h.symm
     rw [this, Bool.false_or]
   ·rw [cnd_df (by omega), List.drop_eq_nil_of_le (by omega)]; rfl
 have := key N 0 (by omega) (by omega)
 simpa [L_has] using this
theorem sameInts_s (hN : 4000000 ≤ N) {l : List Int} (hl : l.length ≤ 3000000) : L_sameInts N l l = some true := by
 have key : ∀ (fuel i : Nat), i ≤ l.length → l.length < fuel + i → L_sameInts_l1 N l l (fun (_ : Unit) => some true) fuel (i : Int) = some true := by
  intro fuel
  induction fuel with
  | zero => intro i h1 h2; omega
  | succ fuel ih =>
   intro i h1 h2
   rw [L_sameInts_l1]
   by_cases hi : i < l.length
   ·rw [cnd_dt (by omega), grd_pos (by omega), grd_pos (by omega), cnd_nef rfl, grd_R (by omega) (by omega), succ_cast, ih (i + 1) (by omega) (by omega)]
   ·rw [cnd_df (by omega)]
 unfold L_sameInts
 rw [cnd_nef rfl]
 exact key N 0 (by omega) (by omega)
theorem fallsS1_s (hN : 4000000 ≤ N) {a b : List Int} (ha : a.length ≤ 3000000) (hb : b.length ≤ 3000000) : ∀ (fuel i : Nat) (l : List Int), i ≤ b.length → b.length < fuel + i → l.length ≤ i →
  S_FallsWith_l1 N b a (fun x => some x) fuel (l, (i : Int)) = some (l ++ (b.drop i).filter fun x => !a.contains x) := by
 intro fuel
 induction fuel with
 | zero => intro i l h1 h2; omega
 | succ fuel ih =>
  intro i l h1 h2 h3
  rw [S_FallsWith_l1]
  by_cases hi : i < b.length
  ·have e2 : ((i : Int)).toNat = i := by omega
   have ed : b.drop i = b.getD i 0 :: b.drop (i + 1) := by
    rw [List.drop_eq_getElem_cons hi]; simp [List.getD_eq_getElem?_getD, hi]
   have c1 := l2Has_s N hN (l := a) ha (b.getD i 0)
   rw [ed]
   simp (disch := omega) only [cnd_dt, grd_pos, grd_R, e2, c1, Option.bind_some]
   cases hc : a.contains (b.getD i 0) with
   | false =>
    rw [Bool.not_false, cnd_true, succ_cast, ih (i + 1) _ (by omega) (by omega) (by simp; omega), List.filter_cons_of_pos (by simpa using hc), List.append_assoc]
    rfl
   | true =>
    rw [Bool.not_true, cnd_false, succ_cast, ih (i + 1) _ (by omega) (by omega) (by omega), List.filter_cons_of_neg (by simpa using hc)]
  ·rw [cnd_df (by omega), List.drop_eq_nil_of_le (by omega)]; simp
theorem falls_eq (hN : 4000000 ≤ N) {p : Pin} (hp : isPinned p = true) {k : Nat} (hk : k < p.g.bars.length) {a b : List Int} (ha : S_SteadyPoints N (lessP p k) = some a) (hb : S_SteadyPoints N p = some b) : S_FallsWith N p (k : Int) = some (b.filter fun x => !a.contains x) ∧ I_FallsWith N p (k : Int) = some (b.filter fun x => !a.contains x) := by
 obtain ⟨b1, b2, b3, b4⟩ := isPinned_bd hp
 obtain ⟨a', la, sa, ia⟩ := steady_x (N := N) hN (p := lessP p k) (lessP_bd (by omega)) (show p.ground.length ≤ 3000000 by omega)
 obtain ⟨b', lb, sb, ib⟩ := steady_x (N := N) hN (p := p) (by omega) (by omega)
 have ea : a' = a := by rw [ha] at sa; exact (Option.some.inj sa).symm
 have eb : b' = b := by rw [hb] at sb; exact (Option.some.inj sb).symm
 subst ea eb
 have hS : S_FallsWith N p (k : Int) = some (b'.filter fun x => !a'.contains x) := by
  unfold S_FallsWith
  rw [isPinnedS_s N hN (by omega) (by omega), hp, Option.bind_some, Bool.not_true, cnd_false, cnd_df (by omega), cnd_df (by omega), sb, Option.bind_some, l27Less_s hN hp (by omega) (by omega) hk, Option.bind_some, sa, Option.bind_some]
  exact fallsS1_s hN (by omega) (by omega) N 0 [] (by omega) (by omega) (by simp)
 obtain ⟨l, _, l1, l2⟩ := falls_x (N := N) hN (p := p) (by omega) (by omega) (k : Int)
 rw [hS] at l1
 exact ⟨hS, by rw [l2, l1]⟩
end Go.Proofs.Ytcljhpldfanhkaa
namespace Go.Proofs.Ytcljhpldfanhkaa
open Go.RowKit
variable {n : Nat} {N : Nat}
theorem tied_app {I K : List (Int × Int)} {e : Int × Int} (h : Tied n I e) : Tied n (I ++ K) e := by
 obtain ⟨X, h1, h2⟩ := h
 exact ⟨X, h1.grow (by rw [spn_append]; omega), h2⟩
theorem tied_mem {I : List (Int × Int)} {e : Int × Int} (h : e ∈ I) (hb : Bok n e) : Tied n I e := ⟨_, tgt_bar h hb, by simp [inX, v2]⟩
theorem extend : ∀ (L I : List (Int × Int)), (∀ f ∈ L, Bok n f) → Spr n I → ∃ K, Spr n (I ++ K) ∧ (∀ e ∈ K, e ∈ L) ∧ ∀ f ∈ L, Tied n (I ++ K) f
 | [], I, _, hI => ⟨[], by simpa using hI, by simp, by simp⟩
 | f :: L, I, hL, hI => by
  by_cases h : Tied n I f
  ·obtain ⟨K, k1, k2, k3⟩ := extend L I (fun x hx => hL x (by simp [hx])) hI
   refine ⟨K, k1, fun e he => by simp [k2 e he], fun x hx => ?_⟩
   rcases List.mem_cons.1 hx with rfl | hx
   ·exact tied_app h
   ·exact k3 x hx
  ·obtain ⟨K, k1, k2, k3⟩ := extend L (I ++ [f]) (fun x hx => hL x (by simp [hx])) (spr_add hI (hL f (by simp)) h)
   have e1 : I ++ [f] ++ K = I ++ (f :: K) := by simp
   rw [e1] at k1 k3
   refine ⟨f :: K, k1, fun e he => ?_, fun x hx => ?_⟩
   ·rcases List.mem_cons.1 he with rfl | he
    ·simp
    ·simp [k2 e he]
   ·rcases List.mem_cons.1 hx with rfl | hx
    ·exact tied_mem (by simp) (hL x (by simp))
    ·exact k3 x hx
theorem tied_mono {I J L : List (Int × Int)} (hI : Spr n I) (okI : ∀ e ∈ I, Bok n e) (hJ : Bas n L J) (okL : ∀ e ∈ L, Bok n e) (h : ∀ e ∈ I, Tied n J e) {e : Int × Int} (he : Bok n e) (ht : Tied n I e) : Tied n J e := by
 obtain ⟨K, k1, k2, k3⟩ := extend L I okL hI
 have okJ : ∀ e ∈ J, Bok n e := fun e he => okL e (hJ.mem e he)
 refine Tied.of k1 hJ.spr (fun x hx => ?_) okJ (fun x hx => ?_) (fun x hx => k3 x (hJ.mem x hx)) he (tied_app ht)
 ·rcases List.mem_append.1 hx with hx | hx
  ·exact okI x hx
  ·exact okL x (k2 x hx)
 ·rcases List.mem_append.1 hx with hx | hx
  ·exact h x hx
  ·exact hJ.spn x (k2 x hx)
section
variable {p p' : Pin} {LH LS H I LH' LS' H' I' : List (Int × Int)} {t t' : Nat → Bool}
theorem PF.tie_ground (h : PF N n p LH LS H I t) {i j : Nat} (hij : i < j) (hj : j < p.ground.length) : Tied n I (p.ground.getD i 0, p.ground.getD j 0) := by
 have tie : ∀ e ∈ LH, Tied n I e := fun e he => h.bI.spn e ((h.mem e).2 (.inl he))
 refine (steady_iff h.g2 h.hG h.hlt h.hS h.bI.spr h.okI tie (h.hG j hj)).1 ⟨.inr (tie _ (h.hS.h0 j (by omega) hj)), ?_⟩ i (by omega) (by have := h.hlt j i hij hj; omega)
 by_cases e : j = 1
 ·subst e; exact .inl rfl
 ·exact .inr (tie _ (h.hS.h1 j (by omega) hj))
theorem PF.tie_sub (h : PF N n p LH LS H I t) (h' : PF N n p' LH' LS' H' I' t') (hg : p'.ground = p.ground) {e : Int × Int} (he : e ∈ LS) (hb : e ∈ p.g.bars → e ∈ p'.g.bars) : Tied n I' e := by
 rcases (h.mem e).1 he with he | he
 ·obtain ⟨i, j, h1, h2, rfl⟩ := h.hS.mem e he
  rw [← hg] at h2 ⊢
  exact h'.tie_ground h1 h2
 ·exact h'.bI.spn e ((h'.mem e).2 (.inr (hb he)))
theorem PF.len_mono (h : PF N n p LH LS H I t) (h' : PF N n p' LH' LS' H' I' t') (hg : p'.ground = p.ground) (hb : ∀ e ∈ p.g.bars, e ∈ p'.g.bars) : I.length ≤ I'.length :=
 spr_le h'.bI.spr h.bI.spr h'.okI fun e he => h.tie_sub h' hg (h.bI.mem e he) (hb e)
theorem PF.len_add (h : PF N n p LH LS H I t) (h' : PF N n p' LH' LS' H' I' t') (hg : p'.ground = p.ground) {B : List (Int × Int)} (hb : ∀ e ∈ p.g.bars, e ∈ p'.g.bars ∨ e ∈ B) : I.length ≤ I'.length + B.length := by
 have hnd := h.bI.spr.nodup h.okI
 have e1 := List.length_eq_countP_add_countP (fun e => decide (e ∈ B)) (l := I)
 have a1 : (I.filter fun e => decide (e ∈ B)).length ≤ B.length := nodup_sub_len (hnd.sublist List.filter_sublist) fun e he => by simpa using (List.mem_filter.1 he).2
 have a2 : (I.filter fun e => !decide (e ∈ B)).length ≤ I'.length := by
  refine spr_le h'.bI.spr (h.bI.spr.sub List.filter_sublist) h'.okI fun e he => ?_
  obtain ⟨m1, m2⟩ := List.mem_filter.1 he
  exact h.tie_sub h' hg (h.bI.mem e m1) fun hm => (hb e hm).resolve_right (by simpa using m2)
 rw [List.countP_eq_length_filter, List.countP_eq_length_filter] at e1
 have e2 : (I.filter fun e => decide ¬(decide (e ∈ B) = true)) = I.filter fun e => !decide (e ∈ B) := by
  congr 1; funext e; simp
 rw [e2] at e1
 omega
theorem PF.tied_of_len (h : PF N n p LH LS H I t) (h' : PF N n p' LH' LS' H' I' t') (hg : p'.ground = p.ground) (hs : ∀ e ∈ p.g.bars, e ∈ p'.g.bars) {b : Int × Int} (hb : b ∈ p'.g.bars) (hl : I'.length ≤ I.length) : Tied n I b := by
 refine Classical.byContradiction fun hc => ?_
 have okb := h'.okB b hb
 have h1 := spr_add h.bI.spr okb hc
 have : (I ++ [b]).length ≤ I'.length := spr_le h'.bI.spr h1 h'.okI fun e he => by
  rcases List.mem_append.1 he with he | he
  ·exact h.tie_sub h' hg (h.bI.mem e he) (hs e)
  ·simp only [List.mem_singleton] at he; subst he
   exact h'.bI.spn e ((h'.mem e).2 (.inr hb))
 simp at this; omega
theorem PF.len_tied (h : PF N n p LH LS H I t) (h' : PF N n p' LH' LS' H' I' t') (hg : p'.ground = p.ground) (hb : ∀ e ∈ p'.g.bars, Tied n I e) : I'.length ≤ I.length :=
 spr_le h.bI.spr h'.bI.spr h.okI fun e he => by
  rcases (h'.mem e).1 (h'.bI.mem e he) with he | he
  ·obtain ⟨i, j, h1, h2, rfl⟩ := h'.hS.mem e he
   rw [hg] at h2 ⊢
   exact h.tie_ground h1 h2
  ·exact hb e he
theorem PF.same_steady (h : PF N n p LH LS H I t) (h' : PF N n p' LH' LS' H' I' t') (hg : p'.ground = p.ground) (hs : ∀ e ∈ p.g.bars, e ∈ p'.g.bars) (hl : I'.length ≤ I.length) {v : Nat} (hv : v < n) : t v = t' v := by
 have a1 : ∀ e ∈ I, Tied n I' e := fun e he => h.tie_sub h' hg (h.bI.mem e he) (hs e)
 have a2 : ∀ e ∈ I', Tied n I e := fun e he => by
  rcases (h'.mem e).1 (h'.bI.mem e he) with he | he
  ·obtain ⟨i, j, h1, h2, rfl⟩ := h'.hS.mem e he
   rw [hg] at h2 ⊢
   exact h.tie_ground h1 h2
  ·exact h.tied_of_len h' hg hs he hl
 have key : ∀ i : Nat, i < p.ground.length → ((p.ground.getD i 0 = v ∨ Tied n I (p.ground.getD i 0, v)) ↔ (p.ground.getD i 0 = v ∨ Tied n I' (p.ground.getD i 0, v))) := fun i hi => by
  have hgi := h.hG i hi
  by_cases e : p.ground.getD i 0 = v
  ·exact ⟨fun _ => .inl e, fun _ => .inl e⟩
  ·have ok : Bok n (p.ground.getD i 0, (v : Int)) := ⟨hgi.1, hgi.2, by simp, by simp only; omega, e⟩
   exact ⟨fun x => .inr (Tied.of h.bI.spr h'.bI.spr h.okI h'.okI a1 a2 ok (x.resolve_left e)), fun x => .inr (Tied.of h'.bI.spr h.bI.spr h'.okI h.okI a2 a1 ok (x.resolve_left e))⟩
 have g2 := h.g2
 rw [Bool.eq_iff_iff, h.tt v hv, h'.tt v hv, hg, key 0 (by omega), key 1 (by omega)]
end
theorem stl_congr {t t' : Nat → Bool} : ∀ {k v : Nat}, (∀ i, v ≤ i → i < v + k → t i = t' i) → stl t k v = stl t' k v
 | 0, v, _ => rfl
 | k + 1, v, h => by rw [stl, stl, h v (Nat.le_refl _) (by omega), stl_congr (k := k) (v := v + 1) fun i h1 h2 => h i (by omega) (by omega)]
theorem falls_safe (hN : 4000000 ≤ N) {p : Pin} (hp : isPinned p = true) {k : Nat} (hk : k < p.g.bars.length) {r : Int} (h1 : S_PinnedRank N (lessP p k) = some r) (h2 : S_PinnedRank N p = some r) : I_FallsWith N p (k : Int) = some [] := by
 have hp' := pinned_sub hp (lessL_sub p.g.bars k)
 obtain ⟨n, LH, LS, H, I, t, h⟩ := pin_full hN hp
 obtain ⟨n', LH', LS', H', I', t', h'⟩ := pin_full hN hp'
 have en : n' = n := by have := h.pn; have := h'.pn; simp only at this; omega
 subst en
 have hl1 := h.hl
 have hl2 := h'.hl
 simp only at hl2
 have hr := h.rk
 have hr' := h'.rk
 rw [h2] at hr
 have e1 : S_PinnedRank N ⟨⟨p.g.n, lessL p.g.bars k⟩, p.ground⟩ = some r := h1
 rw [e1] at hr'
 have hr := Option.some.inj hr
 have hr' := Option.some.inj hr'
 have ts : ∀ v, v < n' → t' v = t v := fun v hv => h'.same_steady h rfl (fun e he => (lessL_sub p.g.bars k).subset he) (by omega) hv
 have e := (falls_eq hN hp hk (a := stl t' n' 0) (b := stl t n' 0) h'.st h.st).2
 rw [e, stl_congr (t := t') (t' := t) fun i _ hi => ts i (by omega)]
 congr 1
 refine List.filter_eq_nil_iff.2 fun x hx => ?_
 simpa using hx
def part (p : Pin) (X : List (Int × Int)) : Pin := ⟨⟨p.g.n, X⟩, p.ground⟩
def rho (N : Nat) (p : Pin) (X : List (Int × Int)) : Int := (S_PinnedRank N (part p X)).getD 0
section
variable {p : Pin}
theorem part_full (hN : 4000000 ≤ N) (hp : isPinned p = true) {X : List (Int × Int)} (hX : X.Sublist p.g.bars) : ∃ (LH LS H I : List (Int × Int)) (t : Nat → Bool), PF N p.g.n.toNat (part p X) LH LS H I t := by
 obtain ⟨n, LH, LS, H, I, t, h⟩ := pin_full hN (pinned_sub hp hX)
 have := h.pn
 simp only at this
 have e : p.g.n.toNat = n := by omega
 rw [e]
 exact ⟨LH, LS, H, I, t, h⟩
theorem rho_eq {X LH LS H I : List (Int × Int)} {t : Nat → Bool} (h : PF N p.g.n.toNat (part p X) LH LS H I t) : S_PinnedRank N (part p X) = some (rho N p X) ∧ rho N p X = (I.length : Int) + 3 - 2 * (p.ground.length : Int) := by
 have h1 := h.rk
 have h2 := h.hl
 have e : (part p X).ground = p.ground := rfl
 rw [e] at h2
 unfold rho
 rw [h1]
 exact ⟨rfl, by simp only [Option.getD_some]; omega⟩
theorem rho_mono (hN : 4000000 ≤ N) (hp : isPinned p = true) {X Y : List (Int × Int)} (hX : X.Sublist p.g.bars) (hY : Y.Sublist p.g.bars) (h : ∀ e ∈ X, e ∈ Y) : rho N p X ≤ rho N p Y := by
 obtain ⟨_, _, _, I, _, hx⟩ := part_full hN hp hX
 obtain ⟨_, _, _, J, _, hy⟩ := part_full hN hp hY
 have := hx.len_mono hy rfl h
 rw [(rho_eq hx).2, (rho_eq hy).2]
 omega
theorem rho_add (hN : 4000000 ≤ N) (hp : isPinned p = true) {X Y B : List (Int × Int)} (hX : X.Sublist p.g.bars) (hY : Y.Sublist p.g.bars) (h : ∀ e ∈ Y, e ∈ X ∨ e ∈ B) : rho N p Y ≤ rho N p X + B.length := by
 obtain ⟨_, _, _, I, _, hx⟩ := part_full hN hp hX
 obtain ⟨_, _, _, J, _, hy⟩ := part_full hN hp hY
 have := hy.len_add hx rfl h
 rw [(rho_eq hx).2, (rho_eq hy).2]
 omega
theorem rho_cl (hN : 4000000 ≤ N) (hp : isPinned p = true) {X X' Y Y' : List (Int × Int)} {b : Int × Int} (hX : X.Sublist p.g.bars) (hX' : X'.Sublist p.g.bars) (hY : Y.Sublist p.g.bars) (hY' : Y'.Sublist p.g.bars) (m1 : ∀ e ∈ X, e ∈ X') (m2 : b ∈ X') (m3 : ∀ e ∈ X, e ∈ Y) (m4 : ∀ e ∈ Y', e ∈ Y ∨ e = b) (hr : rho N p X' ≤ rho N p X) : rho N p Y' ≤ rho N p Y := by
 obtain ⟨_, _, _, I, _, hx⟩ := part_full hN hp hX
 obtain ⟨_, _, _, I', _, hx'⟩ := part_full hN hp hX'
 obtain ⟨_, _, _, J, _, hy⟩ := part_full hN hp hY
 obtain ⟨_, _, _, J', _, hy'⟩ := part_full hN hp hY'
 rw [(rho_eq hx).2, (rho_eq hx').2] at hr
 have tb := hx.tied_of_len hx' rfl m1 m2 (by omega)
 have okb := hx'.okB b m2
 have tb' := tied_mono hx.bI.spr hx.okI hy.bI hy.okS (fun e he => hx.tie_sub hy rfl (hx.bI.mem e he) (m3 e)) okb tb
 have := hy.len_tied hy' rfl fun e he => by
  rcases m4 e he with h | rfl
  ·exact hy.bI.spn e ((hy.mem e).2 (.inr h))
  ·exact tb'
 rw [(rho_eq hy).2, (rho_eq hy').2]
 omega
theorem rho_nil (hN : 4000000 ≤ N) (hp : isPinned p = true) : rho N p [] = 0 := by
 obtain ⟨LH, LS, H, I, t, h⟩ := part_full hN hp (X := []) (List.nil_sublist _)
 have h1 := h.le
 have h2 : H.length ≤ I.length := spr_le h.bI.spr h.bH.spr h.okI fun e he => h.bI.spn e ((h.mem e).2 (.inl (h.bH.mem e he)))
 have h3 := h.hl
 have e1 : (part p []).g.bars.length = 0 := rfl
 have e2 : (part p []).ground = p.ground := rfl
 rw [e1] at h1
 rw [e2] at h3
 rw [(rho_eq h).2]
 omega
theorem rho_some (hN : 4000000 ≤ N) (hp : isPinned p = true) {X : List (Int × Int)} (hX : X.Sublist p.g.bars) : S_PinnedRank N (part p X) = some (rho N p X) := by
 obtain ⟨LH, LS, H, I, t, h⟩ := part_full hN hp hX
 exact (rho_eq h).1
end
end Go.Proofs.Ytcljhpldfanhkaa
namespace Go.Proofs.Ytcljhpldfanhkaa
open Go.RowKit
variable {N : Nat} {p : Pin}
theorem safe_v (hN : 4000000 ≤ N) {q : Pin} (hq : isPinned q = true) {k : Nat} (hk : k < q.g.bars.length) {r r' : Int} (h1 : S_PinnedRank N (lessP q k) = some r) (h2 : S_PinnedRank N q = some r') : S_SafeToRemove N q (k : Int) = some (r == r') := by
 obtain ⟨b1, b2, b3, b4⟩ := isPinned_bd hq
 unfold S_SafeToRemove
 rw [isPinnedS_s N hN (by omega) (by omega), hq, Option.bind_some, cnd_true, cnd_dt (by omega), cnd_dt (by omega), l27Less_s hN hq (by omega) (by omega) hk, Option.bind_some, h1, h2]
 rfl
theorem lessL_app {α : Type} (A B : List α) (b : α) : lessL (A ++ [b] ++ B) A.length = A ++ B := by
 unfold lessL
 rw [List.append_assoc, List.take_append_of_le_length (by omega), List.take_of_length_le (by omega)]
 congr 1
 rw [List.drop_append, List.drop_of_length_le (by omega)]
 simp
theorem remove1 (hN : 4000000 ≤ N) (hp : isPinned p = true) {k : ((List Int) × (List (Int × Int)) × (List Int) × Int) → Option ((List Int) × Pin)} : ∀ (fuel i : Nat) (l : List Int) (B : List (Int × Int)), i < fuel → i ≤ p.g.bars.length → B.Sublist (p.g.bars.drop i) →
  rho N p (p.g.bars.take i ++ B) = rho N p (p.g.bars.take i) + B.length → rho N p (p.g.bars.take i ++ B) = rho N p p.g.bars → B.length + l.length + i = p.g.bars.length → l.Nodup → (∀ x ∈ l, (i : Int) ≤ x ∧ x < (p.g.bars.length : Int)) →
  ∃ (l' : List Int) (B' : List (Int × Int)), S_RemoveAll_l1 N k fuel (l, p.g.bars.take i ++ B, p.ground, (i : Int) - 1, p.g.n) = k (l', B', p.ground, p.g.n) ∧ B'.Sublist p.g.bars ∧ rho N p B' = B'.length ∧ rho N p B' = rho N p p.g.bars ∧ B'.length + l'.length = p.g.bars.length ∧ l'.Nodup ∧ ∀ x ∈ l', (0 : Int) ≤ x ∧ x < (p.g.bars.length : Int) := by
 obtain ⟨b1, b2, b3, b4⟩ := isPinned_bd hp
 intro fuel
 induction fuel with
 | zero => intro i l B h; omega
 | succ fuel ih =>
  intro i l B h1 h2 h3 h4 h5 h6 h7 h8
  rw [S_RemoveAll_l1]
  by_cases hi : 0 < i
  ·obtain ⟨j, rfl⟩ : ∃ j, i = j + 1 := ⟨i - 1, by omega⟩
   have ej : (((j + 1 : Nat) : Int) - 1) = (j : Int) := by omega
   have hj : j < p.g.bars.length := by omega
   have et : p.g.bars.take (j + 1) = p.g.bars.take j ++ [p.g.bars.getD j (0, 0)] := by
    rw [List.take_add_one, List.getElem?_eq_getElem hj, List.getD_eq_getElem?_getD, List.getElem?_eq_getElem hj]; rfl
   have ed : p.g.bars.drop j = p.g.bars.getD j (0, 0) :: p.g.bars.drop (j + 1) := by
    rw [List.drop_eq_getElem_cons hj]; simp [List.getD_eq_getElem?_getD, hj]
   generalize hb : p.g.bars.getD j (0, 0) = b at et ed
   have tl : (p.g.bars.take j).length = j := by rw [List.length_take]; omega
   have sB : B.Sublist (p.g.bars.drop j) := by rw [ed]; exact h3.trans (List.sublist_cons_self _ _)
   have sbB : (b :: B).Sublist (p.g.bars.drop j) := by rw [ed]; exact h3.cons_cons b
   have s0 : (p.g.bars.take j).Sublist p.g.bars := List.take_sublist _ _
   have s1 : (p.g.bars.take j ++ B).Sublist p.g.bars := by
    have := (List.Sublist.refl (p.g.bars.take j)).append sB
    rwa [List.take_append_drop] at this
   have s2 : (p.g.bars.take j ++ (b :: B)).Sublist p.g.bars := by
    have := (List.Sublist.refl (p.g.bars.take j)).append sbB
    rwa [List.take_append_drop] at this
   have s3 : (p.g.bars.take j ++ [b]).Sublist p.g.bars := by rw [← et]; exact List.take_sublist _ _
   have e1 : p.g.bars.take (j + 1) ++ B = p.g.bars.take j ++ (b :: B) := by rw [et]; simp
   have e2 : lessL (p.g.bars.take j ++ (b :: B)) j = p.g.bars.take j ++ B := by
    have := lessL_app (p.g.bars.take j) B b
    rw [tl] at this
    rw [← this]; simp
   rw [et] at h4
   have e3 : p.g.bars.take j ++ [b] ++ B = p.g.bars.take j ++ (b :: B) := by simp
   rw [e3] at h4
   rw [e1] at h5
   have hq : isPinned (part p (p.g.bars.take j ++ (b :: B))) = true := pinned_sub hp s2
   have el : lessP (part p (p.g.bars.take j ++ (b :: B))) j = part p (p.g.bars.take j ++ B) := by unfold lessP part; rw [e2]
   have hlen : j < (part p (p.g.bars.take j ++ (b :: B))).g.bars.length := by show j < (p.g.bars.take j ++ (b :: B)).length; simp; omega
   have sv := safe_v hN hq hlen (r := rho N p (p.g.bars.take j ++ B)) (r' := rho N p (p.g.bars.take j ++ (b :: B))) (by rw [el]; exact rho_some hN hp s1) (rho_some hN hp s2)
   have bd1 : (part p (p.g.bars.take j ++ (b :: B))).g.bars.length ≤ 3000000 := by have := s2.length_le; show (p.g.bars.take j ++ (b :: B)).length ≤ _; omega
   rw [e1, ej, cnd_dt (by omega)]
   have eq0 : (⟨⟨p.g.n, p.g.bars.take j ++ (b :: B)⟩, p.ground⟩ : Pin) = part p (p.g.bars.take j ++ (b :: B)) := rfl
   have r1 := rho_mono hN hp s0 s3 fun e he => by simp [he]
   have r2 := rho_add hN hp (B := B) s0 s1 fun e he => by simpa using he
   have r3 := rho_add hN hp (B := [b]) s0 s3 fun e he => by simpa using he
   simp only [List.length_cons, List.length_nil] at r3
   have hB : ∀ x ∈ l, (j : Int) ≤ x ∧ x < (p.g.bars.length : Int) := fun x hx => by have := h8 x hx; omega
   rw [eq0, sv, Option.bind_some]
   by_cases hr : rho N p (p.g.bars.take j ++ B) = rho N p (p.g.bars.take j ++ (b :: B))
   ·have hbq : (rho N p (p.g.bars.take j ++ B) == rho N p (p.g.bars.take j ++ (b :: B))) = true := by simpa using hr
    rw [hbq, cnd_true, l27Less_s hN hq bd1 (show p.ground.length ≤ 3000000 by omega) hlen, Option.bind_some, el, grd_pos (by omega), grd_R (by omega) (by omega)]
    have hjl : (j : Int) ∉ l := fun hm => by have := h8 _ hm; omega
    obtain ⟨l', B', k1, k2⟩ := ih j (l ++ [(j : Int)]) B (by omega) (by omega) sB (by omega) (by omega) (by simp; omega) (by
     refine List.nodup_append.2 ⟨h7, by simp, fun x hx y hy e => ?_⟩
     simp only [List.mem_singleton] at hy
     exact hjl (by rw [← hy, ← e]; exact hx)) (fun x hx => by
     rcases List.mem_append.1 hx with hx | hx
     ·exact hB x hx
     ·simp only [List.mem_singleton] at hx; omega)
    exact ⟨l', B', k1, k2⟩
   ·have hbq : (rho N p (p.g.bars.take j ++ B) == rho N p (p.g.bars.take j ++ (b :: B))) = false := by simpa using hr
    rw [hbq, cnd_false, grd_R (by omega) (by omega)]
    have hup : rho N p (p.g.bars.take j) + 1 ≤ rho N p (p.g.bars.take j ++ [b]) := by
     refine Classical.byContradiction fun hc => hr ?_
     have a := rho_cl hN hp s0 s3 s1 s2 (b := b) (fun e he => by simp [he]) (by simp) (fun e he => by simp [he]) (fun e he => by
      rcases List.mem_append.1 he with he | he
      ·exact .inl (by simp [he])
      ·rcases List.mem_cons.1 he with rfl | he
       ·exact .inr rfl
       ·exact .inl (by simp [he])) (by omega)
     have a' := rho_mono hN hp s1 s2 fun e he => by
      rcases List.mem_append.1 he with he | he <;> simp [he]
     omega
    obtain ⟨l', B', k1, k2⟩ := ih j l (b :: B) (by omega) (by omega) sbB (by simp only [List.length_cons]; omega) h5 (by simp only [List.length_cons]; omega) h7 hB
    exact ⟨l', B', k1, k2⟩
  ·obtain rfl : i = 0 := by omega
   rw [cnd_df (by omega)]
   rw [List.take_zero, List.nil_append] at h4 h5 ⊢
   rw [rho_nil hN hp] at h4
   refine ⟨l, B, rfl, ?_, by omega, h5, by omega, h7, fun x hx => by have := h8 x hx; omega⟩
   simpa using h3
theorem removeAll_v (hN : 4000000 ≤ N) (hp : isPinned p = true) : ∃ (l : List Int) (B : List (Int × Int)), S_RemoveAll N p = some (l, part p B) ∧ B.Sublist p.g.bars ∧ S_PinnedRank N p = some (B.length : Int) ∧ S_PinnedRank N (part p B) = some (B.length : Int) ∧ B.length + l.length = p.g.bars.length ∧ l.Nodup ∧ ∀ x ∈ l, (0 : Int) ≤ x ∧ x < (p.g.bars.length : Int) := by
 obtain ⟨b1, b2, b3, b4⟩ := isPinned_bd hp
 have e0 : p.g.bars.take p.g.bars.length ++ [] = p.g.bars := by simp
 have e1 : p.g.bars.take p.g.bars.length = p.g.bars := by simp
 obtain ⟨l, B, k1, k2, k3, k4, k5, k6, k7⟩ := remove1 (N := N) hN hp (k := fun (x : (List Int) × (List (Int × Int)) × (List Int) × Int) => match x with | (l17, l18, l19, c20) => some (l17, (⟨⟨c20, l18⟩, l19⟩ : Pin))) N p.g.bars.length [] [] (by omega) (Nat.le_refl _) (List.nil_sublist _) (by rw [e0, e1]; simp) (by rw [e0]) (by simp) List.nodup_nil (by simp)
 rw [e0] at k1
 refine ⟨l, B, ?_, k2, ?_, ?_, k5, k6, k7⟩
 ·unfold S_RemoveAll
  rw [l2Copy_s (by omega), Option.bind_some, grd_pos (by omega), grd_R (by omega) (by omega)]
  exact k1
 ·have := rho_some hN hp (List.Sublist.refl p.g.bars)
  have e : part p p.g.bars = p := rfl
  rw [e] at this
  rw [this, ← k4, k3]
 ·rw [rho_some hN hp k2, k3]
theorem kept1 (hN : 4000000 ≤ N) (hp : isPinned p = true) {v : List Int × Pin} (hv : v.1.length ≤ 3000000) : ∀ (fuel i : Nat) (l : List Int), i ≤ p.g.bars.length → p.g.bars.length < fuel + i → l.length ≤ i →
  S_LeastKept_l1 N p v (fun x => some x) fuel (l, (i : Int)) = some (l ++ stl (fun j => !v.1.contains (j : Int)) (p.g.bars.length - i) i) := by
 obtain ⟨b1, b2, b3, b4⟩ := isPinned_bd hp
 intro fuel
 induction fuel with
 | zero => intro i l h1 h2; omega
 | succ fuel ih =>
  intro i l h1 h2 h3
  rw [S_LeastKept_l1]
  by_cases hi : i < p.g.bars.length
  ·rw [cnd_dt (by omega), isPinnedS_s N hN (by omega) (by omega), hp, Option.bind_some, cnd_true, l2Has_s N hN hv, Option.bind_some, show p.g.bars.length - i = (p.g.bars.length - (i + 1)) + 1 by omega, stl]
   cases hc : v.1.contains (i : Int) with
   | false =>
    rw [Bool.not_false, cnd_true, grd_pos (by omega), grd_R (by omega) (by omega), succ_cast, ih (i + 1) _ (by omega) (by omega) (by simp; omega), if_pos rfl, List.append_assoc]
   | true =>
    rw [Bool.not_true, cnd_false, grd_R (by omega) (by omega), succ_cast, ih (i + 1) _ (by omega) (by omega) (by omega), if_neg (by simp)]
    rfl
  ·rw [cnd_df (by omega), show p.g.bars.length - i = 0 by omega]
   simp [stl]
theorem stl_split (t : Nat → Bool) : ∀ (k v : Nat), (stl t k v).length + (stl (fun j => !t j) k v).length = k
 | 0, v => rfl
 | k + 1, v => by
  have := stl_split t k (v + 1)
  simp only [stl, List.length_append]
  by_cases ht : t v = true
  ·rw [if_pos ht, if_neg (by simp [ht])]; simp only [List.length_cons, List.length_nil]; omega
  ·rw [if_neg ht, if_pos (by simpa using ht)]; simp only [List.length_cons, List.length_nil]; omega
theorem stl_nodup {t : Nat → Bool} : ∀ {k v : Nat}, (stl t k v).Nodup
 | 0, v => List.nodup_nil
 | k + 1, v => by
  rw [stl]
  refine List.nodup_append.2 ⟨by split <;> simp, stl_nodup, fun x hx y hy e => ?_⟩
  obtain ⟨i, h1, h2, h3, h4⟩ := stl_mem.1 hy
  split at hx
  ·simp only [List.mem_singleton] at hx; omega
  ·cases hx
theorem kept_len {l : List Int} {m : Nat} (hd : l.Nodup) (hr : ∀ x ∈ l, (0 : Int) ≤ x ∧ x < (m : Int)) : (stl (fun j => !l.contains (j : Int)) m 0).length + l.length = m := by
 have h := stl_split (fun j => l.contains (j : Int)) m 0
 have a : l.length ≤ (stl (fun j => l.contains (j : Int)) m 0).length := nodup_sub_len hd fun x hx => by
  have := hr x hx
  refine stl_mem.2 ⟨x.toNat, by omega, by omega, ?_, by omega⟩
  rw [show ((x.toNat : Nat) : Int) = x by omega]; simpa using hx
 have b : (stl (fun j => l.contains (j : Int)) m 0).length ≤ l.length := nodup_sub_len stl_nodup fun x hx => by
  obtain ⟨i, h1, h2, h3, h4⟩ := stl_mem.1 hx
  rw [h4]; simpa using h3
 omega
theorem leastKept_v (hN : 4000000 ≤ N) (hp : isPinned p = true) {r : Int} (hr : S_PinnedRank N p = some r) : ∃ l : List Int, l.length ≤ p.g.bars.length ∧ (l.length : Int) = r ∧ S_LeastKept N p = some l ∧ I_LeastKept N p = some l := by
 obtain ⟨b1, b2, b3, b4⟩ := isPinned_bd hp
 obtain ⟨l, B, k1, k2, k3, k4, k5, k6, k7⟩ := removeAll_v hN hp
 obtain ⟨l', g1, g2, g3⟩ := leastKept_x (N := N) hN (p := p) (by omega) (by omega)
 have e : S_LeastKept N p = some (stl (fun j => !l.contains (j : Int)) p.g.bars.length 0) := by
  unfold S_LeastKept
  rw [k1, Option.bind_some]
  exact kept1 hN hp (v := (l, part p B)) (show l.length ≤ 3000000 by omega) N 0 [] (by omega) (by omega) (by simp)
 have hk := kept_len k6 k7
 rw [g2] at e
 have e := Option.some.inj e
 refine ⟨l', g1, ?_, g2, g3⟩
 rw [hr] at k3
 have := Option.some.inj k3
 rw [e]; omega
theorem safeBars_v (hN : 4000000 ≤ N) (hp : isPinned p = true) : ∀ (fuel i : Nat) (l : List Int), i ≤ p.g.bars.length → p.g.bars.length < fuel + i → l.length ≤ i → (∀ x ∈ l, I_FallsWith N p x = some []) →
  ∃ l' : List Int, S_SafeBars_l1 N p (fun x => some x) fuel (l, (i : Int)) = some l' ∧ ∀ x ∈ l', I_FallsWith N p x = some [] := by
 obtain ⟨b1, b2, b3, b4⟩ := isPinned_bd hp
 intro fuel
 induction fuel with
 | zero => intro i l h1 h2; omega
 | succ fuel ih =>
  intro i l h1 h2 h3 h4
  rw [S_SafeBars_l1]
  by_cases hi : i < p.g.bars.length
  ·obtain ⟨r, g1, _⟩ := pinnedRank_x (N := N) hN (p := lessP p i) (lessP_bd (by omega)) (show p.ground.length ≤ 3000000 by omega)
   obtain ⟨r', g2, _⟩ := pinnedRank_x (N := N) hN (p := p) (by omega) (by omega)
   rw [cnd_dt (by omega), safe_v hN hp hi g1 g2, Option.bind_some]
   cases hr : (r == r') with
   | true =>
    have e : r = r' := by simpa using hr
    subst e
    rw [cnd_true, grd_pos (by omega), grd_R (by omega) (by omega), succ_cast]
    refine ih (i + 1) _ (by omega) (by omega) (by simp; omega) fun x hx => ?_
    rcases List.mem_append.1 hx with hx | hx
    ·exact h4 x hx
    ·simp only [List.mem_singleton] at hx; rw [hx]; exact falls_safe hN hp hi g1 g2
   | false =>
    rw [cnd_false, grd_R (by omega) (by omega), succ_cast]
    exact ih (i + 1) _ (by omega) (by omega) (by omega) h4
  ·rw [cnd_df (by omega)]
   exact ⟨l, rfl, h4⟩
end Go.Proofs.Ytcljhpldfanhkaa
namespace Go.Proofs.Ytcljhpldfanhkaa
open Go.RowKit
def Ok {α : Type} (o : Option α) (P : α → Prop) : Prop := ∃ r, o = some r ∧ P r
section
variable {α β : Type} {P Q : α → Prop}
theorem ok_some {r : α} (h : P r) : Ok (some r) P := ⟨r, rfl, h⟩
theorem ok_bind {o : Option β} {R : β → Prop} {f : β → Option α} (h : Ok o R) (hf : ∀ r, R r → Ok (f r) P) : Ok (o.bind f) P := by
 obtain ⟨r, rfl, hr⟩ := h
 exact hf r hr
theorem ok_grd {p : Prop} [Decidable p] {o : Option α} (hp : p) (h : Ok o P) : Ok (grd p o) P := by rw [grd_pos hp]; exact h
theorem ok_cnd {b : Bool} {x y : Option α} (h1 : b = true → Ok x P) (h2 : b = false → Ok y P) : Ok (cnd b x y) P := by
 cases b with
 | true => exact h1 rfl
 | false => exact h2 rfl
theorem ok_jn {σ : Type} {k : σ → Option α} {f : (σ → Option α) → Option α} {R : σ → Prop} (hk : ∀ x, R x → Ok (k x) P) (hf : ∀ k' : σ → Option α, (∀ x, R x → Ok (k' x) P) → Ok (f k') P) : Ok (jn k f) P := hf k hk
end
def Byt (l : List Int) : Prop := ∀ i : Nat, i < l.length → 0 ≤ l.getD i 0 ∧ l.getD i 0 < 256
structure CK (c : Cur) : Prop where
 byt : Byt c.b
 len : c.b.length ≤ 1048576
 nn : 0 ≤ c.i
theorem and_low {x : Int} {m : Nat} (hm : m < 4611686018427387904) : 0 ≤ andI x (m : Int) ∧ andI x (m : Int) ≤ m := by
 unfold andI
 have e : (BitVec.ofInt 64 (m : Int)).toNat = m := by rw [BitVec.toNat_ofInt]; omega
 rw [BitVec.toNat_and, e]
 have h : (BitVec.ofInt 64 x).toNat &&& m ≤ m := Nat.and_le_right
 rw [show IntKind.i64.wrap (((BitVec.ofInt 64 x).toNat &&& m : Nat) : Int) = (((BitVec.ofInt 64 x).toNat &&& m : Nat) : Int) from w64_id (by omega) (by omega)]
 omega
theorem and_255 (x : Int) : 0 ≤ andI x (255 : Int) ∧ andI x (255 : Int) < 256 := by
 have := and_low (x := x) (m := 255) (by omega)
 have e : ((255 : Nat) : Int) = (255 : Int) := rfl
 rw [e] at this
 omega
variable {N : Nat}
theorem byte_s {c : Cur} (h : CK c) : Ok (S_l1Byte N c) fun r => 0 ≤ r.1 ∧ r.1 < 256 ∧ 0 ≤ r.2.1 := by
 unfold S_l1Byte
 have hl := h.len
 have hn := h.nn
 refine ok_cnd (fun hb => ?_) (fun hb => ?_)
 ·rw [decide_eq_true_eq] at hb
  have hy := h.byt c.i.toNat (by omega)
  refine ok_grd ⟨hn, hb⟩ (ok_grd hy (ok_some ?_))
  have := and_255 (w64 ((andI (xorI (shrI (w64 ((w64 (c.h * (6364136223846793005 : Int))) + (1442695040888963407 : Int))) 33) (shrI (w64 ((w64 (c.h * (6364136223846793005 : Int))) + (1442695040888963407 : Int))) 45)) (255 : Int)) + (c.b.getD ((c.i).toNat) 0)))
  refine ⟨this.1, this.2, ?_⟩
  show 0 ≤ w64 (c.i + 1)
  rw [show w64 (c.i + 1) = c.i + 1 from w64_id (by omega) (by omega)]
  omega
 ·refine ok_some ?_
  have := and_255 (xorI (shrI (w64 ((w64 (c.h * (6364136223846793005 : Int))) + (1442695040888963407 : Int))) 33) (shrI (w64 ((w64 (c.h * (6364136223846793005 : Int))) + (1442695040888963407 : Int))) 45))
  exact ⟨this.1, this.2, hn⟩
structure Bel (n : Int) (r : Int × Int × Int) : Prop where
 nn : 0 ≤ r.1
 lt : 0 < n → r.1 < n
 zero : n ≤ 0 → r.1 = 0
 cur : 0 ≤ r.2.1
theorem below_s {c : Cur} (h : CK c) (n : Int) : Ok (S_l1Below N c n) (Bel n) := by
 unfold S_l1Below
 refine ok_cnd (fun hb => ?_) (fun hb => ?_)
 ·rw [decide_eq_true_eq] at hb
  exact ok_some ⟨by omega, by omega, by intro; rfl, h.nn⟩
 ·rw [decide_eq_false_iff_not] at hb
  refine ok_cnd (fun hb2 => ?_) (fun hb2 => ?_)
  ·refine ok_bind (byte_s h) fun v hv => ?_
   obtain ⟨h1, h2, h3⟩ := hv
   refine ok_grd (by omega) (ok_some ?_)
   have e1 := Int.tmod_nonneg n h1
   have e2 := Int.tmod_lt_of_pos v.1 (show 0 < n by omega)
   exact ⟨e1, fun _ => e2, by omega, h3⟩
  ·refine ok_bind (byte_s h) fun v2 h2 => ?_
   refine ok_bind (byte_s ⟨h.byt, h.len, h2.2.2⟩) fun v3 h3 => ?_
   refine ok_bind (byte_s ⟨h.byt, h.len, h3.2.2⟩) fun v4 h4 => ?_
   refine ok_bind (byte_s ⟨h.byt, h.len, h4.2.2⟩) fun v5 h5 => ?_
   obtain ⟨a2, b2, _⟩ := h2
   obtain ⟨a3, b3, _⟩ := h3
   obtain ⟨a4, b4, _⟩ := h4
   obtain ⟨a5, b5, c5⟩ := h5
   refine ok_grd ⟨by omega, by omega⟩ (ok_grd ⟨by omega, by omega⟩ (ok_grd ⟨by omega, by omega⟩ (ok_grd ⟨by omega, by omega⟩ (ok_grd ⟨by omega, by omega⟩ (ok_grd ⟨by omega, by omega⟩ (ok_grd (by omega) (ok_some ?_)))))))
   have e1 := Int.tmod_nonneg (a := (((v2.1 * (16777216 : Int)) + (v3.1 * (65536 : Int))) + (v4.1 * (256 : Int))) + v5.1) n (by omega)
   have e2 := Int.tmod_lt_of_pos ((((v2.1 * (16777216 : Int)) + (v3.1 * (65536 : Int))) + (v4.1 * (256 : Int))) + v5.1) (show 0 < n by omega)
   exact ⟨e1, fun _ => e2, by omega, c5⟩
theorem once_s {c : Cur} (h : CK c) (n : Int) : Ok (S_l1Once N c n) fun r => 0 ≤ r.2.1 := by
 unfold S_l1Once
 exact ok_bind (below_s h n) fun v hv => ok_some hv.cur
theorem new_s (hN : 4000000 ≤ N) {l : List Int} (hb : Byt l) (hl : l.length ≤ 1048576) : Ok (S_l1New N l) fun r => CK r ∧ r.b = l := by
 unfold S_l1New
 refine ok_grd ⟨by omega, by omega⟩ ?_
 have key : ∀ (fuel i : Nat) (h : Int), 0 ≤ h → h ≤ 1073741823 → i ≤ 4000 → 4001 < fuel + i → Ok (S_l1New_l1 N l (fun h3 => some (⟨l, (0 : Int), h3⟩ : Cur)) fuel (h, (i : Int))) fun r => CK r ∧ r.b = l := by
  intro fuel
  induction fuel with
  | zero => intro i h h1 h2 h4 h3; omega
  | succ fuel ih =>
   intro i h h1 h2 h4 h3
   rw [S_l1New_l1]
   refine ok_cnd (fun c1 => ?_) (fun c1 => ok_some ⟨⟨hb, hl, by simp⟩, rfl⟩)
   refine ok_cnd (fun c2 => ?_) (fun c2 => ok_some ⟨⟨hb, hl, by simp⟩, rfl⟩)
   rw [decide_eq_true_eq] at c1 c2
   have hy := hb i (by omega)
   have hi : ((i : Int)).toNat = i := rfl
   rw [hi]
   refine ok_grd ⟨by omega, by omega⟩ (ok_grd ⟨by omega, c1⟩ (ok_grd hy (ok_grd ⟨by omega, by omega⟩ (ok_grd ⟨by omega, by omega⟩ (ok_grd ⟨by omega, by omega⟩ ?_)))))
   have ha := and_low (x := h * (131 : Int) + l.getD i 0 + (7 : Int)) (m := 1073741823) (by omega)
   have e : ((1073741823 : Nat) : Int) = (1073741823 : Int) := rfl
   rw [e] at ha
   exact ih (i + 1) _ ha.1 ha.2 (by omega) (by omega)
 exact key N 0 _ (by omega) (by omega) (by omega) (by omega)
theorem CK.at {c : Cur} (h : CK c) {i x : Int} (hi : 0 ≤ i) : CK ⟨c.b, i, x⟩ := ⟨h.byt, h.len, hi⟩
end Go.Proofs.Ytcljhpldfanhkaa
namespace Go.Proofs.Ytcljhpldfanhkaa
variable {N : Nat}
def bitB (m : Int) (j : Nat) : Bool := andI (shrI m (j : Int)) (1 : Int) == (1 : Int)
def setU (m : Int) (k : Nat) : List Int := ((List.range k).filter (bitB m)).map fun (j : Nat) => (j : Int)
theorem setU_succ (m : Int) (k : Nat) : setU m (k + 1) = cnd (bitB m k) (setU m k ++ [(k : Int)]) (setU m k) := by
 unfold setU
 rw [List.range_succ, List.filter_append, List.map_append]
 cases h : bitB m k <;> simp [h, cnd]
theorem setU_len (m : Int) (k : Nat) : (setU m k).length ≤ k := by
 unfold setU
 rw [List.length_map]
 exact Nat.le_trans (List.length_filter_le _ _) (by simp)
theorem setS_s (hN : 4000000 ≤ N) {n m : Int} (hn : n ≤ 1000) : S_l3Set N n m = some (setU m n.toNat) := by
 unfold S_l3Set
 refine Eq.trans ?_ (fold (N := N) (len := n.toNat) (σ := List Int) (st := fun i => setU m i) (F := fun f s => S_l3Set_l1 N n m (fun l3 => some l3) f (s.1, s.2)) (fin := some (setU m n.toNat)) (by omega) (fun f i hi => ?_) fun f => ?_)
 ·simp [setU]
 ·show S_l3Set_l1 N n m _ (f + 1) (setU m i, (i : Int)) = S_l3Set_l1 N n m _ f (setU m (i + 1), ((i + 1 : Nat) : Int))
  have hl := setU_len m i
  rw [S_l3Set_l1, cnd_dt (by omega), grd_pos (by omega), setU_succ]
  show cnd (bitB m i) _ _ = _
  cases bitB m i with
  | true => rw [cnd_true, cnd_true, grd_pos (by omega), grd_R (by omega) (by omega), succ_cast]
  | false => rw [cnd_false, cnd_false, grd_R (by omega) (by omega), succ_cast]
 ·show S_l3Set_l1 N n m _ (f + 1) (setU m n.toNat, ((n.toNat : Nat) : Int)) = _
  rw [S_l3Set_l1, cnd_df (by omega)]
end Go.Proofs.Ytcljhpldfanhkaa
namespace Go.Proofs.Ytcljhpldfanhkaa
open Go.RowKit
variable {N : Nat}
theorem l2CopyD {g : Grf} (h : g.bars.length ≤ 3000000) : S_l2Copy N g = some g := by
 unfold S_l2Copy
 rw [grd_pos (by omega)]; rfl
structure GD (m : Int) (k : Nat) (g : Grf) : Prop where
 len : g.bars.length ≤ k
 rg : ∀ e ∈ g.bars, 0 ≤ e.1 ∧ e.1 < m ∧ 0 ≤ e.2 ∧ e.2 < m
theorem put_d (hN : 4000000 ≤ N) {g : Grf} {m : Int} {k : Nat} (h : GD m k g) (hk : k ≤ 999) {x : Int × Int} (hx : 0 ≤ x.1 ∧ x.1 < m ∧ 0 ≤ x.2 ∧ x.2 < m) : Ok (S_l2Put N g x) fun r => GD m (k + 1) r ∧ r.n = g.n := by
 have hl := h.len
 obtain ⟨L, h1, h2, h3⟩ := put0_s (N := N) hN (g := g) (by omega) x
 refine ⟨_, h1, ⟨by simp only; omega, fun e he => ?_⟩, rfl⟩
 rcases (h3 e).1 he with rfl | h4
 ·exact hx
 ·exact h.rg e h4
theorem remove_d (hN : 4000000 ≤ N) {g : Grf} {m : Int} {k : Nat} (h : GD m k g) (hk : k ≤ 999) (i : Int) : Ok (S_RemoveBar N g i) fun r => GD m k r.1 ∧ r.1.n = g.n := by
 have hl := h.len
 unfold S_RemoveBar
 rw [isGraphS_s N hN, Option.bind_some]
 have cp : ∀ b : Bool, Ok ((S_l2Copy N g).bind fun v => some ((⟨v.n, v.bars⟩ : Grf), b)) fun r => GD m k r.1 ∧ r.1.n = g.n := fun b => by
  rw [l2CopyD (by omega)]; exact ok_some ⟨h, rfl⟩
 refine ok_cnd (fun _ => cp _) fun _ => ok_cnd (fun _ => cp _) fun a1 => ok_cnd (fun _ => cp _) fun a2 => ?_
 rw [decide_eq_false_iff_not] at a1 a2
 have t1 := List.length_take_le i.toNat g.bars
 have hlen : (((([] : List (Int × Int)) ++ ((g.bars.take (i.toNat)).drop 0)) ++ ((g.bars.take g.bars.length).drop (((i + (1 : Int))).toNat)))).length + 1 = g.bars.length := by
  simp only [List.nil_append, List.drop_zero, List.take_length, List.length_append, List.length_take, List.length_drop]; omega
 refine ok_grd ⟨by omega, by omega⟩ (ok_grd (by simp only [List.length_drop]; omega) (ok_grd ⟨by omega, by omega⟩ (ok_grd ⟨by omega, by omega⟩ (ok_grd ?_ (ok_some ⟨⟨?_, ?_⟩, rfl⟩)))))
 ·rw [← List.length_append]; omega
 ·simp only; omega
 ·intro e he
  refine h.rg e ?_
  simp only [List.nil_append, List.drop_zero, List.take_length, List.mem_append] at he
  rcases he with he | he
  ·exact List.mem_of_mem_take he
  ·exact List.mem_of_mem_drop he
theorem add_d (hN : 4000000 ≤ N) {g : Grf} {m : Int} {k : Nat} (h : GD m k g) (hk : k ≤ 999) (hm : g.n ≤ m) (a b : Int) : Ok (S_AddBar N g a b) fun r => GD m (k + 1) r.1 ∧ r.1.n = g.n := by
 have hl := h.len
 unfold S_AddBar
 rw [isGraphS_s N hN, Option.bind_some]
 have cp : ∀ b : Bool, Ok ((S_l2Copy N g).bind fun v => some ((⟨v.n, v.bars⟩ : Grf), b)) fun r => GD m (k + 1) r.1 ∧ r.1.n = g.n := fun b => by
  rw [l2CopyD (by omega)]; exact ok_some ⟨⟨by simp only; omega, h.rg⟩, rfl⟩
 refine ok_cnd (fun _ => cp _) fun _ => ok_cnd (fun _ => cp _) fun a1 => ok_cnd (fun _ => cp _) fun a2 => ok_cnd (fun _ => cp _) fun a3 => ok_cnd (fun _ => cp _) fun a4 => ok_cnd (fun _ => cp _) fun _ => ok_cnd (fun _ => cp _) fun _ => ?_
 rw [decide_eq_false_iff_not] at a1 a2 a3 a4
 refine ok_bind (put_d hN h hk (x := (min a b, max a b)) ⟨by simp only; omega, by simp only; omega, by simp only; omega, by simp only; omega⟩) fun r hr => ok_some hr
structure PD (k : Nat) (p : Pin) : Prop where
 gd : GD 64 k p.g
 gl : p.ground.length ≤ 3
 n0 : 0 ≤ p.g.n
 n1 : p.g.n ≤ 64
theorem iso_d (hN : 4000000 ≤ N) {c : Cur} (hc : CK c) {inner : Int} (hi : 0 ≤ inner ∧ inner ≤ 4) : Ok (S_l20Isostatic N c inner) fun r => PD 40 r.1 ∧ 0 ≤ r.2.1 := by
 unfold S_l20Isostatic
 refine ok_bind (below_s hc 2) fun v1 h1 => ?_
 have b0 := h1.nn
 have b1 := h1.lt (by omega)
 have hp : (2 : Int) ^ ((2 : Int) + v1.1).toNat ≤ 8 := by
  have : ((2 : Int) + v1.1).toNat = 2 ∨ ((2 : Int) + v1.1).toNat = 3 := by omega
  rcases this with e | e <;> rw [e] <;> decide
 have hp0 : 0 ≤ (2 : Int) ^ ((2 : Int) + v1.1).toNat := by
  have : ((2 : Int) + v1.1).toNat = 2 ∨ ((2 : Int) + v1.1).toNat = 3 := by omega
  rcases this with e | e <;> rw [e] <;> decide
 refine ok_grd ⟨by omega, by omega⟩ (ok_grd ⟨by omega, by omega⟩ (ok_grd ⟨by omega, by omega, ⟨by omega, by omega⟩⟩ (ok_grd ⟨by omega, by omega⟩ ?_)))
 rw [setS_s hN (by omega), Option.bind_some]
 generalize hgr : setU _ _ = gr
 have hgl : gr.length ≤ 3 := by
  have := setU_len ((1 : Int) * 2 ^ ((((2 : Int) + v1.1)).toNat) - (1 : Int)) ((2 : Int) + v1.1).toNat
  rw [← hgr]; omega
 have key : ∀ (fuel : Nat) (l : List (Int × Int)) (v i h n : Int), GD 64 (3 * v.toNat) ⟨n, l⟩ → 0 ≤ n → n ≤ 64 → 2 ≤ v → v ≤ 8 → 0 ≤ i → 10 < fuel + v → Ok (S_l20Isostatic_l1 N c inner v1 (fun (x : (List (Int × Int)) × Int × Int × Int) =>
   match x with
   | (l148, c149, c150, c151) =>
    some ((⟨⟨c151, l148⟩, gr⟩ : Pin), c149, c150)) fuel (l, v, i, h, n)) fun r => PD 40 r.1 ∧ 0 ≤ r.2.1 := by
  intro fuel
  induction fuel with
  | zero => intro l v i h n h1 h2 h3 h4 h5 h6 h7; omega
  | succ fuel ih =>
   intro l v i h n hg hn0 hn1 hv2 hv8 hi0 hf
   rw [S_l20Isostatic_l1]
   have two : ∀ (g : Grf) (x y w i h : Int), GD 64 (3 * v.toNat) g → 0 ≤ g.n → g.n ≤ 64 → 0 ≤ x ∧ x < 64 → 0 ≤ w ∧ w < 64 → 0 ≤ i → v ≤ 7 → Ok ((S_l2Put N g (x, v)).bind fun v275 => (S_l2Put N v275 (w, v)).bind fun v276 => grd (Rg64 (v + (1 : Int))) <| S_l20Isostatic_l1 N c inner v1 (fun (x : (List (Int × Int)) × Int × Int × Int) =>
     match x with
     | (l148, c149, c150, c151) =>
      some ((⟨⟨c151, l148⟩, gr⟩ : Pin), c149, c150)) fuel (v276.bars, (v + (1 : Int)), i, h, v276.n)) fun r => PD 40 r.1 ∧ 0 ≤ r.2.1 := by
    intro g x y w i h hg hn0 hn1 hx hw hi hv7
    refine ok_bind (put_d hN hg (by omega) ⟨hx.1, hx.2, by omega, by omega⟩) fun g1 k1 => ?_
    refine ok_bind (put_d hN k1.1 (by omega) ⟨hw.1, hw.2, by omega, by omega⟩) fun g2 k2 => ?_
    refine ok_grd ⟨by omega, by omega⟩ (ih _ _ _ _ _ ⟨?_, k2.1.rg⟩ ?_ ?_ (by omega) (by omega) hi (by omega))
    ·have := k2.1.len; simp only; omega
    ·rw [k2.2, k1.2]; exact hn0
    ·rw [k2.2, k1.2]; exact hn1
   have tm : ∀ x : Int, 0 ≤ x → 0 ≤ Int.tmod x v ∧ Int.tmod x v < 64 := fun x hx => ⟨Int.tmod_nonneg v hx, by have := Int.tmod_lt_of_pos x (show 0 < v by omega); omega⟩
   have plain : ∀ (i h : Int), 0 ≤ i → v ≤ 7 → Ok ((S_l1Below N (⟨c.b, i, h⟩ : Cur) v).bind fun v273 =>
        grd (Rg64 (v273.1 + (1 : Int))) <|
        grd (Rg64 (v - (1 : Int))) <|
        (S_l1Below N (⟨c.b, v273.2.1, v273.2.2⟩ : Cur) (v - (1 : Int))).bind fun v274 =>
        grd (Rg64 ((v273.1 + (1 : Int)) + v274.1)) <|
        grd (v ≠ 0) <|
        (S_l2Put N (⟨n, l⟩ : Grf) (v273.1, v)).bind fun v275 =>
        (S_l2Put N v275 ((Int.tmod ((v273.1 + (1 : Int)) + v274.1) v), v)).bind fun v276 =>
        grd (Rg64 (v + (1 : Int))) <|
        S_l20Isostatic_l1 N c inner v1 (fun (x : (List (Int × Int)) × Int × Int × Int) =>
   match x with
   | (l148, c149, c150, c151) =>
    some ((⟨⟨c151, l148⟩, gr⟩ : Pin), c149, c150)) fuel (v276.bars, (v + (1 : Int)), v274.2.1, v274.2.2, v276.n)) fun r => PD 40 r.1 ∧ 0 ≤ r.2.1 := by
    intro i h hi0 hv7
    refine ok_bind (below_s (hc.at hi0) v) fun r hr => ?_
    have r0 := hr.nn
    have r1 := hr.lt (by omega)
    refine ok_grd ⟨by omega, by omega⟩ (ok_grd ⟨by omega, by omega⟩ ?_)
    refine ok_bind (below_s (hc.at hr.cur) (v - 1)) fun s hs => ?_
    have s0 := hs.nn
    have s1 := hs.lt (by omega)
    refine ok_grd ⟨by omega, by omega⟩ (ok_grd (by omega) ?_)
    exact two _ _ 0 _ _ _ hg hn0 hn1 ⟨by omega, by omega⟩ (tm _ (by omega)) hs.cur hv7
   refine ok_cnd (fun c1 => ?_) (fun c1 => ?_)
   ·rw [decide_eq_true_eq] at c1
    have hv7 : v ≤ 7 := by omega
    refine ok_cnd (fun c2 => ?_) (fun c2 => plain _ _ hi0 hv7)
    refine ok_bind (once_s (hc.at hi0) 2) fun o ho => ?_
    refine ok_cnd (fun c3 => ?_) (fun c3 => plain _ _ ho hv7)
    refine ok_jn (R := fun x => 0 ≤ x.1) (fun x hx => plain _ _ hx hv7) fun k' hk' => ?_
    refine ok_cnd (fun c4 => ?_) (fun c4 => hk' _ ho)
    rw [decide_eq_true_eq] at c4
    refine ok_bind (below_s (hc.at ho) (l.length : Int)) fun r hr => ?_
    have r0 := hr.nn
    have r1 := hr.lt (by omega)
    have hin : l.getD r.1.toNat (0, 0) ∈ l := by
     rw [List.getD_eq_getElem?_getD, List.getElem?_eq_getElem (show r.1.toNat < l.length by omega)]; exact List.getElem_mem (by omega)
    generalize l.getD r.1.toNat (0, 0) = e at hin
    obtain ⟨e1, e2, e3, e4⟩ := hg.rg e hin
    refine ok_grd ⟨by omega, by omega⟩ (ok_grd ⟨by omega, by omega⟩ (ok_grd ⟨by omega, by omega⟩ ?_))
    refine ok_bind (below_s (hc.at hr.cur) (v - 1)) fun s hs => ?_
    have s0 := hs.nn
    have s1 := hs.lt (by omega)
    refine ok_grd ⟨by omega, by omega⟩ (ok_grd (by omega) ?_)
    have three : ∀ w : Int, 0 ≤ w ∧ w < 64 → Ok ((S_RemoveBar N (⟨n, l⟩ : Grf) r.1).bind fun v280 =>
          (S_l2Put N v280.1 (e.1, v)).bind fun v281 =>
          (S_l2Put N v281 (e.2, v)).bind fun v282 =>
          (S_l2Put N v282 (w, v)).bind fun v283 =>
          grd (Rg64 (v + (1 : Int))) <|
          S_l20Isostatic_l1 N c inner v1 (fun (x : (List (Int × Int)) × Int × Int × Int) =>
   match x with
   | (l148, c149, c150, c151) =>
    some ((⟨⟨c151, l148⟩, gr⟩ : Pin), c149, c150)) fuel (v283.bars, (v + (1 : Int)), s.2.1, s.2.2, v283.n)) fun r => PD 40 r.1 ∧ 0 ≤ r.2.1 := by
     intro w hw
     refine ok_bind (remove_d hN hg (by omega) r.1) fun g0 k0 => ?_
     refine ok_bind (put_d hN k0.1 (by omega) ⟨e1, e2, by omega, by omega⟩) fun g1 k1 => ?_
     refine ok_bind (put_d hN k1.1 (by omega) ⟨e3, e4, by omega, by omega⟩) fun g2 k2 => ?_
     refine ok_bind (put_d hN k2.1 (by omega) ⟨hw.1, hw.2, by omega, by omega⟩) fun g3 k3 => ?_
     have hn : g3.n = n := by rw [k3.2, k2.2, k1.2, k0.2]
     refine ok_grd ⟨by omega, by omega⟩ (ih _ _ _ _ _ ⟨?_, k3.1.rg⟩ (by omega) (by omega) (by omega) (by omega) hs.cur (by omega))
     have := k3.1.len; simp only; omega
    refine ok_cnd (fun c5 => ?_) (fun c5 => ?_)
    ·refine ok_cnd (fun c6 => ?_) (fun c6 => hk' _ hs.cur)
     refine ok_cnd (fun c7 => ?_) (fun c7 => hk' _ hs.cur)
     exact three _ (tm _ (by omega))
    ·refine ok_jn (R := fun w => 0 ≤ w ∧ w < 64) (fun w hw => ?_) fun k2 hk2 => ?_
     ·refine ok_cnd (fun c6 => ?_) (fun c6 => hk' _ hs.cur)
      refine ok_cnd (fun c7 => ?_) (fun c7 => hk' _ hs.cur)
      exact three _ hw
     ·refine ok_cnd (fun c6 => ?_) (fun c6 => ?_)
      ·exact hk2 _ (tm _ (by omega))
      ·exact hk2 _ (tm _ (by omega))
   ·exact ok_some ⟨⟨⟨by have := hg.len; simp only at this ⊢; omega, hg.rg⟩, hgl, hn0, hn1⟩, hi0⟩
 exact key N [] _ _ _ _ ⟨by simp, by simp⟩ (by omega) (by omega) (by omega) (by omega) h1.cur (by omega)
theorem any_d (hN : 4000000 ≤ N) {c : Cur} (hc : CK c) : Ok (S_l20Any N c) fun r => PD 41 r.1 ∧ 0 ≤ r.2.1 := by
 unfold S_l20Any
 refine ok_bind (below_s hc 4) fun v1 h1 => ?_
 have b0 := h1.nn
 have b1 := h1.lt (by omega)
 refine ok_grd ⟨by omega, by omega⟩ ?_
 refine ok_bind (iso_d hN (hc.at h1.cur) ⟨by omega, by omega⟩) fun v2 h2 => ?_
 obtain ⟨p2, c2⟩ := h2
 refine ok_bind (below_s (hc.at c2) 8) fun v3 h3 => ?_
 have wk : GD 64 41 v2.1.g := ⟨by have := p2.gd.len; omega, p2.gd.rg⟩
 refine ok_cnd (fun c1 => ?_) (fun c1 => ?_)
 ·refine ok_bind (below_s (hc.at h3.cur) _) fun v4 h4 => ?_
  refine ok_bind (remove_d hN p2.gd (by omega) v4.1) fun v5 h5 => ok_some ⟨⟨⟨?_, h5.1.rg⟩, p2.gl, ?_, ?_⟩, h4.cur⟩
  ·have := h5.1.len; simp only; omega
  ·have := p2.n0; simp only; rw [h5.2]; exact this
  ·have := p2.n1; simp only; rw [h5.2]; exact this
 refine ok_cnd (fun c1 => ?_) (fun c1 => ?_)
 ·refine ok_bind (below_s (hc.at h3.cur) _) fun v4 h4 => ?_
  refine ok_bind (below_s (hc.at h4.cur) _) fun v5 h5 => ?_
  refine ok_bind (add_d hN p2.gd (by omega) p2.n1 v4.1 v5.1) fun v6 h6 => ok_some ⟨⟨⟨h6.1.len, h6.1.rg⟩, p2.gl, ?_, ?_⟩, h5.cur⟩
  ·have := p2.n0; simp only; rw [h6.2]; exact this
  ·have := p2.n1; simp only; rw [h6.2]; exact this
 refine ok_cnd (fun c1 => ?_) (fun c1 => ok_some ⟨⟨wk, p2.gl, p2.n0, p2.n1⟩, h3.cur⟩)
 refine ok_bind (below_s (hc.at h3.cur) 4) fun v4 h4 => ?_
 have d0 := h4.nn
 have d1 := h4.lt (by omega)
 refine ok_grd ⟨by omega, by omega⟩ ?_
 refine ok_bind (below_s (hc.at h4.cur) 9) fun v5 h5 => ok_some ⟨⟨wk, by simp, p2.n0, p2.n1⟩, h5.cur⟩
end Go.Proofs.Ytcljhpldfanhkaa
namespace Go.Proofs.Ytcljhpldfanhkaa
open Go.RowKit
def S_CountBar_l1 (N : Nat) (g_0 : Grf) (a_1 : Int) (b_2 : Int) (k : Int → Option (Int)) : Nat → (Int × Int) → Option (Int)
 | 0, _ => none
 | n + 1, (n5, i6) =>
  cnd (decide (i6 < (g_0.bars.length : Int))) (
   grd (0 ≤ i6 ∧ i6 < (g_0.bars.length : Int)) <|
   cnd (((g_0.bars.getD ((i6).toNat) (0, 0)).1) == a_1) (
    cnd (((g_0.bars.getD ((i6).toNat) (0, 0)).2) == b_2) (
     grd (Rg64 (n5 + (1 : Int))) <|
     grd (Rg64 (i6 + (1 : Int))) <|
     S_CountBar_l1 N g_0 a_1 b_2 k n ((n5 + (1 : Int)), (i6 + (1 : Int)))) (
     cnd (((g_0.bars.getD ((i6).toNat) (0, 0)).1) == b_2) (
      cnd (((g_0.bars.getD ((i6).toNat) (0, 0)).2) == a_1) (
       grd (Rg64 (n5 + (1 : Int))) <|
       grd (Rg64 (i6 + (1 : Int))) <|
       S_CountBar_l1 N g_0 a_1 b_2 k n ((n5 + (1 : Int)), (i6 + (1 : Int)))) (
       grd (Rg64 (i6 + (1 : Int))) <|
       S_CountBar_l1 N g_0 a_1 b_2 k n (n5, (i6 + (1 : Int))))) (
      grd (Rg64 (i6 + (1 : Int))) <|
      S_CountBar_l1 N g_0 a_1 b_2 k n (n5, (i6 + (1 : Int)))))) (
    cnd (((g_0.bars.getD ((i6).toNat) (0, 0)).1) == b_2) (
     cnd (((g_0.bars.getD ((i6).toNat) (0, 0)).2) == a_1) (
      grd (Rg64 (n5 + (1 : Int))) <|
      grd (Rg64 (i6 + (1 : Int))) <|
      S_CountBar_l1 N g_0 a_1 b_2 k n ((n5 + (1 : Int)), (i6 + (1 : Int)))) (
      grd (Rg64 (i6 + (1 : Int))) <|
      S_CountBar_l1 N g_0 a_1 b_2 k n (n5, (i6 + (1 : Int))))) (
     grd (Rg64 (i6 + (1 : Int))) <|
     S_CountBar_l1 N g_0 a_1 b_2 k n (n5, (i6 + (1 : Int)))))) (
   k n5)
def S_CountBar (N : Nat) (g_0 : Grf) (a_1 : Int) (b_2 : Int) : Option (Int) :=
 S_CountBar_l1 N g_0 a_1 b_2 (fun (n3 : Int) =>
    some n3) N ((0 : Int), (0 : Int))
set_option maxRecDepth 20000 in
set_option maxHeartbeats 1600000 in
theorem S_CountBar_w (N : Nat) (g_0 : Grf) (a_1 : Int) (b_2 : Int) (r : Int) (h : S_CountBar N g_0 a_1 b_2 = some r) : PCall Try.prog 195 [gD g_0, .int a_1, .int b_2] [] (.int r) := by
 unfold S_CountBar at h
 refine pcall_intro (TT := TT) tt Try.func195 rfl rfl Try.ntmps195 (congrArg Array.toList Try.results195) rfl rfl fun w0 => ?_
 refine vSeq ?_
 refine vRegion ?_
 refine oBox rfl rfl rfl rfl rfl rfl rfl rfl rfl ?_
 refine oVal tt rfl rfl rfl rfl rfl trivial ?_
 refine vNil ?_
 change VC _ _ _ _
 refine vSeq ?_
 refine vRegion ?_
 refine oVal tt rfl rfl rfl rfl rfl trivial ?_
 refine vNil ?_
 change VC _ _ _ _
 iterate 2 refine vSeq ?_
 refine vRegion ?_
 refine oVal tt rfl rfl rfl rfl rfl trivial ?_
 refine vNil ?_
 change VC _ _ _ _
 refine vJoin (F := fun k => S_CountBar_l1 N g_0 a_1 b_2 k) h (α := Int) (J := fun (n3 : Int) => (⟨[(7, .int n3)], [], []⟩ : PS)) ?_ ?_
 ·rintro n3 h
  show VC _ _ _ (⟨[(7, .int n3)], [], []⟩ : PS)
  refine vSeq ?_
  refine vRegion ?_
  iterate 2 refine oVal tt rfl rfl rfl rfl rfl trivial ?_
  refine vNil ?_
  change VC _ _ _ _
  refine vRet ?_
  change ∃ _, _
  cases h
  exact ⟨[], _, rfl, trivial, rfl, (.eq rfl), rfl⟩
 ·intro k h
  refine vBlock ?_
  refine vLoopS (α := Int × Int) (fun | (n5, i6) => (⟨[(1, .int a_1), (2, .int b_2), (3, .ptr 3 0), (7, .int n5), (8, .int i6)], [], [(3, some [.int g_0.n, .ro false (.pairs g_0.bars)])]⟩ : PS)) (S_CountBar_l1 N g_0 a_1 b_2 k) h (En.of ⟨rfl, rfl, rfl, rfl, rfl, trivial⟩ trivial ⟨rfl, trivial⟩) (fun _ => rfl) ?_
  rintro n ⟨n5, i6⟩ h
  rw [S_CountBar_l1] at h
  show VC _ _ _ (⟨[(1, .int a_1), (2, .int b_2), (3, .ptr 3 0), (7, .int n5), (8, .int i6)], [], [(3, some [.int g_0.n, .ro false (.pairs g_0.bars)])]⟩ : PS)
  iterate 2 refine vSeq ?_
  refine vRegion ?_
  iterate 5 refine oVal tt rfl rfl rfl rfl rfl trivial ?_
  refine vNil ?_
  change VC _ _ _ _
  refine vCond rfl (fun hb1 => ?_) (fun hb1 => ?_)
  ·replace h := cnd_t hb1 h
   refine vSkip ?_
   change VC _ _ _ _
   refine vSeq ?_
   refine vBlock ?_
   refine vSeq ?_
   refine vRegion ?_
   iterate 3 refine oVal tt rfl rfl rfl rfl rfl trivial ?_
   obtain ⟨hg2, h⟩ := grd_inv h
   refine oVal tt rfl rfl rfl rfl rfl hg2 ?_
   iterate 5 refine oVal tt rfl rfl rfl rfl rfl trivial ?_
   refine oSplit rfl rfl rfl (fun hb3 => ?_) (fun hb3 => ?_)
   ·replace h := cnd_t hb3 h
    iterate 3 refine oValG tt rfl rfl rfl rfl rfl hb3 rfl rfl rfl trivial ?_
    refine oValG tt rfl rfl rfl rfl rfl hb3 rfl rfl rfl hg2 ?_
    iterate 4 refine oValG tt rfl rfl rfl rfl rfl hb3 rfl rfl rfl trivial ?_
    refine oPick rfl rfl rfl rfl rfl hb3 rfl ?_
    refine oVal tt rfl rfl rfl rfl rfl trivial ?_
    refine oSplit rfl rfl rfl (fun hb4 => ?_) (fun hb4 => ?_)
    ·replace h := cnd_t hb4 h
     iterate 9 refine oNoF rfl rfl rfl rfl hb4 rfl rfl ?_
     iterate 8 refine oNoU rfl rfl rfl rfl rfl ?_
     refine oNoF rfl rfl rfl rfl hb4 rfl rfl ?_
     refine oPick rfl rfl rfl rfl rfl hb4 rfl ?_
     refine vNil ?_
     change VC _ _ _ _
     refine vCondT rfl rfl ?_
     refine vRegion ?_
     refine oVal tt rfl rfl rfl rfl rfl trivial ?_
     obtain ⟨hg5, h⟩ := grd_inv h
     refine oVal tt rfl rfl rfl rfl rfl hg5 ?_
     refine oVal tt rfl rfl rfl rfl rfl trivial ?_
     refine vNil ?_
     change VC _ _ _ _
     refine vRegion ?_
     refine oVal tt rfl rfl rfl rfl rfl trivial ?_
     obtain ⟨hg6, h⟩ := grd_inv h
     refine oVal tt rfl rfl rfl rfl rfl hg6 ?_
     refine oVal tt rfl rfl rfl rfl rfl trivial ?_
     refine vNil ?_
     change ∃ _, _
     exact ⟨((n5 + (1 : Int)), (i6 + (1 : Int))), (En.of ⟨rfl, rfl, rfl, rfl, rfl, trivial⟩ trivial ⟨rfl, trivial⟩), h⟩
    ·replace h := cnd_f hb4 h
     iterate 3 refine oValG tt rfl rfl rfl rfl rfl hb4 rfl rfl rfl trivial ?_
     refine oValG tt rfl rfl rfl rfl rfl hb4 rfl rfl rfl hg2 ?_
     iterate 5 refine oValG tt rfl rfl rfl rfl rfl hb4 rfl rfl rfl trivial ?_
     refine oSplit rfl rfl rfl (fun hb7 => ?_) (fun hb7 => ?_)
     ·replace h := cnd_t hb7 h
      iterate 3 refine oValG tt rfl rfl rfl rfl rfl hb7 rfl rfl rfl trivial ?_
      refine oValG tt rfl rfl rfl rfl rfl hb7 rfl rfl rfl hg2 ?_
      iterate 4 refine oValG tt rfl rfl rfl rfl rfl hb7 rfl rfl rfl trivial ?_
      refine oPickGT rfl rfl rfl rfl hb4 rfl rfl rfl rfl hb7 rfl ?_
      refine oPickF rfl rfl rfl rfl rfl hb4 rfl ?_
      refine vNil ?_
      change VC _ _ _ _
      refine vCond rfl (fun hb8 => ?_) (fun hb8 => ?_)
      ·replace h := cnd_t hb8 h
       refine vRegion ?_
       refine oVal tt rfl rfl rfl rfl rfl trivial ?_
       obtain ⟨hg9, h⟩ := grd_inv h
       refine oVal tt rfl rfl rfl rfl rfl hg9 ?_
       refine oVal tt rfl rfl rfl rfl rfl trivial ?_
       refine vNil ?_
       change VC _ _ _ _
       refine vRegion ?_
       refine oVal tt rfl rfl rfl rfl rfl trivial ?_
       obtain ⟨hg10, h⟩ := grd_inv h
       refine oVal tt rfl rfl rfl rfl rfl hg10 ?_
       refine oVal tt rfl rfl rfl rfl rfl trivial ?_
       refine vNil ?_
       change ∃ _, _
       exact ⟨((n5 + (1 : Int)), (i6 + (1 : Int))), (En.of ⟨rfl, rfl, rfl, rfl, rfl, trivial⟩ trivial ⟨rfl, trivial⟩), h⟩
      ·replace h := cnd_f hb8 h
       refine vSkip ?_
       change VC _ _ _ _
       refine vRegion ?_
       refine oVal tt rfl rfl rfl rfl rfl trivial ?_
       obtain ⟨hg11, h⟩ := grd_inv h
       refine oVal tt rfl rfl rfl rfl rfl hg11 ?_
       refine oVal tt rfl rfl rfl rfl rfl trivial ?_
       refine vNil ?_
       change ∃ _, _
       exact ⟨(n5, (i6 + (1 : Int))), (En.of ⟨rfl, rfl, rfl, rfl, rfl, trivial⟩ trivial ⟨rfl, trivial⟩), h⟩
     ·replace h := cnd_f hb7 h
      iterate 8 refine oNoT rfl rfl rfl rfl hb7 rfl rfl ?_
      refine oPickGF rfl rfl rfl rfl hb4 rfl rfl rfl rfl hb7 rfl ?_
      refine oPickF rfl rfl rfl rfl rfl hb4 rfl ?_
      refine vNil ?_
      change VC _ _ _ _
      refine vCondF rfl rfl ?_
      refine vSkip ?_
      change VC _ _ _ _
      refine vRegion ?_
      refine oVal tt rfl rfl rfl rfl rfl trivial ?_
      obtain ⟨hg12, h⟩ := grd_inv h
      refine oVal tt rfl rfl rfl rfl rfl hg12 ?_
      refine oVal tt rfl rfl rfl rfl rfl trivial ?_
      refine vNil ?_
      change ∃ _, _
      exact ⟨(n5, (i6 + (1 : Int))), (En.of ⟨rfl, rfl, rfl, rfl, rfl, trivial⟩ trivial ⟨rfl, trivial⟩), h⟩
   ·replace h := cnd_f hb3 h
    iterate 8 refine oNoT rfl rfl rfl rfl hb3 rfl rfl ?_
    refine oPickF rfl rfl rfl rfl rfl hb3 rfl ?_
    refine oVal tt rfl rfl rfl rfl rfl trivial ?_
    iterate 3 refine oValG tt rfl rfl rfl rfl rfl rfl rfl rfl rfl trivial ?_
    refine oValG tt rfl rfl rfl rfl rfl rfl rfl rfl rfl hg2 ?_
    iterate 5 refine oValG tt rfl rfl rfl rfl rfl rfl rfl rfl rfl trivial ?_
    refine oSplit rfl rfl rfl (fun hb13 => ?_) (fun hb13 => ?_)
    ·replace h := cnd_t hb13 h
     iterate 3 refine oValG tt rfl rfl rfl rfl rfl hb13 rfl rfl rfl trivial ?_
     refine oValG tt rfl rfl rfl rfl rfl hb13 rfl rfl rfl hg2 ?_
     iterate 4 refine oValG tt rfl rfl rfl rfl rfl hb13 rfl rfl rfl trivial ?_
     refine oPickGT rfl rfl rfl rfl rfl rfl rfl rfl rfl hb13 rfl ?_
     refine oPickF rfl rfl rfl rfl rfl rfl rfl ?_
     refine vNil ?_
     change VC _ _ _ _
     refine vCond rfl (fun hb14 => ?_) (fun hb14 => ?_)
     ·replace h := cnd_t hb14 h
      refine vRegion ?_
      refine oVal tt rfl rfl rfl rfl rfl trivial ?_
      obtain ⟨hg15, h⟩ := grd_inv h
      refine oVal tt rfl rfl rfl rfl rfl hg15 ?_
      refine oVal tt rfl rfl rfl rfl rfl trivial ?_
      refine vNil ?_
      change VC _ _ _ _
      refine vRegion ?_
      refine oVal tt rfl rfl rfl rfl rfl trivial ?_
      obtain ⟨hg16, h⟩ := grd_inv h
      refine oVal tt rfl rfl rfl rfl rfl hg16 ?_
      refine oVal tt rfl rfl rfl rfl rfl trivial ?_
      refine vNil ?_
      change ∃ _, _
      exact ⟨((n5 + (1 : Int)), (i6 + (1 : Int))), (En.of ⟨rfl, rfl, rfl, rfl, rfl, trivial⟩ trivial ⟨rfl, trivial⟩), h⟩
     ·replace h := cnd_f hb14 h
      refine vSkip ?_
      change VC _ _ _ _
      refine vRegion ?_
      refine oVal tt rfl rfl rfl rfl rfl trivial ?_
      obtain ⟨hg17, h⟩ := grd_inv h
      refine oVal tt rfl rfl rfl rfl rfl hg17 ?_
      refine oVal tt rfl rfl rfl rfl rfl trivial ?_
      refine vNil ?_
      change ∃ _, _
      exact ⟨(n5, (i6 + (1 : Int))), (En.of ⟨rfl, rfl, rfl, rfl, rfl, trivial⟩ trivial ⟨rfl, trivial⟩), h⟩
    ·replace h := cnd_f hb13 h
     iterate 8 refine oNoT rfl rfl rfl rfl hb13 rfl rfl ?_
     refine oPickGF rfl rfl rfl rfl rfl rfl rfl rfl rfl hb13 rfl ?_
     refine oPickF rfl rfl rfl rfl rfl rfl rfl ?_
     refine vNil ?_
     change VC _ _ _ _
     refine vCondF rfl rfl ?_
     refine vSkip ?_
     change VC _ _ _ _
     refine vRegion ?_
     refine oVal tt rfl rfl rfl rfl rfl trivial ?_
     obtain ⟨hg18, h⟩ := grd_inv h
     refine oVal tt rfl rfl rfl rfl rfl hg18 ?_
     refine oVal tt rfl rfl rfl rfl rfl trivial ?_
     refine vNil ?_
     change ∃ _, _
     exact ⟨(n5, (i6 + (1 : Int))), (En.of ⟨rfl, rfl, rfl, rfl, rfl, trivial⟩ trivial ⟨rfl, trivial⟩), h⟩
  ·replace h := cnd_f hb1 h
   refine vExit ?_
   change ∃ _, _
   exact ⟨n5, (En.of ⟨rfl, trivial⟩ trivial trivial), h⟩
end Go.Proofs.Ytcljhpldfanhkaa
namespace Go.Proofs.Ytcljhpldfanhkaa
open Go.RowKit
def S_EqualGraphs_l1 (N : Nat) (a_0 : Grf) (b_1 : Grf) (k : Unit → Option (Bool)) : Nat → Int → Option (Bool)
 | 0, _ => none
 | n + 1, i3 =>
  cnd (decide (i3 < (a_0.bars.length : Int))) (
   grd (0 ≤ i3 ∧ i3 < (a_0.bars.length : Int)) <|
   grd (0 ≤ i3 ∧ i3 < (b_1.bars.length : Int)) <|
   cnd (!(((a_0.bars.getD ((i3).toNat) (0, 0)).1 == (b_1.bars.getD ((i3).toNat) (0, 0)).1) && ((a_0.bars.getD ((i3).toNat) (0, 0)).2 == (b_1.bars.getD ((i3).toNat) (0, 0)).2))) (
    some false) (
    grd (Rg64 (i3 + (1 : Int))) <|
    S_EqualGraphs_l1 N a_0 b_1 k n (i3 + (1 : Int)))) (
   k ())
def S_EqualGraphs (N : Nat) (a_0 : Grf) (b_1 : Grf) : Option (Bool) :=
 cnd (a_0.n != b_1.n) (
  some false) (
  cnd ((a_0.bars.length : Int) != (b_1.bars.length : Int)) (
   some false) (
   S_EqualGraphs_l1 N a_0 b_1 (fun (_ : Unit) =>
      some true) N (0 : Int)))
set_option maxRecDepth 20000 in
set_option maxHeartbeats 1600000 in
theorem S_EqualGraphs_w (N : Nat) (a_0 : Grf) (b_1 : Grf) (r : Bool) (h : S_EqualGraphs N a_0 b_1 = some r) : PCall Try.prog 169 [gD a_0, gD b_1] [] (.bool r) := by
 unfold S_EqualGraphs at h
 refine pcall_intro (TT := TT) tt Try.func169 rfl rfl Try.ntmps169 (congrArg Array.toList Try.results169) rfl rfl fun w0 => ?_
 refine vSeq ?_
 refine vRegion ?_
 iterate 2 refine oBox rfl rfl rfl rfl rfl rfl rfl rfl rfl ?_
 refine oVal tt rfl rfl rfl rfl rfl trivial ?_
 refine vNil ?_
 change VC _ _ _ _
 iterate 2 refine vSeq ?_
 refine vRegion ?_
 iterate 6 refine oVal tt rfl rfl rfl rfl rfl trivial ?_
 refine oSplit rfl rfl rfl (fun hb1 => ?_) (fun hb1 => ?_)
 ·replace h := cnd_t hb1 h
  iterate 7 refine oNoF rfl rfl rfl rfl hb1 rfl rfl ?_
  refine oPick rfl rfl rfl rfl rfl hb1 rfl ?_
  refine vNil ?_
  change VC _ _ _ _
  refine vCondT rfl rfl ?_
  refine vSeq ?_
  refine vRegion ?_
  refine oVal tt rfl rfl rfl rfl rfl trivial ?_
  refine vNil ?_
  change VC _ _ _ _
  refine vRet ?_
  change ∃ _, _
  cases h
  exact ⟨[], _, rfl, trivial, rfl, (.eq rfl), rfl⟩
 ·replace h := cnd_f hb1 h
  iterate 7 refine oValG tt rfl rfl rfl rfl rfl hb1 rfl rfl rfl trivial ?_
  refine oPickF rfl rfl rfl rfl rfl hb1 rfl ?_
  refine vNil ?_
  change VC _ _ _ _
  refine vCond rfl (fun hb2 => ?_) (fun hb2 => ?_)
  ·replace h := cnd_t hb2 h
   refine vSeq ?_
   refine vRegion ?_
   refine oVal tt rfl rfl rfl rfl rfl trivial ?_
   refine vNil ?_
   change VC _ _ _ _
   refine vRet ?_
   change ∃ _, _
   cases h
   exact ⟨[], _, rfl, trivial, rfl, (.eq rfl), rfl⟩
  ·replace h := cnd_f hb2 h
   refine vSkip ?_
   change VC _ _ _ _
   iterate 2 refine vSeq ?_
   refine vRegion ?_
   refine oVal tt rfl rfl rfl rfl rfl trivial ?_
   refine vNil ?_
   change VC _ _ _ _
   refine vJoin (F := fun k => S_EqualGraphs_l1 N a_0 b_1 k) h (α := Unit) (J := fun (_ : Unit) => (⟨[], [], []⟩ : PS)) ?_ ?_
   ·rintro ⟨⟩ h
    show VC _ _ _ (⟨[], [], []⟩ : PS)
    refine vSeq ?_
    refine vRegion ?_
    refine oVal tt rfl rfl rfl rfl rfl trivial ?_
    refine vNil ?_
    change VC _ _ _ _
    refine vRet ?_
    change ∃ _, _
    cases h
    exact ⟨[], _, rfl, trivial, rfl, (.eq rfl), rfl⟩
   ·intro k h
    refine vBlock ?_
    refine vLoopS (α := Int) (fun (i3 : Int) => (⟨[(2, .ptr 2 0), (3, .ptr 3 0), (5, .int i3)], [], [(2, some [.int a_0.n, .ro false (.pairs a_0.bars)]), (3, some [.int b_1.n, .ro false (.pairs b_1.bars)])]⟩ : PS)) (S_EqualGraphs_l1 N a_0 b_1 k) h (En.of ⟨rfl, rfl, rfl, trivial⟩ trivial ⟨rfl, rfl, trivial⟩) (fun _ => rfl) ?_
    rintro n i3 h
    rw [S_EqualGraphs_l1] at h
    show VC _ _ _ (⟨[(2, .ptr 2 0), (3, .ptr 3 0), (5, .int i3)], [], [(2, some [.int a_0.n, .ro false (.pairs a_0.bars)]), (3, some [.int b_1.n, .ro false (.pairs b_1.bars)])]⟩ : PS)
    iterate 2 refine vSeq ?_
    refine vRegion ?_
    iterate 5 refine oVal tt rfl rfl rfl rfl rfl trivial ?_
    refine vNil ?_
    change VC _ _ _ _
    refine vCond rfl (fun hb3 => ?_) (fun hb3 => ?_)
    ·replace h := cnd_t hb3 h
     refine vSkip ?_
     change VC _ _ _ _
     refine vSeq ?_
     refine vBlock ?_
     refine vSeq ?_
     refine vRegionD (by kernel_rfl) (by kernel_rfl) ?_
     iterate 3 refine cVal tt rfl (wNone rfl) rfl rfl rfl trivial ?_
     obtain ⟨hg4, h⟩ := grd_inv h
     refine cVal tt rfl (wNone rfl) rfl rfl rfl hg4 ?_
     iterate 4 refine cVal tt rfl (wNone rfl) rfl rfl rfl trivial ?_
     obtain ⟨hg5, h⟩ := grd_inv h
     refine cVal tt rfl (wNone rfl) rfl rfl rfl hg5 ?_
     refine cVal tt rfl (wNone rfl) rfl rfl rfl trivial ?_
     refine cPure (wNone rfl) (pNeP eqP_impl_Bar rfl rfl rfl) rfl rfl ?_
     refine cNil ?_
     change VC _ _ _ _
     refine vCond rfl (fun hb6 => ?_) (fun hb6 => ?_)
     ·replace h := cnd_t hb6 h
      refine vSeq ?_
      refine vRegion ?_
      refine oVal tt rfl rfl rfl rfl rfl trivial ?_
      refine vNil ?_
      change VC _ _ _ _
      refine vRet ?_
      change ∃ _, _
      cases h
      exact ⟨[], _, rfl, trivial, rfl, (.eq rfl), rfl⟩
     ·replace h := cnd_f hb6 h
      refine vSkip ?_
      change VC _ _ _ _
      refine vRegion ?_
      refine oVal tt rfl rfl rfl rfl rfl trivial ?_
      obtain ⟨hg7, h⟩ := grd_inv h
      refine oVal tt rfl rfl rfl rfl rfl hg7 ?_
      refine oVal tt rfl rfl rfl rfl rfl trivial ?_
      refine vNil ?_
      change ∃ _, _
      exact ⟨(i3 + (1 : Int)), (En.of ⟨rfl, rfl, rfl, trivial⟩ trivial ⟨rfl, rfl, trivial⟩), h⟩
    ·replace h := cnd_f hb3 h
     refine vExit ?_
     change ∃ _, _
     exact ⟨(), (En.of trivial trivial trivial), h⟩
end Go.Proofs.Ytcljhpldfanhkaa
namespace Go.Proofs.Ytcljhpldfanhkaa
open Go.RowKit
def S_l27Any_l1 (N : Nat) (c_0 : Cur) (v1 : Pin × Int × Int) (k : ((List (Int × Int)) × Int × Int × Int) → Option (Pin × Int × Int)) : Nat → ((List (Int × Int)) × Int × Int × Int × Int) → Option (Pin × Int × Int)
 | 0, _ => none
 | n + 1, (l41, n42, c43, c44, c45) =>
  cnd (decide (n42 > (0 : Int))) (
   (S_l1Below N (⟨c_0.b, c43, c44⟩ : Cur) (max (1 : Int) c45)).bind fun v53 =>
   (S_l1Below N (⟨c_0.b, v53.2.1, v53.2.2⟩ : Cur) (max (1 : Int) c45)).bind fun v54 =>
   (S_CountBar N (⟨c45, l41⟩ : Grf) v53.1 v54.1).bind fun v55 =>
   cnd (v55 == (0 : Int)) (
    (S_l2Has N v1.1.ground v53.1).bind fun v56 =>
    cnd v56 (
     (S_l2Has N v1.1.ground v54.1).bind fun v57 =>
     cnd (!v57) (
      (S_AddBar N (⟨c45, l41⟩ : Grf) v53.1 v54.1).bind fun v58 =>
      grd (Rg64 (n42 - (1 : Int))) <|
      S_l27Any_l1 N c_0 v1 k n (v58.1.bars, (n42 - (1 : Int)), v54.2.1, v54.2.2, v58.1.n)) (
      grd (Rg64 (n42 - (1 : Int))) <|
      S_l27Any_l1 N c_0 v1 k n (l41, (n42 - (1 : Int)), v54.2.1, v54.2.2, c45))) (
     (S_AddBar N (⟨c45, l41⟩ : Grf) v53.1 v54.1).bind fun v59 =>
     grd (Rg64 (n42 - (1 : Int))) <|
     S_l27Any_l1 N c_0 v1 k n (v59.1.bars, (n42 - (1 : Int)), v54.2.1, v54.2.2, v59.1.n))) (
    grd (Rg64 (n42 - (1 : Int))) <|
    S_l27Any_l1 N c_0 v1 k n (l41, (n42 - (1 : Int)), v54.2.1, v54.2.2, c45))) (
   k (l41, c43, c44, c45))
def S_l27Any (N : Nat) (c_0 : Cur) : Option (Pin × Int × Int) :=
 (S_l20Any N c_0).bind fun v1 =>
 (S_l1Below N (⟨c_0.b, v1.2.1, v1.2.2⟩ : Cur) (3 : Int)).bind fun v2 =>
 S_l27Any_l1 N c_0 v1 (fun (x : (List (Int × Int)) × Int × Int × Int) =>
   match x with
   | (l29, c30, c31, c32) =>
    some ((⟨⟨c32, l29⟩, v1.1.ground⟩ : Pin), c30, c31)) N (v1.1.g.bars, v2.1, v2.2.1, v2.2.2, v1.1.g.n)
set_option maxRecDepth 20000 in
set_option maxHeartbeats 1600000 in
theorem S_l27Any_w (N : Nat) (c_0 : Cur) (r : Pin × Int × Int) (h : S_l27Any N c_0 = some r) : MCall Try.prog 165 [.ptr 1000000 0] [900101, 900102] [1000000] [(111, .pairs []), (3, .ints [])] [(111, .pairs r.1.g.bars), (3, .ints r.1.ground)] [[.ro false (.bytes c_0.b), .int c_0.i, .int c_0.h]] [[.ro false (.bytes c_0.b), .int r.2.1, .int r.2.2]] (.agg [.int r.1.g.n, .row 900101 0 r.1.g.bars.length, .row 900102 0 r.1.ground.length]) := by
 unfold S_l27Any at h
 refine mcall_intro (TT := TT) tt Try.func165 rfl rfl Try.ntmps165 (congrArg Array.toList Try.results165) rfl rfl rfl rfl rfl fun w0 O0 => ?_
 refine vSeq ?_
 refine vRegion ?_
 refine oAlloc tt rfl rfl rfl rfl rfl rfl rfl rfl rfl ?_
 refine vNil ?_
 change VC _ _ _ _
 refine vSeq ?_
 refine vRegion ?_
 refine oVal tt rfl rfl rfl rfl rfl trivial ?_
 refine vEnO (En.zero 9503 111 (.pairs []) rfl rfl) ?_
 refine vEnO (En.zero 9504 3 (.ints []) rfl rfl) ?_
 obtain ⟨v1, hc1, h⟩ := bind_inv h
 refine oMCall (S_l20Any_w N c_0 v1 hc1) [9503, 9504] [1000000] [1100, 1101] rfl rfl rfl rfl rfl rfl ⟨rfl, rfl, trivial⟩ ⟨rfl, trivial⟩ ⟨⟨rfl, rfl⟩, trivial⟩ ?_
 refine oAlloc tt rfl rfl rfl rfl rfl rfl rfl rfl rfl ?_
 refine oStore tt rfl rfl rfl rfl rfl rfl rfl rfl rfl rfl rfl ⟨trivial, trivial, trivial, trivial⟩ ?_
 refine vNil ?_
 change VC _ _ _ _
 iterate 2 refine vSeq ?_
 refine vRegion ?_
 refine oVal tt rfl rfl rfl rfl rfl trivial ?_
 obtain ⟨v2, hc2, h⟩ := bind_inv h
 refine oMCall (S_l1Below_w N (⟨c_0.b, v1.2.1, v1.2.2⟩ : Cur) (3 : Int) v2 hc2) [] [1000000] [] rfl rfl rfl rfl rfl rfl trivial ⟨rfl, trivial⟩ ⟨⟨rfl, rfl⟩, ⟨rfl, rfl⟩, trivial⟩ ?_
 refine oVal tt rfl rfl rfl rfl rfl trivial ?_
 refine vNil ?_
 change VC _ _ _ _
 refine vJoin (F := fun k => S_l27Any_l1 N c_0 v1 k) h (α := (List (Int × Int)) × Int × Int × Int) (J := fun | (l29, c30, c31, c32) => (⟨[(2, .ptr 2 0), (3, .ptr 3 0)], [(1100, some (111, .pairs l29)), (1101, some (3, .ints v1.1.ground))], [(1000000, some [.ro false (.bytes c_0.b), .int c30, .int c31]), (2, some [.int (0 : Int), .nil, .nil]), (3, some [.int c32, .row 1100 0 l29.length, .row 1101 0 v1.1.ground.length])]⟩ : PS)) ?_ ?_
 ·rintro ⟨l29, c30, c31, c32⟩ h
  show VC _ _ _ (⟨[(2, .ptr 2 0), (3, .ptr 3 0)], [(1100, some (111, .pairs l29)), (1101, some (3, .ints v1.1.ground))], [(1000000, some [.ro false (.bytes c_0.b), .int c30, .int c31]), (2, some [.int (0 : Int), .nil, .nil]), (3, some [.int c32, .row 1100 0 l29.length, .row 1101 0 v1.1.ground.length])]⟩ : PS)
  refine vSeq ?_
  refine vRegion ?_
  refine oVal tt rfl rfl rfl rfl rfl trivial ?_
  refine oStore tt rfl rfl rfl rfl rfl rfl rfl rfl rfl rfl rfl ⟨trivial, trivial, trivial, trivial⟩ ?_
  refine vNil ?_
  change VC _ _ _ _
  refine vRet ?_
  change ∃ _, _
  cases h
  exact ⟨[1100, 1101], rfl, ⟨rfl, rfl, trivial⟩, ⟨rfl, trivial⟩, rfl⟩
 ·intro k h
  refine vBlock ?_
  refine vLoopS (α := (List (Int × Int)) × Int × Int × Int × Int) (fun | (l41, n42, c43, c44, c45) => (⟨[(0, .ptr 1000000 0), (2, .ptr 2 0), (3, .ptr 3 0), (4, .int n42)], [(1100, some (111, .pairs l41)), (1101, some (3, .ints v1.1.ground))], [(1000000, some [.ro false (.bytes c_0.b), .int c43, .int c44]), (2, some [.int (0 : Int), .nil, .nil]), (3, some [.int c45, .row 1100 0 l41.length, .row 1101 0 v1.1.ground.length])]⟩ : PS)) (S_l27Any_l1 N c_0 v1 k) h (En.of ⟨rfl, rfl, rfl, rfl, trivial⟩ ⟨rfl, rfl, trivial⟩ ⟨rfl, rfl, rfl, trivial⟩) (fun _ => rfl) ?_
  rintro n ⟨l41, n42, c43, c44, c45⟩ h
  rw [S_l27Any_l1] at h
  show VC _ _ _ (⟨[(0, .ptr 1000000 0), (2, .ptr 2 0), (3, .ptr 3 0), (4, .int n42)], [(1100, some (111, .pairs l41)), (1101, some (3, .ints v1.1.ground))], [(1000000, some [.ro false (.bytes c_0.b), .int c43, .int c44]), (2, some [.int (0 : Int), .nil, .nil]), (3, some [.int c45, .row 1100 0 l41.length, .row 1101 0 v1.1.ground.length])]⟩ : PS)
  iterate 2 refine vSeq ?_
  refine vRegion ?_
  iterate 2 refine oVal tt rfl rfl rfl rfl rfl trivial ?_
  refine vNil ?_
  change VC _ _ _ _
  refine vCond rfl (fun hb3 => ?_) (fun hb3 => ?_)
  ·replace h := cnd_t hb3 h
   refine vSkip ?_
   change VC _ _ _ _
   refine vSeq ?_
   refine vBlock ?_
   refine vSeq ?_
   refine vRegion ?_
   iterate 5 refine oVal tt rfl rfl rfl rfl rfl trivial ?_
   obtain ⟨v53, hc4, h⟩ := bind_inv h
   refine oMCall (S_l1Below_w N (⟨c_0.b, c43, c44⟩ : Cur) (max (1 : Int) c45) v53 hc4) [] [1000000] [] rfl rfl rfl rfl rfl rfl trivial ⟨rfl, trivial⟩ ⟨⟨rfl, rfl⟩, ⟨rfl, rfl⟩, trivial⟩ ?_
   refine oVal tt rfl rfl rfl rfl rfl trivial ?_
   refine vNil ?_
   change VC _ _ _ _
   refine vSeq ?_
   refine vRegion ?_
   iterate 5 refine oVal tt rfl rfl rfl rfl rfl trivial ?_
   obtain ⟨v54, hc5, h⟩ := bind_inv h
   refine oMCall (S_l1Below_w N (⟨c_0.b, v53.2.1, v53.2.2⟩ : Cur) (max (1 : Int) c45) v54 hc5) [] [1000000] [] rfl rfl rfl rfl rfl rfl trivial ⟨rfl, trivial⟩ ⟨⟨rfl, rfl⟩, ⟨rfl, rfl⟩, trivial⟩ ?_
   refine oVal tt rfl rfl rfl rfl rfl trivial ?_
   refine vNil ?_
   change VC _ _ _ _
   refine vSeq ?_
   refine vRegion ?_
   iterate 4 refine oVal tt rfl rfl rfl rfl rfl trivial ?_
   obtain ⟨v55, hc6, h⟩ := bind_inv h
   refine oCall (S_CountBar_w N (⟨c45, l41⟩ : Grf) v53.1 v54.1 v55 hc6) rfl rfl rfl rfl rfl rfl rfl rfl ⟨⟨rfl, (.inl ⟨rfl, rfl⟩), trivial⟩, rfl, rfl, trivial⟩ ?_
   iterate 2 refine oVal tt rfl rfl rfl rfl rfl trivial ?_
   refine oSplit rfl rfl rfl (fun hb7 => ?_) (fun hb7 => ?_)
   ·replace h := cnd_t hb7 h
    iterate 3 refine oValG tt rfl rfl rfl rfl rfl hb7 rfl rfl rfl trivial ?_
    obtain ⟨v56, hc8, h⟩ := bind_inv h
    refine oCallG (S_l2Has_w N v1.1.ground v53.1 v56 hc8) rfl rfl rfl rfl hb7 rfl rfl rfl rfl rfl rfl rfl ⟨(.inl ⟨rfl, rfl⟩), rfl, trivial⟩ ?_
    refine oValG tt rfl rfl rfl rfl rfl hb7 rfl rfl rfl trivial ?_
    refine oSplit rfl rfl rfl (fun hb9 => ?_) (fun hb9 => ?_)
    ·replace h := cnd_t hb9 h
     iterate 3 refine oValG tt rfl rfl rfl rfl rfl hb9 rfl rfl rfl trivial ?_
     obtain ⟨v57, hc10, h⟩ := bind_inv h
     refine oCallG (S_l2Has_w N v1.1.ground v54.1 v57 hc10) rfl rfl rfl rfl hb9 rfl rfl rfl rfl rfl rfl rfl ⟨(.inl ⟨rfl, rfl⟩), rfl, trivial⟩ ?_
     refine oPickGT rfl rfl rfl rfl hb7 rfl rfl rfl rfl hb9 rfl ?_
     refine oValG tt rfl rfl rfl rfl rfl hb7 rfl rfl rfl trivial ?_
     refine oPick rfl rfl rfl rfl rfl hb7 rfl ?_
     refine vNil ?_
     change VC _ _ _ _
     refine vCond rfl (fun hb11 => ?_) (fun hb11 => ?_)
     ·replace h := cnd_t hb11 h
      refine vSeq ?_
      refine vRegion ?_
      iterate 4 refine oVal tt rfl rfl rfl rfl rfl trivial ?_
      obtain ⟨v58, hc12, h⟩ := bind_inv h
      refine oCall (S_AddBar_w N (⟨c45, l41⟩ : Grf) v53.1 v54.1 v58 hc12) rfl rfl rfl rfl rfl rfl rfl rfl ⟨⟨rfl, (.inl ⟨rfl, rfl⟩), trivial⟩, rfl, rfl, trivial⟩ ?_
      iterate 3 refine oVal tt rfl rfl rfl rfl rfl trivial ?_
      refine oAlloc tt rfl rfl rfl rfl rfl rfl rfl rfl rfl ?_
      refine oStore tt rfl rfl rfl rfl rfl rfl rfl rfl rfl rfl rfl ⟨trivial, trivial, trivial⟩ ?_
      refine oVal tt rfl rfl rfl rfl rfl trivial ?_
      refine vNil ?_
      change VC _ _ _ _
      refine vRegion ?_
      iterate 2 refine oVal tt rfl rfl rfl rfl rfl trivial ?_
      refine oStore tt rfl rfl rfl rfl rfl rfl rfl rfl rfl rfl rfl ⟨trivial, trivial, trivial⟩ ?_
      refine vNil ?_
      change VC _ _ _ _
      refine vRegion ?_
      refine oVal tt rfl rfl rfl rfl rfl trivial ?_
      obtain ⟨hg13, h⟩ := grd_inv h
      refine oVal tt rfl rfl rfl rfl rfl hg13 ?_
      refine oVal tt rfl rfl rfl rfl rfl trivial ?_
      refine vNil ?_
      change ∃ _, _
      exact ⟨(v58.1.bars, (n42 - (1 : Int)), v54.2.1, v54.2.2, v58.1.n), (En.ren [1100] [1530] rfl ⟨.inr rfl, .inr rfl, .inr rfl, .inr rfl, trivial⟩ ⟨.inr rfl, .inr rfl, trivial⟩ ⟨.inr ⟨_, _, rfl, rfl, ⟨.inr rfl, .inr rfl, .inr rfl, trivial⟩⟩, .inr ⟨_, _, rfl, rfl, ⟨.inr rfl, .inr rfl, .inr rfl, trivial⟩⟩, .inr ⟨_, _, rfl, rfl, ⟨.inr rfl, .inr rfl, .inr rfl, trivial⟩⟩, trivial⟩), h⟩
     ·replace h := cnd_f hb11 h
      refine vSkip ?_
      change VC _ _ _ _
      refine vRegion ?_
      refine oVal tt rfl rfl rfl rfl rfl trivial ?_
      obtain ⟨hg14, h⟩ := grd_inv h
      refine oVal tt rfl rfl rfl rfl rfl hg14 ?_
      refine oVal tt rfl rfl rfl rfl rfl trivial ?_
      refine vNil ?_
      change ∃ _, _
      exact ⟨(l41, (n42 - (1 : Int)), v54.2.1, v54.2.2, c45), (En.of ⟨rfl, rfl, rfl, rfl, trivial⟩ ⟨rfl, rfl, trivial⟩ ⟨rfl, rfl, rfl, trivial⟩), h⟩
    ·replace h := cnd_f hb9 h
     iterate 4 refine oNoT rfl rfl rfl rfl hb9 rfl rfl ?_
     refine oPickGF rfl rfl rfl rfl hb7 rfl rfl rfl rfl hb9 rfl ?_
     refine oValG tt rfl rfl rfl rfl rfl hb7 rfl rfl rfl trivial ?_
     refine oPick rfl rfl rfl rfl rfl hb7 rfl ?_
     refine vNil ?_
     change VC _ _ _ _
     refine vCondT rfl rfl ?_
     refine vSeq ?_
     refine vRegion ?_
     iterate 4 refine oVal tt rfl rfl rfl rfl rfl trivial ?_
     obtain ⟨v59, hc15, h⟩ := bind_inv h
     refine oCall (S_AddBar_w N (⟨c45, l41⟩ : Grf) v53.1 v54.1 v59 hc15) rfl rfl rfl rfl rfl rfl rfl rfl ⟨⟨rfl, (.inl ⟨rfl, rfl⟩), trivial⟩, rfl, rfl, trivial⟩ ?_
     iterate 3 refine oVal tt rfl rfl rfl rfl rfl trivial ?_
     refine oAlloc tt rfl rfl rfl rfl rfl rfl rfl rfl rfl ?_
     refine oStore tt rfl rfl rfl rfl rfl rfl rfl rfl rfl rfl rfl ⟨trivial, trivial, trivial⟩ ?_
     refine oVal tt rfl rfl rfl rfl rfl trivial ?_
     refine vNil ?_
     change VC _ _ _ _
     refine vRegion ?_
     iterate 2 refine oVal tt rfl rfl rfl rfl rfl trivial ?_
     refine oStore tt rfl rfl rfl rfl rfl rfl rfl rfl rfl rfl rfl ⟨trivial, trivial, trivial⟩ ?_
     refine vNil ?_
     change VC _ _ _ _
     refine vRegion ?_
     refine oVal tt rfl rfl rfl rfl rfl trivial ?_
     obtain ⟨hg16, h⟩ := grd_inv h
     refine oVal tt rfl rfl rfl rfl rfl hg16 ?_
     refine oVal tt rfl rfl rfl rfl rfl trivial ?_
     refine vNil ?_
     change ∃ _, _
     exact ⟨(v59.1.bars, (n42 - (1 : Int)), v54.2.1, v54.2.2, v59.1.n), (En.ren [1100] [1530] rfl ⟨.inr rfl, .inr rfl, .inr rfl, .inr rfl, trivial⟩ ⟨.inr rfl, .inr rfl, trivial⟩ ⟨.inr ⟨_, _, rfl, rfl, ⟨.inr rfl, .inr rfl, .inr rfl, trivial⟩⟩, .inr ⟨_, _, rfl, rfl, ⟨.inr rfl, .inr rfl, .inr rfl, trivial⟩⟩, .inr ⟨_, _, rfl, rfl, ⟨.inr rfl, .inr rfl, .inr rfl, trivial⟩⟩, trivial⟩), h⟩
   ·replace h := cnd_f hb7 h
    iterate 5 refine oNoT rfl rfl rfl rfl hb7 rfl rfl ?_
    iterate 4 refine oNoU rfl rfl rfl rfl rfl ?_
    iterate 2 refine oNoT rfl rfl rfl rfl hb7 rfl rfl ?_
    refine oPickF rfl rfl rfl rfl rfl hb7 rfl ?_
    refine vNil ?_
    change VC _ _ _ _
    refine vCondF rfl rfl ?_
    refine vSkip ?_
    change VC _ _ _ _
    refine vRegion ?_
    refine oVal tt rfl rfl rfl rfl rfl trivial ?_
    obtain ⟨hg17, h⟩ := grd_inv h
    refine oVal tt rfl rfl rfl rfl rfl hg17 ?_
    refine oVal tt rfl rfl rfl rfl rfl trivial ?_
    refine vNil ?_
    change ∃ _, _
    exact ⟨(l41, (n42 - (1 : Int)), v54.2.1, v54.2.2, c45), (En.of ⟨rfl, rfl, rfl, rfl, trivial⟩ ⟨rfl, rfl, trivial⟩ ⟨rfl, rfl, rfl, trivial⟩), h⟩
  ·replace h := cnd_f hb3 h
   refine vExit ?_
   change ∃ _, _
   exact ⟨(l41, c43, c44, c45), (En.of ⟨rfl, rfl, trivial⟩ ⟨rfl, rfl, trivial⟩ ⟨rfl, rfl, rfl, trivial⟩), h⟩
def S_DrawRemoveAll (N : Nat) (code_0 : List Int) : Option (Pin) :=
 (S_l1New N code_0).bind fun v1 =>
 (S_l27Any N v1).bind fun v2 =>
 some (⟨⟨v2.1.g.n, v2.1.g.bars⟩, v2.1.ground⟩ : Pin)
set_option maxRecDepth 20000 in
set_option maxHeartbeats 1600000 in
theorem S_DrawRemoveAll_w (N : Nat) (code_0 : List Int) (r : Pin) (h : S_DrawRemoveAll N code_0 = some r) : PCall Try.prog 94 [.ro false (.bytes code_0)] [(111, .pairs r.g.bars), (3, .ints r.ground)] (.agg [.int r.g.n, .row 0 0 r.g.bars.length, .row 1 0 r.ground.length]) := by
 unfold S_DrawRemoveAll at h
 refine pcall_intro (TT := TT) tt Try.func94 rfl rfl Try.ntmps94 (congrArg Array.toList Try.results94) rfl rfl fun w0 => ?_
 refine vSeq ?_
 refine vRegion ?_
 refine oAlloc tt rfl rfl rfl rfl rfl rfl rfl rfl rfl ?_
 refine vNil ?_
 change VC _ _ _ _
 refine vSeq ?_
 refine vRegion ?_
 refine oVal tt rfl rfl rfl rfl rfl trivial ?_
 obtain ⟨v1, hc1, h⟩ := bind_inv h
 refine oCallB (S_l1New_w N code_0 v1 hc1) rfl rfl rfl rfl rfl ⟨rfl, rfl, trivial⟩ ?_
 refine vEnO (En.zero 9503 111 (.pairs []) rfl rfl) ?_
 refine vEnO (En.zero 9504 3 (.ints []) rfl rfl) ?_
 obtain ⟨v2, hc2, h⟩ := bind_inv h
 refine oMCall (S_l27Any_w N v1 v2 hc2) [9503, 9504] [4] [1050, 1051] rfl rfl rfl rfl rfl rfl ⟨rfl, rfl, trivial⟩ ⟨rfl, trivial⟩ ⟨⟨rfl, rfl⟩, trivial⟩ ?_
 refine oStore tt rfl rfl rfl rfl rfl rfl rfl rfl rfl rfl rfl ⟨trivial, trivial, trivial, trivial⟩ ?_
 refine vNil ?_
 change VC _ _ _ _
 refine vRet ?_
 change ∃ _, _
 cases h
 exact ⟨[1050, 1051], _, rfl, ⟨rfl, rfl, trivial⟩, rfl, (.eq rfl), rfl⟩
def L_samePinned (N : Nat) (a_0 : Pin) (b_1 : Pin) : Option (Bool) :=
 (S_EqualGraphs N a_0.g b_1.g).bind fun v1 =>
 cnd v1 (
  (L_sameInts N a_0.ground b_1.ground).bind fun v2 =>
  some v2) (
  some false)
set_option maxRecDepth 20000 in
set_option maxHeartbeats 1600000 in
theorem L_samePinned_w (N : Nat) (a_0 : Pin) (b_1 : Pin) (r : Bool) (h : L_samePinned N a_0 b_1 = some r) : PCall Try.prog 98 [pD a_0, pD b_1] [] (.bool r) := by
 unfold L_samePinned at h
 refine pcall_intro (TT := TT) tt Try.func98 rfl rfl Try.ntmps98 (congrArg Array.toList Try.results98) rfl rfl fun w0 => ?_
 refine vSeq ?_
 refine vRegion ?_
 iterate 2 refine oBox rfl rfl rfl rfl rfl rfl rfl rfl rfl ?_
 refine oVal tt rfl rfl rfl rfl rfl trivial ?_
 refine vNil ?_
 change VC _ _ _ _
 refine vSeq ?_
 refine vRegion ?_
 iterate 4 refine oVal tt rfl rfl rfl rfl rfl trivial ?_
 obtain ⟨v1, hc1, h⟩ := bind_inv h
 refine oCall (S_EqualGraphs_w N a_0.g b_1.g v1 hc1) rfl rfl rfl rfl rfl rfl rfl rfl ⟨⟨rfl, rfl, trivial⟩, ⟨rfl, rfl, trivial⟩, trivial⟩ ?_
 refine oVal tt rfl rfl rfl rfl rfl trivial ?_
 refine oSplit rfl rfl rfl (fun hb2 => ?_) (fun hb2 => ?_)
 ·replace h := cnd_t hb2 h
  iterate 4 refine oValG tt rfl rfl rfl rfl rfl hb2 rfl rfl rfl trivial ?_
  obtain ⟨v2, hc3, h⟩ := bind_inv h
  refine oCallG (L_sameInts_w N a_0.ground b_1.ground v2 hc3) rfl rfl rfl rfl hb2 rfl rfl rfl rfl rfl rfl rfl ⟨rfl, rfl, trivial⟩ ?_
  refine oPick rfl rfl rfl rfl rfl hb2 rfl ?_
  refine oVal tt rfl rfl rfl rfl rfl trivial ?_
  refine vNil ?_
  change VC _ _ _ _
  refine vRet ?_
  change ∃ _, _
  cases h
  exact ⟨[], _, rfl, trivial, rfl, (.eq rfl), rfl⟩
 ·replace h := cnd_f hb2 h
  iterate 5 refine oNoT rfl rfl rfl rfl hb2 rfl rfl ?_
  refine oPickF rfl rfl rfl rfl rfl hb2 rfl ?_
  refine oVal tt rfl rfl rfl rfl rfl trivial ?_
  refine vNil ?_
  change VC _ _ _ _
  refine vRet ?_
  change ∃ _, _
  cases h
  exact ⟨[], _, rfl, trivial, rfl, (.eq rfl), rfl⟩
def S_l27Both (N : Nat) (code_0 : List Int) : Option (Pin × Int) :=
 (S_l1New N code_0).bind fun v1 =>
 (S_l27Any N v1).bind fun v2 =>
 grd (Rg64 ((v2.1.g.bars.length : Int) + (2 : Int))) <|
 (S_l1Below N (⟨v1.b, v2.2.1, v2.2.2⟩ : Cur) ((v2.1.g.bars.length : Int) + (2 : Int))).bind fun v3 =>
 grd (Rg64 (v3.1 - (1 : Int))) <|
 some ((⟨⟨v2.1.g.n, v2.1.g.bars⟩, v2.1.ground⟩ : Pin), (v3.1 - (1 : Int)))
set_option maxRecDepth 20000 in
set_option maxHeartbeats 1600000 in
theorem S_l27Both_w (N : Nat) (code_0 : List Int) (r : Pin × Int) (h : S_l27Both N code_0 = some r) : PCall Try.prog 170 [.ro false (.bytes code_0)] [(111, .pairs r.1.g.bars), (3, .ints r.1.ground)] (.tup [.agg [.int r.1.g.n, .row 0 0 r.1.g.bars.length, .row 1 0 r.1.ground.length], .int r.2]) := by
 unfold S_l27Both at h
 refine pcall_intro (TT := TT) tt Try.func170 rfl rfl Try.ntmps170 (congrArg Array.toList Try.results170) rfl rfl fun w0 => ?_
 refine vSeq ?_
 refine vRegion ?_
 refine oAlloc tt rfl rfl rfl rfl rfl rfl rfl rfl rfl ?_
 refine oVal tt rfl rfl rfl rfl rfl trivial ?_
 refine vNil ?_
 change VC _ _ _ _
 refine vSeq ?_
 refine vRegion ?_
 refine oVal tt rfl rfl rfl rfl rfl trivial ?_
 obtain ⟨v1, hc1, h⟩ := bind_inv h
 refine oCallB (S_l1New_w N code_0 v1 hc1) rfl rfl rfl rfl rfl ⟨rfl, rfl, trivial⟩ ?_
 refine oVal tt rfl rfl rfl rfl rfl trivial ?_
 refine vNil ?_
 change VC _ _ _ _
 refine vSeq ?_
 refine vRegion ?_
 refine oVal tt rfl rfl rfl rfl rfl trivial ?_
 refine vEnO (En.zero 9503 111 (.pairs []) rfl rfl) ?_
 refine vEnO (En.zero 9504 3 (.ints []) rfl rfl) ?_
 obtain ⟨v2, hc2, h⟩ := bind_inv h
 refine oMCall (S_l27Any_w N v1 v2 hc2) [9503, 9504] [7] [1090, 1091] rfl rfl rfl rfl rfl rfl ⟨rfl, rfl, trivial⟩ ⟨rfl, trivial⟩ ⟨⟨rfl, rfl⟩, trivial⟩ ?_
 refine oAlloc tt rfl rfl rfl rfl rfl rfl rfl rfl rfl ?_
 refine oStore tt rfl rfl rfl rfl rfl rfl rfl rfl rfl rfl rfl ⟨trivial, trivial, trivial, trivial⟩ ?_
 refine vNil ?_
 change VC _ _ _ _
 refine vSeq ?_
 refine vRegionN 10 [7, 1070000007, 1090000002] [0, 0, 0, 4, 12, 28, 60, 126, 254, 255, 1023] (by kernel_rfl) (by kernel_rfl) (by kernel_rfl) (by kernel_rfl) (by kernel_rfl) rfl (by rfl) ?_
 iterate 6 refine nVal tt rfl (wNone rfl) rfl rfl rfl rfl rfl trivial ?_
 obtain ⟨hg3, h⟩ := grd_inv h
 refine nVal tt rfl (wNone rfl) rfl rfl rfl rfl rfl hg3 ?_
 obtain ⟨v3, hc4, h⟩ := bind_inv h
 refine nMCall (rids := []) (bids := []) (pids := []) (wNone rfl) (S_l1Below_w N (⟨v1.b, v2.2.1, v2.2.2⟩ : Cur) ((v2.1.g.bars.length : Int) + (2 : Int)) v3 hc4) [] [7] [] rfl rfl rfl rfl rfl (by first | rfl | kernel_rfl) rfl rfl rfl rfl rfl (by first | rfl | kernel_rfl)  trivial ⟨rfl, trivial⟩ ⟨⟨rfl, rfl⟩, ⟨rfl, rfl⟩, trivial⟩ ?_
 obtain ⟨hg5, h⟩ := grd_inv h
 refine nVal tt rfl (wNone rfl) rfl rfl rfl rfl rfl hg5 ?_
 refine nStoreB tt (wNone rfl) rfl rfl rfl rfl rfl rfl rfl rfl rfl rfl rfl rfl ?_
 refine nNil ?_
 change VO _ _ _ _ _
 refine oVal tt rfl rfl rfl rfl rfl trivial ?_
 refine vNil ?_
 change VC _ _ _ _
 refine vRet ?_
 change ∃ _, _
 cases h
 exact ⟨[1090, 1091], _, rfl, ⟨rfl, rfl, trivial⟩, rfl, (.eq rfl), rfl⟩
def S_DrawSafeToRemove (N : Nat) (code_0 : List Int) : Option (Pin × Int) :=
 (S_l27Both N code_0).bind fun v1 =>
 some ((⟨⟨v1.1.g.n, v1.1.g.bars⟩, v1.1.ground⟩ : Pin), v1.2)
set_option maxRecDepth 20000 in
set_option maxHeartbeats 1600000 in
theorem S_DrawSafeToRemove_w (N : Nat) (code_0 : List Int) (r : Pin × Int) (h : S_DrawSafeToRemove N code_0 = some r) : PCall Try.prog 104 [.ro false (.bytes code_0)] [(111, .pairs r.1.g.bars), (3, .ints r.1.ground)] (.tup [.agg [.int r.1.g.n, .row 0 0 r.1.g.bars.length, .row 1 0 r.1.ground.length], .int r.2]) := by
 unfold S_DrawSafeToRemove at h
 refine pcall_intro (TT := TT) tt Try.func104 rfl rfl Try.ntmps104 (congrArg Array.toList Try.results104) rfl rfl fun w0 => ?_
 refine vSeq ?_
 refine vRegion ?_
 refine oAlloc tt rfl rfl rfl rfl rfl rfl rfl rfl rfl ?_
 refine oVal tt rfl rfl rfl rfl rfl trivial ?_
 refine vNil ?_
 change VC _ _ _ _
 refine vSeq ?_
 refine vRegion ?_
 refine oVal tt rfl rfl rfl rfl rfl trivial ?_
 obtain ⟨v1, hc1, h⟩ := bind_inv h
 refine oCall (S_l27Both_w N code_0 v1 hc1) rfl rfl rfl rfl rfl rfl rfl rfl ⟨rfl, trivial⟩ ?_
 iterate 3 refine oVal tt rfl rfl rfl rfl rfl trivial ?_
 refine oAlloc tt rfl rfl rfl rfl rfl rfl rfl rfl rfl ?_
 refine oStore tt rfl rfl rfl rfl rfl rfl rfl rfl rfl rfl rfl ⟨trivial, trivial, trivial, trivial⟩ ?_
 refine oVal tt rfl rfl rfl rfl rfl trivial ?_
 refine vNil ?_
 change VC _ _ _ _
 refine vSeq ?_
 refine vRegion ?_
 iterate 2 refine oVal tt rfl rfl rfl rfl rfl trivial ?_
 refine oStore tt rfl rfl rfl rfl rfl rfl rfl rfl rfl rfl rfl ⟨trivial, trivial, trivial, trivial⟩ ?_
 refine oVal tt rfl rfl rfl rfl rfl trivial ?_
 refine vNil ?_
 change VC _ _ _ _
 refine vRet ?_
 change ∃ _, _
 cases h
 exact ⟨[1080, 1081], _, rfl, ⟨rfl, rfl, trivial⟩, rfl, (.eq rfl), rfl⟩
def S_DrawFallsWith (N : Nat) (code_0 : List Int) : Option (Pin × Int) :=
 (S_l27Both N code_0).bind fun v1 =>
 some ((⟨⟨v1.1.g.n, v1.1.g.bars⟩, v1.1.ground⟩ : Pin), v1.2)
set_option maxRecDepth 20000 in
set_option maxHeartbeats 1600000 in
theorem S_DrawFallsWith_w (N : Nat) (code_0 : List Int) (r : Pin × Int) (h : S_DrawFallsWith N code_0 = some r) : PCall Try.prog 105 [.ro false (.bytes code_0)] [(111, .pairs r.1.g.bars), (3, .ints r.1.ground)] (.tup [.agg [.int r.1.g.n, .row 0 0 r.1.g.bars.length, .row 1 0 r.1.ground.length], .int r.2]) := by
 unfold S_DrawFallsWith at h
 refine pcall_intro (TT := TT) tt Try.func105 rfl rfl Try.ntmps105 (congrArg Array.toList Try.results105) rfl rfl fun w0 => ?_
 refine vSeq ?_
 refine vRegion ?_
 refine oAlloc tt rfl rfl rfl rfl rfl rfl rfl rfl rfl ?_
 refine oVal tt rfl rfl rfl rfl rfl trivial ?_
 refine vNil ?_
 change VC _ _ _ _
 refine vSeq ?_
 refine vRegion ?_
 refine oVal tt rfl rfl rfl rfl rfl trivial ?_
 obtain ⟨v1, hc1, h⟩ := bind_inv h
 refine oCall (S_l27Both_w N code_0 v1 hc1) rfl rfl rfl rfl rfl rfl rfl rfl ⟨rfl, trivial⟩ ?_
 iterate 3 refine oVal tt rfl rfl rfl rfl rfl trivial ?_
 refine oAlloc tt rfl rfl rfl rfl rfl rfl rfl rfl rfl ?_
 refine oStore tt rfl rfl rfl rfl rfl rfl rfl rfl rfl rfl rfl ⟨trivial, trivial, trivial, trivial⟩ ?_
 refine oVal tt rfl rfl rfl rfl rfl trivial ?_
 refine vNil ?_
 change VC _ _ _ _
 refine vSeq ?_
 refine vRegion ?_
 iterate 2 refine oVal tt rfl rfl rfl rfl rfl trivial ?_
 refine oStore tt rfl rfl rfl rfl rfl rfl rfl rfl rfl rfl rfl ⟨trivial, trivial, trivial, trivial⟩ ?_
 refine oVal tt rfl rfl rfl rfl rfl trivial ?_
 refine vNil ?_
 change VC _ _ _ _
 refine vRet ?_
 change ∃ _, _
 cases h
 exact ⟨[1080, 1081], _, rfl, ⟨rfl, rfl, trivial⟩, rfl, (.eq rfl), rfl⟩
end Go.Proofs.Ytcljhpldfanhkaa
namespace Go.Proofs.Ytcljhpldfanhkaa
open Go.RowKit
variable {N : Nat}
theorem count_d (hN : 4000000 ≤ N) {g : Grf} (hl : g.bars.length ≤ 1000) (a b : Int) : Ok (S_CountBar N g a b) fun _ => True := by
 unfold S_CountBar
 have key : ∀ (fuel i : Nat) (c : Int), i ≤ g.bars.length → g.bars.length < fuel + i → 0 ≤ c → c ≤ i → Ok (S_CountBar_l1 N g a b (fun (n3 : Int) => some n3) fuel (c, (i : Int))) fun _ => True := by
  intro fuel
  induction fuel with
  | zero => intro i c h1 h2; omega
  | succ fuel ih =>
   intro i c h1 h2 h3 h4
   rw [S_CountBar_l1]
   refine ok_cnd (fun c1 => ?_) (fun _ => ok_some trivial)
   rw [decide_eq_true_eq] at c1
   refine ok_grd ⟨by omega, by omega⟩ ?_
   have up : Ok (grd (Rg64 (c + (1 : Int))) <| grd (Rg64 ((i : Int) + (1 : Int))) <| S_CountBar_l1 N g a b (fun (n3 : Int) => some n3) fuel ((c + (1 : Int)), ((i : Int) + (1 : Int)))) fun _ => True :=
    ok_grd ⟨by omega, by omega⟩ (ok_grd ⟨by omega, by omega⟩ (ih (i + 1) _ (by omega) (by omega) (by omega) (by omega)))
   have st : Ok (grd (Rg64 ((i : Int) + (1 : Int))) <| S_CountBar_l1 N g a b (fun (n3 : Int) => some n3) fuel (c, ((i : Int) + (1 : Int)))) fun _ => True :=
    ok_grd ⟨by omega, by omega⟩ (ih (i + 1) _ (by omega) (by omega) (by omega) (by omega))
   exact ok_cnd (fun _ => ok_cnd (fun _ => up) fun _ => ok_cnd (fun _ => ok_cnd (fun _ => up) fun _ => st) fun _ => st) fun _ => ok_cnd (fun _ => ok_cnd (fun _ => up) fun _ => st) fun _ => st
 exact key N 0 0 (by omega) (by omega) (by omega) (by omega)
theorem any27_d (hN : 4000000 ≤ N) {c : Cur} (hc : CK c) : Ok (S_l27Any N c) fun r => r.1.g.bars.length ≤ 60 ∧ r.1.ground.length ≤ 3 ∧ 0 ≤ r.2.1 := by
 unfold S_l27Any
 refine ok_bind (any_d hN hc) fun v1 h1 => ?_
 obtain ⟨p1, c1⟩ := h1
 have hg := p1.gl
 refine ok_bind (below_s (hc.at c1) 3) fun v2 h2 => ?_
 have key : ∀ (fuel : Nat) (l : List (Int × Int)) (m ci ch n : Int), 0 ≤ m → m < fuel → m ≤ 3 → GD 64 (50 - m.toNat) ⟨n, l⟩ → n ≤ 64 → 0 ≤ ci → Ok (S_l27Any_l1 N c v1 (fun (x : (List (Int × Int)) × Int × Int × Int) =>
   match x with
   | (l29, c30, c31, c32) =>
    some ((⟨⟨c32, l29⟩, v1.1.ground⟩ : Pin), c30, c31)) fuel (l, m, ci, ch, n)) fun r => r.1.g.bars.length ≤ 60 ∧ r.1.ground.length ≤ 3 ∧ 0 ≤ r.2.1 := by
  intro fuel
  induction fuel with
  | zero => intro l m ci ch n h0 h1 h2 h3 h4 h5; omega
  | succ fuel ih =>
   intro l m ci ch n h0 h1 h2 h3 h4 h5
   have hl := h3.len
   simp only at hl
   rw [S_l27Any_l1]
   refine ok_cnd (fun d1 => ?_) (fun d1 => ok_some ⟨by simp only; omega, hg, h5⟩)
   rw [decide_eq_true_eq] at d1
   refine ok_bind (below_s (hc.at h5) _) fun x hx => ok_bind (below_s (hc.at hx.cur) _) fun y hy => ?_
   refine ok_bind (count_d hN (g := ⟨n, l⟩) (by simp only; omega) x.1 y.1) fun z _ => ?_
   have wk : GD 64 (50 - (m - 1).toNat) ⟨n, l⟩ := ⟨by simp only; omega, h3.rg⟩
   have skip : Ok (grd (Rg64 (m - (1 : Int))) <| S_l27Any_l1 N c v1 (fun (x : (List (Int × Int)) × Int × Int × Int) =>
   match x with
   | (l29, c30, c31, c32) =>
    some ((⟨⟨c32, l29⟩, v1.1.ground⟩ : Pin), c30, c31)) fuel (l, (m - (1 : Int)), y.2.1, y.2.2, n)) fun r => r.1.g.bars.length ≤ 60 ∧ r.1.ground.length ≤ 3 ∧ 0 ≤ r.2.1 :=
    ok_grd ⟨by omega, by omega⟩ (ih _ _ _ _ _ (by omega) (by omega) (by omega) wk h4 hy.cur)
   have add : Ok ((S_AddBar N (⟨n, l⟩ : Grf) x.1 y.1).bind fun v58 => grd (Rg64 (m - (1 : Int))) <| S_l27Any_l1 N c v1 (fun (x : (List (Int × Int)) × Int × Int × Int) =>
   match x with
   | (l29, c30, c31, c32) =>
    some ((⟨⟨c32, l29⟩, v1.1.ground⟩ : Pin), c30, c31)) fuel (v58.1.bars, (m - (1 : Int)), y.2.1, y.2.2, v58.1.n)) fun r => r.1.g.bars.length ≤ 60 ∧ r.1.ground.length ≤ 3 ∧ 0 ≤ r.2.1 := by
    refine ok_bind (add_d hN h3 (by omega) h4 x.1 y.1) fun g hg' => ok_grd ⟨by omega, by omega⟩ ?_
    refine ih _ _ _ _ _ (by omega) (by omega) (by omega) ⟨?_, hg'.1.rg⟩ (by rw [hg'.2]; exact h4) hy.cur
    have := hg'.1.len
    simp only; omega
   refine ok_cnd (fun _ => ?_) (fun _ => skip)
   rw [l2Has_s N hN (by omega), l2Has_s N hN (by omega), Option.bind_some, Option.bind_some]
   exact ok_cnd (fun _ => ok_cnd (fun _ => add) fun _ => skip) fun _ => add
 have b0 := h2.nn
 have b1 := h2.lt (by omega)
 have := p1.gd.len
 exact key N _ _ _ _ _ (by omega) (by omega) (by omega) ⟨by simp only; omega, p1.gd.rg⟩ p1.n1 h2.cur
theorem both27_d (hN : 4000000 ≤ N) {code : List Int} (hb : Byt code) (hl : code.length ≤ 1048576) : Ok (S_l27Both N code) fun r => r.1.g.bars.length ≤ 60 ∧ r.1.ground.length ≤ 3 := by
 unfold S_l27Both
 refine ok_bind (new_s hN hb hl) fun c hc => ok_bind (any27_d hN hc.1) fun r hr => ok_grd ⟨by omega, by omega⟩ ?_
 refine ok_bind (below_s (hc.1.at hr.2.2) _) fun x hx => ?_
 have x0 := hx.nn
 have x1 := hx.lt (by omega)
 exact ok_grd ⟨by omega, by omega⟩ (ok_some ⟨hr.1, hr.2.1⟩)
theorem drawRemove_d (hN : 4000000 ≤ N) {code : List Int} (hb : Byt code) (hl : code.length ≤ 1048576) : Ok (S_DrawRemoveAll N code) fun r => r.g.bars.length ≤ 60 ∧ r.ground.length ≤ 3 := by
 unfold S_DrawRemoveAll
 exact ok_bind (new_s hN hb hl) fun c hc => ok_bind (any27_d hN hc.1) fun r hr => ok_some ⟨hr.1, hr.2.1⟩
theorem drawSafe_d (hN : 4000000 ≤ N) {code : List Int} (hb : Byt code) (hl : code.length ≤ 1048576) : Ok (S_DrawSafeToRemove N code) fun r => r.1.g.bars.length ≤ 60 ∧ r.1.ground.length ≤ 3 := by
 unfold S_DrawSafeToRemove
 exact ok_bind (both27_d hN hb hl) fun r hr => ok_some hr
theorem drawFalls_d (hN : 4000000 ≤ N) {code : List Int} (hb : Byt code) (hl : code.length ≤ 1048576) : Ok (S_DrawFallsWith N code) fun r => r.1.g.bars.length ≤ 60 ∧ r.1.ground.length ≤ 3 := by
 unfold S_DrawFallsWith
 exact ok_bind (both27_d hN hb hl) fun r hr => ok_some hr
end Go.Proofs.Ytcljhpldfanhkaa
namespace Go.Proofs.Ytcljhpldfanhkaa
open Go.RowKit
end Go.Proofs.Ytcljhpldfanhkaa
namespace Go.Proofs.Ytcljhpldfanhkaa
open Go.RowKit
end Go.Proofs.Ytcljhpldfanhkaa
namespace Go.Proofs.Ytcljhpldfanhkaa
open Go.RowKit
end Go.Proofs.Ytcljhpldfanhkaa
namespace Go.Proofs.Ytcljhpldfanhkaa
variable (N : Nat)
theorem eqGraphs_s (hN : 4000000 ≤ N) {g : Grf} (hb : g.bars.length ≤ 3000000) : S_EqualGraphs N g g = some true := by
 unfold S_EqualGraphs
 rw [cnd_nef rfl, cnd_nef rfl]
 refine (srch (len := g.bars.length) (ok := fun i => true) (bad := some false) (fin := some true) (by omega) ?_ ?_).trans ?_
 ·intro n i hi _
  rw [S_EqualGraphs_l1]
  simp (disch := omega) only [Int.toNat_natCast, tk0, List.length_cons, List.length_nil, grd_pos, grd_T, grd_R, cnd_dt, cnd_df, cnd_true, cnd_false, Option.bind_some, succ_cast, beq_self_eq_true, Bool.and_self, Bool.not_true]
 ·intro n _
  rw [S_EqualGraphs_l1]
  simp (disch := omega) only [Int.toNat_natCast, tk0, List.length_cons, List.length_nil, grd_pos, grd_T, grd_R, cnd_dt, cnd_df, cnd_true, cnd_false, Option.bind_some]
 ·rw [show ((List.range g.bars.length).all fun _ => true) = true by rw [List.all_eq_true]; intro _ _; rfl]; rfl
end Go.Proofs.Ytcljhpldfanhkaa
